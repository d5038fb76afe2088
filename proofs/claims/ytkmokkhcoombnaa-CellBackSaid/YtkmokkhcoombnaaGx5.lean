/- The small logic, fifth part: the operations. Nothing here is about one program. -/
import Derived.Test.YtkmokkhcoombnaaGx4
import Derived.Laws.AppendOwnNone
namespace Go.Gx
open Go.RowKit
set_option linter.unusedVariables false
set_option linter.unusedSimpArgs false

section
variable {P : Program}

/-- a program's type, as a Lean type -/
structure Ty (P : Program) (T : TypeId) (α : Type) [GoTy α] : Prop where
  size : (P.info? T).map (·.size) = some (GoTy.sz α)
  row : (P.underlying T).map (·.isRow) = some (GoTy.agg α)

theorem Ty.sizeOf {T : TypeId} {α : Type} [GoTy α] (h : Ty P T α) (w : World) : (Go.sizeOf T).run P w = .ok (GoTy.sz α) w := by
  cases hq : P.info? T with
  | none => have := h.size; simp [hq] at this
  | some i => have := h.size; simp [hq] at this; simp [Go.sizeOf, typeInfo, hq, this]
theorem Ty.isAgg {T : TypeId} {α : Type} [GoTy α] (h : Ty P T α) (w : World) : (Go.isAgg T).run P w = .ok (GoTy.agg α) w := by
  have := h.row
  cases hq : P.underlying T with
  | none => simp [hq] at this
  | some d =>
    simp only [hq, Option.map_some, Option.some.injEq] at this
    unfold Go.isAgg
    rw [Sem.run_bind, run_underlying hq w]
    cases d <;> simp_all

/-- a variable is read -/
theorem run_loadVar {T : TypeId} {α : Type} [GoTy α] (h : Ty P T α) {p : PH} {x : α} {vs : List Value} (hx : GoTy.rep p x vs) {w : World} {b o : Nat} (hc : w.rangeAt b o vs) :
    (loadVar T ⟨b, o, none⟩).run P w = .ok (mkVal (GoTy.agg α) vs) w := by
  have hl := GoTy.len hx
  unfold loadVar
  rw [Sem.run_bind, h.isAgg w]
  simp only [Result.andThen_ok]
  cases ha : GoTy.agg α with
  | true =>
    have h1 : (loadCells ⟨b, o, none⟩ vs.length).run P w = .ok vs.toArray w := run_loadCells_list (P := P) w ⟨b, o, none⟩ vs (fun j v hv => by rw [Addr.add_mid]; exact hc j v hv)
    rw [hl] at h1
    simp [h.sizeOf w, h1, mkVal]
  | false =>
    have h1 := GoTy.single (α := α) ha
    match vs, hl, hc with
    | [v], _, hc =>
      have := hc 0 v rfl
      simp at this
      simp [this, mkVal]
    | [], hl, _ => simp at hl; omega
    | _ :: _ :: _, hl, _ => simp at hl; omega

theorem getElem?_take_drop {δ : Type} (l : List δ) (off n j : Nat) (u : δ) (h : ((l.drop off).take n)[j]? = some u) : l[off + j]? = some u := by
  rw [List.getElem?_take] at h
  split at h
  · simpa [List.getElem?_drop] using h
  · cases h

/-- holes lie elsewhere -/
def noHole (hs : List (Nat × Nat)) (off n : Nat) : Bool := hs.all fun p => decide (p.1 < off) || decide (off + n ≤ p.1)

theorem fill_same {m : M} {off n : Nat} : ∀ (hs : List (Nat × Nat)) (cs : List Value), noHole hs off n = true → ((fill m hs cs).drop off).take n = (cs.drop off).take n
  | [], cs, _ => rfl
  | p :: hs, cs, h => by
    simp only [noHole, List.all_cons, Bool.and_eq_true, Bool.or_eq_true, decide_eq_true_eq] at h
    show ((fill m hs (cs.set p.1 (one1 (m.sv p.2)))).drop off).take n = _
    rw [fill_same hs _ h.2]
    apply List.ext_getElem?
    intro i
    simp only [List.getElem?_take, List.getElem?_drop, List.getElem?_set]
    by_cases hi : i < n
    · have : p.1 ≠ off + i := by rcases h.1 with h | h <;> omega
      simp [hi, this]
    · simp [hi]

theorem splice_get {δ : Type} {cs us : List δ} {off n : Nat} (hu : us.length = n) (hl : off + n ≤ cs.length) (i : Nat) :
    (cs.take off ++ us ++ cs.drop (off + n))[i]? = if i < off then cs[i]? else if i < off + n then us[i - off]? else cs[i]? := by
  have e1 : (cs.take off).length = off := by rw [List.length_take]; omega
  have e2 : (cs.take off ++ us).length = off + n := by rw [List.length_append, e1, hu]
  by_cases h1 : i < off
  · rw [if_pos h1, List.append_assoc, List.getElem?_append_left (by omega), List.getElem?_take, if_pos h1]
  · rw [if_neg h1]
    by_cases h2 : i < off + n
    · rw [if_pos h2, List.getElem?_append_left (by omega), List.getElem?_append_right (by omega), e1]
    · rw [if_neg h2, List.getElem?_append_right (by omega), e2, List.getElem?_drop]
      congr 1; omega
theorem set_splice {δ : Type} {cs us : List δ} {off n i : Nat} (v : δ) (hu : us.length = n) (hl : off + n ≤ cs.length) (h : i < off ∨ off + n ≤ i) :
    (cs.take off ++ us ++ cs.drop (off + n)).set i v = (cs.set i v).take off ++ us ++ (cs.set i v).drop (off + n) := by
  have hlen : (cs.take off ++ us ++ cs.drop (off + n)).length = cs.length := by simp [hu]; omega
  apply List.ext_getElem?
  intro j
  rw [splice_get hu (by simpa using hl), List.getElem?_set, hlen, splice_get hu hl, List.getElem?_set]
  by_cases hj : i = j
  · subst hj
    simp only [if_true]
    rcases h with h | h
    · simp [h]
    · have h1 : ¬ i < off := by omega
      have h2 : ¬ i < off + n := by omega
      simp [h1, h2]
  · simp only [hj, if_false]

theorem fill_splice {m : M} {off n : Nat} {us : List Value} (hu : us.length = n) : ∀ (hs : List (Nat × Nat)) (cs : List Value), noHole hs off n = true → off + n ≤ cs.length →
    fill m hs (cs.take off ++ us ++ cs.drop (off + n)) = (fill m hs cs).take off ++ us ++ (fill m hs cs).drop (off + n)
  | [], cs, _, _ => rfl
  | p :: hs, cs, h, hl => by
    simp only [noHole, List.all_cons, Bool.and_eq_true, Bool.or_eq_true, decide_eq_true_eq] at h
    show fill m hs ((cs.take off ++ us ++ cs.drop (off + n)).set p.1 (one1 (m.sv p.2))) = (fill m hs (cs.set p.1 (one1 (m.sv p.2)))).take off ++ us ++ (fill m hs (cs.set p.1 (one1 (m.sv p.2)))).drop (off + n)
    rw [← fill_splice hu hs _ h.2 (by simpa using hl), set_splice _ hu hl h.1]

/-- where an object's variable lies -/
theorem var_range {m : M} {B : Nat} {w : World} {id : Nat} {α β : Type} [GoTy α] [GoTy β] {x : α} {hs : List (Nat × Nat)} (h : (ODesc.var x hs).holds m B w id) (l : Lens α β) (hn : noHole hs l.off (GoTy.sz β) = true) :
    ∃ vs, GoTy.rep m.ph (l.get x) vs ∧ w.rangeAt (m.blk id) l.off vs := by
  obtain ⟨cs, T, h1, h2, h3⟩ := h
  refine ⟨_, l.hget h2, fun j v hv => ?_⟩
  rw [← fill_same (m := m) hs cs hn] at hv
  have := getElem?_take_drop _ _ _ _ _ hv
  simp [World.cell?, h1, this]

/-! ### loads -/
theorem ox_load_ptr {T : TypeId} {s id : Nat} {α β : Type} [GoTy α] [GoTy β] {l : Lens α β} {x : α} {hs : List (Nat × Nat)} {dst ty pos af g} (h : Ty P T β) (hn : noHole hs l.off (GoTy.sz β) = true) :
    OpX P ⟨dst, .load T (.tmp s), ty, pos, af, g⟩ [(s, .ptr id l)] [(id, .var x hs)] (.val (l.get x)) [] [] := by
  refine OpX.pure fun m w0 w a hw hs' ho => ?_
  have h1 : a.tmps.getD s undef = .pointer (some ⟨m.blk id, l.off, none⟩) := hs' (s, .ptr id l) (by simp)
  obtain ⟨vs, h2, h3⟩ := var_range (ho (id, .var x hs) (by simp)) l hn
  refine ⟨mkVal (GoTy.agg β) vs, ?_, vs, h2, rfl⟩
  have e : a.eval (.tmp s) = .pointer (some ⟨m.blk id, l.off, none⟩) := h1
  simp [execOp, e, Instr.loadAt, Instr.sureAddr, run_loadVar h h2 h3]
theorem ox_load_elem {T : TypeId} {s : Nat} {β : Type} [GoTy β] {x : β} {dst ty pos af g} (h : Ty P T β) : OpX P ⟨dst, .load T (.tmp s), ty, pos, af, g⟩ [(s, .elem x)] [] (.val x) [] [] := by
  refine OpX.pure fun m w0 w a hw hs' ho => ?_
  obtain ⟨b, o, vs, h1, h2, h3⟩ := hs' (s, .elem x) (by simp)
  refine ⟨mkVal (GoTy.agg β) vs, ?_, vs, h2, rfl⟩
  have e : a.eval (.tmp s) = .pointer (some ⟨b, o, none⟩) := h1
  have hr : w.rangeAt b o vs := fun j v hv => hw.on _ _ _ (h3 j v hv)
  simp [execOp, e, Instr.loadAt, Instr.sureAddr, run_loadVar h h2 hr]
theorem ox_load_aptr {T : TypeId} {s id i : Nat} {e : TypeId} {α β : Type} [GoTy α] [GoTy β] {l : Lens α β} {x : α} {xs : List α} {dst ty pos af g} (h : Ty P T β) (hi : xs[i]? = some x) :
    OpX P ⟨dst, .load T (.tmp s), ty, pos, af, g⟩ [(s, .aptr id i l)] [(id, .arr e xs)] (.val (l.get x)) [] [] := by
  refine OpX.pure fun m w0 w a hw hs' ho => ?_
  have h1 : a.tmps.getD s undef = .pointer (some ⟨m.blk id, i * GoTy.sz α + l.off, none⟩) := hs' (s, .aptr id i l) (by simp)
  obtain ⟨cs, h3, h2⟩ := ho (id, .arr e xs) (by simp)
  have hil : i < xs.length := (List.getElem?_eq_some_iff.1 hi).1
  have hx : xs[i] = x := (List.getElem?_eq_some_iff.1 hi).2
  have h5 := h3.split i hil
  rw [hx] at h5
  have h6 := l.hget h5
  refine ⟨mkVal (GoTy.agg β) _, ?_, _, h6, rfl⟩
  have e' : a.eval (.tmp s) = .pointer (some ⟨m.blk id, i * GoTy.sz α + l.off, none⟩) := h1
  have hr : w.rangeAt (m.blk id) (i * GoTy.sz α + l.off) ((((cs.drop (i * GoTy.sz α)).take (GoTy.sz α)).drop l.off).take (GoTy.sz β)) := by
    intro j v hv
    rw [take_drop_take _ _ _ _ _ l.hle] at hv
    have hv' := getElem?_take_drop _ _ _ _ _ hv
    rcases h2 with ⟨hn1, _⟩ | ⟨⟨cap, cur, hv1, hv3, hv4, hv5, hv6, hv7⟩, _⟩
    · rw [hn1] at hil; simp at hil
    · rw [← hv7, List.getElem?_take] at hv'
      split at hv'
      · simp [World.cell?, hv3]; simpa using hv'
      · cases hv'
  simp [execOp, e', Instr.loadAt, Instr.sureAddr, run_loadVar h h6 hr]

/-! ### addresses of fields -/
def fldB (P : Program) (T : TypeId) (k off sz : Nat) (agg : Bool) : Bool :=
  match P.underlying T with
  | some (.struct fs) => match fs[k]? with
    | some f => f.offset == off && (P.info? f.type).map (·.size) == some sz && sz != 0 && (P.underlying f.type).map (·.isRow) == some agg
    | none => false
  | _ => false
theorem fldB_inv {T k off sz : Nat} {agg : Bool} (h : fldB P T k off sz agg = true) :
    ∃ fs f, P.underlying T = some (.struct fs) ∧ fs[k]? = some f ∧ f.offset = off ∧ (P.info? f.type).map (·.size) = some sz ∧ sz ≠ 0 ∧ (P.underlying f.type).map (·.isRow) = some agg := by
  unfold fldB at h
  split at h
  · rename_i fs hu
    split at h
    · rename_i f hf
      simp only [Bool.and_eq_true, beq_iff_eq, bne_iff_ne] at h
      exact ⟨fs, f, hu, hf, h.1.1.1, h.1.1.2, h.1.2, h.2⟩
    · cases h
  · cases h
theorem run_fieldAt {T k off sz : Nat} {agg : Bool} (h : fldB P T k off sz agg = true) (w : World) (b o : Nat) :
    (Instr.fieldAt T (.pointer (some ⟨b, o, none⟩)) k).run P w = .ok (.pointer (some ⟨b, o + off, none⟩)) w := by
  obtain ⟨fs, f, h1, h2, h3, h4, h5, h6⟩ := fldB_inv h
  have hsz : (Go.sizeOf f.type).run P w = .ok sz w := by
    cases hq : P.info? f.type with
    | none => simp [hq] at h4
    | some i => simp [hq] at h4; simp [Go.sizeOf, typeInfo, hq, h4]
  simp [Instr.fieldAt, run_underlying h1, h2, Instr.sureAddr, fieldPlace, hsz, h5, h3, Addr.add_mid]

theorem ox_fieldAddr_ptr {T k s id : Nat} {α β γ : Type} [GoTy α] [GoTy β] [GoTy γ] {l : Lens α β} (f : Lens β γ) {dst ty pos af g} (h : fldB P T k f.off (GoTy.sz γ) (GoTy.agg γ) = true) :
    OpX P ⟨dst, .fieldAddr T (.tmp s) k, ty, pos, af, g⟩ [(s, .ptr id l)] [] (.ptr id (l.comp f)) [] [] := by
  refine OpX.pure fun m w0 w a hw hs' ho => ?_
  have h1 : a.eval (.tmp s) = .pointer (some ⟨m.blk id, l.off, none⟩) := hs' (s, .ptr id l) (by simp)
  exact ⟨.pointer (some ⟨m.blk id, l.off + f.off, none⟩), by simp [execOp, h1, run_fieldAt h], rfl⟩
theorem ox_fieldAddr_elem {T k s : Nat} {β γ : Type} [GoTy β] [GoTy γ] {x : β} (f : Lens β γ) {dst ty pos af g} (h : fldB P T k f.off (GoTy.sz γ) (GoTy.agg γ) = true) :
    OpX P ⟨dst, .fieldAddr T (.tmp s) k, ty, pos, af, g⟩ [(s, .elem x)] [] (.elem (f.get x)) [] [] := by
  refine OpX.pure fun m w0 w a hw hs' ho => ?_
  obtain ⟨b, o, vs, h1, h2, h3⟩ := hs' (s, .elem x) (by simp)
  have e : a.eval (.tmp s) = .pointer (some ⟨b, o, none⟩) := h1
  refine ⟨.pointer (some ⟨b, o + f.off, none⟩), by simp [execOp, e, run_fieldAt h], b, o + f.off, _, rfl, f.hget h2, fun j u hu => ?_⟩
  rw [Nat.add_assoc]
  exact h3 _ _ (getElem?_take_drop _ _ _ _ _ hu)
theorem ox_fieldAddr_aptr {T k s id i : Nat} {α β γ : Type} [GoTy α] [GoTy β] [GoTy γ] {l : Lens α β} (f : Lens β γ) {dst ty pos af g} (h : fldB P T k f.off (GoTy.sz γ) (GoTy.agg γ) = true) :
    OpX P ⟨dst, .fieldAddr T (.tmp s) k, ty, pos, af, g⟩ [(s, .aptr id i l)] [] (.aptr id i (l.comp f)) [] [] := by
  refine OpX.pure fun m w0 w a hw hs' ho => ?_
  have h1 : a.eval (.tmp s) = .pointer (some ⟨m.blk id, i * GoTy.sz α + l.off, none⟩) := hs' (s, .aptr id i l) (by simp)
  exact ⟨.pointer (some ⟨m.blk id, i * GoTy.sz α + l.off + f.off, none⟩), by simp [execOp, h1, run_fieldAt h], by show _ = Value.pointer (some ⟨m.blk id, i * GoTy.sz α + (l.off + f.off), none⟩); rw [Nat.add_assoc]⟩
/-- a field of a struct by value -/
theorem ox_field {T k : Nat} {x : Operand} {lx : List (Nat × Desc)} {β γ : Type} [GoTy β] [GoTy γ] {y : β} (f : Lens β γ) {dst ty pos af g} (hx : OpdOk x (.val y) lx) (hagg : GoTy.agg β = true)
    (h : fldB P T k f.off (GoTy.sz γ) (GoTy.agg γ) = true) : OpX P ⟨dst, .field T x k, ty, pos, af, g⟩ lx [] (.val (f.get y)) [] [] := by
  refine OpX.pure fun m w0 w a hw hs' ho => ?_
  obtain ⟨vs, h1, h2⟩ := hx m a hs'
  obtain ⟨fs, fl, e1, e2, e3, e4, e5, e6⟩ := fldB_inv h
  have hval : a.eval x = .agg vs.toArray := by rw [h2, mkVal, hagg]; rfl
  have h3 := f.hget h1
  have hlen := GoTy.len h3
  refine ⟨mkVal (GoTy.agg γ) _, ?_, _, h3, rfl⟩
  have hty : Ty P fl.type γ := ⟨e4, e6⟩
  simp only [execOp, hval, Instr.field, Sem.run_bind, run_underlying e1, Result.andThen_ok, e2, asAgg, Sem.run_pure, part, hty.isAgg w, hty.sizeOf w, e3]
  cases ha : GoTy.agg γ with
  | true =>
    simp [mkVal, hty.sizeOf w, List.take_drop, Nat.add_comm]
  | false =>
    have h4 := GoTy.single (α := γ) ha
    rw [h4] at h3 hlen ⊢
    match hq : (vs.drop f.off).take 1, hlen with
    | [v], _ =>
      have : vs[f.off]? = some v := by
        have := congrArg (·[0]?) hq
        simpa [List.getElem?_take, List.getElem?_drop] using this
      simp [mkVal, this]
    | [], hlen => simp at hlen
    | _ :: _ :: _, hlen => simp at hlen
end
end Go.Gx
