/- The small logic, tenth part: forms that a program prints. Nothing here is about one program. -/
import Derived.Test.YtkmokkhcoombnaaGx9
import Derived.Test.YtkmokkhcoombnaaSp0
namespace Go.Gx
open Go.RowKit
set_option linter.unusedVariables false
set_option linter.unusedSimpArgs false

section
variable {P : Program} {ops : Array Oper} {w0 : B0} {n : Nat} {σs : List (Nat × Desc)} {σo : List (Nat × ODesc)} {Q : Exit → Act → World → Prop}

theorem Ops.put {o : Oper} {l : List Oper} {t : Nat} {rs : List (Nat × Desc)} {ro : List (Nat × ODesc)} {d : Desc} (hg : o.guard = none) (hd : o.dst = some t) (h : OpX P o rs ro d [] []) (hr : OkL σs rs) (ho : OkL σo ro)
    (hn : decide (t < n) = true) (k : Ops P ops w0 n l ⟨(t, d) :: σs, σo⟩ Q) : Ops P ops w0 n (o :: l) ⟨σs, σo⟩ Q :=
  Ops.cons (Step.put hg hd h) ⟨hr, ho⟩ rfl (by simpa using hn) k
theorem Ops.putO {o : Oper} {l : List Oper} {t : Nat} {rs : List (Nat × Desc)} {ro : List (Nat × ODesc)} {d : Desc} {wo : List (Nat × ODesc)} {fr : List Nat} (hg : o.guard = none) (hd : o.dst = some t) (h : OpX P o rs ro d wo fr) (hr : OkL σs rs) (ho : OkL σo ro)
    (hn : decide (t < n) = true) (hf : fresh ⟨σs, σo⟩ ⟨[(t, d)], wo, fr⟩ = true) (k : Ops P ops w0 n l ⟨(t, d) :: σs, wo ++ σo⟩ Q) : Ops P ops w0 n (o :: l) ⟨σs, σo⟩ Q :=
  Ops.cons (Step.put hg hd h) ⟨hr, ho⟩ hf (by simpa using hn) k
theorem Ops.putK {o : Oper} {l : List Oper} {t : Nat} {rs : List (Nat × Desc)} {ro : List (Nat × ODesc)} {d : Desc} {wo : List (Nat × ODesc)} {fr : List Nat} (ks : List Nat) (hg : o.guard = none) (hd : o.dst = some t) (h : OpX P o rs ro d wo fr) (hr : OkL σs rs) (ho : OkL σo ro)
    (hn : (t :: ks).all (fun k => decide (k < n)) = true) (hf : fresh ⟨σs, σo⟩ ⟨(t, d) :: ks.map fun k => (k, .any), wo, fr⟩ = true) (k : Ops P ops w0 n l ⟨(t, d) :: ((ks.map fun k => (k, .any)) ++ σs), wo ++ σo⟩ Q) : Ops P ops w0 n (o :: l) ⟨σs, σo⟩ Q :=
  Ops.cons (Step.putK ks hg hd h) ⟨hr, ho⟩ hf (by simp at hn ⊢; exact hn) k
theorem Ops.mute {o : Oper} {l : List Oper} {rs : List (Nat × Desc)} {ro : List (Nat × ODesc)} {d : Desc} {id : Nat} {e : ODesc} (hg : o.guard = none) (hd : o.dst = none) (h : OpX P o rs ro d [(id, e)] []) (hr : OkL σs rs) (ho : OkL σo ro)
    (k : Ops P ops w0 n l ⟨σs, (id, e) :: σo⟩ Q) : Ops P ops w0 n (o :: l) ⟨σs, σo⟩ Q :=
  Ops.cons (Step.mute hg hd h) ⟨hr, ho⟩ rfl rfl k
theorem Ops.guard {o : Oper} {l : List Oper} {j t tj : Nat} {want b : Bool} {rs rs' : List (Nat × Desc)} {ro : List (Nat × ODesc)} {d : Desc} (hgd : o.guard = some (j, want)) (hd : o.dst = some t) (hj : (ops[j]?).bind (·.dst) = some tj)
    (hb : look σs tj = some (.val b)) (hg : Gives (b = want) rs' rs) (h : b = want → OpX P o rs ro d [] []) (hr : OkL σs rs') (ho : OkL σo ro)
    (hn : decide (t < n) = true) (k : Ops P ops w0 n l ⟨(t, .cond (b = want) d) :: σs, σo⟩ Q) : Ops P ops w0 n (o :: l) ⟨σs, σo⟩ Q :=
  Ops.cons (Step.guard hgd hd hj Grd.plain (b = want) (by simp) hg h) ⟨⟨hb, hr⟩, ho⟩ rfl (by simpa using hn) k
theorem Ops.guard2 {o : Oper} {l : List Oper} {j t tj : Nat} {want b : Bool} {p : Prop} {rs rs' : List (Nat × Desc)} {ro : List (Nat × ODesc)} {d : Desc} (hgd : o.guard = some (j, want)) (hd : o.dst = some t) (hj : (ops[j]?).bind (·.dst) = some tj)
    (hb : look σs tj = some (.cond p (.val b))) (hg : Gives (p ∧ b = want) rs' rs) (h : p ∧ b = want → OpX P o rs ro d [] []) (hr : OkL σs rs') (ho : OkL σo ro)
    (hn : decide (t < n) = true) (k : Ops P ops w0 n l ⟨(t, .cond (p ∧ b = want) d) :: σs, σo⟩ Q) : Ops P ops w0 n (o :: l) ⟨σs, σo⟩ Q :=
  Ops.cons (Step.guard hgd hd hj Grd.cond (p ∧ b = want) (by simp) hg h) ⟨⟨hb, hr⟩, ho⟩ rfl (by simpa using hn) k

/-- under G, what holds under 'p and q' holds under q alone -/
theorem holds_part {m : M} {p q : Prop} {d : Desc} {v : Value} (hp : p) (h : Desc.holds m (.cond (p ∧ q) d) v) : Desc.holds m (.cond q d) v :=
  ⟨fun hq => h.1 ⟨hp, hq⟩, fun hn => h.2 fun hpq => hn hpq.2⟩

/-! ### whole variables -/
theorem ox_load_var {T : TypeId} {s id : Nat} {α : Type} [GoTy α] {x : α} {dst ty pos af g} (h : Ty P T α) : OpX P ⟨dst, .load T (.tmp s), ty, pos, af, g⟩ [(s, .ptr id (Lens.id (α := α)))] [(id, .var x [])] (.val x) [] [] := ox_load_ptr (l := Lens.id (α := α)) h rfl
theorem ox_load_fld {T : TypeId} {s id : Nat} {α β : Type} [GoTy α] [GoTy β] {l : Lens α β} {x : α} {dst ty pos af g} (h : Ty P T β) : OpX P ⟨dst, .load T (.tmp s), ty, pos, af, g⟩ [(s, .ptr id l)] [(id, .var x [])] (.val (l.get x)) [] [] := ox_load_ptr h rfl
theorem ox_fieldAddr_var {T k s id : Nat} {β γ : Type} [GoTy β] [GoTy γ] (f : Lens β γ) {dst ty pos af g} (h : fldB P T k f.off (GoTy.sz γ) (GoTy.agg γ) = true) :
    OpX P ⟨dst, .fieldAddr T (.tmp s) k, ty, pos, af, g⟩ [(s, .ptr id (Lens.id (α := β)))] [] (.ptr id f) [] [] := by
  refine OpX.pure fun m w0 w a hw hs' ho => ?_
  have h1 : a.eval (.tmp s) = .pointer (some ⟨m.blk id, 0, none⟩) := hs' (s, .ptr id (Lens.id (α := β))) (by simp)
  exact ⟨.pointer (some ⟨m.blk id, f.off, none⟩), by simp [execOp, h1, run_fieldAt h], rfl⟩
theorem ox_store_var {T : TypeId} {s id : Nat} {x : Operand} {lx : List (Nat × Desc)} {α : Type} [GoTy α] {v : α} {y : α} {ty pos af g} (h : Ty P T α) (hx : OpdOk x (.val y) lx) :
    OpX P ⟨none, .store T (.tmp s) x, ty, pos, af, g⟩ ((s, .ptr id (Lens.id (α := α))) :: lx) [(id, .var v [])] .any [(id, .var y [])] [] := ox_store_ptr (l := Lens.id (α := α)) h hx rfl
theorem ox_store_fld {T : TypeId} {s id : Nat} {x : Operand} {lx : List (Nat × Desc)} {α β : Type} [GoTy α] [GoTy β] {l : Lens α β} {v : α} {y : β} {ty pos af g} (h : Ty P T β) (hx : OpdOk x (.val y) lx) :
    OpX P ⟨none, .store T (.tmp s) x, ty, pos, af, g⟩ ((s, .ptr id l) :: lx) [(id, .var v [])] .any [(id, .var (l.set v y) [])] [] := ox_store_ptr h hx rfl

/-- facts -/
theorem PT.i64 {Q : Act → World → Prop} (t : Nat) {x : Int} (hl : look σs t = some (.val x)) (h : I64 x → PT w0 n ⟨σs, σo⟩ Q) : PT w0 n ⟨σs, σo⟩ Q := PT.fact t hl (fun _ _ hh => (holds_int hh).2) h
theorem PT.llen {Q : Act → World → Prop} (t : Nat) {α : Type} [GoTy α] {l : List α} (hl : look σs t = some (.val l)) (h : l.length ≤ 9223372036854775807 → PT w0 n ⟨σs, σo⟩ Q) : PT w0 n ⟨σs, σo⟩ Q :=
  PT.fact t hl (fun _ _ hh => by obtain ⟨a, c, cs, _, h1, h2, _⟩ := holds_list hh; omega) h
theorem PT.asNil {Q : Act → World → Prop} (t : Nat) (α : Type) [GoTy α] (hl : look σs t = some .nilS) (h : PT w0 n ⟨(t, .val ([] : List α)) :: σs, σo⟩ Q) : PT w0 n ⟨σs, σo⟩ Q :=
  PT.as t hl (fun m v hv => by rw [show v = _ from hv]; exact ⟨_, ⟨_, rfl, repS_nil _⟩, rfl⟩) h

theorem res1 {α : Type} [GoTy α] {x y : α} (h : x = y) : resD [.val x] = .val y := by rw [h]; rfl
theorem res2 {α β : Type} [GoTy α] [GoTy β] {x x' : α} {y y' : β} (h : x = x') (k : y = y') : resD [.val x, .val y] = .tup [.val x', .val y'] := by rw [h, k]; rfl
theorem res3 {α β γ : Type} [GoTy α] [GoTy β] [GoTy γ] {x x' : α} {y y' : β} {z z' : γ} (h : x = x') (k : y = y') (l : z = z') : resD [.val x, .val y, .val z] = .tup [.val x', .val y', .val z'] := by rw [h, k, l]; rfl
theorem res4 {α β γ δ : Type} [GoTy α] [GoTy β] [GoTy γ] [GoTy δ] {x x' : α} {y y' : β} {z z' : γ} {u u' : δ} (h : x = x') (k : y = y') (l : z = z') (q : u = u') : resD [.val x, .val y, .val z, .val u] = .tup [.val x', .val y', .val z', .val u'] := by rw [h, k, l, q]; rfl
end

/-! ### parts of a struct literal -/
section
variable {P : Program}
/-- a struct literal's parts, from a value on -/
inductive Bld (P : Program) (T : TypeId) {α : Type} [GoTy α] : α → List (Nat × Operand) → α → List (Nat × Desc) → Prop
  | nil {x : α} : Bld P T x [] x []
  | cons {x z : α} {k : Nat} {o : Operand} {β : Type} [GoTy β] {y : β} {lx : List (Nat × Desc)} {ps : List (Nat × Operand)} {l : List (Nat × Desc)} (f : Lens α β) (hf : fldB P T k f.off (GoTy.sz β) (GoTy.agg β) = true) (hx : OpdOk o (.val y) lx)
      (h : Bld P T (f.set x y) ps z l) : Bld P T x ((k, o) :: ps) z (lx ++ l)

theorem places_run {P : Program} {fs : Array Field} (w : World) (hall : ∀ f ∈ fs, (P.info? f.type).isSome = true) :
    ∃ places : Array (Nat × Nat), (fs.mapM fun f => do pure (f.offset, ← sizeOf f.type) : Sem (Array (Nat × Nat))).run P w = .ok places w ∧ ∀ (k : Nat) (f : Field), fs[k]? = some f → places[k]? = some (f.offset, ((P.info? f.type).map (·.size)).getD 0) := by
  refine ⟨fs.map fun f => (f.offset, ((P.info? f.type).map (·.size)).getD 0), ?_, fun k f hk => by simp [hk]⟩
  have key : ∀ l : List Field, (∀ f ∈ l, (P.info? f.type).isSome = true) → (l.mapM fun f => (do pure (f.offset, ← sizeOf f.type) : Sem (Nat × Nat))).run P w = .ok (l.map fun f => (f.offset, ((P.info? f.type).map (·.size)).getD 0)) w := by
    intro l
    induction l with
    | nil => intro _; rfl
    | cons f l ih =>
      intro h
      have h0 := h f (by simp)
      cases hq : P.info? f.type with
      | none => rw [hq] at h0; cases h0
      | some i =>
        have hsz : (sizeOf f.type).run P w = .ok i.size w := by simp [sizeOf, typeInfo, hq]
        simp only [List.mapM_cons, Sem.run_bind, Sem.run_pure, Result.andThen_ok, ih (fun g hg => h g (by simp [hg])), List.map_cons, hsz, hq]
        rfl
  have e : fs = fs.toList.toArray := by simp
  rw [e, List.mapM_toArray]
  simp only [Sem.run_map, key fs.toList (fun f hf => hall f (by simpa using hf)), Result.andThen_ok]
  congr 1
  apply Array.ext'
  simp

theorem Bld.fill {T : TypeId} {α : Type} [GoTy α] {fs : Array Field} (hu : P.underlying T = some (.struct fs)) {places : Array (Nat × Nat)} (hp : ∀ (k : Nat) (f : Field), fs[k]? = some f → places[k]? = some (f.offset, ((P.info? f.type).map (·.size)).getD 0))
    {m : M} {a : Act} {x z : α} {ps : List (Nat × Operand)} {l : List (Nat × Desc)} (h : Bld P T x ps z l) (hs : ∀ p ∈ l, p.2.holds m (a.tmps.getD p.1 undef)) :
    ∀ (cs : Array Value), GoTy.rep m.ph x cs.toList → ∃ ds, Instr.fill (places[·]?) cs (ps.map fun p => (p.1, a.eval p.2)) = some ds ∧ GoTy.rep m.ph z ds.toList := by
  induction h with
  | nil => intro cs hc; exact ⟨cs, rfl, hc⟩
  | @cons x z k o β inst y lx ps l f hf hx h ih =>
    intro cs hc
    obtain ⟨fs', fl, e1, e2, e3, e4, e5, e6⟩ := fldB_inv hf
    rw [hu] at e1
    cases e1
    obtain ⟨vs, h1, h2⟩ := hx m a (fun p hp => hs p (by simp [hp]))
    have hvl := GoTy.len h1
    have hcl := GoTy.len hc
    have hle := f.hle
    have hcells := cells_mkVal h1
    have hset := f.hset hc h1
    have hfo := foldl_set vs f.off 0 cs (by simp at hcl; omega)
    simp only [Nat.add_zero] at hfo
    obtain ⟨ds, h3, h4⟩ := ih (fun p hp => hs p (by simp [hp])) ((vs.zipIdx 0).foldl (fun cs p => cs.setIfInBounds (f.off + p.2) p.1) cs) (by rw [hfo, hvl]; exact hset)
    refine ⟨ds, ?_, h4⟩
    simp only [List.map_cons, Instr.fill, hp k fl e2, h2, hcells, e3, e4, Option.getD_some]
    rw [if_neg (by simp at hcl; simp [hvl]; omega)]
    simpa using h3

theorem ox_build {T : TypeId} {α : Type} [GoTy α] {z0 z : α} {ps : List (Nat × Operand)} {l : List (Nat × Desc)} {fs : Array Field} {dst ty pos af g} (hz : TyZ P T z0) (hu : P.underlying T = some (.struct fs)) (hall : (fs.all fun f => (P.info? f.type).isSome) = true) (hagg : GoTy.agg α = true)
    (h : Bld P T z0 ps z l) : OpX P ⟨dst, .build T ps.toArray, ty, pos, af, g⟩ l [] (.val z) [] [] := by
  refine OpX.pure fun m w0 w a hw hs ho => ?_
  obtain ⟨v, h1, h2⟩ := hz.run w
  obtain ⟨places, h3, h4⟩ := places_run (P := P) (fs := fs) w (Array.all_eq_true_iff_forall_mem.1 hall)
  obtain ⟨ds, h5, h6⟩ := h.fill hu h4 hs v.cells (h2 m.ph)
  refine ⟨.agg ds, ?_, ds.toList, h6, by rw [mkVal, hagg]; simp⟩
  have e : (execOp a.eval ⟨dst, .build T ps.toArray, ty, pos, af, g⟩) = (Instr.build T (ps.toArray.map fun p => (p.1, a.eval p.2)) >>= fun v => pure (Next.value v)) := rfl
  have h5' : Instr.fill (places[·]?) v.cells (ps.toArray.map fun p => (p.1, a.eval p.2)).toList = some ds := by simpa using h5
  rw [e]
  simp only [Instr.build, Sem.run_bind, h1, Result.andThen_ok, run_underlying hu, h3]
  rw [h5']
  rfl
end
end Go.Gx
namespace Go.Gx
set_option linter.unusedVariables false
open Go.RowKit
open Sp (ix up)
theorem ix_nat {α : Type} [Inhabited α] (l : List α) (k : Nat) (h : k < l.length) : ix l (k : Int) = l[k] := by simp [ix, h]
section
variable {P : Program}
theorem ox_ix {T E : Nat} {x ixo : Operand} {lx li : List (Nat × Desc)} {α : Type} [GoTy α] [Inhabited α] {l : List α} {i : Int} {dst ty pos af g} (h : slB P T E (GoTy.sz α) = true)
    (hx : OpdOk x (.val l) lx) (hi : OpdOk ixo (.val i) li) (h0 : 0 ≤ i) (h1 : i < l.length) : OpX P ⟨dst, .indexAddr T x ixo, ty, pos, af, g⟩ (lx ++ li) [] (.elem (ix l i)) [] [] :=
  ox_index_elem h hx hi h0 (by
    have : i.toNat < l.length := by omega
    simp [ix, this])
theorem ox_load_ix {T : TypeId} {s id : Nat} {i : Nat} {e : TypeId} {α β : Type} [GoTy α] [GoTy β] [Inhabited α] {l : Lens α β} {xs : List α} {dst ty pos af g} (h : Ty P T β) (hi : i < xs.length) :
    OpX P ⟨dst, .load T (.tmp s), ty, pos, af, g⟩ [(s, .aptr id i l)] [(id, .arr e xs)] (.val (l.get (xs.getD i default))) [] [] :=
  ox_load_aptr h (by simp [hi])
theorem PT.next {w0 : B0} {n : Nat} {σ : St} {ι : Type} {I : ι → St} {φ : ι → Prop} {μ : ι → Nat} {m : Nat} (j : ι) (hφ : φ j) (hμ : μ j < m) (hs : OkL σ.s (I j).s) (ho : OkL σ.o (I j).o) :
    PT w0 n σ (fun a w => ∃ j, (φ j ∧ μ j < m) ∧ Holds w0 n (I j) a w) := fun a w ha => ⟨j, ⟨hφ, hμ⟩, ha.congr (fun t d e => hs.mem _ (look_mem e)) (fun t d e => ho.mem _ (look_mem e))⟩
end
end Go.Gx
