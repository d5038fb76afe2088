/- The small logic, sixteenth part: stores, literals and boxes of values in which arrays of the call's own lie. Nothing here is about one program. -/
import Derived.Test.YtkmokkhcoombnaaGxF
namespace Go.Gx
open Go.RowKit Sp
set_option linter.unusedVariables false
set_option linter.unusedSimpArgs false
section
variable {P : Program}

theorem fill_over {m : M} {off n : Nat} {us : List Value} (hu : us.length = n) : ∀ (hs : List (Nat × Nat)) (cs : List Value), off + n ≤ cs.length →
    fill m (noAt hs off n) (cs.take off ++ us ++ cs.drop (off + n)) = (fill m hs cs).take off ++ us ++ (fill m hs cs).drop (off + n)
  | [], cs, _ => rfl
  | p :: hs, cs, hl => by
    show fill m (noAt (p :: hs) off n) _ = (fill m hs (cs.set p.1 (one1 (m.sv p.2)))).take off ++ us ++ (fill m hs (cs.set p.1 (one1 (m.sv p.2)))).drop (off + n)
    rw [← fill_over hu hs _ (by simpa using hl)]
    by_cases hp : p.1 < off ∨ off + n ≤ p.1
    · have : noAt (p :: hs) off n = p :: noAt hs off n := by
        simp only [noAt, List.filter_cons]
        rw [if_pos (by simpa using hp)]
      rw [this]
      show fill m (noAt hs off n) ((cs.take off ++ us ++ cs.drop (off + n)).set p.1 (one1 (m.sv p.2))) = _
      rw [set_splice _ hu hl hp]
    · have : noAt (p :: hs) off n = noAt hs off n := by
        simp only [noAt, List.filter_cons]
        rw [if_neg (by simpa using hp)]
      rw [this]
      have e1 : (cs.set p.1 (one1 (m.sv p.2))).take off = cs.take off := by
        rw [List.take_set_of_le (by omega)]
      have e2 : (cs.set p.1 (one1 (m.sv p.2))).drop (off + n) = cs.drop (off + n) := by
        rw [List.drop_set_of_lt (by omega)]
      rw [e1, e2]
theorem fill_noAt_set {m : M} {off : Nat} (u : Value) : ∀ (hs : List (Nat × Nat)) (cs : List Value), (fill m (noAt hs off 1) cs).set off u = (fill m hs cs).set off u := by
  have e4 : ∀ (hs : List (Nat × Nat)) (cs : List Value) (v : Value), (fill m hs (cs.set off v)).set off u = (fill m hs cs).set off u := by
    intro hs
    induction hs with
    | nil => intro cs v; simp [fill]
    | cons q hs ih =>
      intro cs v
      show (fill m hs ((cs.set off v).set q.1 (one1 (m.sv q.2)))).set off u = (fill m hs (cs.set q.1 (one1 (m.sv q.2)))).set off u
      by_cases hq : q.1 = off
      · rw [hq, List.set_set]
      · rw [List.set_comm _ _ (fun e => hq e.symm), ih]
  intro hs
  induction hs with
  | nil => intro cs; rfl
  | cons p hs ih =>
    intro cs
    by_cases hp : p.1 = off
    · have : noAt (p :: hs) off 1 = noAt hs off 1 := by simp [noAt, hp]
      rw [this]
      show _ = (fill m hs (cs.set p.1 (one1 (m.sv p.2)))).set off u
      rw [hp, e4, ih]
    · have : noAt (p :: hs) off 1 = p :: noAt hs off 1 := by
        simp only [noAt, List.filter_cons]
        rw [if_pos (by simp; omega)]
      rw [this]
      show (fill m (noAt hs off 1) (cs.set p.1 (one1 (m.sv p.2)))).set off u = (fill m hs (cs.set p.1 (one1 (m.sv p.2)))).set off u
      exact ih _
theorem set_eq_splice {δ : Type} (l : List δ) (off : Nat) (u : δ) (h : off < l.length) : l.set off u = l.take off ++ [u] ++ l.drop (off + 1) := by
  rw [List.set_eq_take_append_cons_drop, if_pos h]; simp
theorem fill_put {m : M} {off k : Nat} {hs : List (Nat × Nat)} {cs : List Value} (h : off < cs.length) :
    fill m (noAt hs off 1 ++ [(off, k)]) cs = (fill m hs cs).take off ++ [one1 (m.sv k)] ++ (fill m hs cs).drop (off + 1) := by
  rw [fill_append]
  show (fill m (noAt hs off 1) cs).set off (one1 (m.sv k)) = _
  rw [fill_noAt_set, set_eq_splice _ _ _ (by rw [fill_length]; exact h)]
theorem fill_ones {m : M} : ∀ (hs : List (Nat × Nat)) (cs : List Value), (∀ v ∈ cs, v.oneCell' = true) → ∀ v ∈ fill m hs cs, v.oneCell' = true
  | [], cs, h => h
  | p :: hs, cs, h => by
    show ∀ v ∈ fill m hs (cs.set p.1 (one1 (m.sv p.2))), _
    refine fill_ones hs _ fun v hv => ?_
    rcases List.mem_or_eq_of_mem_set hv with hv | rfl
    · exact h v hv
    · exact one1_one _

/-- cells are stored -/
theorem run_storeCells1 {T : TypeId} {sz : Nat} (hsz : (P.info? T).map (·.size) = some sz) {v : Value} {us : List Value} (hv : v.cells = us.toArray) (hone : ∀ u ∈ us, u.oneCell' = true) (hlen : us.length = sz) {w : World} {g off : Nat} {cur : Array Value} {T' : TypeId} (hg : w.heap[g]? = some (.cells cur T' (0, 0)))
    (hl : off + us.length ≤ cur.size) : (storeVar T ⟨g, off, none⟩ v).run P w = .ok () (w.setRow g (cur.toList.take off ++ us ++ cur.toList.drop (off + us.length)).toArray) := by
  have h1 := run_storeCells_at P g off T' us 0 cur w hg (by simpa using hl) hone
  simp only [Nat.add_zero] at h1
  have h2 : (Go.sizeOf T).run P w = .ok sz w := by
    cases hq : P.info? T with
    | none => simp [hq] at hsz
    | some i => simp [hq] at hsz; simp [Go.sizeOf, typeInfo, hq, hsz]
  unfold storeVar
  simp [hv, h2, hlen, h1]

theorem ox_store_over {T : TypeId} {s id : Nat} {x : Operand} {lx : List (Nat × Desc)} {α β : Type} [GoTy α] [GoTy β] {l : Lens α β} {v : α} {y : β} {hs hs' : List (Nat × Nat)} {ty pos af g} (h : Ty P T β)
    (hx : OpdOk x (.val y) lx) (hs'e : hs' = noAt hs l.off (GoTy.sz β)) :
    OpX P ⟨none, .store T (.tmp s) x, ty, pos, af, g⟩ ((s, .ptr id l) :: lx) [(id, .var v hs)] .any [(id, .var (l.set v y) hs')] [] := by
  subst hs'e
  refine OpX.turn fun m w0 w a hw hss ho => ?_
  have h1 : a.eval (.tmp s) = .pointer (some ⟨m.blk id, l.off, none⟩) := hss (s, .ptr id l) (by simp)
  obtain ⟨us, h2, h3⟩ := hx m a (fun p hp => hss p (by simp [hp]))
  have hob : (ODesc.var v hs).holds m w0.heap.size w id := ho (id, .var v hs) (by simp)
  obtain ⟨cs, T', h4, h5, h6⟩ := hob
  have hus := GoTy.len h2
  have hcs := GoTy.len h5
  have hle := l.hle
  have hr := run_storeVar h h2 h4 (off := l.off) (by simp [fill_length]; omega)
  obtain ⟨W, hW⟩ : ∃ W, W = ((fill m hs cs).toArray.toList.take l.off ++ us ++ (fill m hs cs).toArray.toList.drop (l.off + us.length)).toArray := ⟨_, rfl⟩
  rw [← hW] at hr
  refine ⟨undef, w.setRow (m.blk id) W, m, .inr ⟨?_, rfl⟩, hw.row h6 W, Chg.row h6 W, trivial, fun id' e he => ?_⟩
  · simp only [execOp, h1, h3, Instr.storeAt, Instr.sureAddr, Sem.run_bind, Sem.run_pure, Result.andThen_ok, hr]
  · obtain ⟨rfl, rfl⟩ := look_one he
    refine ⟨cs.take l.off ++ us ++ cs.drop (l.off + GoTy.sz β), T', ?_, l.hset h5 h2, h6⟩
    rw [setRow_heap _ _ _ _ _ _ h4, fill_over hus hs cs (by omega), hW, hus]

/-- an array of the call's own is stored into a field -/
theorem ox_store_sl {T : TypeId} {s id k E : Nat} {x : Operand} {lx : List (Nat × Desc)} {α β γ : Type} [GoTy α] [GoTy β] [GoTy γ] {ys : List γ} {l : Lens α (List β)} {v : α} {hs hs' : List (Nat × Nat)} {ty pos af g} (h : Ty P T (List β))
    (hx : OpdOk x (.sl k) lx) (hs'e : hs' = noAt hs l.off 1 ++ [(l.off, k)]) :
    OpX P ⟨none, .store T (.tmp s) x, ty, pos, af, g⟩ ((s, .ptr id l) :: lx) [(id, .var v hs), (k, .arr E ys)] .any [(id, .var v hs')] [] := by
  subst hs'e
  refine OpX.turn fun m w0 w a hw hss ho => ?_
  have h1 : a.eval (.tmp s) = .pointer (some ⟨m.blk id, l.off, none⟩) := hss (s, .ptr id l) (by simp)
  have h3 : a.eval x = m.sv k := hx m a (fun p hp => hss p (by simp [hp]))
  have hob : (ODesc.var v hs).holds m w0.heap.size w id := ho (id, .var v hs) (by simp)
  have hone := arr_one (ho (k, .arr E ys) (by simp))
  have hsl : ∃ a n c, m.sv k = .slice a n c := by
    obtain ⟨cs, _, h2⟩ := ho (k, .arr E ys) (by simp)
    rcases h2 with ⟨_, ad, h2⟩ | ⟨⟨cap, cur, h2, _⟩, _⟩ <;> exact ⟨_, _, _, h2⟩
  obtain ⟨cs, T', h4, h5, h6⟩ := hob
  have hcs := GoTy.len h5
  have hle := l.hle
  have hsz : GoTy.sz (List β) = 1 := rfl
  have hr := run_storeCells1 (P := P) (T := T) h.size (v := m.sv k) (us := [m.sv k]) (by obtain ⟨a, n, c, e⟩ := hsl; rw [e]; rfl) (by obtain ⟨a, n, c, e⟩ := hsl; rw [e]; simp [Value.oneCell']) rfl h4 (off := l.off) (by simp [fill_length]; omega)
  obtain ⟨W, hW⟩ : ∃ W, W = ((fill m hs cs).toArray.toList.take l.off ++ [m.sv k] ++ (fill m hs cs).toArray.toList.drop (l.off + [m.sv k].length)).toArray := ⟨_, rfl⟩
  rw [← hW] at hr
  refine ⟨undef, w.setRow (m.blk id) W, m, .inr ⟨?_, rfl⟩, hw.row h6 W, Chg.row h6 W, trivial, fun id' e he => ?_⟩
  · simp only [execOp, h1, h3, Instr.storeAt, Instr.sureAddr, Sem.run_bind, Sem.run_pure, Result.andThen_ok, hr]
  · obtain ⟨rfl, rfl⟩ := look_one he
    refine ⟨cs, T', ?_, h5, h6⟩
    have hone' : one1 (m.sv k) = m.sv k := hone
    rw [setRow_heap _ _ _ _ _ _ h4, fill_put (by omega), hone', hW]
    rfl

/-- nil is stored into a field: an array of the call's own, empty -/
theorem ox_store_nil {T : TypeId} {s id k E : Nat} {x : Operand} {lx : List (Nat × Desc)} {α β : Type} [GoTy α] [GoTy β] {l : Lens α (List β)} {v : α} {hs hs' : List (Nat × Nat)} {ty pos af g} (h : Ty P T (List β))
    (hx : OpdOk x .nilS lx) (hs'e : hs' = noAt hs l.off 1 ++ [(l.off, k)]) (hn : (hs.all fun p => !Nat.beq p.2 k || Nat.beq p.1 l.off) = true) (hik : decide (id ≠ k) = true) :
    OpX P ⟨none, .store T (.tmp s) x, ty, pos, af, g⟩ ((s, .ptr id l) :: lx) [(id, .var v hs)] .any [(id, .var v hs'), (k, .arr E ([] : List β))] [k] := by
  subst hs'e
  refine OpX.turn fun m w0 w a hw hss ho => ?_
  have h1 : a.eval (.tmp s) = .pointer (some ⟨m.blk id, l.off, none⟩) := hss (s, .ptr id l) (by simp)
  have h3 : a.eval x = .slice none 0 0 := hx m a (fun p hp => hss p (by simp [hp]))
  have hob : (ODesc.var v hs).holds m w0.heap.size w id := ho (id, .var v hs) (by simp)
  obtain ⟨cs, T', h4, h5, h6⟩ := hob
  have hcs := GoTy.len h5
  have hle := l.hle
  have hsz : GoTy.sz (List β) = 1 := rfl
  have hik' : id ≠ k := of_decide_eq_true hik
  have hr := run_storeCells1 (P := P) (T := T) h.size (v := .slice none 0 0) (us := [.slice none 0 0]) rfl (by simp [Value.oneCell']) rfl h4 (off := l.off) (by simp [fill_length]; omega)
  obtain ⟨W, hW⟩ : ∃ W, W = ((fill m hs cs).toArray.toList.take l.off ++ [Value.slice none 0 0] ++ (fill m hs cs).toArray.toList.drop (l.off + [Value.slice none 0 0].length)).toArray := ⟨_, rfl⟩
  rw [← hW] at hr
  have hw2 := hw.row h6 W
  have hc2 := Chg.row (w := w) h6 W
  refine ⟨undef, w.setRow (m.blk id) W, { m with sv := fun j => if j = k then .slice none 0 0 else m.sv j }, .inr ⟨?_, rfl⟩, ⟨hw2.below, hw2.old, hw2.on, hw2.own, hw2.apart⟩,
    ⟨⟨PH.le_refl _, fun _ _ => rfl, fun j hj => ?_⟩, fun b j hb hj => hc2.heap b j hb ?_, fun j hj => ?_⟩, trivial, fun j e he => ?_⟩
  · simp only [execOp, h1, h3, Instr.storeAt, Instr.sureAddr, Sem.run_bind, Sem.run_pure, Result.andThen_ok, hr]
  · simp at hj; simp; exact fun e => absurd e hj
  · simp [keys] at hj ⊢; exact hj.1
  · simp [keys] at hj ⊢; exact hj.2
  · simp only [look] at he
    cases hb : Nat.beq id j with
    | true =>
      have : id = j := Nat.eq_of_beq_eq_true hb
      subst this
      simp only [hb, cond_true, Option.some.injEq] at he
      subst he
      refine ⟨cs, T', ?_, h5, h6⟩
      rw [setRow_heap _ _ _ _ _ _ h4, hW]
      congr 3
      rw [fill_append]
      show _ = (fill _ (noAt hs l.off 1) cs).set l.off (one1 (if k = k then Value.slice none 0 0 else m.sv k))
      rw [if_pos rfl]
      have e1 : ∀ (hs : List (Nat × Nat)) (cs : List Value), (hs.all fun p => !Nat.beq p.2 k) = true → fill { m with sv := fun j => if j = k then .slice none 0 0 else m.sv j } hs cs = fill m hs cs := by
        intro hs
        induction hs with
        | nil => intro cs _; rfl
        | cons p hs ih =>
          intro cs h
          simp only [List.all_cons, Bool.and_eq_true] at h
          have hne : p.2 ≠ k := fun e => by rw [e] at h; simp at h
          show fill _ hs (cs.set p.1 (one1 (if p.2 = k then Value.slice none 0 0 else m.sv p.2))) = fill m hs (cs.set p.1 (one1 (m.sv p.2)))
          rw [if_neg hne]; exact ih _ h.2
      have e2 : (((noAt hs l.off 1)).all fun p => !Nat.beq p.2 k) = true := by
        rw [List.all_eq_true] at hn ⊢
        intro p hp
        obtain ⟨hp1, hp2⟩ := List.mem_filter.1 hp
        have := hn p hp1
        simp only [Bool.or_eq_true] at this
        rcases this with h | h
        · exact h
        · have := Nat.eq_of_beq_eq_true h
          simp at hp2; omega
      rw [e1 _ _ e2, fill_noAt_set, set_eq_splice _ _ _ (by rw [fill_length]; omega)]
      rfl
    | false =>
      rw [hb] at he
      simp only [cond_false] at he
      cases hb2 : Nat.beq k j with
      | false => rw [hb2] at he; cases he
      | true =>
        rw [hb2] at he; simp only [cond_true, Option.some.injEq] at he; subst he
        have : k = j := Nat.eq_of_beq_eq_true hb2
        subst this
        exact ⟨[], rfl, .inl ⟨rfl, none, by simp⟩⟩

theorem agg_cells {α : Type} [GoTy α] (ha : GoTy.agg α = true) (us : List Value) : (mkVal (GoTy.agg α) us).cells = us.toArray := by rw [mkVal, ha]; rfl

/-- a value with arrays of the call's own in it is stored whole -/
theorem ox_store_varH {T : TypeId} {s id : Nat} {x : Operand} {lx : List (Nat × Desc)} {α : Type} [GoTy α] {v y : α} {hs hs' : List (Nat × Nat)} {ty pos af g} (h : Ty P T α) (ha : GoTy.agg α = true)
    (hx : OpdOk x (.hole y hs') lx) :
    OpX P ⟨none, .store T (.tmp s) x, ty, pos, af, g⟩ ((s, .ptr id (Lens.id (α := α))) :: lx) [(id, .var v hs)] .any [(id, .var y hs')] [] := by
  refine OpX.turn fun m w0 w a hw hss ho => ?_
  have h1 : a.eval (.tmp s) = .pointer (some ⟨m.blk id, 0, none⟩) := hss (s, .ptr id (Lens.id (α := α))) (by simp)
  obtain ⟨us, h2, h3⟩ := hx m a (fun p hp => hss p (by simp [hp]))
  have hob : (ODesc.var v hs).holds m w0.heap.size w id := ho (id, .var v hs) (by simp)
  obtain ⟨cs, T', h4, h5, h6⟩ := hob
  have hus := GoTy.len h2
  have hcs := GoTy.len h5
  have hr := run_storeCells1 (P := P) (T := T) h.size (agg_cells ha (fill m hs' us)) (fill_ones hs' us (GoTy.one h2)) (by rw [fill_length]; exact hus) h4 (off := 0) (by simp [fill_length]; omega)
  obtain ⟨W, hW⟩ : ∃ W, W = ((fill m hs cs).toArray.toList.take 0 ++ fill m hs' us ++ (fill m hs cs).toArray.toList.drop (0 + (fill m hs' us).length)).toArray := ⟨_, rfl⟩
  rw [← hW] at hr
  refine ⟨undef, w.setRow (m.blk id) W, m, .inr ⟨?_, rfl⟩, hw.row h6 W, Chg.row h6 W, trivial, fun id' e he => ?_⟩
  · simp only [execOp, h1, h3, Instr.storeAt, Instr.sureAddr, Sem.run_bind, Sem.run_pure, Result.andThen_ok, hr]
  · obtain ⟨rfl, rfl⟩ := look_one he
    refine ⟨us, T', ?_, h2, h6⟩
    rw [setRow_heap _ _ _ _ _ _ h4, hW]
    congr 2
    simp [fill_length, hus, hcs]
theorem ox_boxH {T id : Nat} {x : Operand} {lx : List (Nat × Desc)} {α : Type} [GoTy α] (ha : GoTy.agg α = true) {z : α} {hs : List (Nat × Nat)} {dst ty pos af g} (hx : OpdOk x (.hole z hs) lx) (hn : (hs.all fun p => !Nat.beq p.2 id) = true) :
    OpX P ⟨dst, .box T x, ty, pos, af, g⟩ lx [] (.ptr id (Lens.id (α := α))) [(id, .var z hs)] [id] := by
  refine OpX.turn fun m w0 w a hw hss ho => ?_
  obtain ⟨vs, h1, h2⟩ := hx m a hss
  have hc := agg_cells ha (fill m hs vs)
  refine ⟨.pointer (some ⟨w.heap.size, 0, none⟩), w.alloc (.cells (fill m hs vs).toArray T), m.new id w.heap.size (.pointer (some ⟨w.heap.size, 0, none⟩)), .inl ?_, hw.new _ _ _, Chg.new hw _ _ _, ?_, ?_⟩
  · simp [execOp, Instr.box, h2, newVar, newRow, hc]
  · simp [Desc.holds, M.new, Lens.id]
  · intro id' e he
    obtain ⟨rfl, rfl⟩ := look_one he
    refine ⟨vs, T, ?_, h1, by simp [M.new]⟩
    have hk : fill (m.new id w.heap.size (.pointer (some ⟨w.heap.size, 0, none⟩))) hs vs = fill m hs vs :=
      fill_keep (Chg.new hw id (.pointer (some ⟨w.heap.size, 0, none⟩)) (.cells (fill m hs vs).toArray T)).keeps hs vs (by
        rw [List.any_eq_false]
        intro p hp
        have := (List.all_eq_true.1 hn) p hp
        simp at this ⊢
        intro e; rw [e] at this; simp at this)
    rw [hk]
    simpa [M.new] using heap_new w (.cells (fill m hs vs).toArray T)

/-- a literal with arrays of the call's own in it -/
inductive BldH (P : Program) (T : TypeId) {α : Type} [GoTy α] : α → List (Nat × Nat) → List (Nat × Operand) → α → List (Nat × Nat) → List (Nat × Desc) → List (Nat × ODesc) → Prop
  | nil {x : α} {hs : List (Nat × Nat)} : BldH P T x hs [] x hs [] []
  | cons {x z : α} {hs hs' : List (Nat × Nat)} {k : Nat} {o : Operand} {β : Type} [GoTy β] {y : β} {lx : List (Nat × Desc)} {ps : List (Nat × Operand)} {l : List (Nat × Desc)} {lo : List (Nat × ODesc)} (f : Lens α β) (hf : fldB P T k f.off (GoTy.sz β) (GoTy.agg β) = true) (hx : OpdOk o (.val y) lx)
      (h : BldH P T (f.set x y) (noAt hs f.off (GoTy.sz β)) ps z hs' l lo) : BldH P T x hs ((k, o) :: ps) z hs' (lx ++ l) lo
  | sl {x z : α} {hs hs' : List (Nat × Nat)} {k j E : Nat} {o : Operand} {β γ : Type} [GoTy β] [GoTy γ] {ys : List γ} {lx : List (Nat × Desc)} {ps : List (Nat × Operand)} {l : List (Nat × Desc)} {lo : List (Nat × ODesc)} (f : Lens α (List β)) (hf : fldB P T k f.off 1 false = true) (hx : OpdOk o (.sl j) lx)
      (h : BldH P T x (noAt hs f.off 1 ++ [(f.off, j)]) ps z hs' l lo) : BldH P T x hs ((k, o) :: ps) z hs' (lx ++ l) ((j, .arr E ys) :: lo)
theorem BldH.fill {T : TypeId} {α : Type} [GoTy α] {fs : Array Field} (hu : P.underlying T = some (.struct fs)) {places : Array (Nat × Nat)} (hp : ∀ (k : Nat) (f : Field), fs[k]? = some f → places[k]? = some (f.offset, ((P.info? f.type).map (·.size)).getD 0))
    {m : M} {a : Act} {B : Nat} {w : World} {x z : α} {hs hs' : List (Nat × Nat)} {ps : List (Nat × Operand)} {l : List (Nat × Desc)} {lo : List (Nat × ODesc)} (h : BldH P T x hs ps z hs' l lo) (hss : ∀ p ∈ l, p.2.holds m (a.tmps.getD p.1 undef)) (ho : ∀ p ∈ lo, p.2.holds m B w p.1) :
    ∀ (cs : List Value), GoTy.rep m.ph x cs → ∃ ds, Instr.fill (places[·]?) (Gx.fill m hs cs).toArray (ps.map fun p => (p.1, a.eval p.2)) = some (Gx.fill m hs' ds).toArray ∧ GoTy.rep m.ph z ds := by
  induction h with
  | nil => intro cs hc; exact ⟨cs, rfl, hc⟩
  | @cons x z hs hs' k o β inst y lx ps l lo f hf hx h ih =>
    intro cs hc
    obtain ⟨fs', fl, e1, e2, e3, e4, e5, e6⟩ := fldB_inv hf
    rw [hu] at e1
    cases e1
    obtain ⟨vs, h1, h2⟩ := hx m a (fun p hp => hss p (by simp [hp]))
    have hvl := GoTy.len h1
    have hcl := GoTy.len hc
    have hle := f.hle
    have hcells := cells_mkVal h1
    have hset := f.hset hc h1
    have hfo := foldl_set vs f.off 0 (Gx.fill m hs cs).toArray (by simp [fill_length]; omega)
    simp only [Nat.add_zero] at hfo
    obtain ⟨ds, h3, h4⟩ := ih (fun p hp => hss p (by simp [hp])) ho _ hset
    refine ⟨ds, ?_, h4⟩
    have hov := fill_over (m := m) (off := f.off) hvl hs cs (by omega)
    simp only [List.map_cons, Instr.fill, hp k fl e2, h2, hcells, e3, e4, Option.getD_some]
    rw [if_neg (by simp [hvl, fill_length]; omega), ← h3, hov]
    congr 1
    apply Array.ext'
    simpa [hvl] using hfo
  | @sl x z hs hs' k j E o β γ inst inst2 ys lx ps l lo f hf hx h ih =>
    intro cs hc
    obtain ⟨fs', fl, e1, e2, e3, e4, e5, e6⟩ := fldB_inv hf
    rw [hu] at e1
    cases e1
    have hv : a.eval o = m.sv j := hx m a (fun p hp => hss p (by simp [hp]))
    have harr : (ODesc.arr E ys).holds m B w j := ho (j, .arr E ys) (by simp)
    have hone : one1 (m.sv j) = m.sv j := arr_one harr
    have hsl : ∃ a n c, m.sv j = .slice a n c := by
      obtain ⟨cs, _, h2⟩ := harr
      rcases h2 with ⟨_, ad, h2⟩ | ⟨⟨cap, cur, h2, _⟩, _⟩ <;> exact ⟨_, _, _, h2⟩
    have hcells : (m.sv j).cells = [m.sv j].toArray := by obtain ⟨a, n, c, e⟩ := hsl; rw [e]; rfl
    have hcl := GoTy.len hc
    have hle := f.hle
    have hsz : GoTy.sz (List β) = 1 := rfl
    have hfo := foldl_set [m.sv j] f.off 0 (Gx.fill m hs cs).toArray (by simp [fill_length]; omega)
    simp only [Nat.add_zero] at hfo
    obtain ⟨ds, h3, h4⟩ := ih (fun p hp => hss p (by simp [hp])) (fun p hp => ho p (by simp [hp])) cs hc
    refine ⟨ds, ?_, h4⟩
    have hov := fill_put (m := m) (k := j) (hs := hs) (cs := cs) (off := f.off) (by omega)
    simp only [List.map_cons, Instr.fill, hp k fl e2, hv, hcells, e3, e4, Option.getD_some]
    rw [if_neg (by simp [fill_length]; omega), ← h3, hov, hone]
    congr 1
    apply Array.ext'
    simpa using hfo

theorem ox_buildH {T : TypeId} {α : Type} [GoTy α] {z0 z : α} {hs : List (Nat × Nat)} {ps : List (Nat × Operand)} {l : List (Nat × Desc)} {lo : List (Nat × ODesc)} {dst ty pos af g} (hz : TyZ P T z0) (hu : bldB P T = true) (hagg : GoTy.agg α = true)
    (h : BldH P T z0 [] ps z hs l lo) : OpX P ⟨dst, .build T ps.toArray, ty, pos, af, g⟩ l lo (.hole z hs) [] [] := by
  unfold bldB at hu
  split at hu
  · rename_i fs e
    refine OpX.pure fun m w0 w a hw hss ho => ?_
    obtain ⟨v, h1, h2⟩ := hz.run w
    obtain ⟨places, h3, h4⟩ := places_run (P := P) (fs := fs) w (Array.all_eq_true_iff_forall_mem.1 hu)
    obtain ⟨ds, h5, h6⟩ := h.fill e h4 hss ho v.cells.toList (h2 m.ph)
    refine ⟨.agg (fill m hs ds).toArray, ?_, ds, h6, by rw [mkVal, hagg]; simp⟩
    have e' : (execOp a.eval ⟨dst, .build T ps.toArray, ty, pos, af, g⟩) = (Instr.build T (ps.toArray.map fun p => (p.1, a.eval p.2)) >>= fun v => pure (Next.value v)) := rfl
    have h5' : Instr.fill (places[·]?) v.cells (ps.toArray.map fun p => (p.1, a.eval p.2)).toList = some (fill m hs ds).toArray := by
      have h7 : (fill m [] v.cells.toList).toArray = v.cells := by simp [fill]
      rw [h7] at h5
      simpa using h5
    rw [e']
    simp only [Instr.build, Sem.run_bind, h1, Result.andThen_ok, run_underlying e, h3]
    rw [h5']
    rfl
  · cases hu

/-- a literal of which a field that is not written is an array of the call's own, empty -/
theorem ox_buildHZ {T : TypeId} {α γ : Type} [GoTy α] [GoTy γ] {off k E : Nat} {z0 z : α} {hs : List (Nat × Nat)} {ps : List (Nat × Operand)} {l : List (Nat × Desc)} {lo : List (Nat × ODesc)} {dst ty pos af g} (hz : TyZ P T z0) (hu : bldB P T = true) (hagg : GoTy.agg α = true)
    (hzero : ((P.info? T).bind (·.zero)).bind (fun v => v.cells[off]?) = some (.slice none 0 0)) (h : BldH P T z0 [(off, k)] ps z hs l lo) (hl : (l.all fun p => !p.2.ment [k]) = true := by rfl) (hlo : (lo.all fun p => !p.2.ment [k] && !Nat.beq p.1 k) = true := by rfl) :
    OpX P ⟨dst, .build T ps.toArray, ty, pos, af, g⟩ l lo (.hole z hs) [(k, .arr E ([] : List γ))] [k] := by
  unfold bldB at hu
  split at hu
  · rename_i fs e
    refine OpX.turn fun m w0 w a hw hss ho => ?_
    obtain ⟨v, hv1, hv2⟩ := hz.zero
    have hrun : (zeroValue T).run P w = .ok v w := by
      cases hq : P.info? T with
      | none => simp [hq] at hv1
      | some i => simp [hq] at hv1; simp [zeroValue, typeInfo, hq, hv1]
    rw [hv1] at hzero
    simp only [Option.bind_some] at hzero
    obtain ⟨m', hm'⟩ : ∃ m' : M, m' = { m with sv := fun j => if j = k then .slice none 0 0 else m.sv j } := ⟨_, rfl⟩
    have hk : Keeps [k] m m' := by
      subst hm'
      exact ⟨PH.le_refl _, fun _ _ => rfl, fun j hj => by simp at hj; simp; exact fun e => absurd e hj⟩
    have hw' : WOK w0 m' w := by subst hm'; exact ⟨hw.below, hw.old, hw.on, hw.own, hw.apart⟩
    have hss' : ∀ p ∈ l, p.2.holds m' (a.tmps.getD p.1 undef) := fun p hp => Desc.holds_keep hk p.2 _ (by have := (List.all_eq_true.1 hl) p hp; simpa using this) (hss p hp)
    have ho' : ∀ p ∈ lo, p.2.holds m' w0.heap.size w p.1 := fun p hp => by
      have h1 := (List.all_eq_true.1 hlo) p hp
      simp only [Bool.and_eq_true, Bool.not_eq_true'] at h1
      refine ODesc.holds_keep hk ?_ (fun b hb => ⟨rfl, by subst hm'; exact hb⟩) p.2 h1.1 (ho p hp)
      simp; intro e; rw [e] at h1; simp at h1
    obtain ⟨places, h3, h4⟩ := places_run (P := P) (fs := fs) w (Array.all_eq_true_iff_forall_mem.1 hu)
    obtain ⟨ds, h5, h6⟩ := h.fill e h4 hss' ho' v.cells.toList (hv2 m'.ph)
    refine ⟨.agg (fill m' hs ds).toArray, w, m', .inl ?_, hw', ⟨hk, fun b j hb hj => ⟨rfl, by subst hm'; exact hb⟩, fun _ h => h⟩, ⟨ds, h6, by rw [mkVal, hagg]; simp⟩, fun id' e' he => ?_⟩
    · have e' : (execOp a.eval ⟨dst, .build T ps.toArray, ty, pos, af, g⟩) = (Instr.build T (ps.toArray.map fun p => (p.1, a.eval p.2)) >>= fun v => pure (Next.value v)) := rfl
      have h5' : Instr.fill (places[·]?) v.cells (ps.toArray.map fun p => (p.1, a.eval p.2)).toList = some (fill m' hs ds).toArray := by
        have h7 : (fill m' [(off, k)] v.cells.toList).toArray = v.cells := by
          have h8 : fill m' [(off, k)] v.cells.toList = v.cells.toList.set off (one1 (m'.sv k)) := rfl
          have h9 : one1 (m'.sv k) = .slice none 0 0 := by subst hm'; simp [one1, Value.oneCell']
          rw [h8, h9]
          apply Array.ext'
          apply List.ext_getElem?
          intro i
          simp only [List.toList_toArray, List.getElem?_set]
          by_cases hi : off = i
          · subst hi
            have hz2 : v.cells.toList[off]? = some (.slice none 0 0) := by simpa using hzero
            rw [if_pos rfl, hz2]
            have := (List.getElem?_eq_some_iff.1 hz2).1
            simp; simpa using this
          · rw [if_neg hi]
        rw [h7] at h5
        simpa using h5
      rw [e']
      simp only [Instr.build, Sem.run_bind, hrun, Result.andThen_ok, run_underlying e, h3]
      rw [h5']
      rfl
    · obtain ⟨rfl, rfl⟩ := look_one he
      exact ⟨[], rfl, .inl ⟨rfl, none, by subst hm'; simp⟩⟩
  · cases hu
theorem ox_load_varH {T : TypeId} {s id : Nat} {α : Type} [GoTy α] {x : α} {hs : List (Nat × Nat)} {dst ty pos af g} (h : Ty P T α) (ha : GoTy.agg α = true) :
    OpX P ⟨dst, .load T (.tmp s), ty, pos, af, g⟩ [(s, .ptr id (Lens.id (α := α)))] [(id, .var x hs)] (.hole x hs) [] [] := by
  refine OpX.pure fun m w0 w a hw hss ho => ?_
  have h1 : a.eval (.tmp s) = .pointer (some ⟨m.blk id, 0, none⟩) := hss (s, .ptr id (Lens.id (α := α))) (by simp)
  obtain ⟨cs, T', h2, h3, h4⟩ := ho (id, .var x hs) (by simp)
  have hrun := run_loadHole h ha (us := fill m hs cs) (by rw [fill_length]; exact GoTy.len h3) (w := w) (b := m.blk id) (o := 0) (fun j v hv => by simp [World.cell?, h2]; simpa using hv)
  exact ⟨mkVal (GoTy.agg α) (fill m hs cs), by simp [execOp, h1, Instr.loadAt, Instr.sureAddr, hrun], cs, h3, rfl⟩

section pt
variable {w0 : B0} {n : Nat} {σ : St} {Q : Act → World → Prop}
/-- a variable's array, from now on a value in it -/
theorem PT.freezeHole (id k : Nat) (ts : List Nat) {E : Nat} {α β : Type} [GoTy α] [GoTy β] (l : Lens α (List β)) {x : α} {hs hs' : List (Nat × Nat)} {ys : List β} (hv : look σ.o id = some (.var x hs)) (hk : holeAt hs l.off = some k) (hs'e : hs' = noAt hs l.off 1)
    (ho : look σ.o k = some (.arr E ys)) (hs : OkL σ.s (ts.map fun t => (t, .sl k)))
    (h : PT w0 n ⟨(ts.map fun t => (t, .val ys)) ++ σ.s, (id, .var (l.set x ys) hs') :: (k, .dead) :: σ.o⟩ Q) : PT w0 n σ Q := fun a w ha => by
  refine h a w ?_
  obtain ⟨m, h1, h2, h3, h4, h5⟩ := ha
  have hc := Chg.freeze h1 k
  have hr := arr_frozen h1 (h5 k _ ho)
  have hone := arr_one (h5 k _ ho)
  refine ⟨m.freeze w k, h1.freeze k, h2, h3, fun t d hl => ?_, fun j d hl => ?_⟩
  · rw [look_append] at hl
    cases e : look (ts.map fun t => ((t, .val ys) : Nat × Desc)) t with
    | some d' =>
      rw [e] at hl
      simp only [Option.some_or, Option.some.injEq] at hl
      subst hl
      have hm := look_mem e
      simp at hm
      obtain ⟨u, hu1, hu2, hu3⟩ := hm
      subst hu3; subst hu2
      have := h4 u _ (hs.mem (u, .sl k) (by simp; exact hu1))
      rw [show a.tmps.getD u undef = m.sv k from this]
      exact list_holds hr
    | none =>
      rw [e] at hl
      simp only [Option.none_or] at hl
      exact Desc.holds_keep hc.keeps d _ (Desc.ment_nil d) (h4 t d hl)
  · simp only [look] at hl
    cases hb : Nat.beq id j with
    | true =>
      have : id = j := Nat.eq_of_beq_eq_true hb
      subst this
      simp only [hb, cond_true, Option.some.injEq] at hl
      subst hl
      obtain ⟨cs, T, e1, e2, e3⟩ := h5 id _ hv
      have hle := l.hle
      have hsz : GoTy.sz (List β) = 1 := rfl
      have hcl := GoTy.len e2
      subst hs'e
      have hidk : id ≠ k := fun e => by subst e; rw [hv] at ho; cases ho
      have hrep : GoTy.rep (m.freeze w k).ph ys [m.sv k] := ⟨_, rfl, hr⟩
      refine ⟨cs.take l.off ++ [m.sv k] ++ cs.drop (l.off + 1), T, ?_, ?_, ?_⟩
      · show w.heap[m.blk id]? = _
        rw [e1]
        congr 3
        have hfk : ∀ (hs : List (Nat × Nat)) (cs : List Value), Gx.fill (m.freeze w k) hs cs = Gx.fill m hs cs := fun hs cs => rfl
        rw [hfk, fill_over (m := m) (off := l.off) (n := 1) (us := [m.sv k]) rfl _ cs (by omega)]
        have hg := holeAt_get (m := m) hk (cs := cs) (by omega)
        rw [hone] at hg
        rw [← set_eq_splice _ _ _ (by rw [fill_length]; omega)]
        apply List.ext_getElem?
        intro i
        rw [List.getElem?_set]
        by_cases hi : l.off = i
        · subst hi; rw [if_pos rfl, hg]; simp [fill_length]; omega
        · rw [if_neg hi]
      · have := l.hset (GoTy.mono hc.keeps.ph e2) hrep
        exact this
      · simp only [M.freeze]
        rw [if_neg]
        · exact e3
        · rintro ⟨_, h6⟩; rw [e3] at h6; simp at h6; exact hidk h6
    | false =>
      simp only [hb, cond_false] at hl
      cases hb2 : Nat.beq k j with
      | true => simp only [hb2, cond_true, Option.some.injEq] at hl; subst hl; trivial
      | false =>
        simp only [hb2, cond_false] at hl
        have hne : [k].contains j = false := by
          simp; intro e; subst e; simp at hb2
        have hm0 : d.ment [] = false := by cases d <;> simp [ODesc.ment]
        exact ODesc.holds_keep hc.keeps (by simp) (fun b hb' => hc.heap b j hb' hne) d hm0 (h5 j d hl)
/-- a value's array, from now on a value in it -/
theorem PT.freezeIn (t k : Nat) {E : Nat} {α β : Type} [GoTy α] [GoTy β] (l : Lens α (List β)) {x : α} {hs hs' : List (Nat × Nat)} {ys : List β} (hv : look σ.s t = some (.hole x hs)) (hk : holeAt hs l.off = some k) (hs'e : hs' = noAt hs l.off 1)
    (ho : look σ.o k = some (.arr E ys)) (h : PT w0 n ⟨(t, .hole (l.set x ys) hs') :: σ.s, (k, .dead) :: σ.o⟩ Q) : PT w0 n σ Q := fun a w ha => by
  refine h a w ?_
  obtain ⟨m, h1, h2, h3, h4, h5⟩ := ha
  have hc := Chg.freeze h1 k
  have hr := arr_frozen h1 (h5 k _ ho)
  have hone := arr_one (h5 k _ ho)
  refine ⟨m.freeze w k, h1.freeze k, h2, h3, fun u d hl => ?_, fun j d hl => ?_⟩
  · simp only [look] at hl
    cases hb : Nat.beq t u with
    | true =>
      have : t = u := Nat.eq_of_beq_eq_true hb
      subst this
      simp only [hb, cond_true, Option.some.injEq] at hl
      subst hl
      obtain ⟨cs, e2, e1⟩ := h4 t _ hv
      have hle := l.hle
      have hsz : GoTy.sz (List β) = 1 := rfl
      have hcl := GoTy.len e2
      subst hs'e
      have hrep : GoTy.rep (m.freeze w k).ph ys [m.sv k] := ⟨_, rfl, hr⟩
      refine ⟨cs.take l.off ++ [m.sv k] ++ cs.drop (l.off + 1), l.hset (GoTy.mono hc.keeps.ph e2) hrep, ?_⟩
      rw [e1]
      congr 1
      have hfk : ∀ (hs : List (Nat × Nat)) (cs : List Value), Gx.fill (m.freeze w k) hs cs = Gx.fill m hs cs := fun hs cs => rfl
      rw [hfk, fill_over (m := m) (off := l.off) (n := 1) (us := [m.sv k]) rfl _ cs (by omega)]
      have hg := holeAt_get (m := m) hk (cs := cs) (by omega)
      rw [hone] at hg
      rw [← set_eq_splice _ _ _ (by rw [fill_length]; omega)]
      apply List.ext_getElem?
      intro i
      rw [List.getElem?_set]
      by_cases hi : l.off = i
      · subst hi; rw [if_pos rfl, hg]; simp [fill_length]; omega
      · rw [if_neg hi]
    | false =>
      simp only [hb, cond_false] at hl
      exact Desc.holds_keep hc.keeps d _ (Desc.ment_nil d) (h4 u d hl)
  · simp only [look] at hl
    cases hb2 : Nat.beq k j with
    | true => simp only [hb2, cond_true, Option.some.injEq] at hl; subst hl; trivial
    | false =>
      simp only [hb2, cond_false] at hl
      have hne : [k].contains j = false := by
        simp; intro e; subst e; simp at hb2
      have hm0 : d.ment [] = false := by cases d <;> simp [ODesc.ment]
      exact ODesc.holds_keep hc.keeps (by simp) (fun b hb' => hc.heap b j hb' hne) d hm0 (h5 j d hl)
end pt
end
end Go.Gx
