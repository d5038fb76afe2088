/- The small logic, ninth part: appends, arrays that are only read from now on, calls and contracts. Nothing here is about one program. -/
import Derived.Test.YtkmokkhcoombnaaGx8
namespace Go.Gx
open Go.RowKit
set_option linter.unusedVariables false
set_option linter.unusedSimpArgs false

section
variable {P : Program} {ops : Array Oper}

/-- a step that leaves some slots untold -/
theorem Step.putK {o : Oper} {t : Nat} {rs : List (Nat × Desc)} {ro : List (Nat × ODesc)} {d : Desc} {wo : List (Nat × ODesc)} {fr : List Nat} (ks : List Nat) (hg : o.guard = none) (hd : o.dst = some t)
    (h : OpX P o rs ro d wo fr) : Step P ops o ⟨rs, ro⟩ ⟨(t, d) :: ks.map fun k => (k, .any), wo, fr⟩ := by
  intro w0 n σ a w K Q hr hf hn ha hk
  obtain ⟨m, h1, h2, h3, h4, h5⟩ := ha
  unfold opRun
  rw [if_pos (by simp [Region.wanted, hg])]
  refine .inl (h m w0 w a h1 (fun p hp => h4 _ _ (hr.s.mem p hp)) (fun p hp => h5 _ _ (hr.o.mem p hp)) K Q fun v w' m' e1 e2 e3 e4 => hk _ _ ?_)
  have hlt : t < n := by simp at hn; exact hn.1
  refine Holds.step h2 h3 h4 h5 e1 e2 hf (fun u hu => ?_) (fun u e hu => ?_) e4
  · rw [hd] at hu; cases hu; exact ⟨by simp [keys], hlt⟩
  · simp only [look] at hu
    cases hb : Nat.beq t u with
    | true =>
      have : t = u := Nat.eq_of_beq_eq_true hb
      subst this
      simp only [hb, cond_true, Option.some.injEq] at hu
      subst hu
      rw [hd, Act.put_some a v (by omega)]; exact e3
    | false =>
      simp only [hb, cond_false] at hu
      have := look_mem hu
      simp at this
      obtain ⟨k, hk1, hk2, hk3⟩ := this
      rw [← hk3]; trivial

/-! ### appends -/
theorem exec_append {T : Nat} {x y : Operand} {dst ty pos af g} (a : Act) (w : World) :
    (execOp a.eval ⟨dst, .call ⟨.builtin .append, #[x, y], #[T, T]⟩, ty, pos, af, g⟩).run P w = ((Builtin.append_ #[T, T] ty #[a.eval x, a.eval y]).run P w).andThen fun v w' => .ok (Next.value v) w' := by
  simp [execOp, resolve, invoke, builtin]
theorem ox_append {T E bytes id : Nat} {x y : Operand} {lx ly : List (Nat × Desc)} {α : Type} [GoTy α] {l xs : List α} {dst ty pos af g} (h : apB P T E (GoTy.sz α) bytes = true)
    (hx : OpdOk x (.sl id) lx) (hy : OpdOk y (.val xs) ly) (hb : (l.length + xs.length) * bytes ≤ 140737488355328) (hmax : l.length + xs.length ≤ 9223372036854775807) :
    OpX P ⟨dst, .call ⟨.builtin .append, #[x, y], #[T, T]⟩, ty, pos, af, g⟩ (lx ++ ly) [(id, .arr E l)] (.sl id) [(id, .arr E (l ++ xs))] [id] := by
  refine OpX.turn fun m w0 w a hw hs ho => ?_
  have e1 : a.eval x = m.sv id := opd_l hx hs
  have e2 := holds_list (opd_r hy hs)
  obtain ⟨v', w', m', h1, h2, h3, h4, h5⟩ := append_arr h hw (ho (id, .arr E l) (by simp)) e2 ty hb hmax
  refine ⟨v', w', m', .inl (by rw [exec_append, e1, h1]; rfl), h2, h3, h4, fun id' e he => ?_⟩
  obtain ⟨rfl, rfl⟩ := look_one he
  exact h5

/-! ### an array is only read from now on -/
def M.freeze (m : M) (w : World) (id : Nat) : M := { m with
  ph := fun b o => if b = m.blk id ∧ m.own b = some id then w.cell? ⟨b, o, none⟩ else m.ph b o
  own := fun b => if b = m.blk id ∧ m.own b = some id then none else m.own b }
theorem freeze_le {w0 : B0} {w : World} {m : M} (h : WOK w0 m w) (id : Nat) : m.ph.le (m.freeze w id).ph := by
  intro b o v hv
  simp only [M.freeze]
  by_cases hc : b = m.blk id ∧ m.own b = some id
  · have := h.apart b id hc.2 o; rw [this] at hv; cases hv
  · rw [if_neg hc]; exact hv
theorem WOK.freeze {w0 : B0} {w : World} {m : M} (h : WOK w0 m w) (id : Nat) : WOK w0 (m.freeze w id) w := by
  refine ⟨h.below, fun b o v hl hbr hv => ?_, fun b o v hv => ?_, fun b k hk => ?_, fun b k hk o => ?_⟩
  · simp only [M.freeze] at hv
    by_cases hc : b = m.blk id ∧ m.own b = some id
    · have := (h.own b id hc.2).1
      rw [hbr] at this
      rcases this with h1 | h1
      · omega
      · cases h1
    · rw [if_neg hc] at hv; exact h.old b o v hl hbr hv
  · simp only [M.freeze] at hv
    by_cases hc : b = m.blk id ∧ m.own b = some id
    · rw [if_pos hc] at hv; exact hv
    · rw [if_neg hc] at hv; exact h.on b o v hv
  · simp only [M.freeze] at hk
    split at hk
    · cases hk
    · exact h.own b k hk
  · simp only [M.freeze] at hk ⊢
    split at hk
    · cases hk
    · rename_i hc; rw [if_neg hc]; exact h.apart b k hk o
theorem Chg.freeze {w0 : B0} {w : World} {m : M} (h : WOK w0 m w) (id : Nat) : Chg [] [id] m w (m.freeze w id) w :=
  ⟨⟨freeze_le h id, fun _ _ => rfl, fun _ _ => rfl⟩, fun b k hb hk => ⟨rfl, by simp only [M.freeze]; rw [if_neg]; exact hb; rintro ⟨_, h2⟩; rw [hb] at h2; cases h2; simp at hk⟩, fun _ _ => rfl⟩
theorem arr_frozen {w0 : B0} {w : World} {m : M} (h : WOK w0 m w) {id E : Nat} {α : Type} [GoTy α] {l : List α} (ho : (ODesc.arr E l).holds m w0.heap.size w id) : RepS (m.freeze w id).ph l (m.sv id) := by
  obtain ⟨cs, h2, h1⟩ := ho
  have h2' := h2.mono (freeze_le h id)
  rcases h1 with ⟨hn2, ad, hn1⟩ | ⟨⟨cap, cur, k1, k3, k4, k5, k6, k7⟩, e2⟩
  · subst hn2
    rw [hn1]
    exact ⟨ad, 0, [], rfl, Nat.le_refl _, by decide, rfl, fun _ => rfl, .inl rfl⟩
  · rw [k1]
    refine ⟨_, cap, cs, rfl, k4, by unfold maxLen at k5; omega, h2', fun e => (by cases e), .inr ⟨m.blk id, 0, rfl, fun j u hu => ?_⟩⟩
    simp only [M.freeze]
    rw [if_pos ⟨trivial, e2⟩]
    rw [← k7, List.getElem?_take] at hu
    split at hu
    · simp only [Nat.zero_add]
      simp [World.cell?, k3]; simpa using hu
    · cases hu

theorem ox_appendV {T E bytes id : Nat} {x y : Operand} {lx ly : List (Nat × Desc)} {α : Type} [GoTy α] {l xs : List α} {dst ty pos af g} (h : apB P T E (GoTy.sz α) bytes = true)
    (hx : OpdOk x (.sl id) lx) (hy : OpdOk y (.val xs) ly) (hb : (l.length + xs.length) * bytes ≤ 140737488355328) (hmax : l.length + xs.length ≤ 9223372036854775807) :
    OpX P ⟨dst, .call ⟨.builtin .append, #[x, y], #[T, T]⟩, ty, pos, af, g⟩ (lx ++ ly) [(id, .arr E l)] (.val (l ++ xs)) [(id, .dead)] [id] := by
  refine OpX.turn fun m w0 w a hw hs ho => ?_
  have e1 : a.eval x = m.sv id := opd_l hx hs
  have e2 := holds_list (opd_r hy hs)
  obtain ⟨v', w', m', h1, h2, h3, h4, h5⟩ := append_arr h hw (ho (id, .arr E l) (by simp)) e2 ty hb hmax
  have hf := Chg.freeze h2 id
  refine ⟨v', w', m'.freeze w' id, .inl (by rw [exec_append, e1, h1]; rfl), h2.freeze id, ⟨⟨PH.le_trans h3.keeps.ph hf.keeps.ph, h3.keeps.blk, h3.keeps.sv⟩, fun b k hb hk => ?_, h3.sub⟩, ?_, fun id' e he => ?_⟩
  · obtain ⟨a1, a2⟩ := h3.heap b k hb hk
    exact ⟨a1, (hf.heap b k a2 hk).2⟩
  · rw [h4]; exact list_holds (arr_frozen h2 h5)
  · obtain ⟨rfl, rfl⟩ := look_one he; trivial

section pt
variable {w0 : B0} {n : Nat} {σ : St}
/-- slots that hold an array, from now on the slice of its elements -/
theorem PT.freeze {Q : Act → World → Prop} (id : Nat) (ts : List Nat) {E : Nat} {α : Type} [GoTy α] {l : List α} (ho : look σ.o id = some (.arr E l)) (hs : OkL σ.s (ts.map fun t => (t, .sl id)))
    (h : PT w0 n ⟨(ts.map fun t => (t, .val l)) ++ σ.s, (id, .dead) :: σ.o⟩ Q) : PT w0 n σ Q := fun a w ha => by
  refine h a w ?_
  obtain ⟨m, h1, h2, h3, h4, h5⟩ := ha
  have hc := Chg.freeze h1 id
  have hr := arr_frozen h1 (h5 id _ ho)
  refine ⟨m.freeze w id, h1.freeze id, h2, h3, fun t d hl => ?_, fun k d hl => ?_⟩
  · rw [look_append] at hl
    cases e : look (ts.map fun t => ((t, .val l) : Nat × Desc)) t with
    | some d' =>
      rw [e] at hl
      simp only [Option.some_or, Option.some.injEq] at hl
      subst hl
      have hm := look_mem e
      simp at hm
      obtain ⟨u, hu1, hu2, hu3⟩ := hm
      subst hu3; subst hu2
      have := h4 u _ (hs.mem (u, .sl id) (by simp; exact hu1))
      rw [show a.tmps.getD u undef = m.sv id from this]
      exact list_holds hr
    | none =>
      rw [e] at hl
      simp only [Option.none_or] at hl
      exact Desc.holds_keep hc.keeps d _ (Desc.ment_nil d) (h4 t d hl)
  · simp only [look] at hl
    cases hb : Nat.beq id k with
    | true => simp only [hb, cond_true, Option.some.injEq] at hl; subst hl; trivial
    | false =>
      simp only [hb, cond_false] at hl
      have hne : [id].contains k = false := by
        simp; intro e; subst e; simp at hb
      have hm0 : d.ment [] = false := by cases d <;> simp [ODesc.ment]
      exact ODesc.holds_keep hc.keeps (by simp) (fun b hb' => hc.heap b k hb' hne) d hm0 (h5 k d hl)

/-- a nil slice, from now on an array of the call's own -/
theorem PT.nilArr {Q : Act → World → Prop} (id t : Nat) (E : Nat) (α : Type) [GoTy α] (hs : look σ.s t = some .nilS) (hf : fresh σ ⟨[(t, .sl id)], [(id, .arr E ([] : List α))], [id]⟩ = true)
    (h : PT w0 n ⟨(t, .sl id) :: σ.s, (id, .arr E ([] : List α)) :: σ.o⟩ Q) : PT w0 n σ Q := fun a w ha => by
  refine h a w ?_
  obtain ⟨m, h1, h2, h3, h4, h5⟩ := ha
  have hw' : WOK w0 { m with sv := fun k => if k = id then .slice none 0 0 else m.sv k } w := ⟨h1.below, h1.old, h1.on, h1.own, h1.apart⟩
  have hc : Chg [id] [id] m w { m with sv := fun k => if k = id then .slice none 0 0 else m.sv k } w :=
    ⟨⟨PH.le_refl _, fun _ _ => rfl, fun k hk => by simp at hk; simp; exact fun e => absurd e hk⟩, fun b k hb hk => ⟨rfl, hb⟩, fun _ h => h⟩
  have := Holds.step (n := n) (σ := σ) (a := a) (w := w) (w' := w) (wr := ⟨[(t, .sl id)], [(id, .arr E ([] : List α))], [id]⟩) (dst := none) (v := undef) h2 h3 h4 h5 hw' hc hf (fun t ht => by cases ht)
    (fun u d hu => by
      obtain ⟨rfl, rfl⟩ := look_one hu
      have := h4 t _ hs
      show (a.put none undef).tmps.getD t undef = _
      simp only [Act.put]
      rw [show a.tmps.getD t undef = .slice none 0 0 from this]
      simp)
    (fun u d hu => by
      obtain ⟨rfl, rfl⟩ := look_one hu
      exact ⟨[], rfl, .inl ⟨rfl, none, by simp⟩⟩)
  exact this
end pt

/-! ### contracts -/
mutual
def Desc.clean : Desc → Bool
  | @Desc.ptr _ _ _ _ _ _ => false
  | .sl _ => false
  | @Desc.aptr _ _ _ _ _ _ _ => false
  | .cond _ d => d.clean
  | .tup ds => Desc.cleanL ds
  | .clo _ caps => Desc.cleanL caps
  | @Desc.val _ _ _ => true
  | .nilS => true
  | @Desc.elem _ _ _ => true
  | .any => true
  | .raw _ => true
  | @Desc.hole _ _ _ _ => false
  | .boolOf _ => true
  | @Desc.nlist _ _ _ => true
  | .mp _ => false
def Desc.cleanL : List Desc → Bool
  | [] => true
  | d :: ds => d.clean && Desc.cleanL ds
end
mutual
theorem Desc.holds_clean {m m' : M} (hp : m.ph.le m'.ph) : ∀ (d : Desc) (v : Value), d.clean = true → d.holds m v → d.holds m' v
  | @Desc.val _ _ x, v, _, ⟨vs, h1, h2⟩ => ⟨vs, GoTy.mono hp h1, h2⟩
  | .nilS, v, _, h => h
  | @Desc.ptr id _ _ _ _ l, v, hm, h => by cases hm
  | @Desc.elem _ _ x, v, _, ⟨b, o, vs, h1, h2, h3⟩ => ⟨b, o, vs, h1, GoTy.mono hp h2, fun j u hu => hp _ _ _ (h3 j u hu)⟩
  | .sl id, v, hm, h => by cases hm
  | @Desc.aptr id i _ _ _ _ l, v, hm, h => by cases hm
  | .any, v, _, _ => trivial
  | .cond p d, v, hm, h => ⟨fun hq => Desc.holds_clean hp d v (by simpa [Desc.clean] using hm) (h.1 hq), h.2⟩
  | .tup ds, v, hm, ⟨vs, h1, h2⟩ => ⟨vs, h1, Desc.holdsL_clean hp ds vs (by simpa [Desc.clean] using hm) h2⟩
  | .clo f ds, v, hm, ⟨vs, h1, h2⟩ => ⟨vs, h1, Desc.holdsL_clean hp ds vs (by simpa [Desc.clean] using hm) h2⟩
  | .raw u, v, _, h => h
  | @Desc.hole _ _ _ _, v, hm, h => by cases hm
  | .boolOf _, v, _, h => h
  | @Desc.nlist _ _ l, v, _, ⟨h1, h2⟩ => ⟨h1.mono hp, h2⟩
  | .mp _, v, hm, h => by cases hm
theorem Desc.holdsL_clean {m m' : M} (hp : m.ph.le m'.ph) : ∀ (ds : List Desc) (vs : List Value), Desc.cleanL ds = true → Desc.holdsL m ds vs → Desc.holdsL m' ds vs
  | [], vs, _, h => h
  | d :: ds, vs, hm, ⟨v, r, h1, h2, h3⟩ => by
    simp only [Desc.cleanL, Bool.and_eq_true] at hm
    exact ⟨v, r, h1, Desc.holds_clean hp d v hm.1 h2, Desc.holdsL_clean hp ds r hm.2 h3⟩
end

/-- nothing but cells that stay -/
def base (ph : PH) : M := ⟨ph, fun _ => none, fun _ => 0, fun _ => undef⟩
/-- what stayed, and all that is new -/
def extPH (ph : PH) (w w' : World) : PH := fun b o => if b < w.heap.size then ph b o else w'.cell? ⟨b, o, none⟩

/-- a function with a body -/
structure Callee (P : Program) (f : FuncId) : Prop where
  body : ∃ fn, P.funcs[f]? = some fn ∧ (fn.name == "runtime.NumGoroutine") = false ∧ fn.body.isNone = false

/-- what a function answers: 'ds' what it is handed, 'r' what it answers; what was there stays -/
structure Fn (P : Program) (f : FuncId) (ds : List Desc) (r : Desc) : Prop where
  callee : Callee P f
  cleanA : Desc.cleanL ds = true
  cleanR : r.clean = true
  run : ∀ (ph : PH) (w : World) (vs : List Value), ph.on w → Desc.holdsL (base ph) ds vs →
    Calls P f vs.toArray w (fun e w' => ∃ v, e = .returned v ∧ Below w.heap.size w w' ∧ r.holds (base (extPH ph w w')) v)

theorem run_call {f : FuncId} (h : Callee P f) (w : World) (args : Array Value) : (callFunc f args).run P w = .ok (.enter f args) w := by
  obtain ⟨fn, h1, h2, h3⟩ := h.body
  simp only [callFunc, Sem.run_bind, run_program, Result.andThen_ok, h1, h2]
  simp [h3]

/-- the operands of a call -/
inductive Args : List Operand → List Desc → List (Nat × Desc) → Prop
  | nil : Args [] [] []
  | cons {x : Operand} {d : Desc} {lx : List (Nat × Desc)} {xs : List Operand} {ds : List Desc} {l : List (Nat × Desc)} (hx : OpdOk x d lx) (h : Args xs ds l) : Args (x :: xs) (d :: ds) (lx ++ l)
theorem Args.holds {m : M} {a : Act} {xs : List Operand} {ds : List Desc} {l : List (Nat × Desc)} (h : Args xs ds l) (hs : ∀ p ∈ l, p.2.holds m (a.tmps.getD p.1 undef)) : Desc.holdsL m ds (xs.map a.eval) := by
  induction h with
  | nil => rfl
  | cons hx h ih => exact ⟨_, _, rfl, hx m a (fun p hp => hs p (by simp [hp])), ih (fun p hp => hs p (by simp [hp]))⟩
theorem holdsL_append {m : M} : ∀ {ds es : List Desc} {us vs : List Value}, Desc.holdsL m ds us → Desc.holdsL m es vs → Desc.holdsL m (ds ++ es) (us ++ vs)
  | [], es, us, vs, h, k => by
    have : us = [] := h
    subst this; simpa using k
  | d :: ds, es, us, vs, ⟨v, r, h1, h2, h3⟩, k => by
    subst h1; exact ⟨v, r ++ vs, rfl, h2, holdsL_append h3 k⟩

theorem ox_enter {o : Oper} {f : FuncId} {rs : List (Nat × Desc)} {ds : List Desc} {r : Desc} (hF : Fn P f ds r)
    (h : ∀ (m : M) (w : World) (a : Act), (∀ p ∈ rs, p.2.holds m (a.tmps.getD p.1 undef)) → ∃ vs : List Value, (execOp a.eval o).run P w = .ok (.enter f vs.toArray) w ∧ Desc.holdsL m ds vs) : OpX P o rs [] r [] [] := by
  intro m w0 w a hw hs ho K Q hk
  obtain ⟨vs, h1, h2⟩ := h m w a hs
  show o.upon P a K Q _
  rw [h1]
  have h3 : Desc.holdsL (base m.ph) ds vs := Desc.holdsL_clean (m := m) (m' := base m.ph) (PH.le_refl _) ds vs hF.cleanA h2
  refine (hF.run m.ph w vs hw.on h3).mono fun e w' he => ?_
  obtain ⟨v, rfl, hb, hr⟩ := he
  exact hk v w' (m.more w w') (hw.more hb) (Chg.more hw hb _) (Desc.holds_clean (m := base (extPH m.ph w w')) (m' := m.more w w') (PH.le_refl _) r v hF.cleanR hr) (fun id e hu => by cases hu)

theorem ox_call {f : FuncId} {xs : List Operand} {ds : List Desc} {r : Desc} {l : List (Nat × Desc)} {ats : Array TypeId} {dst ty pos af g} (hF : Fn P f ds r) (hA : Args xs ds l) :
    OpX P ⟨dst, .call ⟨.value (.func f), xs.toArray, ats⟩, ty, pos, af, g⟩ l [] r [] [] := by
  refine ox_enter hF fun m w a hs => ⟨xs.map a.eval, ?_, hA.holds hs⟩
  have e : a.eval (.func f) = .func (.func f) #[] #[] := rfl
  simp only [execOp, resolve, Sem.run_bind, e, Deferred.ofValue, Sem.run_pure, Result.andThen_ok, invoke]
  rw [run_call hF.callee]
  simp
theorem ox_callv {s : Nat} {f : FuncId} {xs : List Operand} {ds caps : List Desc} {r : Desc} {l : List (Nat × Desc)} {ats : Array TypeId} {dst ty pos af g} (hF : Fn P f (ds ++ caps) r) (hA : Args xs ds l) :
    OpX P ⟨dst, .call ⟨.value (.tmp s), xs.toArray, ats⟩, ty, pos, af, g⟩ ((s, .clo f caps) :: l) [] r [] [] := by
  refine ox_enter hF fun m w a hs => ?_
  obtain ⟨cs, h1, h2⟩ := hs (s, .clo f caps) (by simp)
  refine ⟨xs.map a.eval ++ cs, ?_, holdsL_append (hA.holds fun p hp => hs p (by simp [hp])) h2⟩
  have e : a.eval (.tmp s) = .func (.func f) #[] cs.toArray := h1
  simp only [execOp, resolve, Sem.run_bind, e, Deferred.ofValue, Sem.run_pure, Result.andThen_ok, invoke]
  rw [run_call hF.callee]
  simp

/-! ### a function's beginning and end -/
/-- what a body must come to -/
def RetOf (w0 : B0) (r : Desc) : Ending → World → Prop := fun e w' => ∃ v, e = .returned v ∧ Below w0.heap.size w0.toWorld w' ∧ r.holds (base (extPH w0.ph0 w0.toWorld w')) v

def enumD : Nat → List Desc → List (Nat × Desc)
  | _, [] => []
  | k, d :: ds => (k, d) :: enumD (k + 1) ds
theorem look_enumD : ∀ (ds : List Desc) (k t : Nat) (d : Desc), look (enumD k ds) t = some d → k ≤ t ∧ ds[t - k]? = some d
  | [], k, t, d, h => by simp [enumD, look] at h
  | e :: ds, k, t, d, h => by
    simp only [enumD, look] at h
    cases hb : Nat.beq k t with
    | true =>
      have : k = t := Nat.eq_of_beq_eq_true hb
      subst this
      simp only [hb, cond_true, Option.some.injEq] at h
      subst h; simp
    | false =>
      simp only [hb, cond_false] at h
      have := look_enumD ds (k + 1) t d h
      refine ⟨by omega, ?_⟩
      rw [show t - k = (t - (k + 1)) + 1 from by omega]; simpa using this.2

theorem holdsL_len {m : M} : ∀ {ds : List Desc} {vs : List Value}, Desc.holdsL m ds vs → vs.length = ds.length
  | [], vs, h => by have : vs = [] := h; simp [this]
  | d :: ds, vs, ⟨v, r, h1, h2, h3⟩ => by simp [h1, holdsL_len h3]

theorem Fn.mk' {f : FuncId} {fn : Func} {c : Code} {ds : List Desc} {r : Desc} (hf : P.funcs[f]? = some fn) (hb : fn.body = some c) (hname : (fn.name == "runtime.NumGoroutine") = false)
    (hA : Desc.cleanL ds = true) (hR : r.clean = true) (hl : decide (ds.length ≤ fn.ntmps) = true) (h : ∀ w0 : B0, w0.brw = (fun _ => false) → PT w0 fn.ntmps ⟨enumD 0 ds, []⟩ (c.wp P (bodyPost P fn (RetOf w0 r)))) : Fn P f ds r := by
  refine ⟨⟨fn, hf, hname, by rw [hb]; rfl⟩, hA, hR, fun ph w vs hon hvs => ?_⟩
  refine (calls_of_wp hf hb (h ⟨w, ph, fun _ => false⟩ rfl _ w ?_)).mono fun e w' he => he
  have hlen := holdsL_len hvs
  have hl' := of_decide_eq_true hl
  refine ⟨base ph, ⟨BelowX.refl _ _ _, fun _ _ _ _ _ h => h, hon, fun b id h => (by cases h), fun b id h => (by cases h)⟩, rfl, by simp; omega, fun t d ht => ?_, fun id d hd => by cases hd⟩
  obtain ⟨h1, h2⟩ := look_enumD ds 0 t d ht
  obtain ⟨v, h3, h4⟩ := holdsL_get ds vs t d hvs (by simpa using h2)
  have ht' : t < vs.length := (List.getElem?_eq_some_iff.1 h3).1
  have : (vs.toArray ++ Array.replicate (fn.ntmps - vs.toArray.size) undef).getD t undef = v := by
    rw [Array.getD_eq_getD_getElem?, Array.getElem?_append_left (by simpa using ht')]
    simp [h3]
  rw [this]; exact h4

/-- the results of a frame -/
inductive ResOk (P : Program) (σ : St) : List ResultVar → List Desc → Prop
  | nil : ResOk P σ [] []
  | tmp {t : Nat} {d : Desc} {rs : List ResultVar} {ds : List Desc} (h : look σ.s t = some d) (hc : d.clean = true) (k : ResOk P σ rs ds) : ResOk P σ (.tmp t :: rs) (d :: ds)
  | cell {s T id : Nat} {α : Type} [GoTy α] {x : α} {rs : List ResultVar} {ds : List Desc} (hT : Ty P T α) (h : look σ.s s = some (.ptr id (Lens.id (α := α)))) (ho : look σ.o id = some (.var x [])) (k : ResOk P σ rs ds) :
      ResOk P σ (.cell s T :: rs) (.val x :: ds)

def resF (tmps : Array Value) : ResultVar → Sem Value
  | .tmp t => pure (tmps.getD t undef)
  | .cell a t => do loadVar t (← asAddr (tmps.getD a undef))
theorem results_eq (fn : Func) (tmps : Array Value) : results fn tmps = (do let vs ← fn.results.mapM (resF tmps); pure (if h : vs.size = 1 then vs[0] else .tuple vs)) := by
  unfold results
  congr 1

theorem ResOk.run {σ : St} {rs : List ResultVar} {ds : List Desc} (h : ResOk P σ rs ds) {m : M} {w0 : B0} {w : World} {a : Act} (hs : ∀ t d, look σ.s t = some d → d.holds m (a.tmps.getD t undef)) (ho : ∀ id d, look σ.o id = some d → d.holds m w0.heap.size w id) :
    ∃ vs, (rs.mapM (resF a.tmps)).run P w = .ok vs w ∧ Desc.holdsL m ds vs ∧ Desc.cleanL ds = true := by
  induction h with
  | nil => exact ⟨[], rfl, rfl, rfl⟩
  | @tmp t d rs ds h hc k ih =>
    obtain ⟨vs, h1, h2, h3⟩ := ih
    have hr : (resF a.tmps (.tmp t)).run P w = .ok (a.tmps.getD t undef) w := rfl
    exact ⟨a.tmps.getD t undef :: vs, by simp only [List.mapM_cons, Sem.run_bind, hr, Sem.run_pure, Result.andThen_ok, h1], ⟨_, _, rfl, hs _ _ h, h2⟩, by simp [Desc.cleanL, hc, h3]⟩
  | @cell s T id α inst x rs ds hT h ho' k ih =>
    obtain ⟨vs, h1, h2, h3⟩ := ih
    have e1 : a.tmps.getD s undef = .pointer (some ⟨m.blk id, 0, none⟩) := hs _ _ h
    obtain ⟨us, h4, h5⟩ := var_range (ho id _ ho') (Lens.id (α := α)) rfl
    have h6 := run_loadVar hT h4 h5
    have hr : (resF a.tmps (.cell s T)).run P w = .ok (mkVal (GoTy.agg α) us) w := by
      simp only [resF, e1, asAddr, Sem.run_bind, Sem.run_pure, Result.andThen_ok]
      exact h6
    exact ⟨mkVal (GoTy.agg α) us :: vs, by simp only [List.mapM_cons, Sem.run_bind, hr, Sem.run_pure, Result.andThen_ok, h1], ⟨_, _, rfl, ⟨us, h4, rfl⟩, h2⟩, by simp [Desc.cleanL, Desc.clean, h3]⟩

/-- one result, or all of them -/
def resD : List Desc → Desc
  | [d] => d
  | ds => .tup ds

theorem PT.done {w0 : B0} (hbw : w0.brw = fun _ => false) {n : Nat} {σ : St} {fn : Func} {rs : List ResultVar} {ds : List Desc} {r : Desc} (hrs : fn.results = rs.toArray) (h : ResOk P σ rs ds) (hr : resD ds = r) : PT w0 n σ (bodyPost P fn (RetOf w0 r) .ret) := by
  intro a w ha
  obtain ⟨m, h1, h2, h3, h4, h5⟩ := ha
  obtain ⟨vs, e1, e2, e3⟩ := h.run (w := w) h4 h5
  have hlen := holdsL_len e2
  have hle : m.ph.le (extPH w0.ph0 w0.toWorld w) := by
    intro b o v hv
    simp only [extPH]
    by_cases hb : b < w0.heap.size
    · rw [if_pos hb]; exact h1.old b o v hb (by rw [hbw]) hv
    · rw [if_neg hb]; exact h1.on b o v hv
  have e4 : Desc.holdsL (base (extPH w0.ph0 w0.toWorld w)) ds vs := Desc.holdsL_clean (m := m) hle ds vs e3 e2
  have hrun : (results fn a.tmps).run P w = .ok (if h : vs.toArray.size = 1 then vs.toArray[0] else .tuple vs.toArray) w := by
    rw [results_eq, hrs, List.mapM_toArray]
    simp only [Sem.run_bind, Sem.run_map, e1, Result.andThen_ok, Sem.run_pure]
  have hbl := h1.below
  rw [hbw] at hbl
  refine ⟨h2, _, hrun, _, rfl, hbl.plain, ?_⟩
  subst hr
  match ds, vs, e4, hlen with
  | [d], [v], ⟨v', r, hv, hd, _⟩, _ => cases hv; simpa [resD] using hd
  | [], [], _, _ => exact ⟨[], rfl, rfl⟩
  | d :: e :: ds, v :: u :: vs, e4, _ => exact ⟨v :: u :: vs, by simp, e4⟩
end
end Go.Gx
