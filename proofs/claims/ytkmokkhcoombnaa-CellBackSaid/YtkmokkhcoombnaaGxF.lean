/- The small logic, fifteenth part: calls with handed objects; variables with arrays of the call's own in them; arrays that are lent. Nothing here is about one program. -/
import Derived.Test.YtkmokkhcoombnaaGxE
namespace Go.Gx
open Go.RowKit Sp
set_option linter.unusedVariables false
set_option linter.unusedSimpArgs false
section
variable {P : Program}

theorem ox_callX {f : FuncId} {ds ds' : List Desc} {os : List (Nat × ODesc)} {r r' : Desc} {os' : List (Nat × ODesc)} {kp : List Nat} {ro wo : List (Nat × ODesc)} {xs : List Operand} {l : List (Nat × Desc)} {ats : Array TypeId} {fr : List Nat} {dst ty pos af g} (hF : FnX P f ds os r os' kp) (ρ ρ' ρn : Rn) (dead : List Nat)
    (hA : Args xs ds' l) (hds' : ds' = Desc.renL ρ ds) (hr2 : r' = r.ren ρ') (hro : ro = os.map fun p => (rn ρ p.1, p.2.ren ρ)) (hwo : wo = (os'.map fun p => (rn ρ' p.1, p.2.ren ρ')) ++ dead.map fun k => (k, .dead)) (hfr : fr = ρn.map (·.2))
    (hok : okRn ρ ρ' ρn kp = true) (hds : Desc.withinL (ρ.map (·.1)) ds = true) (hks : (keys os).all (ρ.map (·.1)).contains = true) (hokro : OkL ro ro)
    (hr' : r.within (ρ'.map (·.1)) = true) (hos' : (os'.all fun p => (ρ'.map (·.1)).contains p.1 && p.2.within (ρ'.map (·.1))) = true)
    (hall : (ρ'.map (·.2)).all (keys (os'.map fun p => (rn ρ' p.1, p.2.ren ρ'))).contains = true) (hdead : (ρ.map (·.2)).all (fun k => (keys (os'.map fun p => (rn ρ' p.1, p.2.ren ρ'))).contains k || dead.contains k) = true) :
    OpX P ⟨dst, .call ⟨.value (.func f), xs.toArray, ats⟩, ty, pos, af, g⟩ l ro r' wo fr := by
  subst hds'; subst hr2; subst hwo; subst hfr
  refine ox_callG hF ρ ρ' ρn hok hds hks (by rw [← hro]; exact hokro) hr' hos' rfl hall dead hdead fun m w a hs => ⟨xs.map a.eval, ?_, hA.holds hs⟩
  have e : a.eval (.func f) = .func (.func f) #[] #[] := rfl
  simp only [execOp, resolve, Sem.run_bind, e, Deferred.ofValue, Sem.run_pure, Result.andThen_ok, invoke]
  rw [run_call hF.callee]
  simp
theorem ox_callvX {s : Nat} {f : FuncId} {ds ds' : List Desc} {os : List (Nat × ODesc)} {r r' : Desc} {os' : List (Nat × ODesc)} {kp : List Nat} {ro wo : List (Nat × ODesc)} {xs : List Operand} {l : List (Nat × Desc)} {ats : Array TypeId} {fr : List Nat} {dst ty pos af g} (hF : FnX P f ds os r os' kp) (ρ ρ' ρn : Rn) (dead : List Nat)
    (hA : Args xs ds' l) (hds' : ds' = Desc.renL ρ ds) (hr2 : r' = r.ren ρ') (hro : ro = os.map fun p => (rn ρ p.1, p.2.ren ρ)) (hwo : wo = (os'.map fun p => (rn ρ' p.1, p.2.ren ρ')) ++ dead.map fun k => (k, .dead)) (hfr : fr = ρn.map (·.2))
    (hok : okRn ρ ρ' ρn kp = true) (hds : Desc.withinL (ρ.map (·.1)) ds = true) (hks : (keys os).all (ρ.map (·.1)).contains = true) (hokro : OkL ro ro)
    (hr' : r.within (ρ'.map (·.1)) = true) (hos' : (os'.all fun p => (ρ'.map (·.1)).contains p.1 && p.2.within (ρ'.map (·.1))) = true)
    (hall : (ρ'.map (·.2)).all (keys (os'.map fun p => (rn ρ' p.1, p.2.ren ρ'))).contains = true) (hdead : (ρ.map (·.2)).all (fun k => (keys (os'.map fun p => (rn ρ' p.1, p.2.ren ρ'))).contains k || dead.contains k) = true) :
    OpX P ⟨dst, .call ⟨.value (.tmp s), xs.toArray, ats⟩, ty, pos, af, g⟩ ((s, .clo f []) :: l) ro r' wo fr := by
  subst hds'; subst hr2; subst hwo; subst hfr
  refine ox_callG hF ρ ρ' ρn hok hds hks (by rw [← hro]; exact hokro) hr' hos' rfl hall dead hdead fun m w a hs => ⟨xs.map a.eval, ?_, hA.holds fun p hp => hs p (by simp [hp])⟩
  obtain ⟨cs, h1, h2⟩ := hs (s, .clo f []) (by simp)
  have h2' : cs = [] := h2
  subst h2'
  have e : a.eval (.tmp s) = .func (.func f) #[] #[] := h1
  simp only [execOp, resolve, Sem.run_bind, e, Deferred.ofValue, Sem.run_pure, Result.andThen_ok, invoke]
  rw [run_call hF.callee]
  simp

/-! ### arrays that are lent -/
/-- what does not lean on memory -/
def Desc.flat (d : Desc) : Prop := ∀ m m' v, d.holds m v → d.holds m' v
theorem flat_int {x : Int} : Desc.flat (.val x) := fun m m' v h => h
theorem flat_bool {x : Bool} : Desc.flat (.val x) := fun m m' v h => h
/-- operands of a call, some of them arrays that are lent -/
inductive ArgsL {α : Type} [GoTy α] (id : Nat) (xs : List α) : List Operand → List Desc → List (Nat × Desc) → Prop
  | nil : ArgsL id xs [] [] []
  | cons {x : Operand} {d : Desc} {lx : List (Nat × Desc)} {os : List Operand} {ds : List Desc} {l : List (Nat × Desc)} (hx : OpdOk x d lx) (h : ArgsL id xs os ds l) : ArgsL id xs (x :: os) (d :: ds) (lx ++ l)
  | lent {x : Operand} {lx : List (Nat × Desc)} {os : List Operand} {ds : List Desc} {l : List (Nat × Desc)} (hx : OpdOk x (.sl id) lx) (h : ArgsL id xs os ds l) : ArgsL id xs (x :: os) (.val xs :: ds) (lx ++ l)
theorem ox_callL {f : FuncId} {id E : Nat} {α : Type} [GoTy α] {ys : List α} {xs : List Operand} {ds : List Desc} {r : Desc} {l : List (Nat × Desc)} {ats : Array TypeId} {dst ty pos af g} (hF : Fn P f ds r) (hfl : r.flat) (hA : ArgsL id ys xs ds l) :
    OpX P ⟨dst, .call ⟨.value (.func f), xs.toArray, ats⟩, ty, pos, af, g⟩ l [(id, .arr E ys)] r [] [] := by
  intro m w0 w a hw hs ho K Q hk
  have hfz := hw.freeze id
  have hch := Chg.freeze hw id
  have harr : RepS (m.freeze w id).ph ys (m.sv id) := arr_frozen hw (ho (id, .arr E ys) (by simp))
  have hargs : ∀ (ds : List Desc) (xs : List Operand) (l : List (Nat × Desc)), ArgsL id ys xs ds l → Desc.cleanL ds = true → (∀ p ∈ l, p.2.holds m (a.tmps.getD p.1 undef)) → Desc.holdsL (m.freeze w id) ds (xs.map a.eval) := by
    intro ds xs l h
    induction h with
    | nil => intro _ _; rfl
    | cons hx h ih =>
      intro hc hs
      simp only [Desc.cleanL, Bool.and_eq_true] at hc
      exact ⟨_, _, rfl, Desc.holds_keep hch.keeps _ _ (Desc.ment_nil _) (hx m a fun p hp => hs p (by simp [hp])), ih hc.2 fun p hp => hs p (by simp [hp])⟩
    | lent hx h ih =>
      intro hc hs
      simp only [Desc.cleanL, Bool.and_eq_true] at hc
      have e : a.eval _ = m.sv id := hx m a fun p hp => hs p (by simp [hp])
      exact ⟨_, _, rfl, by rw [e]; exact list_holds harr, ih hc.2 fun p hp => hs p (by simp [hp])⟩
  have h2 := hargs ds xs l hA hF.cleanA hs
  show (Oper.mk dst (.call ⟨.value (.func f), xs.toArray, ats⟩) ty pos af g).upon P a K Q _
  have h1 : (execOp a.eval ⟨dst, .call ⟨.value (.func f), xs.toArray, ats⟩, ty, pos, af, g⟩).run P w = .ok (.enter f (xs.map a.eval).toArray) w := by
    have e : a.eval (.func f) = .func (.func f) #[] #[] := rfl
    simp only [execOp, resolve, Sem.run_bind, e, Deferred.ofValue, Sem.run_pure, Result.andThen_ok, invoke]
    rw [run_call hF.callee]
    simp
  rw [h1]
  have h3 : Desc.holdsL (base (m.freeze w id).ph) ds (xs.map a.eval) := Desc.holdsL_clean (m := m.freeze w id) (m' := base (m.freeze w id).ph) (PH.le_refl _) ds _ hF.cleanA h2
  refine (hF.run (m.freeze w id).ph w _ hfz.on h3).mono fun e w' he => ?_
  obtain ⟨v, rfl, hb, hr⟩ := he
  exact hk v w' (m.more w w') (hw.more hb) (Chg.more hw hb _) (hfl _ _ v hr) (fun id e hu => by cases hu)

/-! ### variables with arrays of the call's own in them -/
def holeAt (hs : List (Nat × Nat)) (off : Nat) : Option Nat := hs.foldl (fun a p => bif Nat.beq p.1 off then some p.2 else a) none
def noAt (hs : List (Nat × Nat)) (off n : Nat) : List (Nat × Nat) := hs.filter fun p => decide (p.1 < off) || decide (off + n ≤ p.1)

theorem fill_append (m : M) (hs ks : List (Nat × Nat)) (cs : List Value) : fill m (hs ++ ks) cs = fill m ks (fill m hs cs) := by simp [fill]
theorem fill_get {m : M} {off : Nat} : ∀ (hs : List (Nat × Nat)) (cs : List Value) (k : Nat), off < cs.length → hs.foldl (fun a p => bif Nat.beq p.1 off then some p.2 else a) none = some k → (fill m hs cs)[off]? = some (one1 (m.sv k)) := by
  suffices H : ∀ (hs : List (Nat × Nat)) (cs : List Value) (a : Option Nat) (k : Nat), off < cs.length → (∀ j, a = some j → cs[off]? = some (one1 (m.sv j))) → hs.foldl (fun a p => bif Nat.beq p.1 off then some p.2 else a) a = some k → (fill m hs cs)[off]? = some (one1 (m.sv k)) from
    fun hs cs k h1 h2 => H hs cs none k h1 (fun j hj => by cases hj) h2
  intro hs
  induction hs with
  | nil => intro cs a k h1 h2 h3; exact h2 k h3
  | cons p hs ih =>
    intro cs a k h1 h2 h3
    show (fill m hs (cs.set p.1 (one1 (m.sv p.2))))[off]? = _
    refine ih _ _ k (by simpa using h1) (fun j hj => ?_) h3
    have hj : (bif Nat.beq p.1 off then some p.2 else a) = some j := hj
    cases hb : Nat.beq p.1 off with
    | true =>
      rw [hb] at hj
      simp only [cond_true, Option.some.injEq] at hj
      subst hj
      have : p.1 = off := Nat.eq_of_beq_eq_true hb
      subst this
      simp [h1]
    | false =>
      rw [hb] at hj
      have hne : p.1 ≠ off := fun e => by subst e; simp at hb
      rw [List.getElem?_set, if_neg hne]
      exact h2 j hj
theorem holeAt_get {m : M} {off k : Nat} {hs : List (Nat × Nat)} {cs : List Value} (h : holeAt hs off = some k) (hl : off < cs.length) : (fill m hs cs)[off]? = some (one1 (m.sv k)) := fill_get hs cs k hl h

theorem arr_one {m : M} {B : Nat} {w : World} {k E : Nat} {γ : Type} [GoTy γ] {ys : List γ} (h : (ODesc.arr E ys).holds m B w k) : one1 (m.sv k) = m.sv k := by
  obtain ⟨cs, h1, h2⟩ := h
  rcases h2 with ⟨_, ad, h2⟩ | ⟨⟨cap, cur, h2, _⟩, _⟩ <;> rw [h2] <;> rfl
/-- a field that is an array of the call's own is read -/
theorem ox_load_hole {T : TypeId} {s id k E : Nat} {γ : Type} [GoTy γ] {ys : List γ} {α β : Type} [GoTy α] [GoTy β] {l : Lens α (List β)} {x : α} {hs : List (Nat × Nat)} {dst ty pos af g} (h : Ty P T (List β)) (hk : holeAt hs l.off = some k) :
    OpX P ⟨dst, .load T (.tmp s), ty, pos, af, g⟩ [(s, .ptr id l)] [(id, .var x hs), (k, .arr E ys)] (.sl k) [] [] := by
  refine OpX.pure fun m w0 w a hw hs' ho => ?_
  have h1 : a.eval (.tmp s) = .pointer (some ⟨m.blk id, l.off, none⟩) := hs' (s, .ptr id l) (by simp)
  obtain ⟨cs, T', h2, h3, h4⟩ := ho (id, .var x hs) (by simp)
  have hle := l.hle
  have hsz : GoTy.sz (List β) = 1 := rfl
  have hc := GoTy.len h3
  have hg := holeAt_get (m := m) hk (cs := cs) (by omega)
  have hone := arr_one (ho (k, .arr E ys) (by simp))
  refine ⟨m.sv k, ?_, rfl⟩
  have hcell : w.cell? ⟨m.blk id, l.off, none⟩ = some (m.sv k) := by
    rw [hone] at hg
    simp [World.cell?, h2]; simpa using hg
  have hagg : GoTy.agg (List β) = false := rfl
  have hrun : (loadVar T ⟨m.blk id, l.off, none⟩).run P w = .ok (m.sv k) w := by
    unfold loadVar
    rw [Sem.run_bind, h.isAgg w]
    simp [hagg, hcell]
  simp [execOp, h1, Instr.loadAt, Instr.sureAddr, hrun]

/-- the same, and the field is told apart from now on ('k'': what lies there still) -/
theorem ox_take_hole {T : TypeId} {s id k k' E : Nat} {γ : Type} [GoTy γ] {ys : List γ} {α β : Type} [GoTy α] [GoTy β] {l : Lens α (List β)} {x : α} {hs hs' : List (Nat × Nat)} {dst ty pos af g} (h : Ty P T (List β)) (hk : holeAt hs l.off = some k)
    (hs'e : hs' = noAt hs l.off 1 ++ [(l.off, k')]) (hkk : decide (k ≠ k') = true) (hn : (hs.all fun p => !Nat.beq p.2 k') = true) (hik : decide (id ≠ k') = true) :
    OpX P ⟨dst, .load T (.tmp s), ty, pos, af, g⟩ [(s, .ptr id l)] [(id, .var x hs), (k, .arr E ys)] (.sl k) [(id, .var x hs'), (k', .dead)] [k'] := by
  refine OpX.turn fun m w0 w a hw hss ho => ?_
  have h1 : a.eval (.tmp s) = .pointer (some ⟨m.blk id, l.off, none⟩) := hss (s, .ptr id l) (by simp)
  obtain ⟨cs, T', h2, h3, h4⟩ := ho (id, .var x hs) (by simp)
  have hle := l.hle
  have hsz : GoTy.sz (List β) = 1 := rfl
  have hc := GoTy.len h3
  have hg := holeAt_get (m := m) hk (cs := cs) (by omega)
  have hone := arr_one (ho (k, .arr E ys) (by simp))
  have hcell : w.cell? ⟨m.blk id, l.off, none⟩ = some (m.sv k) := by
    rw [hone] at hg
    simp [World.cell?, h2]; simpa using hg
  have hagg : GoTy.agg (List β) = false := rfl
  have hrun : (loadVar T ⟨m.blk id, l.off, none⟩).run P w = .ok (m.sv k) w := by
    unfold loadVar
    rw [Sem.run_bind, h.isAgg w]
    simp [hagg, hcell]
  have hkk' : k ≠ k' := of_decide_eq_true hkk
  have hik' : id ≠ k' := of_decide_eq_true hik
  refine ⟨m.sv k, w, { m with sv := fun j => if j = k' then m.sv k else m.sv j }, .inl (by simp [execOp, h1, Instr.loadAt, Instr.sureAddr, hrun]), ⟨hw.below, hw.old, hw.on, hw.own, hw.apart⟩,
    ⟨⟨PH.le_refl _, fun _ _ => rfl, fun j hj => ?_⟩, fun b j hb hj => ⟨rfl, hb⟩, fun j hj => ?_⟩, ?_, fun j e he => ?_⟩
  · simp at hj; simp; exact fun e => absurd e hj
  · simp [keys] at hj ⊢; exact hj.2
  · show m.sv k = _; simp [hkk']
  · simp only [look] at he
    cases hb : Nat.beq id j with
    | false =>
      rw [hb] at he
      simp only [cond_false] at he
      cases hb2 : Nat.beq k' j with
      | false => rw [hb2] at he; cases he
      | true => rw [hb2] at he; simp only [cond_true, Option.some.injEq] at he; subst he; trivial
    | true =>
      have : id = j := Nat.eq_of_beq_eq_true hb
      subst this
      simp only [hb, cond_true, Option.some.injEq] at he
      subst he
      refine ⟨cs, T', ?_, h3, h4⟩
      rw [h2]
      congr 3
      subst hs'e
      -- the same cells
      rw [fill_append]
      have e1 : ∀ (hs : List (Nat × Nat)) (cs : List Value), (hs.all fun p => !Nat.beq p.2 k') = true → fill { m with sv := fun j => if j = k' then m.sv k else m.sv j } hs cs = fill m hs cs := by
        intro hs
        induction hs with
        | nil => intro cs _; rfl
        | cons p hs ih =>
          intro cs h
          simp only [List.all_cons, Bool.and_eq_true] at h
          have hne : p.2 ≠ k' := fun e => by rw [e] at h; simp at h
          show fill _ hs (cs.set p.1 (one1 (if p.2 = k' then m.sv k else m.sv p.2))) = fill m hs (cs.set p.1 (one1 (m.sv p.2)))
          rw [if_neg hne]; exact ih _ h.2
      have e2 : (((noAt hs l.off 1)).all fun p => !Nat.beq p.2 k') = true := by
        rw [List.all_eq_true] at hn ⊢
        intro p hp
        exact hn p (List.mem_filter.1 hp).1
      rw [e1 _ _ e2]
      show fill m hs cs = (fill m (noAt hs l.off 1) cs).set l.off (one1 (if k' = k' then m.sv k else m.sv k'))
      rw [if_pos rfl]
      -- fill hs = (fill of the others).set off (sv k)
      have e3 : ∀ (hs : List (Nat × Nat)) (cs : List Value), (fill m (noAt hs l.off 1) cs).set l.off (one1 (m.sv k)) = (fill m hs cs).set l.off (one1 (m.sv k)) := by
        intro hs
        induction hs with
        | nil => intro cs; rfl
        | cons p hs ih =>
          intro cs
          by_cases hp : p.1 = l.off
          · have : noAt (p :: hs) l.off 1 = noAt hs l.off 1 := by simp [noAt, hp]
            rw [this]
            show _ = (fill m hs (cs.set p.1 (one1 (m.sv p.2)))).set l.off (one1 (m.sv k))
            have e4 : ∀ (hs : List (Nat × Nat)) (cs : List Value) (u : Value), (fill m hs (cs.set l.off u)).set l.off (one1 (m.sv k)) = (fill m hs cs).set l.off (one1 (m.sv k)) := by
              intro hs
              induction hs with
              | nil => intro cs u; simp [fill]
              | cons q hs ih =>
                intro cs u
                show (fill m hs ((cs.set l.off u).set q.1 (one1 (m.sv q.2)))).set l.off (one1 (m.sv k)) = (fill m hs (cs.set q.1 (one1 (m.sv q.2)))).set l.off (one1 (m.sv k))
                by_cases hq : q.1 = l.off
                · rw [hq, List.set_set]
                · rw [List.set_comm _ _ (fun e => hq e.symm), ih]
            rw [hp, e4, ih]
          · have : noAt (p :: hs) l.off 1 = p :: noAt hs l.off 1 := by
              simp only [noAt, List.filter_cons]
              rw [if_pos (by simp; omega)]
            rw [this]
            show (fill m (noAt hs l.off 1) (cs.set p.1 (one1 (m.sv p.2)))).set l.off (one1 (m.sv k)) = (fill m hs (cs.set p.1 (one1 (m.sv p.2)))).set l.off (one1 (m.sv k))
            exact ih _
      rw [e3]
      apply List.ext_getElem?
      intro j
      rw [List.getElem?_set]
      by_cases hj : l.off = j
      · subst hj
        rw [if_pos rfl, hg]
        simp [fill_length]; omega
      · rw [if_neg hj]
end
end Go.Gx
