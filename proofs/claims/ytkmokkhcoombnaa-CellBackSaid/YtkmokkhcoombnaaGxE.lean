/- The small logic, fourteenth part: functions that are handed objects of the caller's own, or that hand some out. Nothing here is about one program. -/
import Derived.Test.YtkmokkhcoombnaaGxD
namespace Go.Gx
open Go.RowKit Sp
set_option linter.unusedVariables false
set_option linter.unusedSimpArgs false

theorem mem_of_contains {l : List Nat} {a : Nat} (h : l.contains a = true) : a ∈ l := by simpa using h
/-! ### names of objects, turned -/
abbrev Rn := List (Nat × Nat)
def rn : Rn → Nat → Nat
  | [], id => id
  | p :: r, id => bif Nat.beq p.1 id then p.2 else rn r id
def inv : Rn → Nat → Option Nat
  | [], _ => none
  | p :: r, k => bif Nat.beq p.2 k then some p.1 else inv r k
def rnH (ρ : Rn) (hs : List (Nat × Nat)) : List (Nat × Nat) := hs.map fun p => (p.1, rn ρ p.2)

mutual
def Desc.ren (ρ : Rn) : Desc → Desc
  | @Desc.ptr id _ _ _ _ l => .ptr (rn ρ id) l
  | .sl id => .sl (rn ρ id)
  | @Desc.aptr id i _ _ _ _ l => .aptr (rn ρ id) i l
  | .cond p d => .cond p (d.ren ρ)
  | .tup ds => .tup (Desc.renL ρ ds)
  | .clo f caps => .clo f (Desc.renL ρ caps)
  | @Desc.hole _ _ x hs => .hole x (rnH ρ hs)
  | @Desc.val _ _ x => .val x
  | .nilS => .nilS
  | @Desc.elem _ _ x => .elem x
  | .any => .any
  | .raw v => .raw v
  | .boolOf p => .boolOf p
  | @Desc.nlist _ _ l => .nlist l
  | .mp id => .mp (rn ρ id)
def Desc.renL (ρ : Rn) : List Desc → List Desc
  | [] => []
  | d :: ds => d.ren ρ :: Desc.renL ρ ds
end
def ODesc.ren (ρ : Rn) : ODesc → ODesc
  | @ODesc.var _ _ x hs => .var x (rnH ρ hs)
  | @ODesc.arr _ _ e l => .arr e l
  | .dead => .dead
  | .pin j b v => .pin (rn ρ j) b v
  | .imap kv => .imap kv

mutual
/-- does it speak of these objects alone? -/
def Desc.within (ks : List Nat) : Desc → Bool
  | @Desc.ptr id _ _ _ _ _ => ks.contains id
  | .sl id => ks.contains id
  | @Desc.aptr id _ _ _ _ _ _ => ks.contains id
  | .cond _ d => d.within ks
  | .tup ds => Desc.withinL ks ds
  | .clo _ caps => Desc.withinL ks caps
  | @Desc.hole _ _ _ hs => hs.all fun p => ks.contains p.2
  | @Desc.val _ _ _ => true
  | .nilS => true
  | @Desc.elem _ _ _ => true
  | .any => true
  | .raw _ => true
  | .boolOf _ => true
  | @Desc.nlist _ _ _ => true
  | .mp id => ks.contains id
def Desc.withinL (ks : List Nat) : List Desc → Bool
  | [] => true
  | d :: ds => d.within ks && Desc.withinL ks ds
end
def ODesc.within (ks : List Nat) : ODesc → Bool
  | @ODesc.var _ _ _ hs => hs.all fun p => ks.contains p.2
  | @ODesc.arr _ _ _ _ => true
  | .dead => true
  | .pin j _ _ => ks.contains j
  | .imap _ => true

/-- the hidden side of another walk, told with turned names -/
structure Tells (ks : List Nat) (ρ : Rn) (m m' : M) : Prop where
  ph : m.ph.le m'.ph
  blk : ∀ id, ks.contains id = true → m'.blk (rn ρ id) = m.blk id
  sv : ∀ id, ks.contains id = true → m'.sv (rn ρ id) = m.sv id

theorem fill_tell {ks : List Nat} {ρ : Rn} {m m' : M} (k : Tells ks ρ m m') : ∀ (hs : List (Nat × Nat)) (cs : List Value), (hs.all fun p => ks.contains p.2) = true → fill m' (rnH ρ hs) cs = fill m hs cs
  | [], cs, _ => rfl
  | p :: hs, cs, h => by
    simp only [List.all_cons, Bool.and_eq_true] at h
    show fill m' (rnH ρ hs) (cs.set p.1 (one1 (m'.sv (rn ρ p.2)))) = fill m hs (cs.set p.1 (one1 (m.sv p.2)))
    rw [k.sv _ h.1, fill_tell k hs _ h.2]
mutual
theorem Desc.holds_tell {ks : List Nat} {ρ : Rn} {m m' : M} (k : Tells ks ρ m m') : ∀ (d : Desc) (v : Value), d.within ks = true → d.holds m v → (d.ren ρ).holds m' v
  | @Desc.val _ _ x, v, _, ⟨vs, h1, h2⟩ => ⟨vs, GoTy.mono k.ph h1, h2⟩
  | .nilS, v, _, h => h
  | @Desc.ptr id _ _ _ _ l, v, hm, h => by simp only [Desc.holds, Desc.ren, Desc.within] at *; rw [k.blk id hm]; exact h
  | @Desc.elem _ _ x, v, _, ⟨b, o, vs, h1, h2, h3⟩ => ⟨b, o, vs, h1, GoTy.mono k.ph h2, fun j u hu => k.ph _ _ _ (h3 j u hu)⟩
  | .sl id, v, hm, h => by simp only [Desc.holds, Desc.ren, Desc.within] at *; rw [k.sv id hm]; exact h
  | @Desc.aptr id i _ _ _ _ l, v, hm, h => by simp only [Desc.holds, Desc.ren, Desc.within] at *; rw [k.blk id hm]; exact h
  | .any, v, _, _ => trivial
  | .cond p d, v, hm, h => ⟨fun hp => Desc.holds_tell k d v (by simpa [Desc.within] using hm) (h.1 hp), h.2⟩
  | .tup ds, v, hm, ⟨vs, h1, h2⟩ => ⟨vs, h1, Desc.holdsL_tell k ds vs (by simpa [Desc.within] using hm) h2⟩
  | .clo f ds, v, hm, ⟨vs, h1, h2⟩ => ⟨vs, h1, Desc.holdsL_tell k ds vs (by simpa [Desc.within] using hm) h2⟩
  | .raw u, v, _, h => h
  | @Desc.hole _ _ x hs, v, hm, ⟨vs, h1, h2⟩ => ⟨vs, GoTy.mono k.ph h1, by rw [fill_tell k hs vs (by simpa [Desc.within] using hm)]; exact h2⟩
  | .boolOf _, v, _, h => h
  | @Desc.nlist _ _ l, v, _, ⟨h1, h2⟩ => ⟨h1.mono k.ph, h2⟩
  | .mp id, v, hm, h => by simp only [Desc.holds, Desc.ren, Desc.within] at *; rw [k.blk id hm]; exact h
theorem Desc.holdsL_tell {ks : List Nat} {ρ : Rn} {m m' : M} (k : Tells ks ρ m m') : ∀ (ds : List Desc) (vs : List Value), Desc.withinL ks ds = true → Desc.holdsL m ds vs → Desc.holdsL m' (Desc.renL ρ ds) vs
  | [], vs, _, h => h
  | d :: ds, vs, hm, ⟨v, r, h1, h2, h3⟩ => by
    simp only [Desc.withinL, Bool.and_eq_true] at hm
    exact ⟨v, r, h1, Desc.holds_tell k d v hm.1 h2, Desc.holdsL_tell k ds r hm.2 h3⟩
end
theorem ODesc.holds_tell {ks : List Nat} {ρ : Rn} {m m' : M} (k : Tells ks ρ m m') {B B' : Nat} {w : World} {j : Nat} (hj : ks.contains j = true) (hown : ∀ b, m.own b = some j → m'.own b = some (rn ρ j)) (d : ODesc) (hd : d.within ks = true)
    (h : d.holds m B w j) : (d.ren ρ).holds m' B' w (rn ρ j) := by
  cases d with
  | var x hs =>
    obtain ⟨cs, T, h1, h2, h3⟩ := h
    refine ⟨cs, T, ?_, GoTy.mono k.ph h2, ?_⟩
    · rw [k.blk j hj, fill_tell k hs cs (by simpa [ODesc.within] using hd)]; exact h1
    · rw [k.blk j hj]; exact hown _ h3
  | arr e l =>
    obtain ⟨cs, h1, h2⟩ := h
    refine ⟨cs, h1.mono k.ph, ?_⟩
    rw [k.sv j hj, k.blk j hj]
    rcases h2 with h2 | ⟨h2, h3⟩
    · exact .inl h2
    · exact .inr ⟨h2, hown _ h3⟩
  | dead => trivial
  | pin i b v =>
    have hi : ks.contains i = true := by simpa [ODesc.within] using hd
    exact ⟨by rw [k.blk i hi]; exact h.1, by rw [k.sv i hi]; exact h.2⟩
  | imap kv =>
    obtain ⟨es, clock, h1, h2, h3⟩ := h
    exact ⟨es, clock, by rw [k.blk j hj]; exact h1, h2, by rw [k.blk j hj]; exact hown _ h3⟩
/-- and back -/
def M.pull (m : M) (ρ : Rn) : M where
  ph := m.ph
  own b := match m.own b with
    | some k => inv ρ k
    | none => none
  blk id := m.blk (rn ρ id)
  sv id := m.sv (rn ρ id)
theorem fill_pull {m : M} {ρ : Rn} : ∀ (hs : List (Nat × Nat)) (cs : List Value), fill (m.pull ρ) hs cs = fill m (rnH ρ hs) cs
  | [], cs => rfl
  | p :: hs, cs => by
    show fill (m.pull ρ) hs (cs.set p.1 (one1 (m.sv (rn ρ p.2)))) = fill m (rnH ρ hs) (cs.set p.1 (one1 (m.sv (rn ρ p.2))))
    rw [fill_pull hs]
mutual
theorem Desc.holds_pull {m : M} {ρ : Rn} : ∀ (d : Desc) (v : Value), (d.ren ρ).holds m v → d.holds (m.pull ρ) v
  | @Desc.val _ _ x, v, h => h
  | .nilS, v, h => h
  | @Desc.ptr id _ _ _ _ l, v, h => h
  | @Desc.elem _ _ x, v, h => h
  | .sl id, v, h => h
  | @Desc.aptr id i _ _ _ _ l, v, h => h
  | .any, v, _ => trivial
  | .cond p d, v, h => ⟨fun hp => Desc.holds_pull d v (h.1 hp), h.2⟩
  | .tup ds, v, ⟨vs, h1, h2⟩ => ⟨vs, h1, Desc.holdsL_pull ds vs h2⟩
  | .clo f ds, v, ⟨vs, h1, h2⟩ => ⟨vs, h1, Desc.holdsL_pull ds vs h2⟩
  | .raw u, v, h => h
  | @Desc.hole _ _ x hs, v, ⟨vs, h1, h2⟩ => ⟨vs, h1, by rw [fill_pull hs vs]; exact h2⟩
  | .boolOf _, v, h => h
  | @Desc.nlist _ _ l, v, h => h
  | .mp id, v, h => h
theorem Desc.holdsL_pull {m : M} {ρ : Rn} : ∀ (ds : List Desc) (vs : List Value), Desc.holdsL m (Desc.renL ρ ds) vs → Desc.holdsL (m.pull ρ) ds vs
  | [], vs, h => h
  | d :: ds, vs, ⟨v, r, h1, h2, h3⟩ => ⟨v, r, h1, Desc.holds_pull d v h2, Desc.holdsL_pull ds r h3⟩
end
theorem ODesc.holds_pull {m : M} {ρ : Rn} {B B' : Nat} {w : World} {j : Nat} (hj : inv ρ (rn ρ j) = some j) (d : ODesc) (h : (d.ren ρ).holds m B w (rn ρ j)) : d.holds (m.pull ρ) B' w j := by
  have hown : ∀ b, m.own b = some (rn ρ j) → (m.pull ρ).own b = some j := fun b hb => by simp only [M.pull, hb]; exact hj
  cases d with
  | var x hs =>
    obtain ⟨cs, T, h1, h2, h3⟩ := h
    exact ⟨cs, T, by rw [fill_pull]; exact h1, h2, hown _ h3⟩
  | arr e l =>
    obtain ⟨cs, h1, h2⟩ := h
    refine ⟨cs, h1, ?_⟩
    rcases h2 with h2 | ⟨h2, h3⟩
    · exact .inl h2
    · exact .inr ⟨h2, hown _ h3⟩
  | dead => trivial
  | pin j b v => exact h
  | imap kv =>
    obtain ⟨es, clock, h1, h2, h3⟩ := h
    exact ⟨es, clock, h1, h2, hown _ h3⟩

/-! ### contracts -/
/-- the beginning of a call that is handed objects -/
@[reducible] def handed (m : M) (w : World) : B0 := ⟨w, m.ph, fun b => (m.own b).isSome⟩

/-- what a function answers that is handed objects ('os'), or hands some out ('os''): 'kp': those that stay where they are -/
structure FnX (P : Program) (f : FuncId) (ds : List Desc) (os : List (Nat × ODesc)) (r : Desc) (os' : List (Nat × ODesc)) (kp : List Nat) : Prop where
  callee : Callee P f
  run : ∀ (m : M) (w : World) (vs : List Value), WOK (handed m w) m w → Desc.holdsL m ds vs → (∀ id d, look os id = some d → d.holds m w.heap.size w id) →
    Calls P f vs.toArray w (fun e w' => ∃ v m', e = .returned v ∧ WOK (handed m w) m' w' ∧ r.holds m' v ∧ (∀ p ∈ os', p.2.holds m' w.heap.size w' p.1) ∧ ∀ id, kp.contains id = true → m'.blk id = m.blk id ∧ m'.sv id = m.sv id)

/-- what a body must come to -/
def RetX (m : M) (w0 : B0) (r : Desc) (os' : List (Nat × ODesc)) (kp : List Nat) : Ending → World → Prop := fun e w' =>
  ∃ v m', e = .returned v ∧ WOK w0 m' w' ∧ r.holds m' v ∧ (∀ p ∈ os', p.2.holds m' w0.heap.size w' p.1) ∧ ∀ id, kp.contains id = true → m'.blk id = m.blk id ∧ m'.sv id = m.sv id

@[reducible] def pins (m : M) (kp : List Nat) : List (Nat × ODesc) := kp.map fun j => (900 + j, .pin j (m.blk j) (m.sv j))

section
variable {P : Program}
theorem FnX.mk' {f : FuncId} {fn : Func} {c : Code} {ds : List Desc} {os : List (Nat × ODesc)} {r : Desc} {os' : List (Nat × ODesc)} {kp : List Nat} (hf : P.funcs[f]? = some fn) (hb : fn.body = some c) (hname : (fn.name == "runtime.NumGoroutine") = false)
    (hl : decide (ds.length ≤ fn.ntmps) = true) (h : ∀ (w0 : B0) (m0 : M), PT w0 fn.ntmps ⟨enumD 0 ds, os ++ pins m0 kp⟩ (c.wp P (bodyPost P fn (RetX m0 w0 r os' kp)))) : FnX P f ds os r os' kp := by
  refine ⟨⟨fn, hf, hname, by rw [hb]; rfl⟩, fun m w vs hw hvs hos => ?_⟩
  refine (calls_of_wp hf hb (h (handed m w) m _ w ?_)).mono fun e w' he => he
  have hlen := holdsL_len hvs
  have hl' := of_decide_eq_true hl
  refine ⟨m, hw, rfl, by simp; omega, fun t d ht => ?_, fun id d hd => ?_⟩
  · obtain ⟨h1, h2⟩ := look_enumD ds 0 t d ht
    obtain ⟨v, h3, h4⟩ := holdsL_get ds vs t d hvs (by simpa using h2)
    have ht' : t < vs.length := (List.getElem?_eq_some_iff.1 h3).1
    have : (vs.toArray ++ Array.replicate (fn.ntmps - vs.toArray.size) undef).getD t undef = v := by
      rw [Array.getD_eq_getD_getElem?, Array.getElem?_append_left (by simpa using ht')]
      simp [h3]
    rw [this]; exact h4
  · rw [look_append] at hd
    cases e : look os id with
    | some d' =>
      rw [e] at hd
      simp only [Option.some_or, Option.some.injEq] at hd
      subst hd; exact hos id _ e
    | none =>
      rw [e] at hd
      simp only [Option.none_or] at hd
      have := look_mem hd
      simp only [pins, List.mem_map, Prod.mk.injEq] at this
      obtain ⟨j, _, _, rfl⟩ := this
      exact ⟨rfl, rfl⟩

/-- the results of a frame, some of them with arrays of the call's own -/
inductive ResX (P : Program) (σ : St) : List ResultVar → List Desc → Prop
  | nil : ResX P σ [] []
  | tmp {t : Nat} {d : Desc} {rs : List ResultVar} {ds : List Desc} (h : look σ.s t = some d) (k : ResX P σ rs ds) : ResX P σ (.tmp t :: rs) (d :: ds)
  | cell {s T id : Nat} {α : Type} [GoTy α] {x : α} {rs : List ResultVar} {ds : List Desc} (hT : Ty P T α) (h : look σ.s s = some (.ptr id (Lens.id (α := α)))) (ho : look σ.o id = some (.var x [])) (k : ResX P σ rs ds) :
      ResX P σ (.cell s T :: rs) (.val x :: ds)
  | cellH {s T id : Nat} {α : Type} [GoTy α] {x : α} {hs : List (Nat × Nat)} {rs : List ResultVar} {ds : List Desc} (hT : Ty P T α) (ha : GoTy.agg α = true) (h : look σ.s s = some (.ptr id (Lens.id (α := α)))) (ho : look σ.o id = some (.var x hs)) (k : ResX P σ rs ds) :
      ResX P σ (.cell s T :: rs) (.hole x hs :: ds)

/-- a variable with holes is read whole -/
theorem run_loadHole {T : TypeId} {α : Type} [GoTy α] (h : Ty P T α) (ha : GoTy.agg α = true) {us : List Value} (hl : us.length = GoTy.sz α) {w : World} {b o : Nat} (hc : w.rangeAt b o us) :
    (loadVar T ⟨b, o, none⟩).run P w = .ok (mkVal (GoTy.agg α) us) w := by
  unfold loadVar
  rw [Sem.run_bind, h.isAgg w]
  simp only [Result.andThen_ok, ha]
  have h1 : (loadCells ⟨b, o, none⟩ us.length).run P w = .ok us.toArray w := run_loadCells_list (P := P) w ⟨b, o, none⟩ us (fun j v hv => by rw [Addr.add_mid]; exact hc j v hv)
  rw [hl] at h1
  simp [h.sizeOf w, h1, mkVal]

theorem ResX.run {σ : St} {rs : List ResultVar} {ds : List Desc} (h : ResX P σ rs ds) {m : M} {w0 : B0} {w : World} {a : Act} (hs : ∀ t d, look σ.s t = some d → d.holds m (a.tmps.getD t undef)) (ho : ∀ id d, look σ.o id = some d → d.holds m w0.heap.size w id) :
    ∃ vs, (rs.mapM (resF a.tmps)).run P w = .ok vs w ∧ Desc.holdsL m ds vs := by
  induction h with
  | nil => exact ⟨[], rfl, rfl⟩
  | @tmp t d rs ds h k ih =>
    obtain ⟨vs, h1, h2⟩ := ih
    have hr : (resF a.tmps (.tmp t)).run P w = .ok (a.tmps.getD t undef) w := rfl
    exact ⟨a.tmps.getD t undef :: vs, by simp only [List.mapM_cons, Sem.run_bind, hr, Sem.run_pure, Result.andThen_ok, h1], ⟨_, _, rfl, hs _ _ h, h2⟩⟩
  | @cell s T id α inst x rs ds hT h ho' k ih =>
    obtain ⟨vs, h1, h2⟩ := ih
    have e1 : a.tmps.getD s undef = .pointer (some ⟨m.blk id, 0, none⟩) := hs _ _ h
    obtain ⟨us, h4, h5⟩ := var_range (ho id _ ho') (Lens.id (α := α)) rfl
    have h6 := run_loadVar hT h4 h5
    have hr : (resF a.tmps (.cell s T)).run P w = .ok (mkVal (GoTy.agg α) us) w := by
      simp only [resF, e1, asAddr, Sem.run_bind, Sem.run_pure, Result.andThen_ok]
      exact h6
    exact ⟨mkVal (GoTy.agg α) us :: vs, by simp only [List.mapM_cons, Sem.run_bind, hr, Sem.run_pure, Result.andThen_ok, h1], ⟨_, _, rfl, ⟨us, h4, rfl⟩, h2⟩⟩
  | @cellH s T id α inst x hs' rs ds hT ha h ho' k ih =>
    obtain ⟨vs, h1, h2⟩ := ih
    have e1 : a.tmps.getD s undef = .pointer (some ⟨m.blk id, 0, none⟩) := hs _ _ h
    obtain ⟨cs, T', h3, h4, h5⟩ := ho id _ ho'
    have h6 := run_loadHole hT ha (us := fill m hs' cs) (by rw [fill_length]; exact GoTy.len h4) (w := w) (b := m.blk id) (o := 0) (fun j v hv => by simp [World.cell?, h3]; simpa using hv)
    have hr : (resF a.tmps (.cell s T)).run P w = .ok (mkVal (GoTy.agg α) (fill m hs' cs)) w := by
      simp only [resF, e1, asAddr, Sem.run_bind, Sem.run_pure, Result.andThen_ok]
      exact h6
    exact ⟨mkVal (GoTy.agg α) (fill m hs' cs) :: vs, by simp only [List.mapM_cons, Sem.run_bind, hr, Sem.run_pure, Result.andThen_ok, h1], ⟨_, _, rfl, ⟨cs, h4, rfl⟩, h2⟩⟩

theorem PT.doneX {w0 : B0} {m0 : M} {n : Nat} {σ : St} {fn : Func} {rs : List ResultVar} {ds : List Desc} {r : Desc} {os' : List (Nat × ODesc)} {kp : List Nat} (hrs : fn.results = rs.toArray) (h : ResX P σ rs ds) (hr : resD ds = r) (ho : OkL σ.o os') (hk : OkL σ.o (pins m0 kp)) :
    PT w0 n σ (bodyPost P fn (RetX m0 w0 r os' kp) .ret) := by
  intro a w ha
  obtain ⟨m, h1, h2, h3, h4, h5⟩ := ha
  obtain ⟨vs, e1, e4⟩ := h.run (w := w) h4 h5
  have hlen := holdsL_len e4
  have hrun : (results fn a.tmps).run P w = .ok (if h : vs.toArray.size = 1 then vs.toArray[0] else .tuple vs.toArray) w := by
    rw [results_eq, hrs, List.mapM_toArray]
    simp only [Sem.run_bind, Sem.run_map, e1, Result.andThen_ok, Sem.run_pure]
  refine ⟨h2, _, hrun, _, m, rfl, h1, ?_, fun p hp => h5 p.1 p.2 (ho.mem p hp), fun id hid => ?_⟩
  · subst hr
    match ds, vs, e4, hlen with
    | [d], [v], ⟨v', r, hv, hd, _⟩, _ => cases hv; simpa [resD] using hd
    | [], [], _, _ => exact ⟨[], rfl, rfl⟩
    | d :: e :: ds, v :: u :: vs, e4, _ => exact ⟨v :: u :: vs, by simp, e4⟩
  · have := h5 (900 + id) _ (hk.mem (900 + id, .pin id (m0.blk id) (m0.sv id)) (by simp only [pins, List.mem_map, Prod.mk.injEq]; exact ⟨id, by simpa using hid, rfl, rfl⟩))
    exact this

/-! ### calls -/
/-- the names are turned one to one; who stays keeps his name; 'ρn': who is new -/
def okRn (ρ ρ' ρn : Rn) (kp : List Nat) : Bool :=
  (ρ.all fun p => Nat.beq (rn ρ p.1) p.2 && (inv ρ p.2 == some p.1)) &&
  (ρ'.all fun p => Nat.beq (rn ρ' p.1) p.2 && (if kp.contains p.1 then Nat.beq (rn ρ p.1) p.2 && (inv ρn p.2 == none) else inv ρn p.2 == some p.1)) &&
  (ρn.all fun p => (ρ'.map (·.2)).contains p.2)

/-- the hidden side behind a call -/
def M.back (m m' : M) (w : World) (ρ ρ' ρn : Rn) : M where
  ph b o := if b < w.heap.size ∧ (m.pull ρ).own b = none then m.ph b o else m'.ph b o
  own b := if b < w.heap.size ∧ (m.pull ρ).own b = none then m.own b else match m'.own b with
    | some j => if (ρ'.map (·.1)).contains j then some (rn ρ' j) else none
    | none => none
  blk k := match inv ρn k with
    | some j => m'.blk j
    | none => m.blk k
  sv k := match inv ρn k with
    | some j => m'.sv j
    | none => m.sv k

theorem inv_mem {ρ : Rn} {k j : Nat} (h : inv ρ k = some j) : (j, k) ∈ ρ := by
  induction ρ with
  | nil => cases h
  | cons p ρ ih =>
    simp only [inv] at h
    cases hb : Nat.beq p.2 k with
    | true =>
      rw [hb] at h
      simp only [cond_true, Option.some.injEq] at h
      have : p.2 = k := Nat.eq_of_beq_eq_true hb
      subst h; subst this; simp
    | false => rw [hb] at h; exact List.mem_cons_of_mem _ (ih h)

theorem ox_callG {o : Oper} {f : FuncId} {ds : List Desc} {os : List (Nat × ODesc)} {r : Desc} {os' : List (Nat × ODesc)} {kp : List Nat} {rs : List (Nat × Desc)} {ro wo : List (Nat × ODesc)} (hF : FnX P f ds os r os' kp) (ρ ρ' ρn : Rn)
    (hok : okRn ρ ρ' ρn kp = true) (hds : Desc.withinL (ρ.map (·.1)) ds = true) (hks : (keys os).all (ρ.map (·.1)).contains = true) (hro : OkL ro (os.map fun p => (rn ρ p.1, p.2.ren ρ)))
    (hr' : r.within (ρ'.map (·.1)) = true) (hos' : (os'.all fun p => (ρ'.map (·.1)).contains p.1 && p.2.within (ρ'.map (·.1))) = true) (hwo : wo = os'.map fun p => (rn ρ' p.1, p.2.ren ρ'))
    (hall : (ρ'.map (·.2)).all (keys wo).contains = true) (dead : List Nat) (hdead : (ρ.map (·.2)).all (fun k => (keys wo).contains k || dead.contains k) = true)
    (h : ∀ (m : M) (w : World) (a : Act), (∀ p ∈ rs, p.2.holds m (a.tmps.getD p.1 undef)) → ∃ vs : List Value, (execOp a.eval o).run P w = .ok (.enter f vs.toArray) w ∧ Desc.holdsL m (Desc.renL ρ ds) vs) :
    OpX P o rs ro (r.ren ρ') (wo ++ dead.map fun k => (k, .dead)) (ρn.map (·.2)) := by
  intro m w0 w a hw hs ho K Q hk
  obtain ⟨vs, h1, h2⟩ := h m w a hs
  simp only [okRn, Bool.and_eq_true] at hok
  obtain ⟨⟨hok1, hok2⟩, hok3⟩ := hok
  have hρ : ∀ p ∈ ρ, rn ρ p.1 = p.2 ∧ inv ρ p.2 = some p.1 := fun p hp => by
    have := (List.all_eq_true.1 hok1) p hp
    simp only [Bool.and_eq_true, beq_iff_eq] at this
    exact ⟨Nat.eq_of_beq_eq_true this.1, this.2⟩
  show o.upon P a K Q _
  rw [h1]
  have hownP : ∀ b j, (m.pull ρ).own b = some j → ∃ k, m.own b = some k := fun b j hb => by
    simp only [M.pull] at hb
    cases hq : m.own b with
    | none => rw [hq] at hb; cases hb
    | some k => exact ⟨k, rfl⟩
  have hstart : WOK (handed (m.pull ρ) w) (m.pull ρ) w :=
    ⟨BelowX.refl _ _ _, fun b o v _ _ hv => hv, hw.on, fun b id hb => ⟨.inr (by simp [hb]), by obtain ⟨k, hk⟩ := hownP b id hb; exact (hw.own b k hk).2⟩, fun b id hb o => by obtain ⟨k, hk⟩ := hownP b id hb; exact hw.apart b k hk o⟩
  have hobj : ∀ id d, look os id = some d → d.holds (m.pull ρ) w.heap.size w id := fun id d hd => by
    have hid : (ρ.map (·.1)).contains id = true := (List.all_eq_true.1 hks) id (by simp [keys]; exact ⟨d, look_mem hd⟩)
    obtain ⟨p, hp, rfl⟩ := List.mem_map.1 (mem_of_contains hid)
    obtain ⟨e1, e2⟩ := hρ p hp
    refine ODesc.holds_pull (B := w0.heap.size) (by rw [e1]; exact e2) d ?_
    have hm : (rn ρ p.1, d.ren ρ) ∈ os.map fun q => (rn ρ q.1, q.2.ren ρ) := List.mem_map.2 ⟨(p.1, d), look_mem hd, rfl⟩
    exact ho _ (look_mem (hro.mem _ hm))
  refine (hF.run (m.pull ρ) w vs hstart (Desc.holdsL_pull ds vs h2) hobj).mono fun e w' he => ?_
  obtain ⟨v, m', rfl, hw', hr, hos2, hkp⟩ := he
  -- behind the call
  have hbrw : ∀ b, (handed (m.pull ρ) w).brw b = false → (m.pull ρ).own b = none := fun b hb => by
    cases hq : (m.pull ρ).own b with
    | none => rfl
    | some k => simp [handed, hq] at hb
  have hbrw2 : ∀ b, (m.pull ρ).own b = none → (handed (m.pull ρ) w).brw b = false := fun b hb => by simp [handed, hb]
  have hpl : m'.ph.le (m.back m' w ρ ρ' ρn).ph := by
    intro b o v hv
    simp only [M.back]
    by_cases hc : b < w.heap.size ∧ (m.pull ρ).own b = none
    · rw [if_pos hc]; exact hw'.old b o v hc.1 (hbrw2 b hc.2) hv
    · rw [if_neg hc]; exact hv
  have hmp : m.ph.le (m.back m' w ρ ρ' ρn).ph := by
    intro b o v hv
    simp only [M.back]
    have hb : b < w.heap.size := World.block_lt_of_cell? _ _ (hw.on b o v hv)
    cases hq : (m.pull ρ).own b with
    | none => rw [if_pos ⟨hb, rfl⟩]; exact hv
    | some k =>
      obtain ⟨k', hk'⟩ := hownP b k hq
      rw [hw.apart b k' hk' o] at hv; cases hv
  have hold : ∀ b, b < w0.heap.size → w0.brw b = false → (m.pull ρ).own b = none := fun b hb hbr => by
    cases hq : (m.pull ρ).own b with
    | none => rfl
    | some k =>
      obtain ⟨k', hk'⟩ := hownP b k hq
      rcases (hw.own b k' hk').1 with h3 | h3
      · omega
      · rw [hbr] at h3; cases h3
  have hsz := hw.below.size
  have hWOK : WOK w0 (m.back m' w ρ ρ' ρn) w' := by
    refine ⟨hw.below.trans ⟨hw'.below.os, hw'.below.tape, hw'.below.output, hw'.below.size, fun k hk hbr => hw'.below.block k (Nat.lt_of_lt_of_le hk hsz) (hbrw2 k (hold k hk hbr))⟩, fun b o v hb hbr hv => ?_, fun b o v hv => ?_, fun b id hb => ?_, fun b id hb o => ?_⟩
    · simp only [M.back] at hv
      rw [if_pos ⟨Nat.lt_of_lt_of_le hb hsz, hold b hb hbr⟩] at hv
      exact hw.old b o v hb hbr hv
    · simp only [M.back] at hv
      by_cases hc : b < w.heap.size ∧ (m.pull ρ).own b = none
      · rw [if_pos hc] at hv
        have := hw.on b o v hv
        rw [← this]
        exact World.cell?_of_block (a := ⟨b, o, none⟩) (hw'.below.block b hc.1 (hbrw2 b hc.2))
      · rw [if_neg hc] at hv; exact hw'.on b o v hv
    · simp only [M.back] at hb
      by_cases hc : b < w.heap.size ∧ (m.pull ρ).own b = none
      · rw [if_pos hc] at hb
        have := hw.own b id hb
        exact ⟨this.1, Nat.lt_of_lt_of_le this.2 hw'.below.size⟩
      · rw [if_neg hc] at hb
        cases hq : m'.own b with
        | none => rw [hq] at hb; cases hb
        | some j =>
          have h3 := hw'.own b j hq
          refine ⟨?_, h3.2⟩
          rcases h3.1 with h4 | h4
          · exact .inl (Nat.le_trans hsz h4)
          · cases hq2 : (m.pull ρ).own b with
            | none => simp [handed, hq2] at h4
            | some k => obtain ⟨k', hk'⟩ := hownP b k hq2; exact (hw.own b k' hk').1
    · simp only [M.back] at hb ⊢
      by_cases hc : b < w.heap.size ∧ (m.pull ρ).own b = none
      · rw [if_pos hc] at hb; rw [if_pos hc]; exact hw.apart b id hb o
      · rw [if_neg hc] at hb; rw [if_neg hc]
        cases hq : m'.own b with
        | none => rw [hq] at hb; cases hb
        | some j => exact hw'.apart b j hq o
  have hinvn : ∀ k, (ρn.map (·.2)).contains k = false → inv ρn k = none := fun k hk => by
    cases hq : inv ρn k with
    | none => rfl
    | some j =>
      have := inv_mem hq
      have : (ρn.map (·.2)).contains k = true := by simp; exact ⟨j, this⟩
      rw [hk] at this; cases this
  have hρ' : ∀ j, (ρ'.map (·.1)).contains j = true → (m.back m' w ρ ρ' ρn).blk (rn ρ' j) = m'.blk j ∧ (m.back m' w ρ ρ' ρn).sv (rn ρ' j) = m'.sv j := fun j hj => by
    obtain ⟨p, hp, rfl⟩ := List.mem_map.1 (mem_of_contains hj)
    have := (List.all_eq_true.1 hok2) p hp
    simp only [Bool.and_eq_true] at this
    obtain ⟨e1, e2⟩ := this
    have e1' := Nat.eq_of_beq_eq_true e1
    rw [e1']
    cases hc : kp.contains p.1 with
    | true =>
      rw [hc] at e2
      simp only [if_true, Bool.and_eq_true, beq_iff_eq] at e2
      obtain ⟨h5, h6⟩ := hkp p.1 hc
      have e3 := Nat.eq_of_beq_eq_true e2.1
      simp only [M.back, e2.2]
      rw [h5, h6]
      simp only [M.pull, e3]
      exact ⟨trivial, trivial⟩
    | false =>
      rw [hc] at e2
      simp only [Bool.false_eq_true, if_false, beq_iff_eq] at e2
      simp only [M.back, e2]
      exact ⟨trivial, trivial⟩
  have hT : Tells (ρ'.map (·.1)) ρ' m' (m.back m' w ρ ρ' ρn) := ⟨hpl, fun id hid => (hρ' id hid).1, fun id hid => (hρ' id hid).2⟩
  have hkw : ∀ k, (keys (wo ++ dead.map fun k => ((k, .dead) : Nat × ODesc))).contains k = false → (keys wo).contains k = false ∧ dead.contains k = false := fun k hk => by
    simp [keys] at hk ⊢
    exact hk
  refine hk v w' (m.back m' w ρ ρ' ρn) hWOK ⟨⟨hmp, fun id hid => ?_, fun id hid => ?_⟩, fun b id hb hid => ?_, fun id hid => ?_⟩ (Desc.holds_tell hT r v hr' hr) fun id e he => ?_
  · simp only [M.back, hinvn id hid]
  · simp only [M.back, hinvn id hid]
  · obtain ⟨h3, h4⟩ := hkw id hid
    have hnone : (m.pull ρ).own b = none := by
      simp only [M.pull, hb]
      cases hq : inv ρ id with
      | none => rfl
      | some j =>
        have h5 := (List.all_eq_true.1 hdead) id (List.mem_map.2 ⟨(j, id), inv_mem hq, rfl⟩)
        rw [h3, h4] at h5; cases h5
    have hlt := (hw.own b id hb).2
    refine ⟨hw'.below.block b hlt (hbrw2 b hnone), ?_⟩
    simp only [M.back]
    rw [if_pos ⟨hlt, hnone⟩]; exact hb
  · obtain ⟨h3, h4⟩ := hkw id hid
    cases hq : (ρn.map (·.2)).contains id with
    | false => rfl
    | true =>
      obtain ⟨p, hp, rfl⟩ := List.mem_map.1 (mem_of_contains hq)
      have h5 := (List.all_eq_true.1 hok3) p hp
      have h6 := (List.all_eq_true.1 hall) p.2 (by simpa using h5)
      rw [h3] at h6; cases h6
  · rw [look_append] at he
    cases hq : look wo id with
    | none =>
      rw [hq] at he
      simp only [Option.none_or] at he
      have := look_mem he
      simp only [List.mem_map, Prod.mk.injEq] at this
      obtain ⟨k, _, _, rfl⟩ := this
      trivial
    | some d' =>
      rw [hq] at he
      simp only [Option.some_or, Option.some.injEq] at he
      subst he
      have hmem := look_mem hq
      subst hwo
      obtain ⟨p, hp, hpe⟩ := List.mem_map.1 hmem
      simp only [Prod.mk.injEq] at hpe
      obtain ⟨rfl, rfl⟩ := hpe
      have hw2 := (List.all_eq_true.1 hos') p hp
      simp only [Bool.and_eq_true] at hw2
      refine ODesc.holds_tell hT hw2.1 (fun b hb => ?_) p.2 hw2.2 (hos2 p hp)
      have h3 := hw'.own b p.1 hb
      have hnc : ¬ (b < w.heap.size ∧ (m.pull ρ).own b = none) := by
        rintro ⟨h4, h5⟩
        rcases h3.1 with h6 | h6
        · exact absurd h4 (Nat.not_lt.2 h6)
        · rw [hbrw2 b h5] at h6; cases h6
      simp only [M.back]
      rw [if_neg hnc, hb]
      simp only [hw2.1, if_true]
end
end Go.Gx
