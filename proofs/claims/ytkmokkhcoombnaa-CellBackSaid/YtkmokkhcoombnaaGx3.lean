/- The small logic, third part: operations as steps; guards; regions that draw their order. Nothing here is about one program. -/
import Derived.Test.YtkmokkhcoombnaaGx2
namespace Go.Gx
open Go.RowKit
set_option linter.unusedVariables false

section
variable {P : Program} {ops : Array Oper}

/-- an operation by itself: what it reads, what its value is, which objects it leaves -/
def OpX (P : Program) (o : Oper) (rs : List (Nat × Desc)) (ro : List (Nat × ODesc)) (d : Desc) (wo : List (Nat × ODesc)) (fr : List Nat) : Prop :=
  ∀ (m : M) (w0 : B0) (w : World) (a : Act), WOK w0 m w → (∀ p ∈ rs, p.2.holds m (a.tmps.getD p.1 undef)) → (∀ p ∈ ro, p.2.holds m w0.heap.size w p.1) →
    ∀ (K : Act → World → Prop) (Q : Exit → Act → World → Prop),
      (∀ v w' m', WOK w0 m' w' → Chg fr (keys wo) m w m' w' → d.holds m' v → (∀ id e, look wo id = some e → e.holds m' w0.heap.size w' id) → K (a.put o.dst v) w') → o.wp P a w K Q

theorem frees {fr : List Nat} {σ : St} {wr : Wr} (h : fresh σ wr = true) (hf : wr.fr = fr) : True := trivial

theorem Step.put {o : Oper} {t : Nat} {rs : List (Nat × Desc)} {ro : List (Nat × ODesc)} {d : Desc} {wo : List (Nat × ODesc)} {fr : List Nat} (hg : o.guard = none) (hd : o.dst = some t)
    (h : OpX P o rs ro d wo fr) : Step P ops o ⟨rs, ro⟩ ⟨[(t, d)], wo, fr⟩ := by
  intro w0 n σ a w K Q hr hf hn ha hk
  obtain ⟨m, h1, h2, h3, h4, h5⟩ := ha
  unfold opRun
  rw [if_pos (by simp [Region.wanted, hg])]
  refine .inl (h m w0 w a h1 (fun p hp => h4 _ _ (hr.s.mem p hp)) (fun p hp => h5 _ _ (hr.o.mem p hp)) K Q fun v w' m' e1 e2 e3 e4 => hk _ _ ?_)
  have hlt : t < n := by simpa using hn
  refine Holds.step h2 h3 h4 h5 e1 e2 hf (fun u hu => ?_) (fun u e hu => ?_) e4
  · rw [hd] at hu; cases hu; exact ⟨by simp [keys], hlt⟩
  · simp only [look] at hu
    cases hb : Nat.beq t u with
    | true =>
      have : t = u := Nat.eq_of_beq_eq_true hb
      subst this
      simp only [hb, cond_true, Option.some.injEq] at hu
      subst hu
      have : ((a.put o.dst v).tmps.getD t undef) = v := by
        rw [hd]; simp [Act.put, Array.getD_eq_getD_getElem?, h3, hlt]
      rw [this]; exact e3
    | false => simp [hb] at hu

theorem Step.mute {o : Oper} {rs : List (Nat × Desc)} {ro : List (Nat × ODesc)} {d : Desc} {wo : List (Nat × ODesc)} {fr : List Nat} (hg : o.guard = none) (hd : o.dst = none)
    (h : OpX P o rs ro d wo fr) : Step P ops o ⟨rs, ro⟩ ⟨[], wo, fr⟩ := by
  intro w0 n σ a w K Q hr hf hn ha hk
  obtain ⟨m, h1, h2, h3, h4, h5⟩ := ha
  unfold opRun
  rw [if_pos (by simp [Region.wanted, hg])]
  refine .inl (h m w0 w a h1 (fun p hp => h4 _ _ (hr.s.mem p hp)) (fun p hp => h5 _ _ (hr.o.mem p hp)) K Q fun v w' m' e1 e2 e3 e4 => hk _ _ ?_)
  refine Holds.step h2 h3 h4 h5 e1 e2 hf (fun u hu => ?_) (fun u e hu => ?_) e4
  · rw [hd] at hu; cases hu
  · cases hu

/-- under the condition G these slots hold what is asked -/
inductive Gives (G : Prop) : List (Nat × Desc) → List (Nat × Desc) → Prop
  | nil : Gives G [] []
  | plain {t : Nat} {d : Desc} {l l' : List (Nat × Desc)} (h : Gives G l l') : Gives G ((t, d) :: l) ((t, d) :: l')
  | cond {t : Nat} {d : Desc} {p : Prop} {l l' : List (Nat × Desc)} (hp : G → p) (h : Gives G l l') : Gives G ((t, .cond p d) :: l) ((t, d) :: l')
  | part {t : Nat} {d : Desc} {p q : Prop} {l l' : List (Nat × Desc)} (hp : G → p) (h : Gives G l l') : Gives G ((t, .cond (p ∧ q) d) :: l) ((t, .cond q d) :: l')

theorem Gives.reads {G : Prop} {l l' : List (Nat × Desc)} (h : Gives G l l') (hG : G) {m : M} {a : Act} (hl : ∀ p ∈ l, p.2.holds m (a.tmps.getD p.1 undef)) : ∀ p ∈ l', p.2.holds m (a.tmps.getD p.1 undef) := by
  induction h with
  | nil => exact hl
  | plain h ih =>
    intro p hp
    rcases List.mem_cons.1 hp with e | e
    · subst e; exact hl _ (by simp)
    · exact ih (fun q hq => hl q (by simp [hq])) p e
  | cond hp h ih =>
    intro p hq
    rcases List.mem_cons.1 hq with e | e
    · subst e; exact (hl _ (List.mem_cons_self ..)).1 (hp hG)
    · exact ih (fun q hq => hl q (by simp [hq])) p e
  | part hp h ih =>
    intro p hq
    rcases List.mem_cons.1 hq with e | e
    · subst e
      have h0 := hl _ (List.mem_cons_self ..)
      exact ⟨fun hq => h0.1 ⟨hp hG, hq⟩, fun hn => h0.2 fun hpq => hn hpq.2⟩
    · exact ih (fun q hq => hl q (by simp [hq])) p e

/-- a Bool in a slot, maybe under a condition -/
inductive Grd : Desc → Prop → Bool → Prop
  | plain {b : Bool} : Grd (.val b) True b
  | cond {p : Prop} {b : Bool} : Grd (.cond p (.val b)) p b

theorem Act.put_some (a : Act) {t : Nat} (v : Value) (h : t < a.tmps.size) : ((a.put (some t) v).tmps.getD t undef) = v := by
  simp [Act.put, Array.getD_eq_getD_getElem?, h]

theorem Step.guard {o : Oper} {j t tj : Nat} {want b : Bool} {g : Desc} {p : Prop} {rs rs' : List (Nat × Desc)} {ro : List (Nat × ODesc)} {d : Desc} (hgd : o.guard = some (j, want)) (hd : o.dst = some t)
    (hj : (ops[j]?).bind (·.dst) = some tj) (hb : Grd g p b) (G : Prop) (hG : G ↔ (p ∧ b = want)) (hg : Gives G rs' rs) (h : G → OpX P o rs ro d [] []) :
    Step P ops o ⟨(tj, g) :: rs', ro⟩ ⟨[(t, .cond G d)], [], []⟩ := by
  classical
  intro w0 n σ a w K Q hr hf hn ha hk
  obtain ⟨m, h1, h2, h3, h4, h5⟩ := ha
  have hlt : t < n := by simpa using hn
  have hgv := h4 _ _ (hr.s.mem (tj, g) (by simp))
  -- the guard's own answer
  have hy : Region.wanted o (yielded ops a.tmps) = true ↔ G := by
    have hyj : yielded ops a.tmps j = if p then some b else Option.none := by
      unfold yielded
      rw [hj]
      simp only [Option.bind_some]
      have e : a.tmps[tj]? = some (a.tmps.getD tj undef) ∨ (a.tmps[tj]? = Option.none ∧ a.tmps.getD tj undef = undef) := by
        cases hq : a.tmps[tj]? with
        | none => right; exact ⟨rfl, by simp [Array.getD_eq_getD_getElem?, hq]⟩
        | some x => left; simp [Array.getD_eq_getD_getElem?, hq]
      cases hb with
      | plain =>
        obtain ⟨vs, e1, e2⟩ := hgv
        have e1' : vs = [.bool b] := e1
        subst e1'
        have e2' : a.tmps.getD tj undef = .bool b := e2
        rcases e with e | ⟨_, e⟩
        · rw [e, e2']; simp
        · rw [e2'] at e; cases e
      | cond =>
        by_cases hp : p
        · obtain ⟨vs, e1, e2⟩ := hgv.1 hp
          have e1' : vs = [.bool b] := e1
          subst e1'
          have e2' : a.tmps.getD tj undef = .bool b := e2
          rcases e with e | ⟨_, e⟩
          · rw [e, e2']; simp [hp]
          · rw [e2'] at e; cases e
        · have e2 := hgv.2 hp
          rcases e with e | ⟨e, _⟩
          · rw [e, e2]; simp [hp, undef]
          · rw [e]; simp [hp]
    simp only [Region.wanted, hgd, hyj]
    rw [hG]
    by_cases hp : p <;> simp [hp]
  unfold opRun
  by_cases hGt : G
  · rw [if_pos (hy.2 hGt)]
    refine .inl (h hGt m w0 w a h1 (hg.reads hGt fun p hp => h4 _ _ (hr.s.mem p (by simp [hp]))) (fun p hp => h5 _ _ (hr.o.mem p hp)) K Q fun v w' m' e1 e2 e3 e4 => hk _ _ ?_)
    refine Holds.step h2 h3 h4 h5 e1 e2 hf (fun u hu => ?_) (fun u e hu => ?_) (fun id e hu => by cases hu)
    · rw [hd] at hu; cases hu; exact ⟨by simp [keys], hlt⟩
    · simp only [look] at hu
      cases hb' : Nat.beq t u with
      | true =>
        have : t = u := Nat.eq_of_beq_eq_true hb'
        subst this
        simp only [hb', cond_true, Option.some.injEq] at hu
        subst hu
        rw [hd, Act.put_some a v (by omega)]
        exact ⟨fun _ => e3, fun hn => absurd hGt hn⟩
      | false => simp [hb'] at hu
  · rw [if_neg (fun h => hGt (hy.1 h))]
    refine hk _ _ (Holds.step (m' := m) h2 h3 h4 h5 h1 (Chg.refl _ _ _) hf (fun u hu => ?_) (fun u e hu => ?_) (fun id e hu => by cases hu))
    · rw [hd] at hu; cases hu; exact ⟨by simp [keys], hlt⟩
    · simp only [look] at hu
      cases hb' : Nat.beq t u with
      | true =>
        have : t = u := Nat.eq_of_beq_eq_true hb'
        subst this
        simp only [hb', cond_true, Option.some.injEq] at hu
        subst hu
        rw [hd, Act.put_some a undef (by omega)]
        exact ⟨fun h => absurd h hGt, fun _ => rfl⟩
      | false => simp [hb'] at hu

/-- an operation that turns nothing -/
theorem OpX.pure {o : Oper} {rs : List (Nat × Desc)} {ro : List (Nat × ODesc)} {d : Desc}
    (h : ∀ (m : M) (w0 : B0) (w : World) (a : Act), WOK w0 m w → (∀ p ∈ rs, p.2.holds m (a.tmps.getD p.1 undef)) → (∀ p ∈ ro, p.2.holds m w0.heap.size w p.1) →
      ∃ v, (execOp a.eval o).run P w = .ok (.value v) w ∧ d.holds m v) : OpX P o rs ro d [] [] := by
  intro m w0 w a hw hs ho K Q hk
  obtain ⟨v, h1, h2⟩ := h m w0 w a hw hs ho
  show o.upon P a K Q _
  rw [h1]
  exact hk v w m hw (Chg.refl _ _ _) h2 (fun id e hu => by cases hu)

/-- an operation that turns the world and yields a value -/
theorem OpX.turn {o : Oper} {rs : List (Nat × Desc)} {ro : List (Nat × ODesc)} {d : Desc} {wo : List (Nat × ODesc)} {fr : List Nat}
    (h : ∀ (m : M) (w0 : B0) (w : World) (a : Act), WOK w0 m w → (∀ p ∈ rs, p.2.holds m (a.tmps.getD p.1 undef)) → (∀ p ∈ ro, p.2.holds m w0.heap.size w p.1) →
      ∃ v w' m', ((execOp a.eval o).run P w = .ok (.value v) w' ∨ ((execOp a.eval o).run P w = .ok .skip w' ∧ v = undef)) ∧ WOK w0 m' w' ∧ Chg fr (keys wo) m w m' w' ∧ d.holds m' v ∧ (∀ id e, look wo id = some e → e.holds m' w0.heap.size w' id)) :
    OpX P o rs ro d wo fr := by
  intro m w0 w a hw hs ho K Q hk
  obtain ⟨v, w', m', h1, h2, h3, h4, h5⟩ := h m w0 w a hw hs ho
  show o.upon P a K Q _
  rcases h1 with h1 | ⟨h1, rfl⟩
  · rw [h1]; exact hk v w' m' h2 h3 h4 h5
  · rw [h1]; exact hk undef w' m' h2 h3 h4 h5

/-- an operand -/
def OpdOk (x : Operand) (d : Desc) (l : List (Nat × Desc)) : Prop := ∀ (m : M) (a : Act), (∀ p ∈ l, p.2.holds m (a.tmps.getD p.1 undef)) → d.holds m (a.eval x)
theorem OpdOk.tmp {t : Nat} {d : Desc} : OpdOk (.tmp t) d [(t, d)] := fun m a h => h (t, d) (by simp)
theorem OpdOk.int {n : Int} (h1 : decide (-9223372036854775808 ≤ n) = true := by decide) (h2 : decide (n ≤ 9223372036854775807) = true := by decide) : OpdOk (.const (.int .i64 n)) (.val n) [] :=
  fun m a _ => ⟨_, ⟨rfl, of_decide_eq_true h1, of_decide_eq_true h2⟩, rfl⟩
theorem OpdOk.gi {k : IntKind} {n : Int} (h1 : decide (k.min ≤ n) = true := by decide) (h2 : decide (n ≤ k.max) = true := by decide) : OpdOk (.const (.int k n)) (.val (⟨n⟩ : GI k)) [] :=
  fun m a _ => ⟨_, ⟨rfl, of_decide_eq_true h1, of_decide_eq_true h2⟩, rfl⟩
theorem OpdOk.bool {b : Bool} : OpdOk (.const (.bool b)) (.val b) [] := fun m a _ => ⟨_, rfl, rfl⟩
theorem OpdOk.nilS : OpdOk (.const (.slice none 0 0)) .nilS [] := fun m a _ => rfl
theorem OpdOk.nilL {α : Type} [GoTy α] : OpdOk (.const (.slice none 0 0)) (.val ([] : List α)) [] := fun m a _ => ⟨_, ⟨_, rfl, repS_nil _⟩, rfl⟩
theorem OpdOk.raw {v : Value} : OpdOk (.const v) (.raw v) [] := fun m a _ => rfl
theorem OpdOk.func {f : FuncId} : OpdOk (.func f) (.clo f []) [] := fun m a _ => ⟨[], rfl, rfl⟩
theorem OpdOk.str {s : ByteArray} (h : decide (s.size ≤ 9223372036854775807) = true) : OpdOk (.const (.string s)) (.val s) [] := fun m a _ => ⟨_, ⟨rfl, of_decide_eq_true h⟩, rfl⟩

theorem OpdOk.left {x y : Operand} {d e : Desc} {l l' : List (Nat × Desc)} (h : OpdOk x d l) {m : M} {a : Act} (hl : ∀ p ∈ l ++ l', p.2.holds m (a.tmps.getD p.1 undef)) : d.holds m (a.eval x) :=
  h m a fun p hp => hl p (by simp [hp])

theorem OkL.nil {δ : Type 1} {σ : List (Nat × δ)} : OkL σ [] := trivial
theorem OkL.one {δ : Type 1} {σ : List (Nat × δ)} {t : Nat} {d : δ} (h : look σ t = some d) : OkL σ [(t, d)] := ⟨h, trivial⟩
theorem OkL.cons {δ : Type 1} {σ : List (Nat × δ)} {t : Nat} {d : δ} {l : List (Nat × δ)} (h : look σ t = some d) (k : OkL σ l) : OkL σ ((t, d) :: l) := ⟨h, k⟩
theorem OkL.app {δ : Type 1} {σ : List (Nat × δ)} {l l' : List (Nat × δ)} (h : OkL σ l) (k : OkL σ l') : OkL σ (l ++ l') :=
  OkL.of_mem fun p hp => by rcases List.mem_append.1 hp with e | e; exact h.mem p e; exact k.mem p e

/-! ### moves -/
theorem ox_move {x : Operand} {d : Desc} {l : List (Nat × Desc)} {dst ty pos af g} (h : OpdOk x d l) : OpX P ⟨dst, .move x, ty, pos, af, g⟩ l [] d [] [] :=
  OpX.pure fun m w0 w a hw hs _ => ⟨_, rfl, h m a hs⟩
theorem ox_assign {x : Operand} {d : Desc} {l : List (Nat × Desc)} {dst ty pos af g} (h : OpdOk x d l) : OpX P ⟨dst, .assign x, ty, pos, af, g⟩ l [] d [] [] :=
  OpX.pure fun m w0 w a hw hs _ => ⟨_, rfl, h m a hs⟩
end
end Go.Gx
