/- The small logic, twelfth part: equality of structs, of truth values and of bytes. Nothing here is about one program. -/
import Derived.Test.YtkmokkhcoombnaaGxB
import Derived.Laws.StructEq
namespace Go.Gx
open Go.RowKit Sp
set_option linter.unusedVariables false
set_option linter.unusedSimpArgs false
section
variable {P : Program}

theorem run_part {T : TypeId} {γ : Type} [GoTy γ] (hty : Ty P T γ) (vs : List Value) (off : Nat) (w : World) (hlen : ((vs.drop off).take (GoTy.sz γ)).length = GoTy.sz γ) :
    (part T vs.toArray off).run P w = .ok (mkVal (GoTy.agg γ) ((vs.drop off).take (GoTy.sz γ))) w := by
  simp only [part, Sem.run_bind, hty.isAgg w, hty.sizeOf w, Result.andThen_ok]
  cases ha : GoTy.agg γ with
  | true =>
    simp [mkVal, hty.sizeOf w, List.take_drop, Nat.add_comm]
  | false =>
    have h4 := GoTy.single (α := γ) ha
    rw [h4] at hlen ⊢
    match hq : (vs.drop off).take 1, hlen with
    | [v], _ =>
      have : vs[off]? = some v := by
        have := congrArg (·[0]?) hq
        simpa [List.getElem?_take, List.getElem?_drop] using this
      simp [mkVal, this]
    | [], hlen => simp at hlen
    | _ :: _ :: _, hlen => simp at hlen

/-- equality at a type, looked at no deeper than n -/
structure EqT (P : Program) (T : TypeId) (α : Type) [GoTy α] (n : Nat) : Prop where
  ty : Ty P T α
  run : ∀ (d : Nat) (ph : PH) (x y : α) (vs us : List Value) (w : World), GoTy.rep ph x vs → GoTy.rep ph y us →
    ∃ b : Bool, (Op.equalIn (d + n) T (mkVal (GoTy.agg α) vs) (mkVal (GoTy.agg α) us)).run P w = .ok b w ∧ (b = true ↔ x = y)

theorem EqT.up {T : TypeId} {α : Type} [GoTy α] {n : Nat} (h : EqT P T α n) : EqT P T α (n + 1) :=
  ⟨h.ty, fun d ph x y vs us w hx hy => by rw [show d + (n + 1) = (d + 1) + n from by omega]; exact h.run (d + 1) ph x y vs us w hx hy⟩

theorem EqT.int {T : TypeId} (h : Ty P T Int) (hu : P.underlying T = some (.int .i64)) : EqT P T Int 1 :=
  ⟨h, fun d ph x y vs us w hx hy => by
    obtain ⟨rfl, _⟩ := hx
    obtain ⟨rfl, _⟩ := hy
    exact ⟨_, run_equalIn_int w d T .i64 .i64 x y hu, by simp⟩⟩
theorem EqT.bool {T : TypeId} (h : Ty P T Bool) (hu : P.underlying T = some .bool) : EqT P T Bool 1 :=
  ⟨h, fun d ph x y vs us w hx hy => by
    obtain rfl : vs = [.bool x] := hx
    obtain rfl : us = [.bool y] := hy
    exact ⟨_, run_equalIn_bool w d T x y hu, by simp⟩⟩

/-- equality of what stands in a row, from a place on -/
def EqRow (P : Program) (n : Nat) (fs : List Field) (off : Nat) (α : Type) [GoTy α] : Prop :=
  ∀ (d : Nat) (ph : PH) (xs ys : List Value) (x y : α) (w : World), GoTy.rep ph x ((xs.drop off).take (GoTy.sz α)) → GoTy.rep ph y ((ys.drop off).take (GoTy.sz α)) →
    ∃ b : Bool, (Op.eqFields (d + n) xs.toArray ys.toArray fs).run P w = .ok b w ∧ (b = true ↔ x = y)

theorem run_field_eq {n off : Nat} {f : Field} {α : Type} [GoTy α] (ho : f.offset = off) (h : EqT P f.type α n) (d : Nat) (ph : PH) (xs ys : List Value) (x y : α) (w : World)
    (hx : GoTy.rep ph x ((xs.drop off).take (GoTy.sz α))) (hy : GoTy.rep ph y ((ys.drop off).take (GoTy.sz α))) (k : Bool → Sem Bool) :
    ∃ b : Bool, (b = true ↔ x = y) ∧ (do let a ← part f.type xs.toArray f.offset; let c ← part f.type ys.toArray f.offset; let r ← Op.equalIn (d + n) f.type a c; k r : Sem Bool).run P w = (k b).run P w := by
  obtain ⟨b, h1, h2⟩ := h.run d ph x y _ _ w hx hy
  refine ⟨b, h2, ?_⟩
  subst ho
  simp only [Sem.run_bind, run_part h.ty xs _ w (GoTy.len hx), run_part h.ty ys _ w (GoTy.len hy), Result.andThen_ok, h1]

theorem EqRow.one {n off : Nat} {f : Field} {α : Type} [GoTy α] (ho : f.offset = off) (hn : f.name ≠ "_") (h : EqT P f.type α n) : EqRow P n [f] off α := by
  intro d ph xs ys x y w hx hy
  obtain ⟨b, h1, h2⟩ := run_field_eq ho h d ph xs ys x y w hx hy (fun r => if (!r) = true then pure false else Op.eqFields (d + n) xs.toArray ys.toArray [])
  refine ⟨b, ?_, h1⟩
  rw [Op.eqFields, if_pos hn, h2]
  cases b <;> simp [Op.eqFields]

theorem EqRow.cons {n off : Nat} {f : Field} {fs : List Field} {α β : Type} [GoTy α] [GoTy β] (ho : f.offset = off) (hn : f.name ≠ "_") (h : EqT P f.type α n) (hr : EqRow P n fs (off + GoTy.sz α) β) : EqRow P n (f :: fs) off (α × β) := by
  intro d ph xs ys x y w hx hy
  obtain ⟨as, bs, e1, a1, a2⟩ := hx
  obtain ⟨cs, ds, e2, c1, c2⟩ := hy
  have sp : ∀ (zs : List Value) (ps qs : List Value), (zs.drop off).take (GoTy.sz (α × β)) = ps ++ qs → ps.length = GoTy.sz α → qs.length = GoTy.sz β →
      ps = (zs.drop off).take (GoTy.sz α) ∧ qs = (zs.drop (off + GoTy.sz α)).take (GoTy.sz β) := by
    intro zs ps qs e l1 l2
    have hs : GoTy.sz (α × β) = GoTy.sz α + GoTy.sz β := rfl
    have t1 := congrArg (List.take (GoTy.sz α)) e
    have t2 := congrArg (List.drop (GoTy.sz α)) e
    rw [List.take_take, List.take_append_of_le_length (by omega), ← l1, List.take_length, l1, Nat.min_eq_left (by omega)] at t1
    rw [List.drop_take, List.drop_append_of_le_length (by omega), ← l1, List.drop_length, l1, List.drop_drop, List.nil_append, hs, Nat.add_sub_cancel_left] at t2
    exact ⟨t1.symm, t2.symm⟩
  obtain ⟨p1, p2⟩ := sp xs as bs e1 (GoTy.len a1) (GoTy.len a2)
  obtain ⟨q1, q2⟩ := sp ys cs ds e2 (GoTy.len c1) (GoTy.len c2)
  rw [p1] at a1; rw [p2] at a2; rw [q1] at c1; rw [q2] at c2
  obtain ⟨b, h1, h2⟩ := run_field_eq ho h d ph xs ys x.1 y.1 w a1 c1 (fun r => if (!r) = true then pure false else Op.eqFields (d + n) xs.toArray ys.toArray fs)
  rw [Op.eqFields, if_pos hn, h2]
  cases b with
  | false => exact ⟨false, by simp, by simp; intro e; exact absurd (h1.2 (by rw [e])) (by simp)⟩
  | true =>
    obtain ⟨c, h3, h4⟩ := hr d ph xs ys x.2 y.2 w a2 c2
    refine ⟨c, by simpa using h3, h4.trans ?_⟩
    have := h1.1 rfl
    constructor
    · intro e; exact Prod.ext this e
    · intro e; rw [e]

theorem EqT.struct {T : TypeId} {α β : Type} [GoTy α] [GoTy β] {n : Nat} {fs : Array Field} (h : Ty P T α) (f : α → β) (hf : ∀ x y, f x = f y → x = y) (hrep : ∀ ph x vs, GoTy.rep (α := α) ph x vs → GoTy.rep ph (f x) vs)
    (hagg : GoTy.agg α = true) (hu : P.underlying T = some (.struct fs)) (hp : P.stoodInHeld T = false) (hr : EqRow P n fs.toList 0 β) : EqT P T α (n + 1) :=
  ⟨h, fun d ph x y vs us w hx hy => by
    have hfs : P.fieldsOf T = fs := by simp [Program.fieldsOf, hu]
    have hx' := hrep ph x vs hx
    have hy' := hrep ph y us hy
    obtain ⟨b, h1, h2⟩ := hr d ph vs us (f x) (f y) w (by simpa [← GoTy.len hx'] using hx') (by simpa [← GoTy.len hy'] using hy')
    refine ⟨b, ?_, h2.trans ⟨hf x y, fun e => by rw [e]⟩⟩
    rw [hagg]
    show (Op.equalIn (d + n + 1) T (.agg vs.toArray) (.agg us.toArray)).run P w = _
    rw [run_equalIn_struct w (d + n) T _ _ (by rw [hfs]; exact hu) hp, hfs]
    exact h1⟩

section op
variable {x y : Operand} {lx ly : List (Nat × Desc)} {T T' : TypeId} {dst : Option Tmp} {ty : TypeId} {pos : String} {af : Array Edge} {g : Option (Nat × Bool)}
theorem ox_eqlS {α : Type} [GoTy α] [DecidableEq α] {p q : α} (h : EqT P T α 10000) (hagg : GoTy.agg α = true) (hm : P.eqGuardType P.depth T = false) (hx : OpdOk x (.val p) lx) (hy : OpdOk y (.val q) ly) :
    OpX P ⟨dst, .binOp .eql T x y T', ty, pos, af, g⟩ (lx ++ ly) [] (.val (decide (p = q))) [] [] :=
  OpX.pure fun m w0 w a hw hs ho => by
    obtain ⟨vs, h1, e1⟩ := opd_l hx hs
    obtain ⟨us, h2, e2⟩ := opd_r hy hs
    obtain ⟨b, h3, h4⟩ := h.run 0 m.ph p q vs us w h1 h2
    rw [hagg] at e1 e2 h3
    have hb : b = decide (p = q) := by rw [Bool.eq_iff_iff, h4]; simp
    refine ⟨.bool (decide (p = q)), ?_, bool_holds m _⟩
    have e3 : a.eval x = .agg vs.toArray := e1
    have e4 : a.eval y = .agg us.toArray := e2
    have h3' : (Op.equalIn 10000 T (.agg vs.toArray) (.agg us.toArray)).run P w = .ok b w := by simpa [mkVal] using h3
    simp only [execOp, e3, e4, Sem.run_bind, run_eqGuard_agg w .eql T x y _ _ hm, Result.andThen_ok, run_eql_struct, h3', Sem.run_pure, hb]
theorem ox_neqS {α : Type} [GoTy α] [DecidableEq α] {p q : α} (h : EqT P T α 10000) (hagg : GoTy.agg α = true) (hm : P.eqGuardType P.depth T = false) (hx : OpdOk x (.val p) lx) (hy : OpdOk y (.val q) ly) :
    OpX P ⟨dst, .binOp .neq T x y T', ty, pos, af, g⟩ (lx ++ ly) [] (.val (!decide (p = q))) [] [] :=
  OpX.pure fun m w0 w a hw hs ho => by
    obtain ⟨vs, h1, e1⟩ := opd_l hx hs
    obtain ⟨us, h2, e2⟩ := opd_r hy hs
    obtain ⟨b, h3, h4⟩ := h.run 0 m.ph p q vs us w h1 h2
    rw [hagg] at e1 e2 h3
    have hb : b = decide (p = q) := by rw [Bool.eq_iff_iff, h4]; simp
    refine ⟨.bool (!decide (p = q)), ?_, bool_holds m _⟩
    have e3 : a.eval x = .agg vs.toArray := e1
    have e4 : a.eval y = .agg us.toArray := e2
    have h3' : (Op.equalIn 10000 T (.agg vs.toArray) (.agg us.toArray)).run P w = .ok b w := by simpa [mkVal] using h3
    simp only [execOp, e3, e4, Sem.run_bind, run_eqGuard_agg w .neq T x y _ _ hm, Result.andThen_ok, run_neq_struct, h3', Sem.run_pure, hb]
end op
theorem EqT.ups {T : TypeId} {α : Type} [GoTy α] {n : Nat} (h : EqT P T α n) : ∀ k, EqT P T α (n + k)
  | 0 => h
  | k + 1 => (EqT.ups h k).up
/-- what the equality of two structs wants -/
structure EqS (P : Program) (T : TypeId) (α : Type) [GoTy α] : Prop where
  eq : EqT P T α 10000
  agg : GoTy.agg α = true
  guard : P.eqGuardType P.depth T = false
section op
variable {x y : Operand} {lx ly : List (Nat × Desc)} {T T' : TypeId} {dst : Option Tmp} {ty : TypeId} {pos : String} {af : Array Edge} {g : Option (Nat × Bool)}
theorem ox_eqlT {α : Type} [GoTy α] [DecidableEq α] {p q : α} (h : EqS P T α) (hx : OpdOk x (.val p) lx) (hy : OpdOk y (.val q) ly) :
    OpX P ⟨dst, .binOp .eql T x y T', ty, pos, af, g⟩ (lx ++ ly) [] (.val (decide (p = q))) [] [] := ox_eqlS h.eq h.agg h.guard hx hy
theorem ox_neqT {α : Type} [GoTy α] [DecidableEq α] {p q : α} (h : EqS P T α) (hx : OpdOk x (.val p) lx) (hy : OpdOk y (.val q) ly) :
    OpX P ⟨dst, .binOp .neq T x y T', ty, pos, af, g⟩ (lx ++ ly) [] (.val (!decide (p = q))) [] [] := ox_neqS h.eq h.agg h.guard hx hy
theorem ox_eqlB {p q : Bool} (hu : P.underlying T = some .bool) (hx : OpdOk x (.val p) lx) (hy : OpdOk y (.val q) ly) :
    OpX P ⟨dst, .binOp .eql T x y T', ty, pos, af, g⟩ (lx ++ ly) [] (.val (decide (p = q))) [] [] :=
  OpX.pure fun m w0 w a hw hs ho => by
    have e1 := holds_bool (opd_l hx hs)
    have e2 := holds_bool (opd_r hy hs)
    refine ⟨.bool (decide (p = q)), ?_, bool_holds m _⟩
    simp [execOp, e1, e2, eqGuard, binOp, run_equal_bool w T p q hu]
    cases p <;> cases q <;> rfl
theorem ox_neqB {p q : Bool} (hu : P.underlying T = some .bool) (hx : OpdOk x (.val p) lx) (hy : OpdOk y (.val q) ly) :
    OpX P ⟨dst, .binOp .neq T x y T', ty, pos, af, g⟩ (lx ++ ly) [] (.val (!decide (p = q))) [] [] :=
  OpX.pure fun m w0 w a hw hs ho => by
    have e1 := holds_bool (opd_l hx hs)
    have e2 := holds_bool (opd_r hy hs)
    refine ⟨.bool (!decide (p = q)), ?_, bool_holds m _⟩
    simp [execOp, e1, e2, eqGuard, binOp, run_equal_bool w T p q hu]
    cases p <;> cases q <;> rfl
end op
end
end Go.Gx
