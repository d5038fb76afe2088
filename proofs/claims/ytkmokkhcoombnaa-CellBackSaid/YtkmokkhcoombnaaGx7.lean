/- The small logic, seventh part: parts of slices, numbers, tests, new variables, stores, literals. Nothing here is about one program. -/
import Derived.Test.YtkmokkhcoombnaaGx6
namespace Go.Gx
open Go.RowKit
set_option linter.unusedVariables false
set_option linter.unusedSimpArgs false

section
variable {P : Program}

/-! ### parts of slices -/
theorem run_bound (w : World) (i : Int) (y : Nat) (c : BoundsCode) (h0 : 0 ≤ i) (h1 : i ≤ y) : (Instr.sliceBound (.int .i64 i) y c).run P w = .ok i.toNat w := by
  simp [Instr.sliceBound, asIntOf, h0, h1]
/-- an optional bound -/
def OptOk (x : Option Operand) (d : Int) (i : Int) (l : List (Nat × Desc)) : Prop := match x with
  | none => i = d ∧ l = []
  | some x => OpdOk x (.val i) l
theorem OptOk.none {d : Int} : OptOk none d d [] := ⟨rfl, rfl⟩
theorem OptOk.some {x : Operand} {d i : Int} {l : List (Nat × Desc)} (h : OpdOk x (.val i) l) : OptOk (some x) d i l := h

theorem ox_slice {T E : Nat} {x : Operand} {lo hi : Option Operand} {lx ll lh : List (Nat × Desc)} {α : Type} [GoTy α] {l : List α} {i j : Int} {dst ty pos af g} (h : slB P T E (GoTy.sz α) = true)
    (hx : OpdOk x (.val l) lx) (hlo : OptOk lo 0 i ll) (hhi : OptOk hi l.length j lh) (h0 : 0 ≤ i) (h1 : i ≤ j) (h2 : j ≤ l.length) :
    OpX P ⟨dst, .slice T x lo hi none, ty, pos, af, g⟩ (lx ++ (ll ++ lh)) [] (.val ((l.drop i.toNat).take (j.toNat - i.toNat))) [] [] := by
  refine OpX.pure fun m w0 w a hw hs ho => ?_
  have hr := holds_list (opd_l hx hs)
  have hr' := hr
  obtain ⟨ad, c, cs, e1, h4, h5, h6, h7, h8⟩ := hr'
  rw [e1] at hr
  have hlo' : (lo.map a.eval = .none ∧ i = 0) ∨ lo.map a.eval = .some (.int .i64 i) := by
    cases lo with
    | none => exact .inl ⟨rfl, hlo.1⟩
    | some y => exact .inr (by simp [(holds_int (hlo m a (fun p hp => hs p (by simp [hp])))).1])
  have hhi' : (hi.map a.eval = .none ∧ j = l.length) ∨ hi.map a.eval = .some (.int .i64 j) := by
    cases hi with
    | none => exact .inl ⟨rfl, hhi.1⟩
    | some y => exact .inr (by simp [(holds_int (hhi m a (fun p hp => hs p (by simp [hp])))).1])
  have hp := hr.part i.toNat j.toNat (by omega) (by omega)
  refine ⟨.slice (if c = i.toNat then ad else ad.map (·.add (i.toNat * GoTy.sz α))) (j.toNat - i.toNat) (c - i.toNat), ?_, list_holds hp⟩
  have hb : (Instr.sliceBounds true l.length c (lo.map a.eval) (hi.map a.eval) none).run P w = .ok (i.toNat, j.toNat, c) w := by
    rcases hlo' with ⟨e3, e4⟩ | e3 <;> rcases hhi' with ⟨e5, e6⟩ | e5
    · subst e4; subst e6; rw [e3, e5]; simp [Instr.sliceBounds]
    · subst e4; rw [e3, e5]; simp [Instr.sliceBounds, run_bound w j c _ (by omega) (by omega)]
    · subst e6; rw [e3, e5]; simp [Instr.sliceBounds, run_bound w i l.length _ h0 (by omega)]
    · rw [e3, e5]; simp [Instr.sliceBounds, run_bound w j c _ (by omega) (by omega), run_bound w i j.toNat _ h0 (by omega)]
  simp [execOp, e1, Instr.sliceAt, Instr.slice, run_underlying (slB_inv h).1, hb, slB_size h]

/-! ### numbers -/
theorem wrap_in {x : Int} (h : I64 x) : IntKind.i64.wrap x = x := IntWalk.i64_in _ h
theorem i64_wrap (x : Int) : I64 (IntKind.i64.wrap x) := by
  rw [IntKind.wrap_i64]; unfold I64; omega

section bin
variable {x y : Operand} {lx ly : List (Nat × Desc)} {p q : Int} {T T' : TypeId} {dst : Option Tmp} {ty : TypeId} {pos : String} {af : Array Edge} {g : Option (Nat × Bool)}
theorem run_int2 {op : BinOp} {a : Act} {m : M} {w : World} (hx : OpdOk x (.val p) lx) (hy : OpdOk y (.val q) ly) (hs : ∀ r ∈ lx ++ ly, r.2.holds m (a.tmps.getD r.1 undef))
    {v : Value} (hr : (binOp op T (.int .i64 p) (.int .i64 q)).run P w = .ok v w) : (execOp a.eval ⟨dst, .binOp op T x y T', ty, pos, af, g⟩).run P w = .ok (.value v) w := by
  have e1 := (holds_int (opd_l hx hs)).1
  have e2 := (holds_int (opd_r hy hs)).1
  have e3 : (eqGuard op T x y (.int .i64 p) (.int .i64 q)).run P w = .ok () w := by unfold eqGuard; cases op <;> rfl
  simp [execOp, e1, e2, e3, hr]
theorem ox_add (hx : OpdOk x (.val p) lx) (hy : OpdOk y (.val q) ly) (h : I64 (p + q)) : OpX P ⟨dst, .binOp .add T x y T', ty, pos, af, g⟩ (lx ++ ly) [] (.val (p + q)) [] [] :=
  OpX.pure fun m w0 w a hw hs ho => ⟨_, run_int2 hx hy hs (v := .int .i64 (p + q)) (by simp [binOp, Op.intArith, wrap_in h]), int_holds m h⟩
theorem ox_sub (hx : OpdOk x (.val p) lx) (hy : OpdOk y (.val q) ly) (h : I64 (p - q)) : OpX P ⟨dst, .binOp .sub T x y T', ty, pos, af, g⟩ (lx ++ ly) [] (.val (p - q)) [] [] :=
  OpX.pure fun m w0 w a hw hs ho => ⟨_, run_int2 hx hy hs (v := .int .i64 (p - q)) (by simp [binOp, Op.intArith, wrap_in h]), int_holds m h⟩
theorem ox_mul (hx : OpdOk x (.val p) lx) (hy : OpdOk y (.val q) ly) (h : I64 (p * q)) : OpX P ⟨dst, .binOp .mul T x y T', ty, pos, af, g⟩ (lx ++ ly) [] (.val (p * q)) [] [] :=
  OpX.pure fun m w0 w a hw hs ho => ⟨_, run_int2 hx hy hs (v := .int .i64 (p * q)) (by simp [binOp, Op.intArith, wrap_in h]), int_holds m h⟩
theorem ox_addw (hx : OpdOk x (.val p) lx) (hy : OpdOk y (.val q) ly) : OpX P ⟨dst, .binOp .add T x y T', ty, pos, af, g⟩ (lx ++ ly) [] (.val (IntKind.i64.wrap (p + q))) [] [] :=
  OpX.pure fun m w0 w a hw hs ho => ⟨_, run_int2 hx hy hs (v := .int .i64 (IntKind.i64.wrap (p + q))) (by simp [binOp, Op.intArith]), int_holds m (i64_wrap _)⟩
theorem ox_mulw (hx : OpdOk x (.val p) lx) (hy : OpdOk y (.val q) ly) : OpX P ⟨dst, .binOp .mul T x y T', ty, pos, af, g⟩ (lx ++ ly) [] (.val (IntKind.i64.wrap (p * q))) [] [] :=
  OpX.pure fun m w0 w a hw hs ho => ⟨_, run_int2 hx hy hs (v := .int .i64 (IntKind.i64.wrap (p * q))) (by simp [binOp, Op.intArith]), int_holds m (i64_wrap _)⟩
theorem ox_lss (hx : OpdOk x (.val p) lx) (hy : OpdOk y (.val q) ly) : OpX P ⟨dst, .binOp .lss T x y T', ty, pos, af, g⟩ (lx ++ ly) [] (.val (decide (p < q))) [] [] :=
  OpX.pure fun m w0 w a hw hs ho => ⟨_, run_int2 hx hy hs (v := .bool (decide (p < q))) (by simp [binOp, Op.intCmp]), bool_holds m _⟩
theorem ox_leq (hx : OpdOk x (.val p) lx) (hy : OpdOk y (.val q) ly) : OpX P ⟨dst, .binOp .leq T x y T', ty, pos, af, g⟩ (lx ++ ly) [] (.val (decide (p ≤ q))) [] [] :=
  OpX.pure fun m w0 w a hw hs ho => ⟨_, run_int2 hx hy hs (v := .bool (decide (p ≤ q))) (by simp [binOp, Op.intCmp]), bool_holds m _⟩
theorem ox_gtr (hx : OpdOk x (.val p) lx) (hy : OpdOk y (.val q) ly) : OpX P ⟨dst, .binOp .gtr T x y T', ty, pos, af, g⟩ (lx ++ ly) [] (.val (decide (q < p))) [] [] :=
  OpX.pure fun m w0 w a hw hs ho => ⟨_, run_int2 hx hy hs (v := .bool (decide (q < p))) (by simp [binOp, Op.intCmp]), bool_holds m _⟩
theorem ox_geq (hx : OpdOk x (.val p) lx) (hy : OpdOk y (.val q) ly) : OpX P ⟨dst, .binOp .geq T x y T', ty, pos, af, g⟩ (lx ++ ly) [] (.val (decide (q ≤ p))) [] [] :=
  OpX.pure fun m w0 w a hw hs ho => ⟨_, run_int2 hx hy hs (v := .bool (decide (q ≤ p))) (by simp [binOp, Op.intCmp]), bool_holds m _⟩
theorem ox_eql (hx : OpdOk x (.val p) lx) (hy : OpdOk y (.val q) ly) : OpX P ⟨dst, .binOp .eql T x y T', ty, pos, af, g⟩ (lx ++ ly) [] (.val (decide (p = q))) [] [] :=
  OpX.pure fun m w0 w a hw hs ho => ⟨_, run_int2 hx hy hs (v := .bool (decide (p = q))) (by simp [binOp, Op.intCmp]; rfl), bool_holds m _⟩
theorem ox_neq (hx : OpdOk x (.val p) lx) (hy : OpdOk y (.val q) ly) : OpX P ⟨dst, .binOp .neq T x y T', ty, pos, af, g⟩ (lx ++ ly) [] (.val (!decide (p = q))) [] [] :=
  OpX.pure fun m w0 w a hw hs ho => ⟨_, run_int2 hx hy hs (v := .bool (!decide (p = q))) (by simp [binOp, Op.intCmp]; rfl), bool_holds m _⟩
end bin

/-! ### tests -/
theorem ox_not {x : Operand} {lx : List (Nat × Desc)} {b : Bool} {T : TypeId} {dst ty pos af g} (hx : OpdOk x (.val b) lx) : OpX P ⟨dst, .unOp .not T x, ty, pos, af, g⟩ lx [] (.val (!b)) [] [] := by
  refine OpX.pure fun m w0 w a hw hs ho => ⟨.bool (!b), ?_, bool_holds m _⟩
  have e1 := holds_bool (hx m a hs)
  simp [execOp, e1, Op.unary]
theorem ox_pick_and {c t : Nat} {b1 b2 : Bool} {dst ty pos af g} :
    OpX P ⟨dst, .pick (.tmp c) (.tmp t) (.const (.bool false)), ty, pos, af, g⟩ [(c, .val b1), (t, .cond (b1 = true) (.val b2))] [] (.val (b1 && b2)) [] [] := by
  refine OpX.pure fun m w0 w a hw hs ho => ?_
  have e1 : a.eval (.tmp c) = .bool b1 := holds_bool (hs (c, .val b1) (by simp))
  have h2 := hs (t, .cond (b1 = true) (.val b2)) (by simp)
  refine ⟨.bool (b1 && b2), ?_, bool_holds m _⟩
  cases b1 with
  | true =>
    have e2 : a.eval (.tmp t) = .bool b2 := holds_bool (h2.1 rfl)
    simp [execOp, e1, asBool, e2]
  | false =>
    have e3 : a.eval (.const (.bool false)) = .bool false := rfl
    simp [execOp, e1, asBool, e3]
theorem ox_pick_or {c t : Nat} {b1 b2 : Bool} {dst ty pos af g} :
    OpX P ⟨dst, .pick (.tmp c) (.const (.bool true)) (.tmp t), ty, pos, af, g⟩ [(c, .val b1), (t, .cond (b1 = false) (.val b2))] [] (.val (b1 || b2)) [] [] := by
  refine OpX.pure fun m w0 w a hw hs ho => ?_
  have e1 : a.eval (.tmp c) = .bool b1 := holds_bool (hs (c, .val b1) (by simp))
  have h2 := hs (t, .cond (b1 = false) (.val b2)) (by simp)
  refine ⟨.bool (b1 || b2), ?_, bool_holds m _⟩
  cases b1 with
  | false =>
    have e2 : a.eval (.tmp t) = .bool b2 := holds_bool (h2.1 rfl)
    simp [execOp, e1, asBool, e2]
  | true =>
    have e3 : a.eval (.const (.bool true)) = .bool true := rfl
    simp [execOp, e1, asBool, e3]

/-! ### parts of many results -/
theorem holdsL_get {m : M} : ∀ (ds : List Desc) (vs : List Value) (k : Nat) (d : Desc), Desc.holdsL m ds vs → ds[k]? = some d → ∃ v, vs[k]? = some v ∧ d.holds m v
  | [], vs, k, d, _, h => by simp at h
  | e :: ds, vs, 0, d, ⟨v, r, h1, h2, h3⟩, h => by
    simp at h; subst h; exact ⟨v, by simp [h1], h2⟩
  | e :: ds, vs, k + 1, d, ⟨v, r, h1, h2, h3⟩, h => by
    obtain ⟨u, h4, h5⟩ := holdsL_get ds r k d h3 (by simpa using h)
    exact ⟨u, by simp [h1, h4], h5⟩
theorem ox_extract {s k : Nat} {ds : List Desc} {d : Desc} {dst ty pos af g} (h : ds[k]? = some d) : OpX P ⟨dst, .extract (.tmp s) k, ty, pos, af, g⟩ [(s, .tup ds)] [] d [] [] := by
  refine OpX.pure fun m w0 w a hw hs ho => ?_
  obtain ⟨vs, h1, h2⟩ := hs (s, .tup ds) (by simp)
  obtain ⟨v, h3, h4⟩ := holdsL_get ds vs k d h2 h
  have e1 : a.eval (.tmp s) = .tuple vs.toArray := h1
  exact ⟨v, by simp [execOp, e1, Instr.extract, h3], h4⟩

/-- a pointer that is not nil -/
theorem ox_nilCheck_ptr {s id : Nat} {α β : Type} [GoTy α] [GoTy β] {l : Lens α β} {dst ty pos af g} : OpX P ⟨dst, .nilCheck (.tmp s), ty, pos, af, g⟩ [(s, .ptr id l)] [] (.ptr id l) [] [] := by
  refine OpX.pure fun m w0 w a hw hs ho => ?_
  have e1 : a.eval (.tmp s) = .pointer (some ⟨m.blk id, l.off, none⟩) := hs (s, .ptr id l) (by simp)
  exact ⟨.pointer (some ⟨m.blk id, l.off, none⟩), by simp [execOp, e1], rfl⟩

/-! ### new objects -/
theorem BelowX.push {brw : Nat → Bool} {w0 w : World} (h : BelowX brw w0.heap.size w0 w) (o : Obj) : BelowX brw w0.heap.size w0 (w.alloc o) := h.trans (.of ((Below.refl _ w).alloc h.size o))

theorem size_alloc (w : World) (o : Obj) : (w.alloc o).heap.size = w.heap.size + 1 := by show (w.heap.push o).size = _; simp
theorem heap_new (w : World) (o : Obj) : (w.alloc o).heap[w.heap.size]? = some o := by show (w.heap.push o)[w.heap.size]? = _; simp
/-- the hidden side behind a new block -/
def M.new (m : M) (id b : Nat) (v : Value) : M where
  ph := m.ph
  own k := if k = b then some id else m.own k
  blk k := if k = id then b else m.blk k
  sv k := if k = id then v else m.sv k

theorem WOK.new {w0 : B0} {w : World} {m : M} (h : WOK w0 m w) (id : Nat) (v : Value) (o : Obj) : WOK w0 (m.new id w.heap.size v) (w.alloc o) := by
  refine ⟨BelowX.push h.below o, h.old, ?_, ?_, ?_⟩
  · intro b o' u hu
    have h1 := h.on b o' u hu
    have hb : b < w.heap.size := World.block_lt_of_cell? _ _ h1
    rw [← h1]
    exact World.cell?_of_block (a := ⟨b, o', none⟩) (Below.heap_alloc w o b hb)
  · intro b id' hb
    simp only [M.new] at hb
    have hs := h.below.size
    split at hb
    · rename_i e; subst e; exact ⟨.inl hs, by rw [size_alloc]; omega⟩
    · have := h.own b id' hb; exact ⟨this.1, by rw [size_alloc]; omega⟩
  · intro b id' hb o'
    simp only [M.new] at hb
    split at hb
    · rename_i e; subst e
      cases hq : m.ph w.heap.size o' with
      | none => exact hq
      | some u => have := World.block_lt_of_cell? _ _ (h.on _ _ _ hq); simp at this
    · exact h.apart b id' hb o'
theorem Chg.new {w0 : B0} {w : World} {m : M} (h : WOK w0 m w) (id : Nat) (v : Value) (o : Obj) : Chg [id] [id] m w (m.new id w.heap.size v) (w.alloc o) := by
  refine ⟨⟨PH.le_refl _, fun k hk => ?_, fun k hk => ?_⟩, fun b k hb hk => ⟨?_, ?_⟩, fun k hk => hk⟩
  · simp [M.new]; simp at hk; exact fun e => absurd e hk
  · simp [M.new]; simp at hk; exact fun e => absurd e hk
  · exact Below.heap_alloc w o b (h.own b k hb).2
  · have := (h.own b k hb).2
    simp only [M.new]; rw [if_neg (by omega)]; exact hb

/-- the zero of a type -/
structure TyZ (P : Program) (T : TypeId) {α : Type} [GoTy α] (z : α) : Prop extends Ty P T α where
  zero : ∃ v, (P.info? T).bind (·.zero) = some v ∧ ∀ ph : PH, GoTy.rep ph z v.cells.toList
theorem TyZ.run {T : TypeId} {α : Type} [GoTy α] {z : α} (h : TyZ P T z) (w : World) : ∃ v, (zeroValue T).run P w = .ok v w ∧ ∀ ph : PH, GoTy.rep ph z v.cells.toList := by
  obtain ⟨v, h1, h2⟩ := h.zero
  refine ⟨v, ?_, h2⟩
  cases hq : P.info? T with
  | none => simp [hq] at h1
  | some i => simp [hq] at h1; simp [zeroValue, typeInfo, hq, h1]

theorem ox_alloc {T id : Nat} {α : Type} [GoTy α] {z : α} {dst ty pos af g} (h : TyZ P T z) : OpX P ⟨dst, .alloc T, ty, pos, af, g⟩ [] [] (.ptr id (Lens.id (α := α))) [(id, .var z [])] [id] := by
  refine OpX.turn fun m w0 w a hw hs ho => ?_
  obtain ⟨v, h1, h2⟩ := h.run w
  refine ⟨.pointer (some ⟨w.heap.size, 0, none⟩), w.alloc (.cells v.cells T), m.new id w.heap.size (.pointer (some ⟨w.heap.size, 0, none⟩)), .inl ?_, hw.new _ _ _, Chg.new hw _ _ _, ?_, ?_⟩
  · simp [execOp, Instr.alloc, h1, newVar, newRow]
  · simp [Desc.holds, M.new, Lens.id]
  · intro id' e he
    simp only [look] at he
    cases hb : Nat.beq id id' with
    | false => simp [hb] at he
    | true =>
      have : id = id' := Nat.eq_of_beq_eq_true hb
      subst this
      simp only [hb, cond_true, Option.some.injEq] at he
      subst he
      exact ⟨v.cells.toList, T, by simpa [M.new, fill] using heap_new w (.cells v.cells T), h2 _, by simp [M.new]⟩
theorem ox_box {T id : Nat} {x : Operand} {lx : List (Nat × Desc)} {α : Type} [GoTy α] {z : α} {dst ty pos af g} (hx : OpdOk x (.val z) lx) : OpX P ⟨dst, .box T x, ty, pos, af, g⟩ lx [] (.ptr id (Lens.id (α := α))) [(id, .var z [])] [id] := by
  refine OpX.turn fun m w0 w a hw hs ho => ?_
  obtain ⟨vs, h1, h2⟩ := hx m a hs
  have hc := cells_mkVal h1
  refine ⟨.pointer (some ⟨w.heap.size, 0, none⟩), w.alloc (.cells vs.toArray T), m.new id w.heap.size (.pointer (some ⟨w.heap.size, 0, none⟩)), .inl ?_, hw.new _ _ _, Chg.new hw _ _ _, ?_, ?_⟩
  · simp [execOp, Instr.box, h2, newVar, newRow, hc]
  · simp [Desc.holds, M.new, Lens.id]
  · intro id' e he
    simp only [look] at he
    cases hb : Nat.beq id id' with
    | false => simp [hb] at he
    | true =>
      have : id = id' := Nat.eq_of_beq_eq_true hb
      subst this
      simp only [hb, cond_true, Option.some.injEq] at he
      subst he
      exact ⟨vs, T, by simpa [M.new, fill] using heap_new w (.cells vs.toArray T), h1, by simp [M.new]⟩
end
end Go.Gx
