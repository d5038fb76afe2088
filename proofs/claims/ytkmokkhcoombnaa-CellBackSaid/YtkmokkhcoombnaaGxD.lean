/- The small logic, thirteenth part: signs, quotients, closures, variables that are only read from now on. Nothing here is about one program. -/
import Derived.Test.YtkmokkhcoombnaaGxC
import Derived.Laws.MakeOwn
namespace Go.Gx
open Go.RowKit Sp
set_option linter.unusedVariables false
set_option linter.unusedSimpArgs false
section
variable {P : Program}
section op
variable {x y : Operand} {lx ly : List (Nat × Desc)} {p q : Int} {T T' : TypeId} {dst : Option Tmp} {ty : TypeId} {pos : String} {af : Array Edge} {g : Option (Nat × Bool)}
theorem ox_neg (hx : OpdOk x (.val p) lx) (h : I (-p)) : OpX P ⟨dst, .unOp .neg T x, ty, pos, af, g⟩ lx [] (.val (-p)) [] [] :=
  OpX.pure fun m w0 w a hw hs ho => by
    have e1 := (holds_int (hx m a hs)).1
    have h' : I64 (0 - p) := by rw [Int.zero_sub]; exact h
    refine ⟨.int .i64 (-p), ?_, int_holds m h⟩
    simp [execOp, e1, Op.unary, Op.intArith]
    have := wrap_in h'
    simpa using this
theorem ox_quo (hx : OpdOk x (.val p) lx) (hy : OpdOk y (.val q) ly) (h : q ≠ 0 ∧ I (p.tdiv q)) : OpX P ⟨dst, .binOp .quo T x y T', ty, pos, af, g⟩ (lx ++ ly) [] (.val (p.tdiv q)) [] [] :=
  OpX.pure fun m w0 w a hw hs ho => ⟨_, run_int2 hx hy hs (v := .int .i64 (p.tdiv q)) (by simp [binOp, Op.intDiv, h.1]; exact wrap_in h.2), int_holds m h.2⟩
theorem ox_rem (hx : OpdOk x (.val p) lx) (hy : OpdOk y (.val q) ly) (h : q ≠ 0 ∧ I (p.tmod q)) : OpX P ⟨dst, .binOp .rem T x y T', ty, pos, af, g⟩ (lx ++ ly) [] (.val (p.tmod q)) [] [] :=
  OpX.pure fun m w0 w a hw hs ho => ⟨_, run_int2 hx hy hs (v := .int .i64 (p.tmod q)) (by simp [binOp, Op.intDiv, h.1]), int_holds m h.2⟩
end op
theorem ox_makeFunc {f : FuncId} {xs : List Operand} {ds : List Desc} {l : List (Nat × Desc)} {dst ty pos af g} (hA : Args xs ds l) :
    OpX P ⟨dst, .makeFunc (.func f) #[] xs.toArray, ty, pos, af, g⟩ l [] (.clo f ds) [] [] :=
  OpX.pure fun m w0 w a hw hs ho => by
    refine ⟨.func (.func f) #[] (xs.map a.eval).toArray, ?_, ⟨_, rfl, hA.holds hs⟩⟩
    simp [execOp, Instr.makeFunc]

/-- pointers to a variable that is only read from now on -/
theorem PT.freezeVar {w0 : B0} {n : Nat} {σ : St} {Q : Act → World → Prop} (id : Nat) (ts : List Nat) {α : Type} [GoTy α] {x : α} (ho : look σ.o id = some (.var x [])) (hs : OkL σ.s (ts.map fun t => (t, .ptr id (Lens.id (α := α)))))
    (h : PT w0 n ⟨(ts.map fun t => (t, .elem x)) ++ σ.s, (id, .dead) :: σ.o⟩ Q) : PT w0 n σ Q := fun a w ha => by
  refine h a w ?_
  obtain ⟨m, h1, h2, h3, h4, h5⟩ := ha
  have hc := Chg.freeze h1 id
  obtain ⟨cs, T, e1, e2, e3⟩ := h5 id _ ho
  have e1' : w.heap[m.blk id]? = some (.cells cs.toArray T (0, 0)) := e1
  refine ⟨m.freeze w id, h1.freeze id, h2, h3, fun t d hl => ?_, fun k d hl => ?_⟩
  · rw [look_append] at hl
    cases e : look (ts.map fun t => ((t, .elem x) : Nat × Desc)) t with
    | some d' =>
      rw [e] at hl
      simp only [Option.some_or, Option.some.injEq] at hl
      subst hl
      have hm := look_mem e
      simp at hm
      obtain ⟨u, hu1, hu2, hu3⟩ := hm
      subst hu3; subst hu2
      have hp := h4 u _ (hs.mem (u, .ptr id (Lens.id (α := α))) (by simp; exact hu1))
      refine ⟨m.blk id, 0, cs, by simpa [Desc.holds, Lens.id] using hp, GoTy.mono (freeze_le h1 id) e2, fun j v hv => ?_⟩
      simp only [M.freeze]
      rw [if_pos ⟨trivial, e3⟩]
      simp [World.cell?, e1']; simpa using hv
    | none =>
      rw [e] at hl
      simp only [Option.none_or] at hl
      exact Desc.holds_keep hc.keeps d _ (Desc.ment_nil d) (h4 t d hl)
  · simp only [look] at hl
    cases hb : Nat.beq id k with
    | true => simp only [hb, cond_true, Option.some.injEq] at hl; subst hl; trivial
    | false =>
      simp only [hb, cond_false] at hl
      have hne : [id].contains k = false := by
        simp; intro e; subst e; simp at hb
      have hm0 : d.ment [] = false := by cases d <;> simp [ODesc.ment]
      exact ODesc.holds_keep hc.keeps (by simp) (fun b hb' => hc.heap b k hb' hne) d hm0 (h5 k d hl)

theorem repL_zeros (ph : PH) : ∀ n : Nat, RepL ph (List.replicate n (0 : Int)) (List.replicate n (.int .i64 0))
  | 0 => rfl
  | n + 1 => ⟨[.int .i64 0], List.replicate n (.int .i64 0), by simp [List.replicate_succ], ⟨rfl, by decide, by decide⟩, repL_zeros ph n⟩
/-- so many numbers, all 0 -/
theorem run_makeInts {T E : Nat} (h : slB P T E 1 = true) (hz : (P.info? E).bind (·.zero) = some (.int .i64 0)) (hbt : (P.info? E).map (·.bytes) = some 8) {p : Int} (h0 : 0 ≤ p) (h1 : p ≤ 16777216) (w : World) :
    (Instr.makeSlice T (.int .i64 p) (.int .i64 p)).run P w = .ok (.slice (some ⟨w.heap.size, 0, none⟩) p.toNat p.toNat) (w.alloc (.cells (List.replicate p.toNat (.int .i64 0)).toArray E)) := by
  have hi := slB_inv h
  cases hq : P.info? E with
  | none => simp [hq] at hz
  | some i =>
    simp only [hq, Option.bind_some, Option.map_some, Option.some.injEq] at hz hbt
    have hsz : i.size = 1 := by
      have h3 := hi.2
      simp [hq] at h3
      first | exact h3.1 | exact h3 | omega
    have hrun := run_makeSlice w T E i (.int .i64 0) hi.1 hq hz .i64 .i64 p p h0 (Int.le_refl _) (by rw [hsz]; omega) (by rw [hbt]; omega) (by omega)
    have hc : madeCells (Value.int .i64 0).cells (p.toNat * i.size) = (List.replicate p.toNat (.int .i64 0)).toArray := by
      rw [hsz, Nat.mul_one]
      apply Array.ext'
      apply List.ext_getElem
      · simp [size_madeCells]
      · intro j h2 h3; simp [madeCells, Value.cells, Nat.mod_one]
    rw [hc] at hrun
    exact hrun
theorem ox_makeInts {T E id : Nat} {x y : Operand} {lx ly : List (Nat × Desc)} {p q : Int} {dst ty pos af g} (h : slB P T E 1 = true) (hz : (P.info? E).bind (·.zero) = some (.int .i64 0)) (hbt : (P.info? E).map (·.bytes) = some 8)
    (hx : OpdOk x (.val p) lx) (hy : OpdOk y (.val q) ly) (hp : 0 ≤ p ∧ p = q ∧ q ≤ 16777216) :
    OpX P ⟨dst, .makeSlice T x y, ty, pos, af, g⟩ (lx ++ ly) [] (.sl id) [(id, .arr E (List.replicate p.toNat (0 : Int)))] [id] := by
  obtain ⟨h0, rfl, h1⟩ := hp
  refine OpX.turn fun m w0 w a hw hs ho => ?_
  have e1 := (holds_int (opd_l hx hs)).1
  have e2 := (holds_int (opd_r hy hs)).1
  have hrun := run_makeInts h hz hbt h0 h1 w
  refine ⟨_, _, m.new id w.heap.size (.slice (some ⟨w.heap.size, 0, none⟩) p.toNat p.toNat), .inl (by simp only [execOp, e1, e2, Sem.run_bind, hrun, Result.andThen_ok]; rfl), hw.new _ _ _, Chg.new hw _ _ _, ?_, fun id' e he => ?_⟩
  · simp [Desc.holds, M.new]
  · obtain ⟨rfl, rfl⟩ := look_one he
    exact arr_new hw (repL_zeros _ _) (by simp) (by omega)
theorem ox_makeIntsV {T E : Nat} {x y : Operand} {lx ly : List (Nat × Desc)} {p q : Int} {dst ty pos af g} (h : slB P T E 1 = true) (hz : (P.info? E).bind (·.zero) = some (.int .i64 0)) (hbt : (P.info? E).map (·.bytes) = some 8)
    (hx : OpdOk x (.val p) lx) (hy : OpdOk y (.val q) ly) (hp : 0 ≤ p ∧ p = q ∧ q ≤ 16777216) :
    OpX P ⟨dst, .makeSlice T x y, ty, pos, af, g⟩ (lx ++ ly) [] (.val (List.replicate p.toNat (0 : Int))) [] [] := by
  obtain ⟨h0, rfl, h1⟩ := hp
  refine OpX.turn fun m w0 w a hw hs ho => ?_
  have e1 := (holds_int (opd_l hx hs)).1
  have e2 := (holds_int (opd_r hy hs)).1
  have hrun := run_makeInts h hz hbt h0 h1 w
  have hb := below_alloc w (.cells (List.replicate p.toNat (Value.int .i64 0)).toArray E)
  refine ⟨_, _, m.more w (w.alloc (.cells (List.replicate p.toNat (Value.int .i64 0)).toArray E)), .inl (by simp only [execOp, e1, e2, Sem.run_bind, hrun, Result.andThen_ok]; rfl), hw.more hb, Chg.more hw hb _, ?_, fun id' e he => by cases he⟩
  have hr := repS_new (α := Int) (ph := (m.more w (w.alloc (.cells (List.replicate p.toNat (Value.int .i64 0)).toArray E))).ph) (E := E) (w := w) (repL_zeros _ p.toNat) (fun j u hu => by
    have hnew := heap_new w (.cells (List.replicate p.toNat (Value.int .i64 0)).toArray E)
    simp only [M.more, Nat.lt_irrefl, if_false]
    unfold World.cell?
    rw [hnew]
    simpa [Array.getElem?_replicate, List.getElem?_replicate] using hu) (by simp; omega)
  rw [List.length_replicate] at hr
  exact list_holds hr
end
end Go.Gx
