/- ARGUMENTS OPENED: what a reader reads of an argument stands for a value of the type of Lean that stands for its type. Nothing here is about one program. -/
import Derived.Test.YtkmokkhcoombnaaGxI
import Derived.ProofKit
import Derived.SizedLaws
namespace Go.Gx
open Go.RowKit Go.ChangeShapes Go.WideShapes Sp
set_option linter.unusedVariables false
set_option linter.unusedSimpArgs false
/-- all cells of a world -/
def full (w : World) : PH := fun b o => w.cell? ⟨b, o, none⟩
theorem full_on (w : World) : (full w).on w := fun b o v h => h

/-- what is read at a type stands for a value -/
structure Opn (P : Program) (T : TypeId) (α : Type) [GoTy α] : Prop where
  sz : P.cellsOf T = GoTy.sz α
  run : ∀ {H : Type} (enc : TypeId × Value → H) (w : World) (spare : Nat → Bool) (fuel : Nat) (cs : List Value) (d : DataW H × List MemPlace),
    DataW.trod enc P w 0 spare true fuel T cs = some d → ∃ y : α, GoTy.rep (full w) y cs

section
variable {P : Program}
theorem Opn.int {T : TypeId} (hu : P.underlying T = some (.int .i64)) (hs : P.cellsOf T = 1) : Opn P T Int :=
  ⟨hs, fun enc w spare fuel cs d h => by
    obtain ⟨n, rfl, _, hw⟩ := DataW.trod_int hu h
    refine ⟨n, rfl, ?_⟩
    simpa [Lit.wf, IntKind.min, IntKind.max, IntKind.signed, IntKind.bits, I64] using hw⟩
theorem Opn.u8 {T : TypeId} (hu : P.underlying T = some (.int .u8)) (hs : P.cellsOf T = 1) : Opn P T UInt8 :=
  ⟨hs, fun enc w spare fuel cs d h => by
    obtain ⟨n, rfl, _, hw⟩ := DataW.trod_int hu h
    have h2 : 0 ≤ n ∧ n ≤ 255 := by simpa [Lit.wf, IntKind.min, IntKind.max, IntKind.signed, IntKind.bits] using hw
    refine ⟨UInt8.ofNat n.toNat, ?_⟩
    show [Value.int .u8 n] = [Value.int .u8 ((UInt8.ofNat n.toNat).toNat : Int)]
    have e : (UInt8.ofNat n.toNat).toNat = n.toNat := Nat.mod_eq_of_lt (by omega)
    rw [e, Int.toNat_of_nonneg h2.1]⟩
theorem Opn.bool {T : TypeId} (hu : P.underlying T = some .bool) (hs : P.cellsOf T = 1) : Opn P T Bool :=
  ⟨hs, fun enc w spare fuel cs d h => by
    obtain ⟨b, rfl, _⟩ := DataW.trod_bool hu h
    exact ⟨b, rfl⟩⟩

/-- what is read of fields in a row, from a place on, stands for a value -/
def OpnRow (P : Program) (fs : List Field) (off : Nat) (α : Type) [GoTy α] : Prop :=
  ∀ {H : Type} (enc : TypeId × Value → H) (w : World) (spare : Nat → Bool) (n : Nat) (cs : List Value),
    (∀ f ∈ fs, ∃ d, DataW.trod enc P w 0 spare true n f.type ((cs.drop f.offset).take (P.cellsOf f.type)) = some d) → ∃ y : α, GoTy.rep (full w) y ((cs.drop off).take (GoTy.sz α))
theorem OpnRow.one {off : Nat} {f : Field} {α : Type} [GoTy α] (ho : f.offset = off) (h : Opn P f.type α) : OpnRow P [f] off α := fun enc w spare n cs hd => by
  obtain ⟨d, hd⟩ := hd f (by simp)
  rw [ho, h.sz] at hd
  exact h.run enc w spare n _ d hd
theorem OpnRow.cons {off : Nat} {f : Field} {fs : List Field} {α β : Type} [GoTy α] [GoTy β] (ho : f.offset = off) (h : Opn P f.type α) (hr : OpnRow P fs (off + GoTy.sz α) β) : OpnRow P (f :: fs) off (α × β) := fun enc w spare n cs hd => by
  obtain ⟨d, h1⟩ := hd f (by simp)
  rw [ho, h.sz] at h1
  obtain ⟨y, hy⟩ := h.run enc w spare n _ d h1
  obtain ⟨z, hz⟩ := hr enc w spare n cs (fun g hg => hd g (by simp [hg]))
  refine ⟨(y, z), _, _, ?_, hy, hz⟩
  show (cs.drop off).take (GoTy.sz α + GoTy.sz β) = _
  rw [List.take_add, List.drop_drop]
theorem Opn.struct {T : TypeId} {α β : Type} [GoTy α] [GoTy β] {fs : Array Field} (g : β → α) (hrep : ∀ ph y vs, GoTy.rep (α := β) ph y vs → GoTy.rep ph (g y) vs) (hsz : P.cellsOf T = GoTy.sz α) (hszb : GoTy.sz α = GoTy.sz β)
    (hu : P.underlying T = some (.struct fs)) (hr : OpnRow P fs.toList 0 β) : Opn P T α :=
  ⟨hsz, fun enc w spare fuel cs d h => by
    obtain ⟨xs, n, rfl, _, hl, hx, hi⟩ := DataW.trod_struct hu h
    obtain ⟨y, hy⟩ := hr enc w spare n cs (fun f hf => by
      obtain ⟨i, hi', hfi⟩ := List.getElem_of_mem hf
      have h2 := hi i f (by simpa using List.getElem?_eq_some_iff.2 ⟨hi', hfi⟩)
      have hlt : i < xs.length := by rw [hx]; simpa using hi'
      exact ⟨xs[i], by rw [h2]; simp [hlt]⟩)
    refine ⟨g y, hrep _ _ _ ?_⟩
    have : (cs.drop 0).take (GoTy.sz β) = cs := by rw [List.drop_zero, List.take_of_length_le (by omega)]
    rwa [this] at hy⟩

theorem cell_spot {w : World} {a : Addr} {u : Value} (h : w.cell? a = some u) : a.spot = none := by
  unfold World.cell? at h
  split at h
  · split at h
    · cases h
    · rename_i hs; simpa using hs
  · cases h
theorem add_add_cell {w : World} {a : Addr} {k j : Nat} {u : Value} (h : w.cell? ((a.add k).add j) = some u) : full w a.block (a.off + k + j) = some u := by
  have hs := cell_spot h
  have e : (a.add k).add j = ⟨a.block, a.off + k + j, none⟩ := by
    revert hs
    unfold Addr.add
    by_cases hk : k = 0 <;> by_cases hj : j = 0 <;> simp [hk, hj] <;> (try (cases a; simp))
  rw [e] at h; exact h
theorem cells_get {w : World} {a : Addr} {k n : Nat} {cs : List Value} (h : w.cells? 0 (a.add k) n = some cs) : ∀ j u, cs[j]? = some u → full w a.block (a.off + k + j) = some u := fun j u hu => by
  unfold World.cells? at h
  rw [if_pos (Nat.zero_le _)] at h
  have hl := mapM_some_length h
  have hj : j < n := by
    have := (List.getElem?_eq_some_iff.1 hu).1
    rw [hl] at this; simpa using this
  have := mapM_some_get h j j (by simp [hj])
  rw [hu] at this
  exact add_add_cell this
theorem spot_of_cells {w : World} {a : Addr} {n : Nat} {cs : List Value} (hn : 0 < n) (h : w.cells? 0 (a.add 0) n = some cs) : a.spot = none := by
  unfold World.cells? at h
  rw [if_pos (Nat.zero_le _)] at h
  have hl := mapM_some_length h
  have := mapM_some_get h 0 0 (by simp [hn])
  have hc : (cs[0]?) = some (cs[0]'(by rw [hl]; simpa using hn)) := by simp
  rw [hc] at this
  have := cell_spot this
  simpa [Addr.add] using this

/-- what is read of a slice: as many elements as are read of it -/
theorem Opn.slice_run {T E : TypeId} {α : Type} [GoTy α] (hE : Opn P E α) (hu : P.underlying T = some (.slice E)) {H : Type} (enc : TypeId × Value → H) (w : World) (spare : Nat → Bool) (fuel : Nat) (cs : List Value) (d : DataW H × List MemPlace)
    (h : DataW.trod enc P w 0 spare true fuel T cs = some d) : ∃ y : List α, GoTy.rep (full w) y cs ∧ ∀ n, (∀ m ∈ d.1.weights P T, m ≤ n) → y.length * P.bytesOf E ≤ n := by
    rcases DataW.trod_slice hu h with ⟨rfl, _⟩ | ⟨a, len, cap, elems, rest, n, rfl, rfl, hdx, _, h1, h2, h3, h4, _, _⟩
    · exact ⟨[], ⟨_, rfl, repS_nil _⟩, fun n _ => by rw [List.length_nil, Nat.zero_mul]; exact Nat.zero_le _⟩
    · have hpos := GoTy.pos (α := α)
      rw [hE.sz] at h4
      have one : ∀ i, i < len → ∃ c d, w.cells? 0 (a.add (i * GoTy.sz α)) (GoTy.sz α) = some c ∧ DataW.trod enc P w 0 spare true n E c = some d := by
        intro i hi
        have := h4 i hi
        rw [show elems[i]? = some (elems[i]'(by omega)) from by simp [h3, hi]] at this
        simp only [Option.bind_eq_some_iff] at this
        obtain ⟨c, e1, e2⟩ := this
        exact ⟨c, _, e1, e2⟩
      have all : ∀ m i, i + m = len → ∃ (ys : List α) (r : List Value), ys.length = m ∧ RepL (full w) ys r ∧ ∀ j u, r[j]? = some u → full w a.block (a.off + i * GoTy.sz α + j) = some u := by
        intro m
        induction m with
        | zero => intro i _; exact ⟨[], [], rfl, rfl, fun j u hu => by simp at hu⟩
        | succ m ih =>
          intro i hi
          obtain ⟨c, d, e1, e2⟩ := one i (by omega)
          obtain ⟨y, hy⟩ := hE.run enc w spare n c d e2
          obtain ⟨ys, r, f1, f2, f3⟩ := ih (i + 1) (by omega)
          have hcl := GoTy.len hy
          refine ⟨y :: ys, c ++ r, by simp [f1], ⟨c, r, rfl, hy, f2⟩, fun j u hu => ?_⟩
          by_cases hj : j < c.length
          · rw [List.getElem?_append_left hj] at hu
            exact cells_get e1 j u hu
          · rw [List.getElem?_append_right (by omega)] at hu
            have := f3 _ u hu
            rw [hcl, Nat.add_mul, Nat.one_mul] at this
            rw [show a.off + i * GoTy.sz α + j = a.off + (i * GoTy.sz α + GoTy.sz α) + (j - GoTy.sz α) from by omega]
            exact this
      obtain ⟨ys, r, f1, f2, f3⟩ := all len 0 (by omega)
      refine ⟨ys, ?_, fun n hn => ?_⟩
      rotate_left
      · have := hn ((elems.length + rest.length) * P.bytesOf E) (by
          rw [hdx]
          show _ ∈ DataW.weights P T (DataW.slice (elems.map (·.1)) (rest.map (·.1)))
          rw [DataW.weights, hu]
          simp)
        rw [f1, ← h3]
        exact Nat.le_trans (Nat.mul_le_mul_right _ (by omega)) this
      refine ⟨_, rfl, some a, cap, r, by rw [f1], by omega, by unfold maxLen at h2; omega, f2, fun e => (by cases e), ?_⟩
      by_cases h0 : len = 0
      · left
        have := f2.len
        rw [f1, h0, Nat.zero_mul] at this
        exact List.eq_nil_of_length_eq_zero this
      · right
        obtain ⟨c, d, e1, e2⟩ := one 0 (by omega)
        rw [Nat.zero_mul] at e1
        have hsp := spot_of_cells hpos e1
        refine ⟨a.block, a.off, by cases a; simp_all, fun j u hu => ?_⟩
        have := f3 j u hu
        simpa using this

theorem Opn.slice {T E : TypeId} {α : Type} [GoTy α] (hE : Opn P E α) (hu : P.underlying T = some (.slice E)) (hs : P.cellsOf T = 1) : Opn P T (List α) :=
  ⟨hs, fun {H} enc w spare fuel cs d h => by
    obtain ⟨y, hy, _⟩ := hE.slice_run hu enc w spare fuel cs d h
    exact ⟨y, hy⟩⟩

theorem Opn.top_struct {T : TypeId} {α : Type} [GoTy α] (h : Opn P T α) (hagg : GoTy.agg α = true) {fs : Array Field} (hu : P.underlying T = some (.struct fs)) {W : World} {b : Nat} {v : Value} (hok : Value.okWide P W .any b T v)
    {H : Type} {enc : TypeId × Value → H} {d : DataW H} {p : List MemPlace} (ht : DataW.Trod enc P W 0 (fun _ => true) true T v d p) : ∃ y : α, (Desc.val y).holds (base (full W)) v := by
  obtain ⟨fuel, ht⟩ := ht
  obtain ⟨y, hy⟩ := h.run enc W _ fuel _ _ ht
  unfold Value.okWide at hok
  rw [hu] at hok
  obtain ⟨cs, rfl, _⟩ := hok
  exact ⟨y, _, hy, by simp [mkVal, hagg, Value.cells]⟩
theorem Opn.top_cell {T : TypeId} {α : Type} [GoTy α] (h : Opn P T α) (hagg : GoTy.agg α = false) (hu : (∃ k, P.underlying T = some (.int k)) ∨ P.underlying T = some .bool ∨ (∃ e, P.underlying T = some (.slice e)) ∨ P.underlying T = some .string) {W : World} {b : Nat} {v : Value}
    (hok : Value.okWide P W .any b T v) {H : Type} {enc : TypeId × Value → H} {d : DataW H} {p : List MemPlace} (ht : DataW.Trod enc P W 0 (fun _ => true) true T v d p) : ∃ y : α, (Desc.val y).holds (base (full W)) v := by
  obtain ⟨fuel, ht⟩ := ht
  obtain ⟨y, hy⟩ := h.run enc W _ fuel _ _ ht
  have hv : v.cells = #[v] := by
    cases v with
    | agg cs =>
      exfalso
      rcases hu with ⟨k, hu⟩ | hu | ⟨e, hu⟩ | hu <;> simp [Value.okWide, Cell.okWide, Cell.ok, hu] at hok
    | _ => rfl
  rw [hv] at hy
  exact ⟨y, _, hy, by simp [mkVal, hagg]⟩
theorem Opn.top_slice {T E : TypeId} {α : Type} [GoTy α] (h : Opn P E α) (hu : P.underlying T = some (.slice E)) {W : World} {b : Nat} {v : Value}
    (hok : Value.okWide P W .any b T v) {H : Type} {enc : TypeId × Value → H} {d : DataW H} {p : List MemPlace} (ht : DataW.Trod enc P W 0 (fun _ => true) true T v d p) {ts : List TypeId} {ds : List (DataW H)} (hsz : (DataW.weightsEach P ts ds).all (· ≤ reachBytes) = true) {j : Nat} (h1 : ts[j]? = some T) (h2 : ds[j]? = some d) :
    ∃ y : List α, (Desc.val y).holds (base (full W)) v ∧ y.length * P.bytesOf E ≤ reachBytes := by
  obtain ⟨fuel, ht⟩ := ht
  obtain ⟨y, hy, hl⟩ := h.slice_run hu enc W _ fuel _ _ ht
  have hv : v.cells = #[v] := by
    cases v with
    | agg cs => exfalso; simp [Value.okWide, Cell.okWide, Cell.ok, hu] at hok
    | _ => rfl
  rw [hv] at hy
  exact ⟨y, ⟨_, hy, by simp [mkVal, GoTy.agg]⟩, hl _ fun m hm => by simpa using List.all_eq_true.1 hsz _ (DataW.weights_mem_each h1 h2 m hm)⟩
/-- a slice is no longer than may be -/
theorem len_of_rep {α : Type} [GoTy α] {ph : PH} {l : List α} {vs : List Value} (h : GoTy.rep ph l vs) : l.length ≤ 9223372036854775807 := by
  obtain ⟨v, rfl, a, c, cs, rfl, h1, h2, _⟩ := h
  exact Nat.le_trans h1 h2
end
end Go.Gx
