/- The small logic, sixth part: more operations. Nothing here is about one program. -/
import Derived.Test.YtkmokkhcoombnaaGx5
namespace Go.Gx
open Go.RowKit
set_option linter.unusedVariables false
set_option linter.unusedSimpArgs false

section
variable {P : Program}

theorem holds_int {m : M} {x : Int} {v : Value} (h : Desc.holds m (.val x) v) : v = .int .i64 x ∧ I64 x := by
  obtain ⟨vs, h1, h2⟩ := h
  obtain ⟨rfl, h3⟩ : vs = [.int .i64 x] ∧ I64 x := h1
  exact ⟨h2, h3⟩
theorem int_holds (m : M) {x : Int} (h : I64 x) : Desc.holds m (.val x) (.int .i64 x) := ⟨_, ⟨rfl, h⟩, rfl⟩
theorem holds_bool {m : M} {x : Bool} {v : Value} (h : Desc.holds m (.val x) v) : v = .bool x := by
  obtain ⟨vs, h1, h2⟩ := h
  obtain rfl : vs = [.bool x] := h1
  exact h2
theorem bool_holds (m : M) (x : Bool) : Desc.holds m (.val x) (.bool x) := ⟨_, rfl, rfl⟩
theorem holds_u8 {m : M} {x : UInt8} {v : Value} (h : Desc.holds m (.val x) v) : v = .int .u8 x.toNat := by
  obtain ⟨vs, h1, h2⟩ := h
  obtain rfl : vs = [.int .u8 x.toNat] := h1
  exact h2
theorem u8_holds (m : M) (x : UInt8) : Desc.holds m (.val x) (.int .u8 x.toNat) := ⟨_, rfl, rfl⟩
theorem holds_gi {m : M} {k : IntKind} {x : GI k} {v : Value} (h : Desc.holds m (.val x) v) : v = .int k x.n ∧ k.min ≤ x.n ∧ x.n ≤ k.max := by
  obtain ⟨vs, h1, h2⟩ := h
  obtain ⟨rfl, h3⟩ : vs = [.int k x.n] ∧ k.min ≤ x.n ∧ x.n ≤ k.max := h1
  exact ⟨h2, h3⟩
theorem gi_holds (m : M) {k : IntKind} {x : GI k} (h : k.min ≤ x.n ∧ x.n ≤ k.max) : Desc.holds m (.val x) (.int k x.n) := ⟨_, ⟨rfl, h⟩, rfl⟩
theorem holds_list {m : M} {α : Type} [GoTy α] {l : List α} {v : Value} (h : Desc.holds m (.val l) v) : RepS m.ph l v := by
  obtain ⟨vs, ⟨u, rfl, h1⟩, h2⟩ := h
  rw [show v = u from h2]; exact h1
theorem list_holds {m : M} {α : Type} [GoTy α] {l : List α} {v : Value} (h : RepS m.ph l v) : Desc.holds m (.val l) v := ⟨[v], ⟨v, rfl, h⟩, rfl⟩
theorem holds_str {m : M} {x : ByteArray} {v : Value} (h : Desc.holds m (.val x) v) : v = .string x ∧ x.size ≤ 9223372036854775807 := by
  obtain ⟨vs, h1, h2⟩ := h
  obtain ⟨rfl, h3⟩ : vs = [.string x] ∧ x.size ≤ 9223372036854775807 := h1
  exact ⟨h2, h3⟩
theorem str_holds (m : M) {x : ByteArray} (h : x.size ≤ 9223372036854775807) : Desc.holds m (.val x) (.string x) := ⟨_, ⟨rfl, h⟩, rfl⟩

section two
variable {x y : Operand} {d e : Desc} {lx ly : List (Nat × Desc)} {m : M} {a : Act}
theorem opd_l (hx : OpdOk x d lx) (h : ∀ p ∈ lx ++ ly, p.2.holds m (a.tmps.getD p.1 undef)) : d.holds m (a.eval x) := hx m a fun p hp => h p (by simp [hp])
theorem opd_r (hy : OpdOk y e ly) (h : ∀ p ∈ lx ++ ly, p.2.holds m (a.tmps.getD p.1 undef)) : e.holds m (a.eval y) := hy m a fun p hp => h p (by simp [hp])
end two

/-! ### indices -/
def slB (P : Program) (T E sz : Nat) : Bool := (match P.underlying T with | some (.slice e) => e == E | _ => false) && (P.info? E).map (·.size) == some sz
theorem slB_inv {T E sz : Nat} (h : slB P T E sz = true) : P.underlying T = some (.slice E) ∧ (P.info? E).map (·.size) = some sz := by
  unfold slB at h
  simp only [Bool.and_eq_true, beq_iff_eq] at h
  refine ⟨?_, h.2⟩
  have h1 := h.1
  split at h1
  · rename_i e he; rw [he]; simp at h1; rw [h1]
  · cases h1
theorem slB_size {T E sz : Nat} (h : slB P T E sz = true) (w : World) : (Go.sizeOf E).run P w = .ok sz w := by
  have := (slB_inv h).2
  cases hq : P.info? E with
  | none => simp [hq] at this
  | some i => simp [hq] at this; simp [Go.sizeOf, typeInfo, hq, this]

theorem run_indexAt {T E sz : Nat} (h : slB P T E sz = true) (w : World) (b o n c : Nat) (i : Int) (h0 : 0 ≤ i) (h1 : i < n) :
    (Instr.indexAt T (.slice (some ⟨b, o, none⟩) n c) (.int .i64 i)).run P w = .ok (.pointer (some ⟨b, o + i.toNat * sz, none⟩)) w := by
  simp [Instr.indexAt, asIntOf, run_underlying (slB_inv h).1, h0, h1, slB_size h, Addr.add_mid]

theorem ox_index_elem {T E : Nat} {x ix : Operand} {lx li : List (Nat × Desc)} {α : Type} [GoTy α] {l : List α} {i : Int} {y : α} {dst ty pos af g} (h : slB P T E (GoTy.sz α) = true)
    (hx : OpdOk x (.val l) lx) (hi : OpdOk ix (.val i) li) (h0 : 0 ≤ i) (hy : l[i.toNat]? = some y) : OpX P ⟨dst, .indexAddr T x ix, ty, pos, af, g⟩ (lx ++ li) [] (.elem y) [] [] := by
  refine OpX.pure fun m w0 w a hw hs ho => ?_
  obtain ⟨ad, c, cs, e1, h2, h3, h4, h5, h6⟩ := holds_list (opd_l hx hs)
  have e2 := (holds_int (opd_r hi hs)).1
  have hlt : i.toNat < l.length := (List.getElem?_eq_some_iff.1 hy).1
  have hyl : l[i.toNat] = y := (List.getElem?_eq_some_iff.1 hy).2
  have hpos := GoTy.pos (α := α)
  have hsp := h4.split i.toNat hlt
  rw [hyl] at hsp
  have hne : cs ≠ [] := fun e => by
    have := GoTy.len hsp
    rw [e] at this; simp at this; omega
  rcases h6 with h6 | ⟨b, o, rfl, h6⟩
  · exact absurd h6 hne
  refine ⟨.pointer (some ⟨b, o + i.toNat * GoTy.sz α, none⟩), ?_, b, o + i.toNat * GoTy.sz α, _, rfl, hsp, fun j u hu => ?_⟩
  · simp only [execOp, e1, e2, Sem.run_bind, run_indexAt h w b o l.length c i h0 (by omega), Result.andThen_ok, Sem.run_pure]
  · rw [Nat.add_assoc]; exact h6 _ _ (getElem?_take_drop _ _ _ _ _ hu)

theorem ox_index_arr {T E e id : Nat} {x ix : Operand} {lx li : List (Nat × Desc)} {α : Type} [GoTy α] {l : List α} {i : Int} {dst ty pos af g} (h : slB P T E (GoTy.sz α) = true)
    (hx : OpdOk x (.sl id) lx) (hi : OpdOk ix (.val i) li) (h0 : 0 ≤ i) (hy : i < l.length) : OpX P ⟨dst, .indexAddr T x ix, ty, pos, af, g⟩ (lx ++ li) [(id, .arr e l)] (.aptr id i.toNat (Lens.id (α := α))) [] [] := by
  refine OpX.pure fun m w0 w a hw hs ho => ?_
  have e1 : a.eval x = m.sv id := opd_l hx hs
  have e2 := (holds_int (opd_r hi hs)).1
  obtain ⟨cs, h3, h2⟩ := ho (id, .arr e l) (by simp)
  rcases h2 with ⟨hn1, _⟩ | ⟨⟨cap, cur, hv1, hv3, hv4, hv5, hv6, hv7⟩, _⟩
  · rw [hn1] at hy; simp at hy; omega
  · refine ⟨.pointer (some ⟨m.blk id, i.toNat * GoTy.sz α, none⟩), ?_, rfl⟩
    simp [execOp, e1, e2, hv1, run_indexAt h w (m.blk id) 0 l.length cap i h0 (by omega)]

/-! ### lengths -/
theorem run_len {T E sz : Nat} (h : slB P T E sz = true) (w : World) (ty : TypeId) (a : Option Addr) (n c : Nat) : (Builtin.len_ #[T] ty #[.slice a n c]).run P w = .ok (.int .i64 n) w := by
  simp [Builtin.len_, run_underlying (slB_inv h).1, goInt]
theorem ox_len {T E sz : Nat} {x : Operand} {lx : List (Nat × Desc)} {α : Type} [GoTy α] {l : List α} {dst ty pos af g} (h : slB P T E sz = true) (hx : OpdOk x (.val l) lx) :
    OpX P ⟨dst, .call ⟨.builtin .len, #[x], #[T]⟩, ty, pos, af, g⟩ lx [] (.val (l.length : Int)) [] [] := by
  refine OpX.pure fun m w0 w a hw hs ho => ?_
  obtain ⟨ad, c, cs, e1, h2, h3, h4, h5, h6⟩ := holds_list (hx m a hs)
  refine ⟨.int .i64 l.length, ?_, int_holds m ⟨by omega, by omega⟩⟩
  simp [execOp, resolve, invoke, builtin, e1, run_len h]
theorem ox_len_nil {T E sz : Nat} {x : Operand} {lx : List (Nat × Desc)} {dst ty pos af g} (h : slB P T E sz = true) (hx : OpdOk x .nilS lx) :
    OpX P ⟨dst, .call ⟨.builtin .len, #[x], #[T]⟩, ty, pos, af, g⟩ lx [] (.val (0 : Int)) [] [] := by
  refine OpX.pure fun m w0 w a hw hs ho => ?_
  have e1 : a.eval x = .slice none 0 0 := hx m a hs
  refine ⟨.int .i64 0, ?_, int_holds m ⟨by omega, by omega⟩⟩
  simp [execOp, resolve, invoke, builtin, e1, run_len h]
theorem ox_len_arr {T E sz e id : Nat} {x : Operand} {lx : List (Nat × Desc)} {α : Type} [GoTy α] {l : List α} {dst ty pos af g} (h : slB P T E sz = true) (hx : OpdOk x (.sl id) lx) :
    OpX P ⟨dst, .call ⟨.builtin .len, #[x], #[T]⟩, ty, pos, af, g⟩ lx [(id, .arr e l)] (.val (l.length : Int)) [] [] := by
  refine OpX.pure fun m w0 w a hw hs ho => ?_
  have e1 : a.eval x = m.sv id := hx m a hs
  obtain ⟨cs, h3, h2⟩ := ho (id, .arr e l) (by simp)
  rcases h2 with ⟨hn1, ad, hn2⟩ | ⟨⟨cap, cur, hv1, hv3, hv4, hv5, hv6, hv7⟩, _⟩
  · refine ⟨.int .i64 l.length, ?_, int_holds m ⟨by omega, by subst hn1; simp⟩⟩
    simp [execOp, resolve, invoke, builtin, e1, hn2, hn1, run_len h]
  · refine ⟨.int .i64 l.length, ?_, int_holds m ⟨by omega, by unfold maxLen at hv5; omega⟩⟩
    simp [execOp, resolve, invoke, builtin, e1, hv1, run_len h]
theorem ox_len_str {T : Nat} {x : Operand} {lx : List (Nat × Desc)} {s : ByteArray} {dst ty pos af g} (h : P.underlying T = some .string) (hx : OpdOk x (.val s) lx) :
    OpX P ⟨dst, .call ⟨.builtin .len, #[x], #[T]⟩, ty, pos, af, g⟩ lx [] (.val (s.size : Int)) [] [] := by
  refine OpX.pure fun m w0 w a hw hs ho => ?_
  obtain ⟨e1, h2⟩ := holds_str (hx m a hs)
  refine ⟨.int .i64 s.size, ?_, int_holds m ⟨by omega, by omega⟩⟩
  simp [execOp, resolve, invoke, builtin, e1, Builtin.len_, run_underlying h, goInt]

/-! ### parts of slices -/
theorem RepS.part {α : Type} [GoTy α] {p : PH} {l : List α} {a : Option Addr} {n c : Nat} (h : RepS p l (.slice a n c)) (lo hi : Nat) (h1 : lo ≤ hi) (h2 : hi ≤ l.length) :
    RepS p ((l.drop lo).take (hi - lo)) (.slice (if c = lo then a else a.map (·.add (lo * GoTy.sz α))) (hi - lo) (c - lo)) := by
  obtain ⟨ad, c', cs, e1, h3, h4, h5, h6, h7⟩ := h
  cases e1
  have h8 := (h5.drop lo).take (hi - lo)
  refine ⟨(if c = lo then a else a.map (·.add (lo * GoTy.sz α))), c - lo, _, ?_, ?_, by omega, h8, ?_, ?_⟩
  · congr 1; simp; omega
  · simp; omega
  · split
    · intro e; have := h6 e; omega
    · intro e; have := h6 (by simpa using e); omega
  · by_cases hc : c = lo
    · have hlo : lo = hi := by omega
      left
      have : ((l.drop lo).take (hi - lo)) = [] := by rw [hlo]; simp
      rw [this] at h8
      exact h8
    · rcases h7 with h7 | ⟨b, o, rfl, h7⟩
      · left; rw [h7]; simp
      · right
        refine ⟨b, o + lo * GoTy.sz α, by simp [hc, Addr.add_mid], fun j u hu => ?_⟩
        rw [Nat.add_assoc]
        exact h7 _ _ (getElem?_take_drop _ _ _ _ _ hu)

end
end Go.Gx
