/- WHAT THE STATEMENTS OF THIS GROUP NEED, part 2: laid together by prune.py out of own texts. -/
import Derived.Test.YtihaabdflfpacaaZLo1
section
namespace Go.Gx
open Go.RowKit Sp
set_option linter.unusedVariables false
set_option linter.unusedSimpArgs false
instance instU32 : GoTy U32 where
  sz := 1
  agg := false
  rep _ x vs := vs = [.int .u32 x.n] ∧ 0 ≤ x.n ∧ x.n < 4294967296
  len h := by simp [h.1]
  mono _ h := h
  one h v hv := by simp [h.1] at hv; subst hv; rfl
  single _ := rfl
  pos := by decide
instance instI32 : GoTy I32 where
  sz := 1
  agg := false
  rep _ x vs := vs = [.int .i32 x.n] ∧ -2147483648 ≤ x.n ∧ x.n < 2147483648
  len h := by simp [h.1]
  mono _ h := h
  one h v hv := by simp [h.1] at hv; subst hv; rfl
  single _ := rfl
  pos := by decide
section
variable {P : Program}
theorem holds_u32 {m : M} {x : U32} {v : Value} (h : Desc.holds m (.val x) v) : v = .int .u32 x.n ∧ 0 ≤ x.n ∧ x.n < 4294967296 := by
  obtain ⟨vs, h1, h2⟩ := h
  obtain ⟨rfl, h3⟩ : vs = [.int .u32 x.n] ∧ 0 ≤ x.n ∧ x.n < 4294967296 := h1
  exact ⟨h2, h3⟩
theorem u32_holds (m : M) {x : U32} (h : 0 ≤ x.n ∧ x.n < 4294967296) : Desc.holds m (.val x) (.int .u32 x.n) := ⟨_, ⟨rfl, h⟩, rfl⟩
theorem holds_i32 {m : M} {x : I32} {v : Value} (h : Desc.holds m (.val x) v) : v = .int .i32 x.n ∧ -2147483648 ≤ x.n ∧ x.n < 2147483648 := by
  obtain ⟨vs, h1, h2⟩ := h
  obtain ⟨rfl, h3⟩ : vs = [.int .i32 x.n] ∧ -2147483648 ≤ x.n ∧ x.n < 2147483648 := h1
  exact ⟨h2, h3⟩
theorem i32_holds (m : M) {x : I32} (h : -2147483648 ≤ x.n ∧ x.n < 2147483648) : Desc.holds m (.val x) (.int .i32 x.n) := ⟨_, ⟨rfl, h⟩, rfl⟩
theorem OpdOk.u32 {n : Int} (h1 : decide (0 ≤ n) = true := by decide) (h2 : decide (n < 4294967296) = true := by decide) : OpdOk (.const (.int .u32 n)) (.val (⟨n⟩ : U32)) [] :=
  fun m a _ => ⟨_, ⟨rfl, of_decide_eq_true h1, of_decide_eq_true h2⟩, rfl⟩
theorem OpdOk.u8 {n : Nat} (h : decide (n < 256) = true := by decide) : OpdOk (.const (.int .u8 (n : Int))) (.val (UInt8.ofNat n)) [] :=
  fun m a _ => ⟨_, rfl, by
    have h' := of_decide_eq_true h
    show Value.int .u8 (n : Int) = Value.int .u8 ((UInt8.ofNat n).toNat : Int)
    rw [show (UInt8.ofNat n).toNat = n from Nat.mod_eq_of_lt h']⟩
def cvB (P : Program) (src dst : TypeId) (k : IntKind) : Bool := (P.underlying src).isSome && (match P.underlying dst with | some (.int k') => k' == k | _ => false)
theorem run_cv {src dst : TypeId} {k k0 : IntKind} {n : Int} (h : cvB P src dst k = true) (w : World) : (convert src dst (.int k0 n)).run P w = .ok (.int k (k.wrap n)) w := by
  unfold cvB at h
  simp only [Bool.and_eq_true] at h
  obtain ⟨h1, h2⟩ := h
  obtain ⟨d, hd⟩ := Option.isSome_iff_exists.mp h1
  split at h2
  · rename_i k' hk
    simp only [beq_iff_eq] at h2
    subst h2
    simp [convert, run_underlying hd, run_underlying hk, Conv.intToInt]
  · cases h2
section cv
variable {x : Operand} {lx : List (Nat × Desc)} {src T : TypeId} {dst : Option Tmp} {ty : TypeId} {pos : String} {af : Array Edge} {g : Option (Nat × Bool)}
theorem exec_cv {a : Act} {w : World} {v u : Value} (e : a.eval x = v) (h : (convert src T v).run P w = .ok u w) : (execOp a.eval ⟨dst, .convert src T x, ty, pos, af, g⟩).run P w = .ok (.value u) w := by
  simp [execOp, e, h]
theorem ox_i64_u8 {p : Int} (h : cvB P src T .u8 = true) (hx : OpdOk x (.val p) lx) : OpX P ⟨dst, .convert src T x, ty, pos, af, g⟩ lx [] (.val (Sp.u8 p)) [] [] :=
  OpX.pure fun m w0 w a hw hs ho => by
    refine ⟨_, exec_cv (holds_int (hx m a hs)).1 (run_cv h w), ?_⟩
    have e : IntKind.u8.wrap p = ((Sp.u8 p).toNat : Int) := by
      rw [IntKind.wrap_u8]
      have : (Sp.u8 p).toNat = (p % 256).toNat := by
        unfold Sp.u8
        exact Nat.mod_eq_of_lt (by omega)
      rw [this]; omega
    rw [e]; exact u8_holds m _
theorem ox_u8_i64 {p : UInt8} (h : cvB P src T .i64 = true) (hx : OpdOk x (.val p) lx) : OpX P ⟨dst, .convert src T x, ty, pos, af, g⟩ lx [] (.val ((p.toNat : Nat) : Int)) [] [] :=
  OpX.pure fun m w0 w a hw hs ho => by
    refine ⟨_, exec_cv (holds_u8 (hx m a hs)) (run_cv h w), ?_⟩
    have hlt := p.toNat_lt
    have e : IntKind.i64.wrap (p.toNat : Int) = (p.toNat : Int) := wrap_in ⟨by omega, by omega⟩
    rw [e]; exact int_holds m ⟨by omega, by omega⟩
theorem ox_u8_u32 {p : UInt8} (h : cvB P src T .u32 = true) (hx : OpdOk x (.val p) lx) : OpX P ⟨dst, .convert src T x, ty, pos, af, g⟩ lx [] (.val (⟨((p.toNat : Nat) : Int)⟩ : U32)) [] [] :=
  OpX.pure fun m w0 w a hw hs ho => by
    refine ⟨_, exec_cv (holds_u8 (hx m a hs)) (run_cv h w), ?_⟩
    have hlt := p.toNat_lt
    have e : IntKind.u32.wrap (p.toNat : Int) = (p.toNat : Int) := by rw [IntKind.wrap_u32]; omega
    rw [e]; exact u32_holds m (x := ⟨(p.toNat : Int)⟩) ⟨by show (0 : Int) ≤ p.toNat; omega, by show (p.toNat : Int) < 4294967296; omega⟩
theorem ox_i64_u32 {p : Int} (h : cvB P src T .u32 = true) (hx : OpdOk x (.val p) lx) : OpX P ⟨dst, .convert src T x, ty, pos, af, g⟩ lx [] (.val (Sp.u32 p)) [] [] :=
  OpX.pure fun m w0 w a hw hs ho => by
    refine ⟨_, exec_cv (holds_int (hx m a hs)).1 (run_cv h w), ?_⟩
    rw [IntKind.wrap_u32]; exact u32_holds m (x := Sp.u32 p) (by unfold Sp.u32; exact ⟨by show (0 : Int) ≤ p % 4294967296; omega, by show p % 4294967296 < 4294967296; omega⟩)
theorem ox_u32_u8 {p : U32} (h : cvB P src T .u8 = true) (hx : OpdOk x (.val p) lx) : OpX P ⟨dst, .convert src T x, ty, pos, af, g⟩ lx [] (.val (Sp.u8 p.n)) [] [] :=
  OpX.pure fun m w0 w a hw hs ho => by
    refine ⟨_, exec_cv (holds_u32 (hx m a hs)).1 (run_cv h w), ?_⟩
    have e : IntKind.u8.wrap p.n = ((Sp.u8 p.n).toNat : Int) := by
      rw [IntKind.wrap_u8]
      have : (Sp.u8 p.n).toNat = (p.n % 256).toNat := by
        unfold Sp.u8
        exact Nat.mod_eq_of_lt (by omega)
      rw [this]; omega
    rw [e]; exact u8_holds m _
theorem ox_u32_i32 {p : U32} (h : cvB P src T .i32 = true) (hx : OpdOk x (.val p) lx) : OpX P ⟨dst, .convert src T x, ty, pos, af, g⟩ lx [] (.val (Sp.i32 p.n)) [] [] :=
  OpX.pure fun m w0 w a hw hs ho => by
    refine ⟨_, exec_cv (holds_u32 (hx m a hs)).1 (run_cv h w), ?_⟩
    rw [IntKind.wrap_i32]
    exact i32_holds m (x := Sp.i32 p.n) (by unfold Sp.i32; exact ⟨by show (-2147483648 : Int) ≤ (p.n + 2147483648) % 4294967296 - 2147483648; omega, by show (p.n + 2147483648) % 4294967296 - 2147483648 < 2147483648; omega⟩)
theorem ox_i32_i64 {p : I32} (h : cvB P src T .i64 = true) (hx : OpdOk x (.val p) lx) : OpX P ⟨dst, .convert src T x, ty, pos, af, g⟩ lx [] (.val p.n) [] [] :=
  OpX.pure fun m w0 w a hw hs ho => by
    obtain ⟨e1, e2⟩ := holds_i32 (hx m a hs)
    refine ⟨_, exec_cv e1 (run_cv h w), ?_⟩
    have h1 : I64 p.n := ⟨by omega, by omega⟩
    rw [wrap_in h1]; exact int_holds m h1
end cv
section bin
variable {x y : Operand} {lx ly : List (Nat × Desc)} {T T' : TypeId} {dst : Option Tmp} {ty : TypeId} {pos : String} {af : Array Edge} {g : Option (Nat × Bool)}
theorem run_kk {op : BinOp} {a : Act} {w : World} {k k' : IntKind} {p q : Int} (e1 : a.eval x = .int k p) (e2 : a.eval y = .int k' q)
    {v : Value} (hr : (binOp op T (.int k p) (.int k' q)).run P w = .ok v w) : (execOp a.eval ⟨dst, .binOp op T x y T', ty, pos, af, g⟩).run P w = .ok (.value v) w := by
  have e3 : (eqGuard op T x y (.int k p) (.int k' q)).run P w = .ok () w := by unfold eqGuard; cases op <;> rfl
  simp [execOp, e1, e2, e3, hr]
theorem ox_addU {p q : U32} (hx : OpdOk x (.val p) lx) (hy : OpdOk y (.val q) ly) : OpX P ⟨dst, .binOp .add T x y T', ty, pos, af, g⟩ (lx ++ ly) [] (.val (Sp.u32 (p.n + q.n))) [] [] :=
  OpX.pure fun m w0 w a hw hs ho => by
    refine ⟨.int .u32 ((p.n + q.n) % 4294967296), run_kk (holds_u32 (opd_l hx hs)).1 (holds_u32 (opd_r hy hs)).1 (by simp [binOp, Op.intArith, IntKind.wrap_u32]), ?_⟩
    exact u32_holds m (x := Sp.u32 (p.n + q.n)) (by unfold Sp.u32; exact ⟨by show (0 : Int) ≤ _ % 4294967296; omega, by show _ % 4294967296 < (4294967296 : Int); omega⟩)
theorem ox_mulU {p q : U32} (hx : OpdOk x (.val p) lx) (hy : OpdOk y (.val q) ly) : OpX P ⟨dst, .binOp .mul T x y T', ty, pos, af, g⟩ (lx ++ ly) [] (.val (Sp.u32 (p.n * q.n))) [] [] :=
  OpX.pure fun m w0 w a hw hs ho => by
    refine ⟨.int .u32 ((p.n * q.n) % 4294967296), run_kk (holds_u32 (opd_l hx hs)).1 (holds_u32 (opd_r hy hs)).1 (by simp [binOp, Op.intArith, IntKind.wrap_u32]), ?_⟩
    exact u32_holds m (x := Sp.u32 (p.n * q.n)) (by unfold Sp.u32; exact ⟨by show (0 : Int) ≤ _ % 4294967296; omega, by show _ % 4294967296 < (4294967296 : Int); omega⟩)
theorem ox_quoU {p q : U32} (hx : OpdOk x (.val p) lx) (hy : OpdOk y (.val q) ly) (h : q.n ≠ 0) : OpX P ⟨dst, .binOp .quo T x y T', ty, pos, af, g⟩ (lx ++ ly) [] (.val (Sp.u32 (p.n.tdiv q.n))) [] [] :=
  OpX.pure fun m w0 w a hw hs ho => by
    refine ⟨.int .u32 ((p.n.tdiv q.n) % 4294967296), run_kk (holds_u32 (opd_l hx hs)).1 (holds_u32 (opd_r hy hs)).1 (by simp [binOp, Op.intDiv, h, IntKind.wrap_u32]), ?_⟩
    exact u32_holds m (x := Sp.u32 (p.n.tdiv q.n)) (by unfold Sp.u32; exact ⟨by show (0 : Int) ≤ _ % 4294967296; omega, by show _ % 4294967296 < (4294967296 : Int); omega⟩)
theorem ox_remU {p q : U32} (hx : OpdOk x (.val p) lx) (hy : OpdOk y (.val q) ly) (h : q.n ≠ 0) : OpX P ⟨dst, .binOp .rem T x y T', ty, pos, af, g⟩ (lx ++ ly) [] (.val (⟨p.n.tmod q.n⟩ : U32)) [] [] :=
  OpX.pure fun m w0 w a hw hs ho => by
    obtain ⟨e1, h1, h2⟩ := holds_u32 (opd_l hx hs)
    obtain ⟨e2, h3, h4⟩ := holds_u32 (opd_r hy hs)
    refine ⟨.int .u32 (p.n.tmod q.n), run_kk e1 e2 (by simp [binOp, Op.intDiv, h]), ?_⟩
    have e3 : p.n.tmod q.n = p.n % q.n := Int.tmod_eq_emod_of_nonneg h1
    have h5 := Int.emod_nonneg p.n h
    have h6 := Int.emod_lt_of_pos p.n (show 0 < q.n by omega)
    exact u32_holds m (x := ⟨p.n.tmod q.n⟩) ⟨by show 0 ≤ p.n.tmod q.n; rw [e3]; exact h5, by show p.n.tmod q.n < 4294967296; rw [e3]; omega⟩
theorem ox_neqU8 {p q : UInt8} (hx : OpdOk x (.val p) lx) (hy : OpdOk y (.val q) ly) : OpX P ⟨dst, .binOp .neq T x y T', ty, pos, af, g⟩ (lx ++ ly) [] (.val (!decide (p = q))) [] [] :=
  OpX.pure fun m w0 w a hw hs ho => by
    refine ⟨.bool (!decide (p = q)), run_kk (holds_u8 (opd_l hx hs)) (holds_u8 (opd_r hy hs)) ?_, bool_holds m _⟩
    have e : ((p.toNat : Int) == (q.toNat : Int)) = decide (p = q) := by
      rw [Bool.eq_iff_iff]
      simp only [beq_iff_eq, decide_eq_true_eq]
      constructor
      · intro h; exact UInt8.toNat_inj.1 (by omega)
      · intro h; rw [h]
    simp [binOp, Op.intCmp]
    exact congrArg (!·) e
theorem run_ss {op : BinOp} {a : Act} {w : World} {p q : ByteArray} (e1 : a.eval x = .string p) (e2 : a.eval y = .string q)
    {v : Value} (hr : (Op.stringOp op p q).run P w = .ok v w) : (execOp a.eval ⟨dst, .binOp op T x y T', ty, pos, af, g⟩).run P w = .ok (.value v) w := by
  have e3 : (eqGuard op T x y (.string p) (.string q)).run P w = .ok () w := by unfold eqGuard; cases op <;> rfl
  have e4 : binOp op T (.string p) (.string q) = Op.stringOp op p q := by cases op <;> rfl
  simp [execOp, e1, e2, e3, e4, hr]
theorem ox_addStr {p q : ByteArray} (hx : OpdOk x (.val p) lx) (hy : OpdOk y (.val q) ly) (h : p.size + q.size ≤ 9223372036854775807) : OpX P ⟨dst, .binOp .add T x y T', ty, pos, af, g⟩ (lx ++ ly) [] (.val (p ++ q)) [] [] :=
  OpX.pure fun m w0 w a hw hs ho => ⟨_, run_ss (holds_str (opd_l hx hs)).1 (holds_str (opd_r hy hs)).1 (run_string_add_sum w p q h), str_holds m (by rw [ByteArray.size_append]; exact h)⟩
end bin
section cvs
variable {x : Operand} {lx : List (Nat × Desc)} {src T : TypeId} {dst : Option Tmp} {ty : TypeId} {pos : String} {af : Array Edge} {g : Option (Nat × Bool)}
def bsB (P : Program) (s t e : TypeId) : Bool := (match P.underlying s with | some (.slice e') => e' == e | _ => false) && (match P.underlying e with | some (.int .u8) => true | _ => false) && (match P.underlying t with | some .string => true | _ => false)
theorem bsB_inv {s t e : TypeId} (h : bsB P s t e = true) : P.underlying s = some (.slice e) ∧ P.underlying e = some (.int .u8) ∧ P.underlying t = some .string := by
  unfold bsB at h
  simp only [Bool.and_eq_true] at h
  obtain ⟨⟨h1, h2⟩, h3⟩ := h
  refine ⟨?_, ?_, ?_⟩
  · split at h1
    · rename_i e' he; rw [he]; simp at h1; rw [h1]
    · cases h1
  · split at h2
    · assumption
    · cases h2
  · split at h3
    · assumption
    · cases h3
theorem repL_u8 {p : PH} : ∀ {l : List UInt8} {cs : List Value}, RepL p l cs → cs = l.map fun b => .int .u8 (b.toNat : Int)
  | [], cs, h => h
  | b :: l, cs, ⟨c, r, h1, h2, h3⟩ => by
    have h2' : c = [.int .u8 b.toNat] := h2
    rw [h1, h2', repL_u8 h3]; rfl
theorem ox_bts {p : List UInt8} {e : TypeId} (h : bsB P src T e = true) (hx : OpdOk x (.val p) lx) : OpX P ⟨dst, .convert src T x, ty, pos, af, g⟩ lx [] (.val (Sp.bts p)) [] [] :=
  OpX.pure fun m w0 w a hw hs ho => by
    obtain ⟨h1, h2, h3⟩ := bsB_inv h
    obtain ⟨ad, c, cs, e1, e2, e3, e4, e5, e6⟩ := holds_list (hx m a hs)
    have hsz : (Sp.bts p).size ≤ 9223372036854775807 := by show p.toArray.size ≤ _; simp; omega
    refine ⟨.string (Sp.bts p), exec_cv e1 ?_, str_holds m hsz⟩
    have hcs := repL_u8 e4
    rcases e6 with e6 | ⟨b, o, rfl, e6⟩
    · have hp : p = [] := by
        rw [hcs] at e6; exact List.map_eq_nil_iff.1 e6
      subst hp
      cases ad with
      | none => exact run_convert_bytes_nil w src e h1 h2 _ c T h3
      | some ad => exact run_convert_bytes_back w src T e ad c [] h1 h2 h3 (fun j hj => by simp at hj)
    · refine run_convert_bytes_back w src T e ⟨b, o, none⟩ c p h1 h2 h3 fun j hj => ?_
      rw [Addr.add_mid]
      refine hw.on _ _ _ (e6 j _ ?_)
      rw [hcs]; simp [hj]
theorem ox_stb {s : ByteArray} {e : TypeId} (h : bsB P T src e = true) (hx : OpdOk x (.val s) lx) : OpX P ⟨dst, .convert src T x, ty, pos, af, g⟩ lx [] (.val (Sp.stb s)) [] [] := by
  obtain ⟨h1, h2, h3⟩ := bsB_inv h
  refine OpX.turn fun m w0 w a hw hs ho => ?_
  obtain ⟨e1, e2⟩ := holds_str (hx m a hs)
  have hrun := run_bytes_of_string (P := P) w src T e s h3 h1 h2
  obtain ⟨C, hC⟩ : ∃ C, C = bytesRow s (grownCap w s.size 0 e) := ⟨_, rfl⟩
  rw [← hC] at hrun
  have hb : Below w.heap.size w (w.drew.alloc (.cells C e (C.size, C.size + 1))) := ((Below.refl _ w).drew).alloc (Nat.le_refl _) _
  have hnew := heap_new w.drew (.cells C e (C.size, C.size + 1))
  refine ⟨_, _, m.more w (w.drew.alloc (.cells C e (C.size, C.size + 1))), .inl (by simp only [execOp, e1, Sem.run_bind, hrun, Result.andThen_ok]; rfl), hw.more hb, Chg.more hw hb _, ?_, fun id' e he => by cases he⟩
  have hlen : (Sp.stb s).length = s.size := by show s.data.toList.length = s.data.size; simp
  refine list_holds ⟨some ⟨w.heap.size, 0, none⟩, grownCap w s.size 0 e, (Sp.stb s).map fun b => .int .u8 (b.toNat : Int), by rw [hlen], by rw [hlen]; exact grownCap_ge w s.size 0 e, grownCap_le_maxLen w s.size 0 e (by unfold maxLen; omega), ?_, fun h => (by cases h), .inr ⟨w.heap.size, 0, rfl, fun j u hu => ?_⟩⟩
  · have : ∀ l : List UInt8, RepL (m.more w (w.drew.alloc (.cells C e (C.size, C.size + 1)))).ph l (l.map fun b => .int .u8 (b.toNat : Int)) := by
      intro l
      induction l with
      | nil => rfl
      | cons b l ih => exact ⟨[.int .u8 b.toNat], _, rfl, rfl, ih⟩
    exact this _
  · simp only [M.more, Nat.lt_irrefl, if_false, Nat.zero_add]
    unfold World.cell?
    have hh : (w.drew.alloc (.cells C e (C.size, C.size + 1))).heap[w.heap.size]? = some (.cells C e (C.size, C.size + 1)) := hnew
    simp only [hh]
    have hj : j < s.data.size := by
      have := (List.getElem?_eq_some_iff.1 hu).1
      simpa [Sp.stb] using this
    rw [hC, bytesRow]
    rw [Array.getElem?_append_left (by simpa using hj)]
    simp [Sp.stb, hj] at hu ⊢
    exact hu
end cvs
section nil
variable {x y : Operand} {lx ly : List (Nat × Desc)} {T T' : TypeId} {dst : Option Tmp} {ty : TypeId} {pos : String} {af : Array Edge} {g : Option (Nat × Bool)}
def slB2 (P : Program) (T : TypeId) : Bool := match P.underlying T with | some (.slice _) => true | _ => false
theorem run_nileq {w : World} {a : Option Addr} {n c : Nat} (h : slB2 P T = true) : (Op.equal T (.slice a n c) (.slice none 0 0)).run P w = .ok a.isNone w := by
  unfold slB2 at h
  split at h
  · rename_i e he
    exact run_equal_slice_nil w T e a n c he
  · cases h
theorem exec_nileq {a : Act} {w : World} {ad : Option Addr} {n c : Nat} (h : slB2 P T = true) (e1 : a.eval x = .slice ad n c) (e2 : a.eval y = .slice none 0 0) :
    (execOp a.eval ⟨dst, .binOp .eql T x y T', ty, pos, af, g⟩).run P w = .ok (.value (.bool ad.isNone)) w := by
  have e3 : (eqGuard .eql T x y (.slice ad n c) (.slice none 0 0)).run P w = .ok () w := by unfold eqGuard; rfl
  have e4 : binOp .eql T (.slice ad n c) (.slice none 0 0) = (do pure (.bool (← Op.equal T (.slice ad n c) (.slice none 0 0)))) := rfl
  simp [execOp, e1, e2, e3, e4, run_nileq h]
theorem ox_isNil {α : Type} [GoTy α] {l : List α} (h : slB2 P T = true) (hx : OpdOk x (.val l) lx) (hy : OpdOk y .nilS ly) :
    OpX P ⟨dst, .binOp .eql T x y T', ty, pos, af, g⟩ (lx ++ ly) [] (.boolOf fun b => b = true → l = []) [] [] :=
  OpX.pure fun m w0 w a hw hs ho => by
    obtain ⟨ad, c, cs, e1, h2, h3, h4, h5, h6⟩ := holds_list (opd_l hx hs)
    have e2 : a.eval y = .slice none 0 0 := opd_r hy hs
    refine ⟨_, exec_nileq h e1 e2, _, fun hb => ?_, rfl⟩
    cases ad with
    | none =>
      have := h5 rfl
      exact List.eq_nil_of_length_eq_zero (by omega)
    | some ad => cases hb
end nil
section pt
variable {w0 : B0} {n : Nat} {σ : St} {Q : Exit → Act → World → Prop}
theorem PT.condB {t : Nat} {x y : Code} (p : Bool → Prop) (hl : look σ.s t = some (.boolOf p)) (h1 : p true → PT w0 n σ (x.wp P Q)) (h2 : p false → PT w0 n σ (y.wp P Q)) :
    PT w0 n σ ((Code.cond (.tmp t) x y).wp P Q) := fun a w ha => by
  have ha' := ha
  obtain ⟨m, e1, e2, e3, e4, e5⟩ := ha'
  obtain ⟨b, hb, hv⟩ := e4 t _ hl
  have hev : a.eval (.tmp t) = .bool b := hv
  exact wp_cond_split hev (fun e => h1 (e ▸ hb) a w ha) (fun e => h2 (e ▸ hb) a w ha)
end pt
section asx
variable {w0 : B0} {n : Nat} {σs : List (Nat × Desc)} {σo : List (Nat × ODesc)} {Q : Act → World → Prop}
end asx
section mm
variable {x y : Operand} {lx ly : List (Nat × Desc)} {p q : Int} {ats : Array TypeId} {dst : Option Tmp} {ty : TypeId} {pos : String} {af : Array Edge} {g : Option (Nat × Bool)}
end mm
end
end Go.Gx
end
section
namespace Go.Gx
open Go.RowKit Sp
set_option linter.unusedVariables false
set_option linter.unusedSimpArgs false
section
variable {P : Program}
@[reducible] def fnV (f : FuncId) : Value := .func (.func f) #[] #[]
section lk
variable {T s id : Nat} {kv : List (Int × Value)} {key : Operand} {lk : List (Nat × Desc)} {k : Int} {dst : Option Tmp} {ty : TypeId} {pos : String} {af : Array Edge} {g : Option (Nat × Bool)}
end lk
end
end Go.Gx
end
section
namespace Go.Gx
open Sp
set_option linter.unusedVariables false
instance instWrite : GoTy Mk.Write := GoTy.via (β := Int × Int) fun x => (x.At, x.N)
def lWrite : Lens Mk.Write (Int × Int) := Lens.via (α := Mk.Write) (β := Int × Int) (fun x : Mk.Write => (x.At, x.N)) (fun y : Int × Int => (⟨y.1, y.2⟩ : Mk.Write)) (fun _ => rfl)
@[reducible] def Write_At : Lens Mk.Write (Int) := ⟨(lWrite.comp Lens.fst).off, fun x => x.At, fun x y => { x with At := y }, (lWrite.comp Lens.fst).hget, (lWrite.comp Lens.fst).hset, (lWrite.comp Lens.fst).hle⟩
@[reducible] def Write_N : Lens Mk.Write (Int) := ⟨(lWrite.comp Lens.snd).off, fun x => x.N, fun x y => { x with N := y }, (lWrite.comp Lens.snd).hget, (lWrite.comp Lens.snd).hset, (lWrite.comp Lens.snd).hle⟩
instance instCall : GoTy Mk.Call := GoTy.via (β := Int × Int × Int × Int) fun x => (x.Kind, x.Name, x.Other, x.N)
def lCall : Lens Mk.Call (Int × Int × Int × Int) := Lens.via (α := Mk.Call) (β := Int × Int × Int × Int) (fun x : Mk.Call => (x.Kind, x.Name, x.Other, x.N)) (fun y : Int × Int × Int × Int => (⟨y.1, y.2.1, y.2.2.1, y.2.2.2⟩ : Mk.Call)) (fun _ => rfl)
@[reducible] def Call_Kind : Lens Mk.Call (Int) := ⟨(lCall.comp Lens.fst).off, fun x => x.Kind, fun x y => { x with Kind := y }, (lCall.comp Lens.fst).hget, (lCall.comp Lens.fst).hset, (lCall.comp Lens.fst).hle⟩
@[reducible] def Call_Name : Lens Mk.Call (Int) := ⟨((lCall.comp Lens.snd).comp Lens.fst).off, fun x => x.Name, fun x y => { x with Name := y }, ((lCall.comp Lens.snd).comp Lens.fst).hget, ((lCall.comp Lens.snd).comp Lens.fst).hset, ((lCall.comp Lens.snd).comp Lens.fst).hle⟩
@[reducible] def Call_Other : Lens Mk.Call (Int) := ⟨(((lCall.comp Lens.snd).comp Lens.snd).comp Lens.fst).off, fun x => x.Other, fun x y => { x with Other := y }, (((lCall.comp Lens.snd).comp Lens.snd).comp Lens.fst).hget, (((lCall.comp Lens.snd).comp Lens.snd).comp Lens.fst).hset, (((lCall.comp Lens.snd).comp Lens.snd).comp Lens.fst).hle⟩
@[reducible] def Call_N : Lens Mk.Call (Int) := ⟨(((lCall.comp Lens.snd).comp Lens.snd).comp Lens.snd).off, fun x => x.N, fun x y => { x with N := y }, (((lCall.comp Lens.snd).comp Lens.snd).comp Lens.snd).hget, (((lCall.comp Lens.snd).comp Lens.snd).comp Lens.snd).hset, (((lCall.comp Lens.snd).comp Lens.snd).comp Lens.snd).hle⟩
instance instReply : GoTy Mk.Reply := GoTy.via (β := Int × Int) fun x => (x.Err, x.N)
def lReply : Lens Mk.Reply (Int × Int) := Lens.via (α := Mk.Reply) (β := Int × Int) (fun x : Mk.Reply => (x.Err, x.N)) (fun y : Int × Int => (⟨y.1, y.2⟩ : Mk.Reply)) (fun _ => rfl)
@[reducible] def Reply_Err : Lens Mk.Reply (Int) := ⟨(lReply.comp Lens.fst).off, fun x => x.Err, fun x y => { x with Err := y }, (lReply.comp Lens.fst).hget, (lReply.comp Lens.fst).hset, (lReply.comp Lens.fst).hle⟩
@[reducible] def Reply_N : Lens Mk.Reply (Int) := ⟨(lReply.comp Lens.snd).off, fun x => x.N, fun x y => { x with N := y }, (lReply.comp Lens.snd).hget, (lReply.comp Lens.snd).hset, (lReply.comp Lens.snd).hle⟩
instance instRequest : GoTy Mk.Request := GoTy.via (β := Int × Int × Mk.Call) fun x => (x.Client, x.Token, x.Call)
def lRequest : Lens Mk.Request (Int × Int × Mk.Call) := Lens.via (α := Mk.Request) (β := Int × Int × Mk.Call) (fun x : Mk.Request => (x.Client, x.Token, x.Call)) (fun y : Int × Int × Mk.Call => (⟨y.1, y.2.1, y.2.2⟩ : Mk.Request)) (fun _ => rfl)
@[reducible] def Request_Client : Lens Mk.Request (Int) := ⟨(lRequest.comp Lens.fst).off, fun x => x.Client, fun x y => { x with Client := y }, (lRequest.comp Lens.fst).hget, (lRequest.comp Lens.fst).hset, (lRequest.comp Lens.fst).hle⟩
@[reducible] def Request_Token : Lens Mk.Request (Int) := ⟨((lRequest.comp Lens.snd).comp Lens.fst).off, fun x => x.Token, fun x y => { x with Token := y }, ((lRequest.comp Lens.snd).comp Lens.fst).hget, ((lRequest.comp Lens.snd).comp Lens.fst).hset, ((lRequest.comp Lens.snd).comp Lens.fst).hle⟩
@[reducible] def Request_Call : Lens Mk.Request (Mk.Call) := ⟨((lRequest.comp Lens.snd).comp Lens.snd).off, fun x => x.Call, fun x y => { x with Call := y }, ((lRequest.comp Lens.snd).comp Lens.snd).hget, ((lRequest.comp Lens.snd).comp Lens.snd).hset, ((lRequest.comp Lens.snd).comp Lens.snd).hle⟩
instance instAnswer : GoTy Mk.Answer := GoTy.via (β := Int × Int × Mk.Reply) fun x => (x.Client, x.Token, x.Reply)
def lAnswer : Lens Mk.Answer (Int × Int × Mk.Reply) := Lens.via (α := Mk.Answer) (β := Int × Int × Mk.Reply) (fun x : Mk.Answer => (x.Client, x.Token, x.Reply)) (fun y : Int × Int × Mk.Reply => (⟨y.1, y.2.1, y.2.2⟩ : Mk.Answer)) (fun _ => rfl)
@[reducible] def Answer_Client : Lens Mk.Answer (Int) := ⟨(lAnswer.comp Lens.fst).off, fun x => x.Client, fun x y => { x with Client := y }, (lAnswer.comp Lens.fst).hget, (lAnswer.comp Lens.fst).hset, (lAnswer.comp Lens.fst).hle⟩
@[reducible] def Answer_Token : Lens Mk.Answer (Int) := ⟨((lAnswer.comp Lens.snd).comp Lens.fst).off, fun x => x.Token, fun x y => { x with Token := y }, ((lAnswer.comp Lens.snd).comp Lens.fst).hget, ((lAnswer.comp Lens.snd).comp Lens.fst).hset, ((lAnswer.comp Lens.snd).comp Lens.fst).hle⟩
@[reducible] def Answer_Reply : Lens Mk.Answer (Mk.Reply) := ⟨((lAnswer.comp Lens.snd).comp Lens.snd).off, fun x => x.Reply, fun x y => { x with Reply := y }, ((lAnswer.comp Lens.snd).comp Lens.snd).hget, ((lAnswer.comp Lens.snd).comp Lens.snd).hset, ((lAnswer.comp Lens.snd).comp Lens.snd).hle⟩
instance instStore : GoTy Mk.Store := GoTy.via (β := (List Int) × (List Mk.Write) × (List Mk.Answer) × (List Mk.Request)) fun x => (x.Cells, x.Undo, x.Answers, x.Past)
def lStore : Lens Mk.Store ((List Int) × (List Mk.Write) × (List Mk.Answer) × (List Mk.Request)) := Lens.via (α := Mk.Store) (β := (List Int) × (List Mk.Write) × (List Mk.Answer) × (List Mk.Request)) (fun x : Mk.Store => (x.Cells, x.Undo, x.Answers, x.Past)) (fun y : (List Int) × (List Mk.Write) × (List Mk.Answer) × (List Mk.Request) => (⟨y.1, y.2.1, y.2.2.1, y.2.2.2⟩ : Mk.Store)) (fun _ => rfl)
@[reducible] def Store_Cells : Lens Mk.Store (List Int) := ⟨(lStore.comp Lens.fst).off, fun x => x.Cells, fun x y => { x with Cells := y }, (lStore.comp Lens.fst).hget, (lStore.comp Lens.fst).hset, (lStore.comp Lens.fst).hle⟩
@[reducible] def Store_Undo : Lens Mk.Store (List Mk.Write) := ⟨((lStore.comp Lens.snd).comp Lens.fst).off, fun x => x.Undo, fun x y => { x with Undo := y }, ((lStore.comp Lens.snd).comp Lens.fst).hget, ((lStore.comp Lens.snd).comp Lens.fst).hset, ((lStore.comp Lens.snd).comp Lens.fst).hle⟩
@[reducible] def Store_Answers : Lens Mk.Store (List Mk.Answer) := ⟨(((lStore.comp Lens.snd).comp Lens.snd).comp Lens.fst).off, fun x => x.Answers, fun x y => { x with Answers := y }, (((lStore.comp Lens.snd).comp Lens.snd).comp Lens.fst).hget, (((lStore.comp Lens.snd).comp Lens.snd).comp Lens.fst).hset, (((lStore.comp Lens.snd).comp Lens.snd).comp Lens.fst).hle⟩
@[reducible] def Store_Past : Lens Mk.Store (List Mk.Request) := ⟨(((lStore.comp Lens.snd).comp Lens.snd).comp Lens.snd).off, fun x => x.Past, fun x y => { x with Past := y }, (((lStore.comp Lens.snd).comp Lens.snd).comp Lens.snd).hget, (((lStore.comp Lens.snd).comp Lens.snd).comp Lens.snd).hset, (((lStore.comp Lens.snd).comp Lens.snd).comp Lens.snd).hle⟩
instance instServer : GoTy Mk.Server := GoTy.via (β := Int × (List (List UInt8)) × Bool × Mk.Request × (List Mk.Write) × Mk.Reply) fun x => (x.Gen, x.Box, x.Busy, x.Now, x.Plan, x.Says)
def lServer : Lens Mk.Server (Int × (List (List UInt8)) × Bool × Mk.Request × (List Mk.Write) × Mk.Reply) := Lens.via (α := Mk.Server) (β := Int × (List (List UInt8)) × Bool × Mk.Request × (List Mk.Write) × Mk.Reply) (fun x : Mk.Server => (x.Gen, x.Box, x.Busy, x.Now, x.Plan, x.Says)) (fun y : Int × (List (List UInt8)) × Bool × Mk.Request × (List Mk.Write) × Mk.Reply => (⟨y.1, y.2.1, y.2.2.1, y.2.2.2.1, y.2.2.2.2.1, y.2.2.2.2.2⟩ : Mk.Server)) (fun _ => rfl)
@[reducible] def Server_Gen : Lens Mk.Server (Int) := ⟨(lServer.comp Lens.fst).off, fun x => x.Gen, fun x y => { x with Gen := y }, (lServer.comp Lens.fst).hget, (lServer.comp Lens.fst).hset, (lServer.comp Lens.fst).hle⟩
@[reducible] def Server_Box : Lens Mk.Server (List (List UInt8)) := ⟨((lServer.comp Lens.snd).comp Lens.fst).off, fun x => x.Box, fun x y => { x with Box := y }, ((lServer.comp Lens.snd).comp Lens.fst).hget, ((lServer.comp Lens.snd).comp Lens.fst).hset, ((lServer.comp Lens.snd).comp Lens.fst).hle⟩
@[reducible] def Server_Busy : Lens Mk.Server (Bool) := ⟨(((lServer.comp Lens.snd).comp Lens.snd).comp Lens.fst).off, fun x => x.Busy, fun x y => { x with Busy := y }, (((lServer.comp Lens.snd).comp Lens.snd).comp Lens.fst).hget, (((lServer.comp Lens.snd).comp Lens.snd).comp Lens.fst).hset, (((lServer.comp Lens.snd).comp Lens.snd).comp Lens.fst).hle⟩
@[reducible] def Server_Now : Lens Mk.Server (Mk.Request) := ⟨((((lServer.comp Lens.snd).comp Lens.snd).comp Lens.snd).comp Lens.fst).off, fun x => x.Now, fun x y => { x with Now := y }, ((((lServer.comp Lens.snd).comp Lens.snd).comp Lens.snd).comp Lens.fst).hget, ((((lServer.comp Lens.snd).comp Lens.snd).comp Lens.snd).comp Lens.fst).hset, ((((lServer.comp Lens.snd).comp Lens.snd).comp Lens.snd).comp Lens.fst).hle⟩
@[reducible] def Server_Plan : Lens Mk.Server (List Mk.Write) := ⟨(((((lServer.comp Lens.snd).comp Lens.snd).comp Lens.snd).comp Lens.snd).comp Lens.fst).off, fun x => x.Plan, fun x y => { x with Plan := y }, (((((lServer.comp Lens.snd).comp Lens.snd).comp Lens.snd).comp Lens.snd).comp Lens.fst).hget, (((((lServer.comp Lens.snd).comp Lens.snd).comp Lens.snd).comp Lens.snd).comp Lens.fst).hset, (((((lServer.comp Lens.snd).comp Lens.snd).comp Lens.snd).comp Lens.snd).comp Lens.fst).hle⟩
@[reducible] def Server_Says : Lens Mk.Server (Mk.Reply) := ⟨(((((lServer.comp Lens.snd).comp Lens.snd).comp Lens.snd).comp Lens.snd).comp Lens.snd).off, fun x => x.Says, fun x y => { x with Says := y }, (((((lServer.comp Lens.snd).comp Lens.snd).comp Lens.snd).comp Lens.snd).comp Lens.snd).hget, (((((lServer.comp Lens.snd).comp Lens.snd).comp Lens.snd).comp Lens.snd).comp Lens.snd).hset, (((((lServer.comp Lens.snd).comp Lens.snd).comp Lens.snd).comp Lens.snd).comp Lens.snd).hle⟩
instance instClient : GoTy Mk.Client := GoTy.via (β := (List Mk.Call) × Int × Bool × Int × (List (List UInt8)) × (List Mk.Reply)) fun x => (x.Calls, x.At, x.Sent, x.Gen, x.Box, x.Got)
def lClient : Lens Mk.Client ((List Mk.Call) × Int × Bool × Int × (List (List UInt8)) × (List Mk.Reply)) := Lens.via (α := Mk.Client) (β := (List Mk.Call) × Int × Bool × Int × (List (List UInt8)) × (List Mk.Reply)) (fun x : Mk.Client => (x.Calls, x.At, x.Sent, x.Gen, x.Box, x.Got)) (fun y : (List Mk.Call) × Int × Bool × Int × (List (List UInt8)) × (List Mk.Reply) => (⟨y.1, y.2.1, y.2.2.1, y.2.2.2.1, y.2.2.2.2.1, y.2.2.2.2.2⟩ : Mk.Client)) (fun _ => rfl)
@[reducible] def Client_Calls : Lens Mk.Client (List Mk.Call) := ⟨(lClient.comp Lens.fst).off, fun x => x.Calls, fun x y => { x with Calls := y }, (lClient.comp Lens.fst).hget, (lClient.comp Lens.fst).hset, (lClient.comp Lens.fst).hle⟩
@[reducible] def Client_At : Lens Mk.Client (Int) := ⟨((lClient.comp Lens.snd).comp Lens.fst).off, fun x => x.At, fun x y => { x with At := y }, ((lClient.comp Lens.snd).comp Lens.fst).hget, ((lClient.comp Lens.snd).comp Lens.fst).hset, ((lClient.comp Lens.snd).comp Lens.fst).hle⟩
@[reducible] def Client_Sent : Lens Mk.Client (Bool) := ⟨(((lClient.comp Lens.snd).comp Lens.snd).comp Lens.fst).off, fun x => x.Sent, fun x y => { x with Sent := y }, (((lClient.comp Lens.snd).comp Lens.snd).comp Lens.fst).hget, (((lClient.comp Lens.snd).comp Lens.snd).comp Lens.fst).hset, (((lClient.comp Lens.snd).comp Lens.snd).comp Lens.fst).hle⟩
@[reducible] def Client_Gen : Lens Mk.Client (Int) := ⟨((((lClient.comp Lens.snd).comp Lens.snd).comp Lens.snd).comp Lens.fst).off, fun x => x.Gen, fun x y => { x with Gen := y }, ((((lClient.comp Lens.snd).comp Lens.snd).comp Lens.snd).comp Lens.fst).hget, ((((lClient.comp Lens.snd).comp Lens.snd).comp Lens.snd).comp Lens.fst).hset, ((((lClient.comp Lens.snd).comp Lens.snd).comp Lens.snd).comp Lens.fst).hle⟩
@[reducible] def Client_Box : Lens Mk.Client (List (List UInt8)) := ⟨(((((lClient.comp Lens.snd).comp Lens.snd).comp Lens.snd).comp Lens.snd).comp Lens.fst).off, fun x => x.Box, fun x y => { x with Box := y }, (((((lClient.comp Lens.snd).comp Lens.snd).comp Lens.snd).comp Lens.snd).comp Lens.fst).hget, (((((lClient.comp Lens.snd).comp Lens.snd).comp Lens.snd).comp Lens.snd).comp Lens.fst).hset, (((((lClient.comp Lens.snd).comp Lens.snd).comp Lens.snd).comp Lens.snd).comp Lens.fst).hle⟩
@[reducible] def Client_Got : Lens Mk.Client (List Mk.Reply) := ⟨(((((lClient.comp Lens.snd).comp Lens.snd).comp Lens.snd).comp Lens.snd).comp Lens.snd).off, fun x => x.Got, fun x y => { x with Got := y }, (((((lClient.comp Lens.snd).comp Lens.snd).comp Lens.snd).comp Lens.snd).comp Lens.snd).hget, (((((lClient.comp Lens.snd).comp Lens.snd).comp Lens.snd).comp Lens.snd).comp Lens.snd).hset, (((((lClient.comp Lens.snd).comp Lens.snd).comp Lens.snd).comp Lens.snd).comp Lens.snd).hle⟩
instance instMachine : GoTy Mk.Machine := GoTy.via (β := Mk.Store × Mk.Server × Bool × Int × Int × (List Mk.Client)) fun x => (x.Store, x.Server, x.Up, x.Pause, x.Falls, x.Clients)
def lMachine : Lens Mk.Machine (Mk.Store × Mk.Server × Bool × Int × Int × (List Mk.Client)) := Lens.via (α := Mk.Machine) (β := Mk.Store × Mk.Server × Bool × Int × Int × (List Mk.Client)) (fun x : Mk.Machine => (x.Store, x.Server, x.Up, x.Pause, x.Falls, x.Clients)) (fun y : Mk.Store × Mk.Server × Bool × Int × Int × (List Mk.Client) => (⟨y.1, y.2.1, y.2.2.1, y.2.2.2.1, y.2.2.2.2.1, y.2.2.2.2.2⟩ : Mk.Machine)) (fun _ => rfl)
@[reducible] def Machine_Store : Lens Mk.Machine (Mk.Store) := ⟨(lMachine.comp Lens.fst).off, fun x => x.Store, fun x y => { x with Store := y }, (lMachine.comp Lens.fst).hget, (lMachine.comp Lens.fst).hset, (lMachine.comp Lens.fst).hle⟩
@[reducible] def Machine_Server : Lens Mk.Machine (Mk.Server) := ⟨((lMachine.comp Lens.snd).comp Lens.fst).off, fun x => x.Server, fun x y => { x with Server := y }, ((lMachine.comp Lens.snd).comp Lens.fst).hget, ((lMachine.comp Lens.snd).comp Lens.fst).hset, ((lMachine.comp Lens.snd).comp Lens.fst).hle⟩
@[reducible] def Machine_Up : Lens Mk.Machine (Bool) := ⟨(((lMachine.comp Lens.snd).comp Lens.snd).comp Lens.fst).off, fun x => x.Up, fun x y => { x with Up := y }, (((lMachine.comp Lens.snd).comp Lens.snd).comp Lens.fst).hget, (((lMachine.comp Lens.snd).comp Lens.snd).comp Lens.fst).hset, (((lMachine.comp Lens.snd).comp Lens.snd).comp Lens.fst).hle⟩
@[reducible] def Machine_Pause : Lens Mk.Machine (Int) := ⟨((((lMachine.comp Lens.snd).comp Lens.snd).comp Lens.snd).comp Lens.fst).off, fun x => x.Pause, fun x y => { x with Pause := y }, ((((lMachine.comp Lens.snd).comp Lens.snd).comp Lens.snd).comp Lens.fst).hget, ((((lMachine.comp Lens.snd).comp Lens.snd).comp Lens.snd).comp Lens.fst).hset, ((((lMachine.comp Lens.snd).comp Lens.snd).comp Lens.snd).comp Lens.fst).hle⟩
@[reducible] def Machine_Falls : Lens Mk.Machine (Int) := ⟨(((((lMachine.comp Lens.snd).comp Lens.snd).comp Lens.snd).comp Lens.snd).comp Lens.fst).off, fun x => x.Falls, fun x y => { x with Falls := y }, (((((lMachine.comp Lens.snd).comp Lens.snd).comp Lens.snd).comp Lens.snd).comp Lens.fst).hget, (((((lMachine.comp Lens.snd).comp Lens.snd).comp Lens.snd).comp Lens.snd).comp Lens.fst).hset, (((((lMachine.comp Lens.snd).comp Lens.snd).comp Lens.snd).comp Lens.snd).comp Lens.fst).hle⟩
@[reducible] def Machine_Clients : Lens Mk.Machine (List Mk.Client) := ⟨(((((lMachine.comp Lens.snd).comp Lens.snd).comp Lens.snd).comp Lens.snd).comp Lens.snd).off, fun x => x.Clients, fun x y => { x with Clients := y }, (((((lMachine.comp Lens.snd).comp Lens.snd).comp Lens.snd).comp Lens.snd).comp Lens.snd).hget, (((((lMachine.comp Lens.snd).comp Lens.snd).comp Lens.snd).comp Lens.snd).comp Lens.snd).hset, (((((lMachine.comp Lens.snd).comp Lens.snd).comp Lens.snd).comp Lens.snd).comp Lens.snd).hle⟩
instance instStep : GoTy Mk.Step := GoTy.via (β := Int × Int) fun x => (x.Kind, x.N)
def lStep : Lens Mk.Step (Int × Int) := Lens.via (α := Mk.Step) (β := Int × Int) (fun x : Mk.Step => (x.Kind, x.N)) (fun y : Int × Int => (⟨y.1, y.2⟩ : Mk.Step)) (fun _ => rfl)
@[reducible] def Step_Kind : Lens Mk.Step (Int) := ⟨(lStep.comp Lens.fst).off, fun x => x.Kind, fun x y => { x with Kind := y }, (lStep.comp Lens.fst).hget, (lStep.comp Lens.fst).hset, (lStep.comp Lens.fst).hle⟩
@[reducible] def Step_N : Lens Mk.Step (Int) := ⟨(lStep.comp Lens.snd).off, fun x => x.N, fun x y => { x with N := y }, (lStep.comp Lens.snd).hget, (lStep.comp Lens.snd).hset, (lStep.comp Lens.snd).hle⟩
class GoZ (α : Type) [GoTy α] where
  z : α
  zc : List Value
  hz : ∀ ph : PH, GoTy.rep ph z zc
instance : GoZ Int := ⟨0, [.int .i64 0], fun _ => ⟨rfl, by decide, by decide⟩⟩
instance : GoZ Bool := ⟨false, [.bool false], fun _ => rfl⟩
instance : GoZ UInt8 := ⟨0, [.int .u8 0], fun _ => rfl⟩
instance : GoZ ByteArray := ⟨ByteArray.empty, [.string ByteArray.empty], fun _ => ⟨rfl, by decide⟩⟩
instance {α : Type} [GoTy α] : GoZ (List α) := ⟨[], [.slice none 0 0], fun _ => ⟨_, rfl, repS_nil _⟩⟩
instance {α β : Type} [GoTy α] [GoTy β] [GoZ α] [GoZ β] : GoZ (α × β) := ⟨(GoZ.z, GoZ.z), GoZ.zc α ++ GoZ.zc β, fun ph => ⟨_, _, rfl, GoZ.hz ph, GoZ.hz ph⟩⟩
instance : GoZ Mk.Write := ⟨⟨0, 0⟩, GoZ.zc (Int × Int), fun ph => GoZ.hz (α := Int × Int) ph⟩
instance : GoZ Mk.Call := ⟨⟨0, 0, 0, 0⟩, GoZ.zc (Int × Int × Int × Int), fun ph => GoZ.hz (α := Int × Int × Int × Int) ph⟩
instance : GoZ Mk.Reply := ⟨⟨0, 0⟩, GoZ.zc (Int × Int), fun ph => GoZ.hz (α := Int × Int) ph⟩
instance : GoZ Mk.Request := ⟨⟨0, 0, ⟨0, 0, 0, 0⟩⟩, GoZ.zc (Int × Int × Mk.Call), fun ph => GoZ.hz (α := Int × Int × Mk.Call) ph⟩
instance : GoZ Mk.Answer := ⟨⟨0, 0, ⟨0, 0⟩⟩, GoZ.zc (Int × Int × Mk.Reply), fun ph => GoZ.hz (α := Int × Int × Mk.Reply) ph⟩
instance : GoZ Mk.Store := ⟨⟨[], [], [], []⟩, GoZ.zc ((List Int) × (List Mk.Write) × (List Mk.Answer) × (List Mk.Request)), fun ph => GoZ.hz (α := (List Int) × (List Mk.Write) × (List Mk.Answer) × (List Mk.Request)) ph⟩
instance : GoZ Mk.Server := ⟨⟨0, [], false, ⟨0, 0, ⟨0, 0, 0, 0⟩⟩, [], ⟨0, 0⟩⟩, GoZ.zc (Int × (List (List UInt8)) × Bool × Mk.Request × (List Mk.Write) × Mk.Reply), fun ph => GoZ.hz (α := Int × (List (List UInt8)) × Bool × Mk.Request × (List Mk.Write) × Mk.Reply) ph⟩
instance : GoZ Mk.Client := ⟨⟨[], 0, false, 0, [], []⟩, GoZ.zc ((List Mk.Call) × Int × Bool × Int × (List (List UInt8)) × (List Mk.Reply)), fun ph => GoZ.hz (α := (List Mk.Call) × Int × Bool × Int × (List (List UInt8)) × (List Mk.Reply)) ph⟩
instance : GoZ Mk.Machine := ⟨⟨⟨[], [], [], []⟩, ⟨0, [], false, ⟨0, 0, ⟨0, 0, 0, 0⟩⟩, [], ⟨0, 0⟩⟩, false, 0, 0, []⟩, GoZ.zc (Mk.Store × Mk.Server × Bool × Int × Int × (List Mk.Client)), fun ph => GoZ.hz (α := Mk.Store × Mk.Server × Bool × Int × Int × (List Mk.Client)) ph⟩
instance : GoZ Mk.Step := ⟨⟨0, 0⟩, GoZ.zc (Int × Int), fun ph => GoZ.hz (α := Int × Int) ph⟩
theorem TyZ.mk' {P : Program} {T : TypeId} {α : Type} [GoTy α] [GoZ α] (h : Ty P T α) (hz : (P.info? T).bind (·.zero) = some (mkVal (GoTy.agg α) (GoZ.zc α))) : TyZ P T (GoZ.z : α) :=
  { h with zero := ⟨_, hz, fun ph => by rw [cells_mkVal (GoZ.hz (α := α) ph)]; simpa using GoZ.hz ph⟩ }
theorem hMixed : Go.Proofs.Try.prog.follows .mixedOrders = true := by kernel_rfl
theorem t2 : Ty Go.Proofs.Try.prog 2 Int := ⟨by kernel_rfl, by kernel_rfl⟩
theorem t3 : Ty Go.Proofs.Try.prog 3 Int := ⟨by kernel_rfl, by kernel_rfl⟩
theorem z3 : TyZ Go.Proofs.Try.prog 3 (GoZ.z : Int) := TyZ.mk' t3 (by kernel_rfl)
theorem t4 : Ty Go.Proofs.Try.prog 4 Bool := ⟨by kernel_rfl, by kernel_rfl⟩
theorem t5 : Ty Go.Proofs.Try.prog 5 UInt8 := ⟨by kernel_rfl, by kernel_rfl⟩
theorem z5 : TyZ Go.Proofs.Try.prog 5 (GoZ.z : UInt8) := TyZ.mk' t5 (by kernel_rfl)
theorem s22 : slB Go.Proofs.Try.prog 22 59 (GoTy.sz (List Mk.Call)) = true := by kernel_rfl
theorem s23 : slB Go.Proofs.Try.prog 23 83 (GoTy.sz Mk.Step) = true := by kernel_rfl
theorem t25 : Ty Go.Proofs.Try.prog 25 (List Int) := ⟨by kernel_rfl, by kernel_rfl⟩
theorem s25 : slB Go.Proofs.Try.prog 25 3 (GoTy.sz Int) = true := by kernel_rfl
theorem a25 : apB Go.Proofs.Try.prog 25 3 (GoTy.sz Int) 8 = true := by kernel_rfl
theorem t26 : Ty Go.Proofs.Try.prog 26 (List Mk.Write) := ⟨by kernel_rfl, by kernel_rfl⟩
theorem s26 : slB Go.Proofs.Try.prog 26 99 (GoTy.sz Mk.Write) = true := by kernel_rfl
theorem a26 : apB Go.Proofs.Try.prog 26 99 (GoTy.sz Mk.Write) 16 = true := by kernel_rfl
theorem t27 : Ty Go.Proofs.Try.prog 27 (List Mk.Answer) := ⟨by kernel_rfl, by kernel_rfl⟩
theorem s27 : slB Go.Proofs.Try.prog 27 74 (GoTy.sz Mk.Answer) = true := by kernel_rfl
theorem a27 : apB Go.Proofs.Try.prog 27 74 (GoTy.sz Mk.Answer) 32 = true := by kernel_rfl
theorem t28 : Ty Go.Proofs.Try.prog 28 (List Mk.Request) := ⟨by kernel_rfl, by kernel_rfl⟩
theorem s28 : slB Go.Proofs.Try.prog 28 35 (GoTy.sz Mk.Request) = true := by kernel_rfl
theorem a28 : apB Go.Proofs.Try.prog 28 35 (GoTy.sz Mk.Request) 48 = true := by kernel_rfl
theorem t30 : Ty Go.Proofs.Try.prog 30 Mk.Store := ⟨by kernel_rfl, by kernel_rfl⟩
theorem z30 : TyZ Go.Proofs.Try.prog 30 (GoZ.z : Mk.Store) := TyZ.mk' t30 (by kernel_rfl)
theorem u30 : bldB Go.Proofs.Try.prog 30 = true := by kernel_rfl
theorem f30_0 : fldB Go.Proofs.Try.prog 30 0 Store_Cells.off (GoTy.sz (List Int)) (GoTy.agg (List Int)) = true := by kernel_rfl
theorem f30_1 : fldB Go.Proofs.Try.prog 30 1 Store_Undo.off (GoTy.sz (List Mk.Write)) (GoTy.agg (List Mk.Write)) = true := by kernel_rfl
theorem f30_2 : fldB Go.Proofs.Try.prog 30 2 Store_Answers.off (GoTy.sz (List Mk.Answer)) (GoTy.agg (List Mk.Answer)) = true := by kernel_rfl
theorem f30_3 : fldB Go.Proofs.Try.prog 30 3 Store_Past.off (GoTy.sz (List Mk.Request)) (GoTy.agg (List Mk.Request)) = true := by kernel_rfl
theorem t31 : Ty Go.Proofs.Try.prog 31 (List (List UInt8)) := ⟨by kernel_rfl, by kernel_rfl⟩
theorem s31 : slB Go.Proofs.Try.prog 31 63 (GoTy.sz (List UInt8)) = true := by kernel_rfl
theorem a31 : apB Go.Proofs.Try.prog 31 63 (GoTy.sz (List UInt8)) 24 = true := by kernel_rfl
theorem t33 : Ty Go.Proofs.Try.prog 33 Mk.Call := ⟨by kernel_rfl, by kernel_rfl⟩
theorem z33 : TyZ Go.Proofs.Try.prog 33 (GoZ.z : Mk.Call) := TyZ.mk' t33 (by kernel_rfl)
theorem u33 : bldB Go.Proofs.Try.prog 33 = true := by kernel_rfl
theorem f33_0 : fldB Go.Proofs.Try.prog 33 0 Call_Kind.off (GoTy.sz (Int)) (GoTy.agg (Int)) = true := by kernel_rfl
theorem f33_1 : fldB Go.Proofs.Try.prog 33 1 Call_Name.off (GoTy.sz (Int)) (GoTy.agg (Int)) = true := by kernel_rfl
theorem f33_2 : fldB Go.Proofs.Try.prog 33 2 Call_Other.off (GoTy.sz (Int)) (GoTy.agg (Int)) = true := by kernel_rfl
theorem f33_3 : fldB Go.Proofs.Try.prog 33 3 Call_N.off (GoTy.sz (Int)) (GoTy.agg (Int)) = true := by kernel_rfl
theorem t35 : Ty Go.Proofs.Try.prog 35 Mk.Request := ⟨by kernel_rfl, by kernel_rfl⟩
theorem z35 : TyZ Go.Proofs.Try.prog 35 (GoZ.z : Mk.Request) := TyZ.mk' t35 (by kernel_rfl)
theorem u35 : bldB Go.Proofs.Try.prog 35 = true := by kernel_rfl
theorem f35_0 : fldB Go.Proofs.Try.prog 35 0 Request_Client.off (GoTy.sz (Int)) (GoTy.agg (Int)) = true := by kernel_rfl
theorem f35_1 : fldB Go.Proofs.Try.prog 35 1 Request_Token.off (GoTy.sz (Int)) (GoTy.agg (Int)) = true := by kernel_rfl
theorem f35_2 : fldB Go.Proofs.Try.prog 35 2 Request_Call.off (GoTy.sz (Mk.Call)) (GoTy.agg (Mk.Call)) = true := by kernel_rfl
theorem t36 : Ty Go.Proofs.Try.prog 36 Int := ⟨by kernel_rfl, by kernel_rfl⟩
theorem z36 : TyZ Go.Proofs.Try.prog 36 (GoZ.z : Int) := TyZ.mk' t36 (by kernel_rfl)
theorem t38 : Ty Go.Proofs.Try.prog 38 Mk.Reply := ⟨by kernel_rfl, by kernel_rfl⟩
theorem z38 : TyZ Go.Proofs.Try.prog 38 (GoZ.z : Mk.Reply) := TyZ.mk' t38 (by kernel_rfl)
theorem u38 : bldB Go.Proofs.Try.prog 38 = true := by kernel_rfl
theorem f38_0 : fldB Go.Proofs.Try.prog 38 0 Reply_Err.off (GoTy.sz (Int)) (GoTy.agg (Int)) = true := by kernel_rfl
theorem f38_1 : fldB Go.Proofs.Try.prog 38 1 Reply_N.off (GoTy.sz (Int)) (GoTy.agg (Int)) = true := by kernel_rfl
theorem t40 : Ty Go.Proofs.Try.prog 40 Mk.Server := ⟨by kernel_rfl, by kernel_rfl⟩
theorem z40 : TyZ Go.Proofs.Try.prog 40 (GoZ.z : Mk.Server) := TyZ.mk' t40 (by kernel_rfl)
theorem u40 : bldB Go.Proofs.Try.prog 40 = true := by kernel_rfl
theorem f40_0 : fldB Go.Proofs.Try.prog 40 0 Server_Gen.off (GoTy.sz (Int)) (GoTy.agg (Int)) = true := by kernel_rfl
theorem f40_1 : fldB Go.Proofs.Try.prog 40 1 Server_Box.off (GoTy.sz (List (List UInt8))) (GoTy.agg (List (List UInt8))) = true := by kernel_rfl
theorem f40_2 : fldB Go.Proofs.Try.prog 40 2 Server_Busy.off (GoTy.sz (Bool)) (GoTy.agg (Bool)) = true := by kernel_rfl
theorem f40_3 : fldB Go.Proofs.Try.prog 40 3 Server_Now.off (GoTy.sz (Mk.Request)) (GoTy.agg (Mk.Request)) = true := by kernel_rfl
theorem f40_4 : fldB Go.Proofs.Try.prog 40 4 Server_Plan.off (GoTy.sz (List Mk.Write)) (GoTy.agg (List Mk.Write)) = true := by kernel_rfl
theorem f40_5 : fldB Go.Proofs.Try.prog 40 5 Server_Says.off (GoTy.sz (Mk.Reply)) (GoTy.agg (Mk.Reply)) = true := by kernel_rfl
theorem t41 : Ty Go.Proofs.Try.prog 41 (List Mk.Client) := ⟨by kernel_rfl, by kernel_rfl⟩
theorem s41 : slB Go.Proofs.Try.prog 41 61 (GoTy.sz Mk.Client) = true := by kernel_rfl
theorem a41 : apB Go.Proofs.Try.prog 41 61 (GoTy.sz Mk.Client) 96 = true := by kernel_rfl
theorem t43 : Ty Go.Proofs.Try.prog 43 Mk.Machine := ⟨by kernel_rfl, by kernel_rfl⟩
theorem z43 : TyZ Go.Proofs.Try.prog 43 (GoZ.z : Mk.Machine) := TyZ.mk' t43 (by kernel_rfl)
theorem u43 : bldB Go.Proofs.Try.prog 43 = true := by kernel_rfl
theorem f43_0 : fldB Go.Proofs.Try.prog 43 0 Machine_Store.off (GoTy.sz (Mk.Store)) (GoTy.agg (Mk.Store)) = true := by kernel_rfl
theorem f43_1 : fldB Go.Proofs.Try.prog 43 1 Machine_Server.off (GoTy.sz (Mk.Server)) (GoTy.agg (Mk.Server)) = true := by kernel_rfl
theorem f43_2 : fldB Go.Proofs.Try.prog 43 2 Machine_Up.off (GoTy.sz (Bool)) (GoTy.agg (Bool)) = true := by kernel_rfl
theorem f43_3 : fldB Go.Proofs.Try.prog 43 3 Machine_Pause.off (GoTy.sz (Int)) (GoTy.agg (Int)) = true := by kernel_rfl
theorem f43_4 : fldB Go.Proofs.Try.prog 43 4 Machine_Falls.off (GoTy.sz (Int)) (GoTy.agg (Int)) = true := by kernel_rfl
theorem f43_5 : fldB Go.Proofs.Try.prog 43 5 Machine_Clients.off (GoTy.sz (List Mk.Client)) (GoTy.agg (List Mk.Client)) = true := by kernel_rfl
theorem s44 : slB Go.Proofs.Try.prog 44 36 (GoTy.sz Int) = true := by kernel_rfl
theorem a44 : apB Go.Proofs.Try.prog 44 36 (GoTy.sz Int) 8 = true := by kernel_rfl
theorem t47 : Ty Go.Proofs.Try.prog 47 (List Mk.Reply) := ⟨by kernel_rfl, by kernel_rfl⟩
theorem s47 : slB Go.Proofs.Try.prog 47 38 (GoTy.sz Mk.Reply) = true := by kernel_rfl
theorem a47 : apB Go.Proofs.Try.prog 47 38 (GoTy.sz Mk.Reply) 16 = true := by kernel_rfl
theorem t59 : Ty Go.Proofs.Try.prog 59 (List Mk.Call) := ⟨by kernel_rfl, by kernel_rfl⟩
theorem z59 : TyZ Go.Proofs.Try.prog 59 (GoZ.z : (List Mk.Call)) := TyZ.mk' t59 (by kernel_rfl)
theorem s59 : slB Go.Proofs.Try.prog 59 33 (GoTy.sz Mk.Call) = true := by kernel_rfl
theorem t61 : Ty Go.Proofs.Try.prog 61 Mk.Client := ⟨by kernel_rfl, by kernel_rfl⟩
theorem z61 : TyZ Go.Proofs.Try.prog 61 (GoZ.z : Mk.Client) := TyZ.mk' t61 (by kernel_rfl)
theorem u61 : bldB Go.Proofs.Try.prog 61 = true := by kernel_rfl
theorem f61_0 : fldB Go.Proofs.Try.prog 61 0 Client_Calls.off (GoTy.sz (List Mk.Call)) (GoTy.agg (List Mk.Call)) = true := by kernel_rfl
theorem f61_1 : fldB Go.Proofs.Try.prog 61 1 Client_At.off (GoTy.sz (Int)) (GoTy.agg (Int)) = true := by kernel_rfl
theorem f61_2 : fldB Go.Proofs.Try.prog 61 2 Client_Sent.off (GoTy.sz (Bool)) (GoTy.agg (Bool)) = true := by kernel_rfl
theorem f61_3 : fldB Go.Proofs.Try.prog 61 3 Client_Gen.off (GoTy.sz (Int)) (GoTy.agg (Int)) = true := by kernel_rfl
theorem f61_4 : fldB Go.Proofs.Try.prog 61 4 Client_Box.off (GoTy.sz (List (List UInt8))) (GoTy.agg (List (List UInt8))) = true := by kernel_rfl
theorem f61_5 : fldB Go.Proofs.Try.prog 61 5 Client_Got.off (GoTy.sz (List Mk.Reply)) (GoTy.agg (List Mk.Reply)) = true := by kernel_rfl
theorem t63 : Ty Go.Proofs.Try.prog 63 (List UInt8) := ⟨by kernel_rfl, by kernel_rfl⟩
theorem z63 : TyZ Go.Proofs.Try.prog 63 (GoZ.z : (List UInt8)) := TyZ.mk' t63 (by kernel_rfl)
theorem s63 : slB Go.Proofs.Try.prog 63 5 (GoTy.sz UInt8) = true := by kernel_rfl
theorem t74 : Ty Go.Proofs.Try.prog 74 Mk.Answer := ⟨by kernel_rfl, by kernel_rfl⟩
theorem z74 : TyZ Go.Proofs.Try.prog 74 (GoZ.z : Mk.Answer) := TyZ.mk' t74 (by kernel_rfl)
theorem u74 : bldB Go.Proofs.Try.prog 74 = true := by kernel_rfl
theorem f74_0 : fldB Go.Proofs.Try.prog 74 0 Answer_Client.off (GoTy.sz (Int)) (GoTy.agg (Int)) = true := by kernel_rfl
theorem f74_1 : fldB Go.Proofs.Try.prog 74 1 Answer_Token.off (GoTy.sz (Int)) (GoTy.agg (Int)) = true := by kernel_rfl
theorem f74_2 : fldB Go.Proofs.Try.prog 74 2 Answer_Reply.off (GoTy.sz (Mk.Reply)) (GoTy.agg (Mk.Reply)) = true := by kernel_rfl
theorem t83 : Ty Go.Proofs.Try.prog 83 Mk.Step := ⟨by kernel_rfl, by kernel_rfl⟩
theorem z83 : TyZ Go.Proofs.Try.prog 83 (GoZ.z : Mk.Step) := TyZ.mk' t83 (by kernel_rfl)
theorem f83_0 : fldB Go.Proofs.Try.prog 83 0 Step_Kind.off (GoTy.sz (Int)) (GoTy.agg (Int)) = true := by kernel_rfl
theorem f83_1 : fldB Go.Proofs.Try.prog 83 1 Step_N.off (GoTy.sz (Int)) (GoTy.agg (Int)) = true := by kernel_rfl
theorem t99 : Ty Go.Proofs.Try.prog 99 Mk.Write := ⟨by kernel_rfl, by kernel_rfl⟩
theorem z99 : TyZ Go.Proofs.Try.prog 99 (GoZ.z : Mk.Write) := TyZ.mk' t99 (by kernel_rfl)
theorem u99 : bldB Go.Proofs.Try.prog 99 = true := by kernel_rfl
theorem f99_0 : fldB Go.Proofs.Try.prog 99 0 Write_At.off (GoTy.sz (Int)) (GoTy.agg (Int)) = true := by kernel_rfl
theorem f99_1 : fldB Go.Proofs.Try.prog 99 1 Write_N.off (GoTy.sz (Int)) (GoTy.agg (Int)) = true := by kernel_rfl
theorem e99q : EqT Go.Proofs.Try.prog 99 Mk.Write 2 := EqT.struct t99 (fun x => (x.At, x.N)) (by intro x y h; cases x; cases y; simp_all) (fun _ _ _ h => h) rfl Go.Proofs.Try.underlying99 (by kernel_rfl) (EqRow.cons rfl (by decide) (EqT.int ⟨by kernel_rfl, by kernel_rfl⟩ (by kernel_rfl)) (EqRow.one rfl (by decide) (EqT.int ⟨by kernel_rfl, by kernel_rfl⟩ (by kernel_rfl))))
theorem e99 : EqS Go.Proofs.Try.prog 99 Mk.Write := ⟨e99q.ups 9998, rfl, by kernel_rfl⟩
theorem e33q : EqT Go.Proofs.Try.prog 33 Mk.Call 2 := EqT.struct t33 (fun x => (x.Kind, x.Name, x.Other, x.N)) (by intro x y h; cases x; cases y; simp_all) (fun _ _ _ h => h) rfl Go.Proofs.Try.underlying33 (by kernel_rfl) (EqRow.cons rfl (by decide) (EqT.int ⟨by kernel_rfl, by kernel_rfl⟩ (by kernel_rfl)) (EqRow.cons rfl (by decide) (EqT.int ⟨by kernel_rfl, by kernel_rfl⟩ (by kernel_rfl)) (EqRow.cons rfl (by decide) (EqT.int ⟨by kernel_rfl, by kernel_rfl⟩ (by kernel_rfl)) (EqRow.one rfl (by decide) (EqT.int ⟨by kernel_rfl, by kernel_rfl⟩ (by kernel_rfl))))))
theorem e33 : EqS Go.Proofs.Try.prog 33 Mk.Call := ⟨e33q.ups 9998, rfl, by kernel_rfl⟩
theorem e38q : EqT Go.Proofs.Try.prog 38 Mk.Reply 2 := EqT.struct t38 (fun x => (x.Err, x.N)) (by intro x y h; cases x; cases y; simp_all) (fun _ _ _ h => h) rfl Go.Proofs.Try.underlying38 (by kernel_rfl) (EqRow.cons rfl (by decide) (EqT.int ⟨by kernel_rfl, by kernel_rfl⟩ (by kernel_rfl)) (EqRow.one rfl (by decide) (EqT.int ⟨by kernel_rfl, by kernel_rfl⟩ (by kernel_rfl))))
theorem e38 : EqS Go.Proofs.Try.prog 38 Mk.Reply := ⟨e38q.ups 9998, rfl, by kernel_rfl⟩
theorem e35q : EqT Go.Proofs.Try.prog 35 Mk.Request 3 := EqT.struct t35 (fun x => (x.Client, x.Token, x.Call)) (by intro x y h; cases x; cases y; simp_all) (fun _ _ _ h => h) rfl Go.Proofs.Try.underlying35 (by kernel_rfl) (EqRow.cons rfl (by decide) (EqT.int ⟨by kernel_rfl, by kernel_rfl⟩ (by kernel_rfl)).up (EqRow.cons rfl (by decide) (EqT.int ⟨by kernel_rfl, by kernel_rfl⟩ (by kernel_rfl)).up (EqRow.one rfl (by decide) e33q)))
theorem e35 : EqS Go.Proofs.Try.prog 35 Mk.Request := ⟨e35q.ups 9997, rfl, by kernel_rfl⟩
theorem e4 : Go.Proofs.Try.prog.underlying 4 = some .bool := by kernel_rfl
end Go.Gx
end
section
namespace Sp
set_option linter.unusedVariables false
def mkref1_WrongCall (a0 : Mk.Call) : Option Int :=
    (bif ((decide (a0.Kind < (1 : Int))) || (decide ((6 : Int) < a0.Kind))) then (
        some ((1 : Int))) else (
        J (fun (x3_k2 : Int) (x4_k2 : Int) (y1_k2 : Mk.Call) =>
          J (fun (x3_k4 : Int) (x4_k4 : Int) (x5_k4 : Int) (x6_k4 : Int) (y1_k4 : Mk.Call) =>
            (bif ((((decide (y1_k4.Name < x3_k4)) || (decide (x4_k4 < y1_k4.Name))) || (decide (y1_k4.Other < x5_k4))) || (decide (x6_k4 < y1_k4.Other))) then (
                some ((7 : Int))) else (
                J (fun (x7_k7 : Int) (y1_k7 : Mk.Call) =>
                  G (I (-x7_k7)) (
                    (bif ((decide (y1_k7.N < (-x7_k7))) || (decide (x7_k7 < y1_k7.N))) then (
                        some ((3 : Int))) else (
                        some ((0 : Int)))))) (fun k7 =>
                  (bif ((decide (y1_k4.Kind = (1 : Int))) || (decide (y1_k4.Kind = (4 : Int)))) then (
                      k7 ((1073741824 : Int)) (y1_k4)) else (
                      k7 ((0 : Int)) (y1_k4))))))) (fun k4 =>
            (bif (decide (y1_k2.Kind = (6 : Int))) then (
                k4 (x3_k2) (x4_k2) ((1 : Int)) ((255 : Int)) (y1_k2)) else (
                k4 (x3_k2) (x4_k2) ((0 : Int)) ((0 : Int)) (y1_k2))))) (fun k2 =>
          (bif (decide (a0.Kind = (5 : Int))) then (
              k2 ((0 : Int)) ((0 : Int)) (a0)) else (
              k2 ((1 : Int)) ((255 : Int)) (a0))))))
def mkref1_Of_l1 (k1 : (List Mk.Write) → Option ((List Mk.Write))) : Nat → (List Int) → Int → (List Mk.Write) → Option ((List Mk.Write))
  | 0, _, _, _ => none
  | m2 + 1, x0_m2, x4_m2, y1003_m2 =>
    G ((0 ≤ (0 : Int) ∧ (0 : Int) < (x0_m2.length : Int))) (
      G (I ((2 : Int) * (ix x0_m2 (0 : Int)))) (
        G (I ((1 : Int) + ((2 : Int) * (ix x0_m2 (0 : Int))))) (
          (bif (decide (x4_m2 < ((1 : Int) + ((2 : Int) * (ix x0_m2 (0 : Int)))))) then (
              G ((0 ≤ x4_m2 ∧ x4_m2 < (x0_m2.length : Int))) (
                G (I (x4_m2 + (1 : Int))) (
                  G ((0 ≤ (x4_m2 + (1 : Int)) ∧ (x4_m2 + (1 : Int)) < (x0_m2.length : Int))) (
                    G (((y1003_m2.length + ([({ At := (ix x0_m2 x4_m2), N := (ix x0_m2 (x4_m2 + (1 : Int))) } : Mk.Write)] : List Mk.Write).length) * 16 ≤ 140737488355328 ∧ y1003_m2.length + ([({ At := (ix x0_m2 x4_m2), N := (ix x0_m2 (x4_m2 + (1 : Int))) } : Mk.Write)] : List Mk.Write).length ≤ 9223372036854775807)) (
                      G (I (x4_m2 + (2 : Int))) (
                        mkref1_Of_l1 k1 m2 (x0_m2) ((x4_m2 + (2 : Int))) ((y1003_m2 ++ ([({ At := (ix x0_m2 x4_m2), N := (ix x0_m2 (x4_m2 + (1 : Int))) } : Mk.Write)] : List Mk.Write))))))))) else (
              k1 (y1003_m2))))))
def mkref1_Of (a0 : List Int) : Option ((List Mk.Write)) :=
    J (fun (y1003_k1 : List Mk.Write) =>
      some (y1003_k1)) (fun k1 =>
      mkref1_Of_l1 k1 ((((1 : Int) + ((2 : Int) * (ix a0 (0 : Int)))) - (1 : Int)).toNat + 1) (a0) ((1 : Int)) (([] : List Mk.Write)))
def mkref1_get_l1 (k1 : Unit → Option (Int × Bool)) : Nat → Int → (List Mk.Write) → Int → Int → Option (Int × Bool)
  | 0, _, _, _, _ => none
  | m2 + 1, x1_m2, x8_m2, x9_m2, x10_m2 =>
    (bif (decide (x10_m2 < x9_m2)) then (
        G ((0 ≤ x10_m2 ∧ x10_m2 < (x8_m2.length : Int))) (
          (bif (decide ((ix x8_m2 x10_m2).At = x1_m2)) then (
              some ((ix x8_m2 x10_m2).N, true)) else (
              G (I (x10_m2 + (1 : Int))) (
                mkref1_get_l1 k1 m2 (x1_m2) (x8_m2) (x9_m2) ((x10_m2 + (1 : Int)))))))) else (
        k1 ()))
def mkref1_get (a0 : List Mk.Write) (a1 : Int) : Option (Int × Bool) :=
    J (fun (_ : Unit) =>
      some ((0 : Int), false)) (fun k1 =>
      mkref1_get_l1 k1 (((a0.length : Int) - (0 : Int)).toNat + 1) (a1) (a0) ((a0.length : Int)) ((0 : Int)))
def mkref1_Do_1 (a0 : Int) (a1 : List Mk.Write) : Option ((List Mk.Write) × Mk.Reply) :=
    some (a1, ({ Err := a0, N := (0 : Int) } : Mk.Reply))
def mkref1_set_l1 (k1 : Int → Int → Bool → (List Mk.Write) → Option ((List Mk.Write))) : Nat → Int → Int → Bool → (List Mk.Write) → Int → Int → (List Mk.Write) → Option ((List Mk.Write))
  | 0, _, _, _, _, _, _, _ => none
  | m2 + 1, x1_m2, x2_m2, x8_m2, x11_m2, x12_m2, x13_m2, y1007_m2 =>
    (bif (decide (x13_m2 < x12_m2)) then (
        G ((0 ≤ x13_m2 ∧ x13_m2 < (x11_m2.length : Int))) (
          J (fun (x1_k5 : Int) (x2_k5 : Int) (x8_k5 : Bool) (x11_k5 : List Mk.Write) (x12_k5 : Int) (x13_k5 : Int) (y10_k5 : Mk.Write) (y1007_k5 : List Mk.Write) =>
            G (((y1007_k5.length + ([y10_k5] : List Mk.Write).length) * 16 ≤ 140737488355328 ∧ y1007_k5.length + ([y10_k5] : List Mk.Write).length ≤ 9223372036854775807)) (
              G (I (x13_k5 + (1 : Int))) (
                mkref1_set_l1 k1 m2 (x1_k5) (x2_k5) (x8_k5) (x11_k5) (x12_k5) ((x13_k5 + (1 : Int))) ((y1007_k5 ++ ([y10_k5] : List Mk.Write)))))) (fun k5 =>
            (bif (decide ((ix x11_m2 x13_m2).At = x1_m2)) then (
                k5 (x1_m2) (x2_m2) (true) (x11_m2) (x12_m2) (x13_m2) ({ (ix x11_m2 x13_m2) with N := x2_m2 }) (y1007_m2)) else (
                k5 (x1_m2) (x2_m2) (x8_m2) (x11_m2) (x12_m2) (x13_m2) ((ix x11_m2 x13_m2)) (y1007_m2)))))) else (
        k1 (x1_m2) (x2_m2) (x8_m2) (y1007_m2)))
def mkref1_set (a0 : List Mk.Write) (a1 : Int) (a2 : Int) : Option ((List Mk.Write)) :=
    J (fun (x1_k1 : Int) (x2_k1 : Int) (x8_k1 : Bool) (y1007_k1 : List Mk.Write) =>
      J (fun (y1007_k9 : List Mk.Write) =>
        some (y1007_k9)) (fun k9 =>
        (bif (!x8_k1) then (
            G (((y1007_k1.length + ([({ At := x1_k1, N := x2_k1 } : Mk.Write)] : List Mk.Write).length) * 16 ≤ 140737488355328 ∧ y1007_k1.length + ([({ At := x1_k1, N := x2_k1 } : Mk.Write)] : List Mk.Write).length ≤ 9223372036854775807)) (
              k9 ((y1007_k1 ++ ([({ At := x1_k1, N := x2_k1 } : Mk.Write)] : List Mk.Write))))) else (
            k9 (y1007_k1))))) (fun k1 =>
      mkref1_set_l1 k1 (((a0.length : Int) - (0 : Int)).toNat + 1) (a1) (a2) (false) (a0) ((a0.length : Int)) ((0 : Int)) (([] : List Mk.Write)))
def mkref1_Do_l1 (k11 : Int → Mk.Reply → (List Mk.Write) → Option ((List Mk.Write) × Mk.Reply)) : Nat → (List Mk.Write) → Int → (List Mk.Write) → Int → Int → Mk.Call → Mk.Reply → (List Mk.Write) → Option ((List Mk.Write) × Mk.Reply)
  | 0, _, _, _, _, _, _, _, _ => none
  | m12 + 1, x2_m12, x6_m12, x76_m12, x77_m12, x78_m12, y3_m12, y5_m12, y1009_m12 =>
    (bif (decide (x78_m12 < x77_m12)) then (
        J (fun (x2_k14 : List Mk.Write) (x6_k14 : Int) (x76_k14 : List Mk.Write) (x77_k14 : Int) (x78_k14 : Int) (y3_k14 : Mk.Call) (y5_k14 : Mk.Reply) (y1009_k14 : List Mk.Write) =>
          G (I (x78_k14 + (1 : Int))) (
            mkref1_Do_l1 k11 m12 (x2_k14) (x6_k14) (x76_k14) (x77_k14) ((x78_k14 + (1 : Int))) (y3_k14) (y5_k14) (y1009_k14))) (fun k14 =>
          G ((0 ≤ x78_m12 ∧ x78_m12 < (x76_m12.length : Int))) (
            J (fun (x2_k16 : List Mk.Write) (x6_k16 : Int) (x10_k16 : Int) (x76_k16 : List Mk.Write) (x77_k16 : Int) (x78_k16 : Int) (y3_k16 : Mk.Call) (y5_k16 : Mk.Reply) (y11_k16 : Mk.Write) (y1009_k16 : List Mk.Write) =>
              G (I ((x2_k16.length : Int) - (1 : Int))) (
                (bif (decide (x10_k16 < ((x2_k16.length : Int) - (1 : Int)))) then (
                    G (((y1009_k16.length + ([y11_k16] : List Mk.Write).length) * 16 ≤ 140737488355328 ∧ y1009_k16.length + ([y11_k16] : List Mk.Write).length ≤ 9223372036854775807)) (
                      k14 (x2_k16) (x6_k16) (x76_k16) (x77_k16) (x78_k16) (y3_k16) (y5_k16) ((y1009_k16 ++ ([y11_k16] : List Mk.Write))))) else (
                    k14 (x2_k16) (x6_k16) (x76_k16) (x77_k16) (x78_k16) (y3_k16) (y5_k16) (y1009_k16))))) (fun k16 =>
              (bif (decide ((ix x76_m12 x78_m12).At = y3_m12.Name)) then (
                  G (I ((x2_m12.length : Int) - (1 : Int))) (
                    G ((0 ≤ ((x2_m12.length : Int) - (1 : Int)) ∧ ((x2_m12.length : Int) - (1 : Int)) < (x2_m12.length : Int))) (
                      k16 (x2_m12) (x6_m12) (x78_m12) (x76_m12) (x77_m12) (x78_m12) (y3_m12) (y5_m12) ((ix x2_m12 ((x2_m12.length : Int) - (1 : Int)))) (y1009_m12)))) else (
                  k16 (x2_m12) (x6_m12) (x78_m12) (x76_m12) (x77_m12) (x78_m12) (y3_m12) (y5_m12) ((ix x76_m12 x78_m12)) (y1009_m12))))))) else (
        k11 (x6_m12) (y5_m12) (y1009_m12)))
def mkref1_Do (a0 : List Mk.Write) (a1 : Mk.Call) : Option ((List Mk.Write) × Mk.Reply) :=
    (mkref1_get (a0) (a1.Name)).bind (fun v1 =>
      (bif (decide (a1.Kind = (5 : Int))) then (
          some (a0, ({ Err := (0 : Int), N := (a0.length : Int) } : Mk.Reply))) else (
          (bif (((decide (a1.Kind = (1 : Int))) && (!v1.2)) && (decide ((5 : Int) ≤ (a0.length : Int)))) then (
              (mkref1_Do_1 ((9 : Int)) (a0)).bind (fun v4 =>
                some (v4.1, v4.2))) else (
              (bif (decide (a1.Kind = (1 : Int))) then (
                  (mkref1_set (a0) (a1.Name) (a1.N)).bind (fun v6 =>
                    some (v6, ({ Err := (0 : Int), N := v1.1 } : Mk.Reply)))) else (
                  (bif (!v1.2) then (
                      (mkref1_Do_1 ((6 : Int)) (a0)).bind (fun v8 =>
                        some (v8.1, v8.2))) else (
                      (bif (decide (a1.Kind = (2 : Int))) then (
                          some (a0, ({ Err := (0 : Int), N := v1.1 } : Mk.Reply))) else (
                          (bif (decide (a1.Kind = (3 : Int))) then (
                            J (fun (x6_k11 : Int) (y5_k11 : Mk.Reply) (y1009_k11 : List Mk.Write) =>
                            some (y1009_k11, ({ Err := (0 : Int), N := x6_k11 } : Mk.Reply))) (fun k11 =>
                            mkref1_Do_l1 k11 (((a0.length : Int) - (0 : Int)).toNat + 1) (a0) (v1.1) (a0) ((a0.length : Int)) ((0 : Int)) (a1) (({ Err := (0 : Int), N := (0 : Int) } : Mk.Reply)) (([] : List Mk.Write)))) else (
                            (bif (decide (a1.Kind = (4 : Int))) then (
                            G (I (v1.1 + a1.N)) (
                            G (((decide ((1073741824 : Int) < (v1.1 + a1.N)))) = false → I (v1.1 + a1.N)) (
                            (bif ((decide ((1073741824 : Int) < (v1.1 + a1.N))) || (decide ((v1.1 + a1.N) < (-1073741824 : Int)))) then (
                            (mkref1_Do_1 ((3 : Int)) (a0)).bind (fun v28 =>
                            some (v28.1, v28.2))) else (
                            G (I (v1.1 + a1.N)) (
                            (mkref1_set (a0) (a1.Name) ((v1.1 + a1.N))).bind (fun v30 =>
                            G (I (v1.1 + a1.N)) (
                            some (v30, ({ Err := (0 : Int), N := (v1.1 + a1.N) } : Mk.Reply)))))))))) else (
                            (mkref1_get (a0) (a1.Other)).bind (fun v32 =>
                            (bif (!v32.2) then (
                            (mkref1_Do_1 ((6 : Int)) (a0)).bind (fun v34 =>
                            some (v34.1, v34.2))) else (
                            (mkref1_set (a0) (a1.Name) (v32.1)).bind (fun v35 =>
                            (mkref1_set (v35) (a1.Other) (v1.1)).bind (fun v36 =>
                            some (v36, ({ Err := (0 : Int), N := v32.1 } : Mk.Reply))))))))))))))))))))))
def mkref1_Find_l1 (k1 : Unit → Option Int) : Nat → (List Int) → Int → Int → Option Int
  | 0, _, _, _ => none
  | m2 + 1, x0_m2, x1_m2, x5_m2 =>
    G ((0 ≤ (0 : Int) ∧ (0 : Int) < (x0_m2.length : Int))) (
      G (I ((2 : Int) * (ix x0_m2 (0 : Int)))) (
        G (I ((1 : Int) + ((2 : Int) * (ix x0_m2 (0 : Int))))) (
          (bif (decide (x5_m2 < ((1 : Int) + ((2 : Int) * (ix x0_m2 (0 : Int)))))) then (
              G ((0 ≤ x5_m2 ∧ x5_m2 < (x0_m2.length : Int))) (
                (bif (decide ((ix x0_m2 x5_m2) = x1_m2)) then (
                    G (((2 : Int) ≠ 0 ∧ I (Int.tdiv x5_m2 (2 : Int)))) (
                      some ((Int.tdiv x5_m2 (2 : Int))))) else (
                    G (I (x5_m2 + (2 : Int))) (
                      mkref1_Find_l1 k1 m2 (x0_m2) (x1_m2) ((x5_m2 + (2 : Int)))))))) else (
              k1 ())))))
def mkref1_Find (a0 : List Int) (a1 : Int) : Option Int :=
    J (fun (_ : Unit) =>
      some ((-1 : Int))) (fun k1 =>
      mkref1_Find_l1 k1 ((((1 : Int) + ((2 : Int) * (ix a0 (0 : Int)))) - (1 : Int)).toNat + 1) (a0) (a1) ((1 : Int)))
def mkref1_Plan (a0 : List Int) (a1 : Mk.Call) : Option ((List Mk.Write) × Mk.Reply) :=
    (mkref1_Of (a0)).bind (fun v1 =>
      (mkref1_Do (v1) (a1)).bind (fun v2 =>
        (bif (!decide (v2.2.Err = (0 : Int))) then (
            some (([] : List Mk.Write), v2.2)) else (
            (mkref1_Find (a0) (a1.Name)).bind (fun v4 =>
              J (fun (x6_k5 : List Mk.Write) (x7_k5 : List Mk.Write) (y5_k5 : Mk.Reply) (y8_k5 : Mk.Reply) (y1009_k5 : List Mk.Write) =>
                J (fun (y5_k29 : Mk.Reply) (y8_k29 : Mk.Reply) (y1009_k29 : List Mk.Write) =>
                  some (y1009_k29, y8_k29)) (fun k29 =>
                  (bif (!decide ((x7_k5.length : Int) = (x6_k5.length : Int))) then (
                      G (((y1009_k5.length + ([({ At := (0 : Int), N := (x7_k5.length : Int) } : Mk.Write)] : List Mk.Write).length) * 16 ≤ 140737488355328 ∧ y1009_k5.length + ([({ At := (0 : Int), N := (x7_k5.length : Int) } : Mk.Write)] : List Mk.Write).length ≤ 9223372036854775807)) (
                        k29 (y5_k5) (y8_k5) ((y1009_k5 ++ ([({ At := (0 : Int), N := (x7_k5.length : Int) } : Mk.Write)] : List Mk.Write))))) else (
                      k29 (y5_k5) (y8_k5) (y1009_k5))))) (fun k5 =>
                (bif (decide (a1.Kind = (6 : Int))) then (
                    (mkref1_Find (a0) (a1.Other)).bind (fun v7 =>
                      G (I ((2 : Int) * v4)) (
                        G (I ((2 : Int) + ((2 : Int) * v4))) (
                          G ((0 ≤ v4 ∧ v4 < (v2.1.length : Int))) (
                            G (I ((2 : Int) * v7)) (
                            G (I ((2 : Int) + ((2 : Int) * v7))) (
                            G ((0 ≤ v7 ∧ v7 < (v2.1.length : Int))) (
                            some (([({ At := ((2 : Int) + ((2 : Int) * v4)), N := (ix v2.1 v4).N } : Mk.Write), ({ At := ((2 : Int) + ((2 : Int) * v7)), N := (ix v2.1 v7).N } : Mk.Write)] : List Mk.Write), v2.2))))))))) else (
                    (bif ((decide (a1.Kind = (3 : Int))) && (decide (v4 < (v2.1.length : Int)))) then (
                        G (I ((2 : Int) * v4)) (
                          G (I ((1 : Int) + ((2 : Int) * v4))) (
                            G ((0 ≤ v4 ∧ v4 < (v2.1.length : Int))) (
                            G (I ((2 : Int) * v4)) (
                            G (I ((2 : Int) + ((2 : Int) * v4))) (
                            G ((0 ≤ v4 ∧ v4 < (v2.1.length : Int))) (
                            k5 (v1) (v2.1) (({ Err := (0 : Int), N := (0 : Int) } : Mk.Reply)) (v2.2) (([({ At := ((1 : Int) + ((2 : Int) * v4)), N := (ix v2.1 v4).At } : Mk.Write), ({ At := ((2 : Int) + ((2 : Int) * v4)), N := (ix v2.1 v4).N } : Mk.Write)] : List Mk.Write))))))))) else (
                        (bif ((decide (a1.Kind = (1 : Int))) && (decide (v4 < (0 : Int)))) then (
                            G (I ((2 : Int) * (v2.1.length : Int))) (
                            G (I (((2 : Int) * (v2.1.length : Int)) - (1 : Int))) (
                            G (I ((2 : Int) * (v2.1.length : Int))) (
                            k5 (v1) (v2.1) (({ Err := (0 : Int), N := (0 : Int) } : Mk.Reply)) (v2.2) (([({ At := (((2 : Int) * (v2.1.length : Int)) - (1 : Int)), N := a1.Name } : Mk.Write), ({ At := ((2 : Int) * (v2.1.length : Int)), N := a1.N } : Mk.Write)] : List Mk.Write)))))) else (
                            (bif ((decide (a1.Kind = (1 : Int))) || (decide (a1.Kind = (4 : Int)))) then (
                            G (I ((2 : Int) * v4)) (
                            G (I ((2 : Int) + ((2 : Int) * v4))) (
                            G ((0 ≤ v4 ∧ v4 < (v2.1.length : Int))) (
                            some (([({ At := ((2 : Int) + ((2 : Int) * v4)), N := (ix v2.1 v4).N } : Mk.Write)] : List Mk.Write), v2.2))))) else (
                            k5 (v1) (v2.1) (({ Err := (0 : Int), N := (0 : Int) } : Mk.Reply)) (v2.2) (([] : List Mk.Write))))))))))))))))
def mkref1_SameWrites_l1 (k2 : Unit → Option Bool) : Nat → (List Mk.Write) → (List Mk.Write) → Int → Int → Option Bool
  | 0, _, _, _, _ => none
  | m3 + 1, x0_m3, x1_m3, x12_m3, x13_m3 =>
    (bif (decide (x13_m3 < x12_m3)) then (
        G ((0 ≤ x13_m3 ∧ x13_m3 < (x0_m3.length : Int))) (
          G ((0 ≤ x13_m3 ∧ x13_m3 < (x1_m3.length : Int))) (
            (bif (!decide ((ix x0_m3 x13_m3) = (ix x1_m3 x13_m3))) then (
                some (false)) else (
                G (I (x13_m3 + (1 : Int))) (
                  mkref1_SameWrites_l1 k2 m3 (x0_m3) (x1_m3) (x12_m3) ((x13_m3 + (1 : Int))))))))) else (
        k2 ()))
def mkref1_SameWrites (a0 : List Mk.Write) (a1 : List Mk.Write) : Option Bool :=
    (bif (!decide ((a0.length : Int) = (a1.length : Int))) then (
        some (false)) else (
        J (fun (_ : Unit) =>
          some (true)) (fun k2 =>
          mkref1_SameWrites_l1 k2 (((a0.length : Int) - (0 : Int)).toNat + 1) (a0) (a1) ((a0.length : Int)) ((0 : Int)))))
def mkref1_Set_l2 (k5 : (List Mk.Write) → Int → (List Int) → Int → Int → (List Int) → Option ((List Int))) : Nat → (List Mk.Write) → Int → Int → (List Int) → Int → Int → (List Mk.Write) → Int → Int → (List Int) → Option ((List Int))
  | 0, _, _, _, _, _, _, _, _, _, _ => none
  | m6 + 1, x1_m6, x6_m6, x7_m6, x10_m6, x11_m6, x12_m6, x17_m6, x18_m6, x19_m6, y1005_m6 =>
    (bif (decide (x19_m6 < x18_m6)) then (
        J (fun (x1_k8 : List Mk.Write) (x6_k8 : Int) (x7_k8 : Int) (x10_k8 : List Int) (x11_k8 : Int) (x12_k8 : Int) (x17_k8 : List Mk.Write) (x18_k8 : Int) (x19_k8 : Int) (y1005_k8 : List Int) =>
          G (I (x19_k8 + (1 : Int))) (
            mkref1_Set_l2 k5 m6 (x1_k8) (x6_k8) (x7_k8) (x10_k8) (x11_k8) (x12_k8) (x17_k8) (x18_k8) ((x19_k8 + (1 : Int))) (y1005_k8))) (fun k8 =>
          G ((0 ≤ x19_m6 ∧ x19_m6 < (x17_m6.length : Int))) (
            (bif (decide ((ix x17_m6 x19_m6).At = x6_m6)) then (
                k8 (x1_m6) (x6_m6) ((ix x17_m6 x19_m6).N) (x10_m6) (x11_m6) (x12_m6) (x17_m6) (x18_m6) (x19_m6) (y1005_m6)) else (
                k8 (x1_m6) (x6_m6) (x7_m6) (x10_m6) (x11_m6) (x12_m6) (x17_m6) (x18_m6) (x19_m6) (y1005_m6)))))) else (
        k5 (x1_m6) (x7_m6) (x10_m6) (x11_m6) (x12_m6) (y1005_m6)))
def mkref1_Set_l1 (k1 : (List Int) → Option ((List Int))) : Nat → (List Mk.Write) → (List Int) → Int → Int → (List Int) → Option ((List Int))
  | 0, _, _, _, _, _ => none
  | m2 + 1, x1_m2, x10_m2, x11_m2, x12_m2, y1005_m2 =>
    (bif (decide (x12_m2 < x11_m2)) then (
        G ((0 ≤ x12_m2 ∧ x12_m2 < (x10_m2.length : Int))) (
          J (fun (x1_k5 : List Mk.Write) (x7_k5 : Int) (x10_k5 : List Int) (x11_k5 : Int) (x12_k5 : Int) (y1005_k5 : List Int) =>
            G (((y1005_k5.length + ([x7_k5] : List Int).length) * 8 ≤ 140737488355328 ∧ y1005_k5.length + ([x7_k5] : List Int).length ≤ 9223372036854775807)) (
              G (I (x12_k5 + (1 : Int))) (
                mkref1_Set_l1 k1 m2 (x1_k5) (x10_k5) (x11_k5) ((x12_k5 + (1 : Int))) ((y1005_k5 ++ ([x7_k5] : List Int)))))) (fun k5 =>
            mkref1_Set_l2 k5 (((x1_m2.length : Int) - (0 : Int)).toNat + 1) (x1_m2) (x12_m2) ((ix x10_m2 x12_m2)) (x10_m2) (x11_m2) (x12_m2) (x1_m2) ((x1_m2.length : Int)) ((0 : Int)) (y1005_m2)))) else (
        k1 (y1005_m2)))
def mkref1_Set (a0 : List Int) (a1 : List Mk.Write) : Option ((List Int)) :=
    J (fun (y1005_k1 : List Int) =>
      some (y1005_k1)) (fun k1 =>
      mkref1_Set_l1 k1 (((a0.length : Int) - (0 : Int)).toNat + 1) (a1) (a0) ((a0.length : Int)) ((0 : Int)) (([] : List Int)))
def mkref1_Set2_l1 (k1 : (List Int) → Option ((List Int))) : Nat → (List Int) → (List Mk.Write) → Int → Int → Option ((List Int))
  | 0, _, _, _, _ => none
  | m2 + 1, x0_m2, x7_m2, x8_m2, x9_m2 =>
    (bif (decide (x9_m2 < x8_m2)) then (
        G ((0 ≤ x9_m2 ∧ x9_m2 < (x7_m2.length : Int))) (
          (mkref1_Set (x0_m2) (([(ix x7_m2 x9_m2)] : List Mk.Write))).bind (fun v5 =>
            G (I (x9_m2 + (1 : Int))) (
              mkref1_Set2_l1 k1 m2 (v5) (x7_m2) (x8_m2) ((x9_m2 + (1 : Int))))))) else (
        k1 (x0_m2)))
def mkref1_Set2 (a0 : List Int) (a1 : List Mk.Write) : Option ((List Int)) :=
    J (fun (x0_k1 : List Int) =>
      some (x0_k1)) (fun k1 =>
      mkref1_Set2_l1 k1 (((a1.length : Int) - (0 : Int)).toNat + 1) (a0) (a1) ((a1.length : Int)) ((0 : Int)))
end Sp
end
section
namespace Sp
set_option linter.unusedVariables false
def slices_Clone___int_int_ (a0 : List Int) : Option ((List Int)) :=
    G (((([] : List Int).length + a0.length) * 8 ≤ 140737488355328 ∧ ([] : List Int).length + a0.length ≤ 9223372036854775807)) (
      some ((([] : List Int) ++ a0)))
def slices_Clone___api_Write_api_Write_ (a0 : List Mk.Write) : Option ((List Mk.Write)) :=
    G (((([] : List Mk.Write).length + a0.length) * 16 ≤ 140737488355328 ∧ ([] : List Mk.Write).length + a0.length ≤ 9223372036854775807)) (
      some ((([] : List Mk.Write) ++ a0)))
def cell_Set_l1 (k2 : (List Int) → Option ((List Int))) : Nat → (List Mk.Write) → Int → Int → (List Int) → Option ((List Int))
  | 0, _, _, _, _ => none
  | m3 + 1, x10_m3, x11_m3, x12_m3, y9_m3 =>
    (bif (decide (x12_m3 < x11_m3)) then (
        J (fun (x10_k5 : List Mk.Write) (x11_k5 : Int) (x12_k5 : Int) (y9_k5 : List Int) =>
          G (I (x12_k5 + (1 : Int))) (
            cell_Set_l1 k2 m3 (x10_k5) (x11_k5) ((x12_k5 + (1 : Int))) (y9_k5))) (fun k5 =>
          G ((0 ≤ x12_m3 ∧ x12_m3 < (x10_m3.length : Int))) (
            (bif ((decide ((0 : Int) ≤ (ix x10_m3 x12_m3).At)) && (decide ((ix x10_m3 x12_m3).At < (y9_m3.length : Int)))) then (
                G ((0 ≤ (ix x10_m3 x12_m3).At ∧ (ix x10_m3 x12_m3).At < (y9_m3.length : Int))) (
                  k5 (x10_m3) (x11_m3) (x12_m3) ((up y9_m3 (ix x10_m3 x12_m3).At (ix x10_m3 x12_m3).N)))) else (
                k5 (x10_m3) (x11_m3) (x12_m3) (y9_m3)))))) else (
        k2 (y9_m3)))
def cell_Set (a0 : List Int) (a1 : List Mk.Write) : Option ((List Int)) :=
    (slices_Clone___int_int_ (a0)).bind (fun v1 =>
      J (fun (y9_k2 : List Int) =>
        some (y9_k2)) (fun k2 =>
        cell_Set_l1 k2 (((a1.length : Int) - (0 : Int)).toNat + 1) (a1) ((a1.length : Int)) ((0 : Int)) (v1)))
end Sp
end
section
namespace Sp
set_option linter.unusedVariables false
def mkref1_who (a0 : Int) (a1 : Int) : Option Bool :=
    some (((((decide ((0 : Int) ≤ a0)) && (decide (a0 < (3 : Int)))) && (decide ((0 : Int) ≤ a1))) && (decide (a1 < (8 : Int)))))
def mkref1_WrongRequest (a0 : Mk.Request) : Option Int :=
    (mkref1_who (a0.Client) (a0.Token)).bind (fun v1 =>
      (bif (!v1) then (
          some ((3 : Int))) else (
          (mkref1_WrongCall (a0.Call)).bind (fun v3 =>
            some (v3)))))
def mkref1_WrongAnswer (a0 : Mk.Answer) : Option Int :=
    (mkref1_who (a0.Client) (a0.Token)).bind (fun v1 =>
      (bif ((((((!v1) || (decide (a0.Reply.Err < (0 : Int)))) || (decide ((12 : Int) < a0.Reply.Err))) || (decide ((1073741824 : Int) < a0.Reply.N))) || (decide (a0.Reply.N < (-1073741824 : Int)))) || ((decide ((0 : Int) < a0.Reply.Err)) && (!decide (a0.Reply.N = (0 : Int))))) then (
          some ((3 : Int))) else (
          some ((0 : Int)))))
def mkref1_four (a0 : Int) : Option ByteArray :=
    some ((bts ([(u8 (u32 (Int.tdiv (u32 a0).n (⟨16777216⟩ : U32).n)).n), (u8 (⟨Int.tmod (u32 (Int.tdiv (u32 a0).n (⟨65536⟩ : U32).n)).n (⟨256⟩ : U32).n⟩ : U32).n), (u8 (⟨Int.tmod (u32 (Int.tdiv (u32 a0).n (⟨256⟩ : U32).n)).n (⟨256⟩ : U32).n⟩ : U32).n), (u8 (⟨Int.tmod (u32 a0).n (⟨256⟩ : U32).n⟩ : U32).n)] : List UInt8)))
def mkref1_RequestBytes (a0 : Mk.Request) : Option ((List UInt8)) :=
    G (((⟨#[113]⟩ : ByteArray).size + (bts ([(u8 a0.Client), (u8 a0.Token), (u8 a0.Call.Kind), (u8 a0.Call.Name), (u8 a0.Call.Other)] : List UInt8)).size ≤ 9223372036854775807)) (
      (mkref1_four (a0.Call.N)).bind (fun v2 =>
        G ((((⟨#[113]⟩ : ByteArray) ++ (bts ([(u8 a0.Client), (u8 a0.Token), (u8 a0.Call.Kind), (u8 a0.Call.Name), (u8 a0.Call.Other)] : List UInt8))).size + v2.size ≤ 9223372036854775807)) (
          some ((stb (((⟨#[113]⟩ : ByteArray) ++ (bts ([(u8 a0.Client), (u8 a0.Token), (u8 a0.Call.Kind), (u8 a0.Call.Name), (u8 a0.Call.Other)] : List UInt8))) ++ v2))))))
def mkref1_AnswerBytes (a0 : Mk.Answer) : Option ((List UInt8)) :=
    G (((⟨#[97]⟩ : ByteArray).size + (bts ([(u8 a0.Client), (u8 a0.Token), (u8 a0.Reply.Err)] : List UInt8)).size ≤ 9223372036854775807)) (
      (mkref1_four (a0.Reply.N)).bind (fun v2 =>
        G ((((⟨#[97]⟩ : ByteArray) ++ (bts ([(u8 a0.Client), (u8 a0.Token), (u8 a0.Reply.Err)] : List UInt8))).size + v2.size ≤ 9223372036854775807)) (
          some ((stb (((⟨#[97]⟩ : ByteArray) ++ (bts ([(u8 a0.Client), (u8 a0.Token), (u8 a0.Reply.Err)] : List UInt8))) ++ v2))))))
def mkref1_num_l1 (k1 : U32 → Option Int) : Nat → (List UInt8) → U32 → Int → Option Int
  | 0, _, _, _ => none
  | m2 + 1, x0_m2, x3_m2, x5_m2 =>
    (bif (decide (x5_m2 < (4 : Int))) then (
        G ((0 ≤ x5_m2 ∧ x5_m2 < (x0_m2.length : Int))) (
          G (I (x5_m2 + (1 : Int))) (
            mkref1_num_l1 k1 m2 (x0_m2) ((u32 ((u32 ((⟨256⟩ : U32).n * x3_m2.n)).n + (⟨(((ix x0_m2 x5_m2).toNat : Nat) : Int)⟩ : U32).n))) ((x5_m2 + (1 : Int)))))) else (
        k1 (x3_m2)))
def mkref1_num (a0 : List UInt8) : Option Int :=
    J (fun (x3_k1 : U32) =>
      some ((i32 x3_k1.n).n)) (fun k1 =>
      mkref1_num_l1 k1 (((4 : Int) - (0 : Int)).toNat + 1) (a0) ((⟨0⟩ : U32)) ((0 : Int)))
def mkref1_ReadRequest (a0 : List UInt8) : Option (Mk.Request × Int) :=
    G (((!decide ((a0.length : Int) = (10 : Int)))) = false → (0 ≤ (0 : Int) ∧ (0 : Int) < (a0.length : Int))) (
      (bif ((!decide ((a0.length : Int) = (10 : Int))) || (!decide ((ix a0 (0 : Int)) = (UInt8.ofNat 113)))) then (
          some (({ Client := (0 : Int), Token := (0 : Int), Call := ({ Kind := (0 : Int), Name := (0 : Int), Other := (0 : Int), N := (0 : Int) } : Mk.Call) } : Mk.Request), (2 : Int))) else (
          G ((0 ≤ (1 : Int) ∧ (1 : Int) < (a0.length : Int))) (
            G ((0 ≤ (2 : Int) ∧ (2 : Int) < (a0.length : Int))) (
              G ((0 ≤ (3 : Int) ∧ (3 : Int) < (a0.length : Int))) (
                G ((0 ≤ (4 : Int) ∧ (4 : Int) < (a0.length : Int))) (
                  G ((0 ≤ (5 : Int) ∧ (5 : Int) < (a0.length : Int))) (
                    G ((0 ≤ (6 : Int) ∧ (6 : Int) ≤ (a0.length : Int) ∧ (a0.length : Int) ≤ (a0.length : Int))) (
                      (mkref1_num ((sub a0 (6 : Int) (a0.length : Int)))).bind (fun v9 =>
                        (mkref1_WrongRequest (({ Client := (((ix a0 (1 : Int)).toNat : Nat) : Int), Token := (((ix a0 (2 : Int)).toNat : Nat) : Int), Call := ({ Kind := (((ix a0 (3 : Int)).toNat : Nat) : Int), Name := (((ix a0 (4 : Int)).toNat : Nat) : Int), Other := (((ix a0 (5 : Int)).toNat : Nat) : Int), N := v9 } : Mk.Call) } : Mk.Request))).bind (fun v10 =>
                          (bif (!decide (v10 = (0 : Int))) then (
                            some (({ Client := (0 : Int), Token := (0 : Int), Call := ({ Kind := (0 : Int), Name := (0 : Int), Other := (0 : Int), N := (0 : Int) } : Mk.Call) } : Mk.Request), v10)) else (
                            some (({ Client := (((ix a0 (1 : Int)).toNat : Nat) : Int), Token := (((ix a0 (2 : Int)).toNat : Nat) : Int), Call := ({ Kind := (((ix a0 (3 : Int)).toNat : Nat) : Int), Name := (((ix a0 (4 : Int)).toNat : Nat) : Int), Other := (((ix a0 (5 : Int)).toNat : Nat) : Int), N := v9 } : Mk.Call) } : Mk.Request), (0 : Int)))))))))))))))
def mkref1_ReadAnswer (a0 : List UInt8) : Option (Mk.Answer × Int) :=
    G (((!decide ((a0.length : Int) = (8 : Int)))) = false → (0 ≤ (0 : Int) ∧ (0 : Int) < (a0.length : Int))) (
      (bif ((!decide ((a0.length : Int) = (8 : Int))) || (!decide ((ix a0 (0 : Int)) = (UInt8.ofNat 97)))) then (
          some (({ Client := (0 : Int), Token := (0 : Int), Reply := ({ Err := (0 : Int), N := (0 : Int) } : Mk.Reply) } : Mk.Answer), (2 : Int))) else (
          G ((0 ≤ (1 : Int) ∧ (1 : Int) < (a0.length : Int))) (
            G ((0 ≤ (2 : Int) ∧ (2 : Int) < (a0.length : Int))) (
              G ((0 ≤ (3 : Int) ∧ (3 : Int) < (a0.length : Int))) (
                G ((0 ≤ (4 : Int) ∧ (4 : Int) ≤ (a0.length : Int) ∧ (a0.length : Int) ≤ (a0.length : Int))) (
                  (mkref1_num ((sub a0 (4 : Int) (a0.length : Int)))).bind (fun v7 =>
                    (mkref1_WrongAnswer (({ Client := (((ix a0 (1 : Int)).toNat : Nat) : Int), Token := (((ix a0 (2 : Int)).toNat : Nat) : Int), Reply := ({ Err := (((ix a0 (3 : Int)).toNat : Nat) : Int), N := v7 } : Mk.Reply) } : Mk.Answer))).bind (fun v8 =>
                      (bif (!decide (v8 = (0 : Int))) then (
                          some (({ Client := (0 : Int), Token := (0 : Int), Reply := ({ Err := (0 : Int), N := (0 : Int) } : Mk.Reply) } : Mk.Answer), v8)) else (
                          some (({ Client := (((ix a0 (1 : Int)).toNat : Nat) : Int), Token := (((ix a0 (2 : Int)).toNat : Nat) : Int), Reply := ({ Err := (((ix a0 (3 : Int)).toNat : Nat) : Int), N := v7 } : Mk.Reply) } : Mk.Answer), (0 : Int)))))))))))))
end Sp
end
section
namespace Sp
set_option linter.unusedVariables false
def mkref1_Last_l1 (k1 : Mk.Answer → Option (Mk.Answer × Bool)) : Nat → Int → Int → Int → Mk.Store → Mk.Answer → Option (Mk.Answer × Bool)
  | 0, _, _, _, _, _ => none
  | m2 + 1, x1_m2, x9_m2, x10_m2, y2_m2, y4_m2 =>
    (bif (decide (x10_m2 < x9_m2)) then (
        G ((0 ≤ x10_m2 ∧ x10_m2 < (y2_m2.Answers.length : Int))) (
          (bif (decide ((ix y2_m2.Answers x10_m2).Client = x1_m2)) then (
              G ((0 ≤ x10_m2 ∧ x10_m2 < (y2_m2.Answers.length : Int))) (
                some ((ix y2_m2.Answers x10_m2), true))) else (
              G (I (x10_m2 + (1 : Int))) (
                mkref1_Last_l1 k1 m2 (x1_m2) (x9_m2) ((x10_m2 + (1 : Int))) (y2_m2) (y4_m2)))))) else (
        k1 (y4_m2)))
def mkref1_Last (a0 : Mk.Store) (a1 : Int) : Option (Mk.Answer × Bool) :=
    J (fun (y4_k1 : Mk.Answer) =>
      some (({ Client := (0 : Int), Token := (0 : Int), Reply := ({ Err := (0 : Int), N := (0 : Int) } : Mk.Reply) } : Mk.Answer), false)) (fun k1 =>
      mkref1_Last_l1 k1 (((a0.Answers.length : Int) - (0 : Int)).toNat + 1) (a1) ((a0.Answers.length : Int)) ((0 : Int)) (a0) (({ Client := (0 : Int), Token := (0 : Int), Reply := ({ Err := (0 : Int), N := (0 : Int) } : Mk.Reply) } : Mk.Answer)))
def slices_Clone___api_Answer_api_Answer_ (a0 : List Mk.Answer) : Option ((List Mk.Answer)) :=
    G (((([] : List Mk.Answer).length + a0.length) * 32 ≤ 140737488355328 ∧ ([] : List Mk.Answer).length + a0.length ≤ 9223372036854775807)) (
      some ((([] : List Mk.Answer) ++ a0)))
def slices_Clone___api_Request_api_Request_ (a0 : List Mk.Request) : Option ((List Mk.Request)) :=
    G (((([] : List Mk.Request).length + a0.length) * 48 ≤ 140737488355328 ∧ ([] : List Mk.Request).length + a0.length ≤ 9223372036854775807)) (
      some ((([] : List Mk.Request) ++ a0)))
def store_Own (a0 : Mk.Store) : Option Mk.Store :=
    (slices_Clone___int_int_ (a0.Cells)).bind (fun v1 =>
      (slices_Clone___api_Write_api_Write_ (a0.Undo)).bind (fun v2 =>
        (slices_Clone___api_Answer_api_Answer_ (a0.Answers)).bind (fun v3 =>
          (slices_Clone___api_Request_api_Request_ (a0.Past)).bind (fun v4 =>
            some (({ Cells := v1, Undo := v2, Answers := v3, Past := v4 } : Mk.Store))))))
def mkref1_Write (a0 : Mk.Store) (a1 : Mk.Write) : Option Mk.Store :=
    J (fun (y2_k1 : Mk.Store) (y4_k1 : Mk.Store) =>
      some (y2_k1)) (fun k1 =>
      (bif ((decide ((0 : Int) ≤ a1.At)) && (decide (a1.At < (a0.Cells.length : Int)))) then (
          G ((0 ≤ a1.At ∧ a1.At < (a0.Cells.length : Int))) (
            G (((([({ At := a1.At, N := (ix a0.Cells a1.At) } : Mk.Write)] : List Mk.Write).length + a0.Undo.length) * 16 ≤ 140737488355328 ∧ ([({ At := a1.At, N := (ix a0.Cells a1.At) } : Mk.Write)] : List Mk.Write).length + a0.Undo.length ≤ 9223372036854775807)) (
              (mkref1_Set ({ a0 with Undo := (([({ At := a1.At, N := (ix a0.Cells a1.At) } : Mk.Write)] : List Mk.Write) ++ a0.Undo) }.Cells) (([a1] : List Mk.Write))).bind (fun v5 =>
                k1 ({ ({ a0 with Undo := (([({ At := a1.At, N := (ix a0.Cells a1.At) } : Mk.Write)] : List Mk.Write) ++ a0.Undo) }) with Cells := v5 }) (({ Cells := ([] : List Int), Undo := ([] : List Mk.Write), Answers := ([] : List Mk.Answer), Past := ([] : List Mk.Request) } : Mk.Store)))))) else (
          k1 (a0) (({ Cells := ([] : List Int), Undo := ([] : List Mk.Write), Answers := ([] : List Mk.Answer), Past := ([] : List Mk.Request) } : Mk.Store)))))
def mkref1_Commit_l1 (k1 : Bool → Mk.Store → Mk.Request → Mk.Store → Mk.Answer → (List Mk.Answer) → Option Mk.Store) : Nat → Bool → (List Mk.Answer) → Int → Int → Mk.Store → Mk.Request → Mk.Store → Mk.Answer → (List Mk.Answer) → Option Mk.Store
  | 0, _, _, _, _, _, _, _, _, _ => none
  | m2 + 1, x9_m2, x19_m2, x20_m2, x21_m2, y3_m2, y4_m2, y6_m2, y7_m2, y1008_m2 =>
    (bif (decide (x21_m2 < x20_m2)) then (
        G ((0 ≤ x21_m2 ∧ x21_m2 < (x19_m2.length : Int))) (
          J (fun (x9_k5 : Bool) (x19_k5 : List Mk.Answer) (x20_k5 : Int) (x21_k5 : Int) (y3_k5 : Mk.Store) (y4_k5 : Mk.Request) (y6_k5 : Mk.Store) (y7_k5 : Mk.Answer) (y11_k5 : Mk.Answer) (y1008_k5 : List Mk.Answer) =>
            G (((y1008_k5.length + ([y11_k5] : List Mk.Answer).length) * 32 ≤ 140737488355328 ∧ y1008_k5.length + ([y11_k5] : List Mk.Answer).length ≤ 9223372036854775807)) (
              G (I (x21_k5 + (1 : Int))) (
                mkref1_Commit_l1 k1 m2 (x9_k5) (x19_k5) (x20_k5) ((x21_k5 + (1 : Int))) (y3_k5) (y4_k5) (y6_k5) (y7_k5) ((y1008_k5 ++ ([y11_k5] : List Mk.Answer)))))) (fun k5 =>
            (bif ((decide ((ix x19_m2 x21_m2).Client = y4_m2.Client)) && (!x9_m2)) then (
                k5 (true) (x19_m2) (x20_m2) (x21_m2) (y3_m2) (y4_m2) (y6_m2) (y7_m2) (y7_m2) (y1008_m2)) else (
                k5 (x9_m2) (x19_m2) (x20_m2) (x21_m2) (y3_m2) (y4_m2) (y6_m2) (y7_m2) ((ix x19_m2 x21_m2)) (y1008_m2)))))) else (
        k1 (x9_m2) (y3_m2) (y4_m2) (y6_m2) (y7_m2) (y1008_m2)))
def mkref1_Commit (a0 : Mk.Store) (a1 : Mk.Request) (a2 : Mk.Reply) : Option Mk.Store :=
    J (fun (x9_k1 : Bool) (y3_k1 : Mk.Store) (y4_k1 : Mk.Request) (y6_k1 : Mk.Store) (y7_k1 : Mk.Answer) (y1008_k1 : List Mk.Answer) =>
      J (fun (y3_k9 : Mk.Store) (y4_k9 : Mk.Request) (y6_k9 : Mk.Store) (y1008_k9 : List Mk.Answer) =>
        G (((([] : List Mk.Request).length + y3_k9.Past.length) * 48 ≤ 140737488355328 ∧ ([] : List Mk.Request).length + y3_k9.Past.length ≤ 9223372036854775807)) (
          G ((((([] : List Mk.Request) ++ y3_k9.Past).length + ([y4_k9] : List Mk.Request).length) * 48 ≤ 140737488355328 ∧ (([] : List Mk.Request) ++ y3_k9.Past).length + ([y4_k9] : List Mk.Request).length ≤ 9223372036854775807)) (
            some (({ Cells := y3_k9.Cells, Undo := ([] : List Mk.Write), Answers := y1008_k9, Past := ((([] : List Mk.Request) ++ y3_k9.Past) ++ ([y4_k9] : List Mk.Request)) } : Mk.Store))))) (fun k9 =>
        (bif (!x9_k1) then (
            G (((y1008_k1.length + ([y7_k1] : List Mk.Answer).length) * 32 ≤ 140737488355328 ∧ y1008_k1.length + ([y7_k1] : List Mk.Answer).length ≤ 9223372036854775807)) (
              k9 (y3_k1) (y4_k1) (y6_k1) ((y1008_k1 ++ ([y7_k1] : List Mk.Answer))))) else (
            k9 (y3_k1) (y4_k1) (y6_k1) (y1008_k1))))) (fun k1 =>
      mkref1_Commit_l1 k1 (((a0.Answers.length : Int) - (0 : Int)).toNat + 1) (false) (a0.Answers) ((a0.Answers.length : Int)) ((0 : Int)) (a0) (a1) (({ Cells := ([] : List Int), Undo := ([] : List Mk.Write), Answers := ([] : List Mk.Answer), Past := ([] : List Mk.Request) } : Mk.Store)) (({ Client := a1.Client, Token := a1.Token, Reply := a2 } : Mk.Answer)) (([] : List Mk.Answer)))
def store_Back (a0 : Mk.Store) : Option Mk.Store :=
    (store_Own (a0)).bind (fun v1 =>
      (cell_Set (v1.Cells) (v1.Undo)).bind (fun v2 =>
        some ({ ({ v1 with Cells := v2 }) with Undo := ([] : List Mk.Write) })))
def mkref1_Back (a0 : Mk.Store) : Option Mk.Store :=
    (mkref1_Set2 (a0.Cells) (a0.Undo)).bind (fun v1 =>
      some ({ ({ a0 with Cells := v1 }) with Undo := ([] : List Mk.Write) }))
end Sp
end
section
namespace Sp
set_option linter.unusedVariables false
def mkref6_New_l2 (k8 : (List Mk.Call) → (List (List Mk.Call)) → Int → Int → Mk.Machine → Mk.Machine → (List Mk.Client) → Option (Mk.Machine × Int)) : Nat → (List Mk.Call) → (List (List Mk.Call)) → Int → Int → (List Mk.Call) → Int → Int → Mk.Machine → Mk.Machine → (List Mk.Client) → Option (Mk.Machine × Int)
  | 0, _, _, _, _, _, _, _, _, _, _ => none
  | m9 + 1, x6_m9, x17_m9, x18_m9, x19_m9, x27_m9, x28_m9, x29_m9, y2_m9, y4_m9, y50165_m9 =>
    (bif (decide (x29_m9 < x28_m9)) then (
        G ((0 ≤ x29_m9 ∧ x29_m9 < (x27_m9.length : Int))) (
          (mkref1_WrongCall ((ix x27_m9 x29_m9))).bind (fun v12 =>
            (bif (!decide (v12 = (0 : Int))) then (
                some (({ Store := ({ Cells := ([] : List Int), Undo := ([] : List Mk.Write), Answers := ([] : List Mk.Answer), Past := ([] : List Mk.Request) } : Mk.Store), Server := ({ Gen := (0 : Int), Box := ([] : List (List UInt8)), Busy := false, Now := ({ Client := (0 : Int), Token := (0 : Int), Call := ({ Kind := (0 : Int), Name := (0 : Int), Other := (0 : Int), N := (0 : Int) } : Mk.Call) } : Mk.Request), Plan := ([] : List Mk.Write), Says := ({ Err := (0 : Int), N := (0 : Int) } : Mk.Reply) } : Mk.Server), Up := false, Pause := (0 : Int), Falls := (0 : Int), Clients := ([] : List Mk.Client) } : Mk.Machine), v12)) else (
                G (I (x29_m9 + (1 : Int))) (
                  mkref6_New_l2 k8 m9 (x6_m9) (x17_m9) (x18_m9) (x19_m9) (x27_m9) (x28_m9) ((x29_m9 + (1 : Int))) (y2_m9) (y4_m9) (y50165_m9))))))) else (
        k8 (x6_m9) (x17_m9) (x18_m9) (x19_m9) (y2_m9) (y4_m9) (y50165_m9)))
def mkref6_New_l1 (k3 : Mk.Machine → Mk.Machine → (List Mk.Client) → Option (Mk.Machine × Int)) : Nat → (List (List Mk.Call)) → Int → Int → Mk.Machine → Mk.Machine → (List Mk.Client) → Option (Mk.Machine × Int)
  | 0, _, _, _, _, _, _ => none
  | m4 + 1, x17_m4, x18_m4, x19_m4, y2_m4, y4_m4, y50165_m4 =>
    (bif (decide (x19_m4 < x18_m4)) then (
        G ((0 ≤ x19_m4 ∧ x19_m4 < (x17_m4.length : Int))) (
          (bif (decide ((8 : Int) < ((ix x17_m4 x19_m4).length : Int))) then (
              some (({ Store := ({ Cells := ([] : List Int), Undo := ([] : List Mk.Write), Answers := ([] : List Mk.Answer), Past := ([] : List Mk.Request) } : Mk.Store), Server := ({ Gen := (0 : Int), Box := ([] : List (List UInt8)), Busy := false, Now := ({ Client := (0 : Int), Token := (0 : Int), Call := ({ Kind := (0 : Int), Name := (0 : Int), Other := (0 : Int), N := (0 : Int) } : Mk.Call) } : Mk.Request), Plan := ([] : List Mk.Write), Says := ({ Err := (0 : Int), N := (0 : Int) } : Mk.Reply) } : Mk.Server), Up := false, Pause := (0 : Int), Falls := (0 : Int), Clients := ([] : List Mk.Client) } : Mk.Machine), (4 : Int))) else (
              J (fun (x6_k8 : List Mk.Call) (x17_k8 : List (List Mk.Call)) (x18_k8 : Int) (x19_k8 : Int) (y2_k8 : Mk.Machine) (y4_k8 : Mk.Machine) (y50165_k8 : List Mk.Client) =>
                G (((y50165_k8.length + ([({ Calls := x6_k8, At := (0 : Int), Sent := false, Gen := (0 : Int), Box := ([] : List (List UInt8)), Got := ([] : List Mk.Reply) } : Mk.Client)] : List Mk.Client).length) * 96 ≤ 140737488355328 ∧ y50165_k8.length + ([({ Calls := x6_k8, At := (0 : Int), Sent := false, Gen := (0 : Int), Box := ([] : List (List UInt8)), Got := ([] : List Mk.Reply) } : Mk.Client)] : List Mk.Client).length ≤ 9223372036854775807)) (
                  G (I (x19_k8 + (1 : Int))) (
                    mkref6_New_l1 k3 m4 (x17_k8) (x18_k8) ((x19_k8 + (1 : Int))) (y2_k8) (y4_k8) ((y50165_k8 ++ ([({ Calls := x6_k8, At := (0 : Int), Sent := false, Gen := (0 : Int), Box := ([] : List (List UInt8)), Got := ([] : List Mk.Reply) } : Mk.Client)] : List Mk.Client)))))) (fun k8 =>
                mkref6_New_l2 k8 ((((ix x17_m4 x19_m4).length : Int) - (0 : Int)).toNat + 1) ((ix x17_m4 x19_m4)) (x17_m4) (x18_m4) (x19_m4) ((ix x17_m4 x19_m4)) (((ix x17_m4 x19_m4).length : Int)) ((0 : Int)) (y2_m4) (y4_m4) (y50165_m4)))))) else (
        k3 (y2_m4) (y4_m4) (y50165_m4)))
def mkref6_New (a0 : List (List Mk.Call)) : Option (Mk.Machine × Int) :=
    (bif (decide ((3 : Int) < (a0.length : Int))) then (
        some (({ Store := ({ Cells := ([] : List Int), Undo := ([] : List Mk.Write), Answers := ([] : List Mk.Answer), Past := ([] : List Mk.Request) } : Mk.Store), Server := ({ Gen := (0 : Int), Box := ([] : List (List UInt8)), Busy := false, Now := ({ Client := (0 : Int), Token := (0 : Int), Call := ({ Kind := (0 : Int), Name := (0 : Int), Other := (0 : Int), N := (0 : Int) } : Mk.Call) } : Mk.Request), Plan := ([] : List Mk.Write), Says := ({ Err := (0 : Int), N := (0 : Int) } : Mk.Reply) } : Mk.Server), Up := false, Pause := (0 : Int), Falls := (0 : Int), Clients := ([] : List Mk.Client) } : Mk.Machine), (5 : Int))) else (
        G ((0 ≤ (11 : Int) ∧ (11 : Int) = (11 : Int) ∧ (11 : Int) ≤ 16777216)) (
          J (fun (y2_k3 : Mk.Machine) (y4_k3 : Mk.Machine) (y50165_k3 : List Mk.Client) =>
            some ({ y4_k3 with Clients := y50165_k3 }, (0 : Int))) (fun k3 =>
            mkref6_New_l1 k3 (((a0.length : Int) - (0 : Int)).toNat + 1) (a0) ((a0.length : Int)) ((0 : Int)) (({ Store := ({ Cells := ([] : List Int), Undo := ([] : List Mk.Write), Answers := ([] : List Mk.Answer), Past := ([] : List Mk.Request) } : Mk.Store), Server := ({ Gen := (0 : Int), Box := ([] : List (List UInt8)), Busy := false, Now := ({ Client := (0 : Int), Token := (0 : Int), Call := ({ Kind := (0 : Int), Name := (0 : Int), Other := (0 : Int), N := (0 : Int) } : Mk.Call) } : Mk.Request), Plan := ([] : List Mk.Write), Says := ({ Err := (0 : Int), N := (0 : Int) } : Mk.Reply) } : Mk.Server), Up := false, Pause := (0 : Int), Falls := (0 : Int), Clients := ([] : List Mk.Client) } : Mk.Machine)) (({ Store := ({ Cells := (List.replicate (Int.toNat (11 : Int)) (0 : Int)), Undo := ([] : List Mk.Write), Answers := ([] : List Mk.Answer), Past := ([] : List Mk.Request) } : Mk.Store), Server := ({ Gen := (0 : Int), Box := ([] : List (List UInt8)), Busy := false, Now := ({ Client := (0 : Int), Token := (0 : Int), Call := ({ Kind := (0 : Int), Name := (0 : Int), Other := (0 : Int), N := (0 : Int) } : Mk.Call) } : Mk.Request), Plan := ([] : List Mk.Write), Says := ({ Err := (0 : Int), N := (0 : Int) } : Mk.Reply) } : Mk.Server), Up := true, Pause := (0 : Int), Falls := (0 : Int), Clients := ([] : List Mk.Client) } : Mk.Machine)) (([] : List Mk.Client))))))
def mkref6_Right (a0 : List (List Mk.Call)) : Option Bool :=
    (mkref6_New (a0)).bind (fun v1 =>
      some ((decide (v1.2 = (0 : Int)))))
def mkref6_ClientGo (a0 : Mk.Client) (a1 : Int) (a2 : Int) (a3 : Bool) : Option (Mk.Client × (List UInt8) × Int) :=
    (bif (decide ((0 : Int) < (a0.Box.length : Int))) then (
        G ((0 ≤ (0 : Int) ∧ (0 : Int) < (a0.Box.length : Int))) (
          (mkref1_ReadAnswer ((ix a0.Box (0 : Int)))).bind (fun v3 =>
            G ((0 ≤ (1 : Int) ∧ (1 : Int) ≤ (a0.Box.length : Int) ∧ (a0.Box.length : Int) ≤ (a0.Box.length : Int))) (
              J (fun (y4_k5 : Mk.Client) (y8_k5 : Mk.Client) =>
                some (y4_k5, ([] : List UInt8), (0 : Int))) (fun k5 =>
                (bif ((((decide (v3.2 = (0 : Int))) && (decide (v3.1.Client = a1))) && (decide (v3.1.Token = { a0 with Box := (sub a0.Box (1 : Int) (a0.Box.length : Int)) }.At))) && { a0 with Box := (sub a0.Box (1 : Int) (a0.Box.length : Int)) }.Sent) then (
                    G (((([] : List Mk.Reply).length + { a0 with Box := (sub a0.Box (1 : Int) (a0.Box.length : Int)) }.Got.length) * 16 ≤ 140737488355328 ∧ ([] : List Mk.Reply).length + { a0 with Box := (sub a0.Box (1 : Int) (a0.Box.length : Int)) }.Got.length ≤ 9223372036854775807)) (
                      G ((((([] : List Mk.Reply) ++ { a0 with Box := (sub a0.Box (1 : Int) (a0.Box.length : Int)) }.Got).length + ([v3.1.Reply] : List Mk.Reply).length) * 16 ≤ 140737488355328 ∧ (([] : List Mk.Reply) ++ { a0 with Box := (sub a0.Box (1 : Int) (a0.Box.length : Int)) }.Got).length + ([v3.1.Reply] : List Mk.Reply).length ≤ 9223372036854775807)) (
                        G (I ({ ({ a0 with Box := (sub a0.Box (1 : Int) (a0.Box.length : Int)) }) with Got := ((([] : List Mk.Reply) ++ { a0 with Box := (sub a0.Box (1 : Int) (a0.Box.length : Int)) }.Got) ++ ([v3.1.Reply] : List Mk.Reply)) }.At + (1 : Int))) (
                          k5 ({ ({ ({ ({ a0 with Box := (sub a0.Box (1 : Int) (a0.Box.length : Int)) }) with Got := ((([] : List Mk.Reply) ++ { a0 with Box := (sub a0.Box (1 : Int) (a0.Box.length : Int)) }.Got) ++ ([v3.1.Reply] : List Mk.Reply)) }) with At := ({ ({ a0 with Box := (sub a0.Box (1 : Int) (a0.Box.length : Int)) }) with Got := ((([] : List Mk.Reply) ++ { a0 with Box := (sub a0.Box (1 : Int) (a0.Box.length : Int)) }.Got) ++ ([v3.1.Reply] : List Mk.Reply)) }.At + (1 : Int)) }) with Sent := false }) (({ Calls := ([] : List Mk.Call), At := (0 : Int), Sent := false, Gen := (0 : Int), Box := ([] : List (List UInt8)), Got := ([] : List Mk.Reply) } : Mk.Client)))))) else (
                    k5 ({ a0 with Box := (sub a0.Box (1 : Int) (a0.Box.length : Int)) }) (({ Calls := ([] : List Mk.Call), At := (0 : Int), Sent := false, Gen := (0 : Int), Box := ([] : List (List UInt8)), Got := ([] : List Mk.Reply) } : Mk.Client))))))))) else (
        (bif (decide ((a0.Calls.length : Int) ≤ a0.At)) then (
            some (a0, ([] : List UInt8), (11 : Int))) else (
            (bif (!a3) then (
                some (a0, ([] : List UInt8), (10 : Int))) else (
                (bif (a0.Sent && (decide (a0.Gen = a2))) then (
                    some (a0, ([] : List UInt8), (12 : Int))) else (
                    G ((0 ≤ { ({ a0 with Sent := true }) with Gen := a2 }.At ∧ { ({ a0 with Sent := true }) with Gen := a2 }.At < ({ ({ a0 with Sent := true }) with Gen := a2 }.Calls.length : Int))) (
                      (mkref1_RequestBytes (({ Client := a1, Token := { ({ a0 with Sent := true }) with Gen := a2 }.At, Call := (ix { ({ a0 with Sent := true }) with Gen := a2 }.Calls { ({ a0 with Sent := true }) with Gen := a2 }.At) } : Mk.Request))).bind (fun v14 =>
                        some ({ ({ a0 with Sent := true }) with Gen := a2 }, v14, (0 : Int))))))))))))
def mkref6_ServerCome (a0 : Mk.Server) (a1 : List UInt8) : Option (Mk.Server × Int) :=
    (bif (decide ((3 : Int) ≤ (a0.Box.length : Int))) then (
        some (a0, (9 : Int))) else (
        G (((([] : List (List UInt8)).length + a0.Box.length) * 24 ≤ 140737488355328 ∧ ([] : List (List UInt8)).length + a0.Box.length ≤ 9223372036854775807)) (
          G ((((([] : List (List UInt8)) ++ a0.Box).length + ([a1] : List (List UInt8)).length) * 24 ≤ 140737488355328 ∧ (([] : List (List UInt8)) ++ a0.Box).length + ([a1] : List (List UInt8)).length ≤ 9223372036854775807)) (
            some ({ a0 with Box := ((([] : List (List UInt8)) ++ a0.Box) ++ ([a1] : List (List UInt8))) }, (0 : Int))))))
def mkref6_with (a0 : Mk.Machine) (a1 : Int) (a2 : Mk.Client) : Option Mk.Machine :=
    G (((([] : List Mk.Client).length + a0.Clients.length) * 96 ≤ 140737488355328 ∧ ([] : List Mk.Client).length + a0.Clients.length ≤ 9223372036854775807)) (
      G ((0 ≤ a1 ∧ a1 < ((([] : List Mk.Client) ++ a0.Clients).length : Int))) (
        some ({ a0 with Clients := (up (([] : List Mk.Client) ++ a0.Clients) a1 a2) })))
def mkref6_Serve (a0 : Mk.Store) (a1 : Mk.Server) : Option (Mk.Store × Mk.Server × (List UInt8) × Int) :=
    (bif (a1.Busy && (decide ((0 : Int) < (a1.Plan.length : Int)))) then (
        G ((0 ≤ (0 : Int) ∧ (0 : Int) < (a1.Plan.length : Int))) (
          (mkref1_Write (a0) ((ix a1.Plan (0 : Int)))).bind (fun v3 =>
            G ((0 ≤ (1 : Int) ∧ (1 : Int) ≤ (a1.Plan.length : Int) ∧ (a1.Plan.length : Int) ≤ (a1.Plan.length : Int))) (
              some (v3, { a1 with Plan := (sub a1.Plan (1 : Int) (a1.Plan.length : Int)) }, ([] : List UInt8), (0 : Int)))))) else (
        (bif a1.Busy then (
            (mkref1_AnswerBytes (({ Client := a1.Now.Client, Token := a1.Now.Token, Reply := a1.Says } : Mk.Answer))).bind (fun v6 =>
              (mkref1_Commit (a0) (a1.Now) (a1.Says)).bind (fun v7 =>
                some (v7, ({ Gen := a1.Gen, Box := a1.Box, Busy := false, Now := ({ Client := (0 : Int), Token := (0 : Int), Call := ({ Kind := (0 : Int), Name := (0 : Int), Other := (0 : Int), N := (0 : Int) } : Mk.Call) } : Mk.Request), Plan := ([] : List Mk.Write), Says := ({ Err := (0 : Int), N := (0 : Int) } : Mk.Reply) } : Mk.Server), v6, (0 : Int))))) else (
            (bif (decide ((a1.Box.length : Int) = (0 : Int))) then (
                some (a0, a1, ([] : List UInt8), (12 : Int))) else (
                G ((0 ≤ (0 : Int) ∧ (0 : Int) < (a1.Box.length : Int))) (
                  (mkref1_ReadRequest ((ix a1.Box (0 : Int)))).bind (fun v10 =>
                    G ((0 ≤ (1 : Int) ∧ (1 : Int) ≤ (a1.Box.length : Int) ∧ (a1.Box.length : Int) ≤ (a1.Box.length : Int))) (
                      (bif (!decide (v10.2 = (0 : Int))) then (
                          some (a0, { a1 with Box := (sub a1.Box (1 : Int) (a1.Box.length : Int)) }, ([] : List UInt8), (0 : Int))) else (
                          (mkref1_Last (a0) (v10.1.Client)).bind (fun v13 =>
                            (bif (v13.2 && (decide (v10.1.Token ≤ v13.1.Token))) then (
                            (bif (decide (v13.1.Token = v10.1.Token)) then (
                            (mkref1_AnswerBytes (v13.1)).bind (fun v16 =>
                            some (a0, { a1 with Box := (sub a1.Box (1 : Int) (a1.Box.length : Int)) }, v16, (0 : Int)))) else (
                            some (a0, { a1 with Box := (sub a1.Box (1 : Int) (a1.Box.length : Int)) }, ([] : List UInt8), (0 : Int))))) else (
                            (mkref1_Plan (a0.Cells) (v10.1.Call)).bind (fun v17 =>
                            some (a0, { ({ ({ ({ ({ a1 with Box := (sub a1.Box (1 : Int) (a1.Box.length : Int)) }) with Busy := true }) with Now := v10.1 }) with Plan := v17.1 }) with Says := v17.2 }, ([] : List UInt8), (0 : Int)))))))))))))))))
def mkref6_ClientCome (a0 : Mk.Client) (a1 : List UInt8) : Option Mk.Client :=
    J (fun (y2_k1 : Mk.Client) (y4_k1 : Mk.Client) =>
      some (y2_k1)) (fun k1 =>
      (bif (decide ((a0.Box.length : Int) < (3 : Int))) then (
          G (((([] : List (List UInt8)).length + a0.Box.length) * 24 ≤ 140737488355328 ∧ ([] : List (List UInt8)).length + a0.Box.length ≤ 9223372036854775807)) (
            G ((((([] : List (List UInt8)) ++ a0.Box).length + ([a1] : List (List UInt8)).length) * 24 ≤ 140737488355328 ∧ (([] : List (List UInt8)) ++ a0.Box).length + ([a1] : List (List UInt8)).length ≤ 9223372036854775807)) (
              k1 ({ a0 with Box := ((([] : List (List UInt8)) ++ a0.Box) ++ ([a1] : List (List UInt8))) }) (({ Calls := ([] : List Mk.Call), At := (0 : Int), Sent := false, Gen := (0 : Int), Box := ([] : List (List UInt8)), Got := ([] : List Mk.Reply) } : Mk.Client))))) else (
          k1 (a0) (({ Calls := ([] : List Mk.Call), At := (0 : Int), Sent := false, Gen := (0 : Int), Box := ([] : List (List UInt8)), Got := ([] : List Mk.Reply) } : Mk.Client)))))
def mkref6_Fall (a0 : Mk.Machine) : Option (Mk.Machine × Int) :=
    (bif (!a0.Up) then (
        some (a0, (11 : Int))) else (
        (bif (decide ((5 : Int) < a0.Falls)) then (
            some (a0, (5 : Int))) else (
            G (I (a0.Falls + (1 : Int))) (
              G ((0 ≤ { ({ a0 with Falls := (a0.Falls + (1 : Int)) }) with Up := false }.Falls ∧ { ({ a0 with Falls := (a0.Falls + (1 : Int)) }) with Up := false }.Falls < (([(1 : Int), (1 : Int), (2 : Int), (3 : Int), (3 : Int), (3 : Int), (3 : Int)] : List Int).length : Int))) (
                some ({ ({ ({ ({ a0 with Falls := (a0.Falls + (1 : Int)) }) with Up := false }) with Pause := (ix ([(1 : Int), (1 : Int), (2 : Int), (3 : Int), (3 : Int), (3 : Int), (3 : Int)] : List Int) { ({ a0 with Falls := (a0.Falls + (1 : Int)) }) with Up := false }.Falls) }) with Server := ({ Gen := { ({ ({ a0 with Falls := (a0.Falls + (1 : Int)) }) with Up := false }) with Pause := (ix ([(1 : Int), (1 : Int), (2 : Int), (3 : Int), (3 : Int), (3 : Int), (3 : Int)] : List Int) { ({ a0 with Falls := (a0.Falls + (1 : Int)) }) with Up := false }.Falls) }.Server.Gen, Box := ([] : List (List UInt8)), Busy := false, Now := ({ Client := (0 : Int), Token := (0 : Int), Call := ({ Kind := (0 : Int), Name := (0 : Int), Other := (0 : Int), N := (0 : Int) } : Mk.Call) } : Mk.Request), Plan := ([] : List Mk.Write), Says := ({ Err := (0 : Int), N := (0 : Int) } : Mk.Reply) } : Mk.Server) }, (0 : Int))))))))
def mkref6_Tick (a0 : Mk.Machine) : Option Mk.Machine :=
    J (fun (y1_k1 : Mk.Machine) (y2_k1 : Mk.Machine) =>
      some (y1_k1)) (fun k1 =>
      (bif a0.Up then (
          k1 (a0) (({ Store := ({ Cells := ([] : List Int), Undo := ([] : List Mk.Write), Answers := ([] : List Mk.Answer), Past := ([] : List Mk.Request) } : Mk.Store), Server := ({ Gen := (0 : Int), Box := ([] : List (List UInt8)), Busy := false, Now := ({ Client := (0 : Int), Token := (0 : Int), Call := ({ Kind := (0 : Int), Name := (0 : Int), Other := (0 : Int), N := (0 : Int) } : Mk.Call) } : Mk.Request), Plan := ([] : List Mk.Write), Says := ({ Err := (0 : Int), N := (0 : Int) } : Mk.Reply) } : Mk.Server), Up := false, Pause := (0 : Int), Falls := (0 : Int), Clients := ([] : List Mk.Client) } : Mk.Machine))) else (
          (bif (decide ((1 : Int) < a0.Pause)) then (
              G (I (a0.Pause - (1 : Int))) (
                k1 ({ a0 with Pause := (a0.Pause - (1 : Int)) }) (({ Store := ({ Cells := ([] : List Int), Undo := ([] : List Mk.Write), Answers := ([] : List Mk.Answer), Past := ([] : List Mk.Request) } : Mk.Store), Server := ({ Gen := (0 : Int), Box := ([] : List (List UInt8)), Busy := false, Now := ({ Client := (0 : Int), Token := (0 : Int), Call := ({ Kind := (0 : Int), Name := (0 : Int), Other := (0 : Int), N := (0 : Int) } : Mk.Call) } : Mk.Request), Plan := ([] : List Mk.Write), Says := ({ Err := (0 : Int), N := (0 : Int) } : Mk.Reply) } : Mk.Server), Up := false, Pause := (0 : Int), Falls := (0 : Int), Clients := ([] : List Mk.Client) } : Mk.Machine)))) else (
              (mkref1_Back ({ ({ a0 with Up := true }) with Pause := (0 : Int) }.Store)).bind (fun v5 =>
                G (I ({ ({ ({ a0 with Up := true }) with Pause := (0 : Int) }) with Store := v5 }.Server.Gen + (1 : Int))) (
                  k1 ({ ({ ({ ({ a0 with Up := true }) with Pause := (0 : Int) }) with Store := v5 }) with Server := ({ Gen := ({ ({ ({ a0 with Up := true }) with Pause := (0 : Int) }) with Store := v5 }.Server.Gen + (1 : Int)), Box := ([] : List (List UInt8)), Busy := false, Now := ({ Client := (0 : Int), Token := (0 : Int), Call := ({ Kind := (0 : Int), Name := (0 : Int), Other := (0 : Int), N := (0 : Int) } : Mk.Call) } : Mk.Request), Plan := ([] : List Mk.Write), Says := ({ Err := (0 : Int), N := (0 : Int) } : Mk.Reply) } : Mk.Server) }) (({ Store := ({ Cells := ([] : List Int), Undo := ([] : List Mk.Write), Answers := ([] : List Mk.Answer), Past := ([] : List Mk.Request) } : Mk.Store), Server := ({ Gen := (0 : Int), Box := ([] : List (List UInt8)), Busy := false, Now := ({ Client := (0 : Int), Token := (0 : Int), Call := ({ Kind := (0 : Int), Name := (0 : Int), Other := (0 : Int), N := (0 : Int) } : Mk.Call) } : Mk.Request), Plan := ([] : List Mk.Write), Says := ({ Err := (0 : Int), N := (0 : Int) } : Mk.Reply) } : Mk.Server), Up := false, Pause := (0 : Int), Falls := (0 : Int), Clients := ([] : List Mk.Client) } : Mk.Machine)))))))))
def mkref6_Do (a0 : Mk.Machine) (a1 : Mk.Step) : Option (Mk.Machine × Int) :=
    (bif (decide (a1.Kind = (1 : Int))) then (
        (bif ((decide (a1.N < (0 : Int))) || (decide ((a0.Clients.length : Int) ≤ a1.N))) then (
            some (a0, (6 : Int))) else (
            G ((0 ≤ a1.N ∧ a1.N < (a0.Clients.length : Int))) (
              (mkref6_ClientGo ((ix a0.Clients a1.N)) (a1.N) (a0.Server.Gen) (a0.Up)).bind (fun v4 =>
                (bif (!decide (v4.2.2 = (0 : Int))) then (
                    some (a0, v4.2.2)) else (
                    J (fun (y2_k6 : Mk.Machine) (y3_k6 : Mk.Step) (y4_k6 : Mk.Machine) (y6_k6 : Mk.Client) =>
                      (mkref6_with (y2_k6) (y3_k6.N) (y6_k6)).bind (fun v10 =>
                        some (v10, (0 : Int)))) (fun k6 =>
                      (bif (decide ((0 : Int) < (v4.2.1.length : Int))) then (
                          (mkref6_ServerCome (a0.Server) (v4.2.1)).bind (fun v8 =>
                            (bif (!decide (v8.2 = (0 : Int))) then (
                            some (a0, v8.2)) else (
                            k6 ({ a0 with Server := v8.1 }) (a1) (({ Store := ({ Cells := ([] : List Int), Undo := ([] : List Mk.Write), Answers := ([] : List Mk.Answer), Past := ([] : List Mk.Request) } : Mk.Store), Server := ({ Gen := (0 : Int), Box := ([] : List (List UInt8)), Busy := false, Now := ({ Client := (0 : Int), Token := (0 : Int), Call := ({ Kind := (0 : Int), Name := (0 : Int), Other := (0 : Int), N := (0 : Int) } : Mk.Call) } : Mk.Request), Plan := ([] : List Mk.Write), Says := ({ Err := (0 : Int), N := (0 : Int) } : Mk.Reply) } : Mk.Server), Up := false, Pause := (0 : Int), Falls := (0 : Int), Clients := ([] : List Mk.Client) } : Mk.Machine)) (v4.1))))) else (
                          k6 (a0) (a1) (({ Store := ({ Cells := ([] : List Int), Undo := ([] : List Mk.Write), Answers := ([] : List Mk.Answer), Past := ([] : List Mk.Request) } : Mk.Store), Server := ({ Gen := (0 : Int), Box := ([] : List (List UInt8)), Busy := false, Now := ({ Client := (0 : Int), Token := (0 : Int), Call := ({ Kind := (0 : Int), Name := (0 : Int), Other := (0 : Int), N := (0 : Int) } : Mk.Call) } : Mk.Request), Plan := ([] : List Mk.Write), Says := ({ Err := (0 : Int), N := (0 : Int) } : Mk.Reply) } : Mk.Server), Up := false, Pause := (0 : Int), Falls := (0 : Int), Clients := ([] : List Mk.Client) } : Mk.Machine)) (v4.1))))))))))) else (
        (bif (decide (a1.Kind = (2 : Int))) then (
            (bif (!a0.Up) then (
                some (a0, (10 : Int))) else (
                (mkref6_Serve (a0.Store) (a0.Server)).bind (fun v13 =>
                  (bif (!decide (v13.2.2.2 = (0 : Int))) then (
                      some (a0, v13.2.2.2)) else (
                      J (fun (y2_k15 : Mk.Machine) (y4_k15 : Mk.Machine) =>
                        some (y2_k15, (0 : Int))) (fun k15 =>
                        (bif (decide ((0 : Int) < (v13.2.2.1.length : Int))) then (
                            G ((0 ≤ (1 : Int) ∧ (1 : Int) < (v13.2.2.1.length : Int))) (
                            (bif (decide ((((ix v13.2.2.1 (1 : Int)).toNat : Nat) : Int) < ({ ({ a0 with Store := v13.1 }) with Server := v13.2.1 }.Clients.length : Int))) then (
                            G ((0 ≤ (((ix v13.2.2.1 (1 : Int)).toNat : Nat) : Int) ∧ (((ix v13.2.2.1 (1 : Int)).toNat : Nat) : Int) < ({ ({ a0 with Store := v13.1 }) with Server := v13.2.1 }.Clients.length : Int))) (
                            (mkref6_ClientCome ((ix { ({ a0 with Store := v13.1 }) with Server := v13.2.1 }.Clients (((ix v13.2.2.1 (1 : Int)).toNat : Nat) : Int))) (v13.2.2.1)).bind (fun v20 =>
                            (mkref6_with ({ ({ a0 with Store := v13.1 }) with Server := v13.2.1 }) ((((ix v13.2.2.1 (1 : Int)).toNat : Nat) : Int)) (v20)).bind (fun v21 =>
                            k15 (v21) (({ Store := ({ Cells := ([] : List Int), Undo := ([] : List Mk.Write), Answers := ([] : List Mk.Answer), Past := ([] : List Mk.Request) } : Mk.Store), Server := ({ Gen := (0 : Int), Box := ([] : List (List UInt8)), Busy := false, Now := ({ Client := (0 : Int), Token := (0 : Int), Call := ({ Kind := (0 : Int), Name := (0 : Int), Other := (0 : Int), N := (0 : Int) } : Mk.Call) } : Mk.Request), Plan := ([] : List Mk.Write), Says := ({ Err := (0 : Int), N := (0 : Int) } : Mk.Reply) } : Mk.Server), Up := false, Pause := (0 : Int), Falls := (0 : Int), Clients := ([] : List Mk.Client) } : Mk.Machine)))))) else (
                            k15 ({ ({ a0 with Store := v13.1 }) with Server := v13.2.1 }) (({ Store := ({ Cells := ([] : List Int), Undo := ([] : List Mk.Write), Answers := ([] : List Mk.Answer), Past := ([] : List Mk.Request) } : Mk.Store), Server := ({ Gen := (0 : Int), Box := ([] : List (List UInt8)), Busy := false, Now := ({ Client := (0 : Int), Token := (0 : Int), Call := ({ Kind := (0 : Int), Name := (0 : Int), Other := (0 : Int), N := (0 : Int) } : Mk.Call) } : Mk.Request), Plan := ([] : List Mk.Write), Says := ({ Err := (0 : Int), N := (0 : Int) } : Mk.Reply) } : Mk.Server), Up := false, Pause := (0 : Int), Falls := (0 : Int), Clients := ([] : List Mk.Client) } : Mk.Machine)))))) else (
                            k15 ({ ({ a0 with Store := v13.1 }) with Server := v13.2.1 }) (({ Store := ({ Cells := ([] : List Int), Undo := ([] : List Mk.Write), Answers := ([] : List Mk.Answer), Past := ([] : List Mk.Request) } : Mk.Store), Server := ({ Gen := (0 : Int), Box := ([] : List (List UInt8)), Busy := false, Now := ({ Client := (0 : Int), Token := (0 : Int), Call := ({ Kind := (0 : Int), Name := (0 : Int), Other := (0 : Int), N := (0 : Int) } : Mk.Call) } : Mk.Request), Plan := ([] : List Mk.Write), Says := ({ Err := (0 : Int), N := (0 : Int) } : Mk.Reply) } : Mk.Server), Up := false, Pause := (0 : Int), Falls := (0 : Int), Clients := ([] : List Mk.Client) } : Mk.Machine))))))))))) else (
            (bif (decide (a1.Kind = (3 : Int))) then (
                (mkref6_Fall (a0)).bind (fun v23 =>
                  some (v23.1, v23.2))) else (
                (bif (decide (a1.Kind = (4 : Int))) then (
                    (mkref6_Tick (a0)).bind (fun v25 =>
                      some (v25, (0 : Int)))) else (
                    some (a0, (1 : Int))))))))))
def mkref6_Play_l1 (k2 : Mk.Machine → Mk.Machine → (List Int) → Option (Mk.Machine × (List Int))) : Nat → (List Mk.Step) → Int → Int → Mk.Machine → Mk.Machine → (List Int) → Option (Mk.Machine × (List Int))
  | 0, _, _, _, _, _, _ => none
  | m3 + 1, x18_m3, x19_m3, x20_m3, y4_m3, y6_m3, y1008_m3 =>
    (bif (decide (x20_m3 < x19_m3)) then (
        G ((0 ≤ x20_m3 ∧ x20_m3 < (x18_m3.length : Int))) (
          (bif (decide (x20_m3 = (400 : Int))) then (
              k2 (y4_m3) (y6_m3) (y1008_m3)) else (
              (mkref6_Do (y6_m3) ((ix x18_m3 x20_m3))).bind (fun v7 =>
                G (((y1008_m3.length + ([v7.2] : List Int).length) * 8 ≤ 140737488355328 ∧ y1008_m3.length + ([v7.2] : List Int).length ≤ 9223372036854775807)) (
                  G (I (x20_m3 + (1 : Int))) (
                    mkref6_Play_l1 k2 m3 (x18_m3) (x19_m3) ((x20_m3 + (1 : Int))) (y4_m3) (v7.1) ((y1008_m3 ++ ([v7.2] : List Int)))))))))) else (
        k2 (y4_m3) (y6_m3) (y1008_m3)))
def mkref6_Play (a0 : List (List Mk.Call)) (a1 : List Mk.Step) : Option (Mk.Machine × (List Int)) :=
    (mkref6_New (a0)).bind (fun v1 =>
      J (fun (y4_k2 : Mk.Machine) (y6_k2 : Mk.Machine) (y1008_k2 : List Int) =>
        some (y6_k2, y1008_k2)) (fun k2 =>
        mkref6_Play_l1 k2 (((a1.length : Int) - (0 : Int)).toNat + 1) (a1) ((a1.length : Int)) ((0 : Int)) (({ Store := ({ Cells := ([] : List Int), Undo := ([] : List Mk.Write), Answers := ([] : List Mk.Answer), Past := ([] : List Mk.Request) } : Mk.Store), Server := ({ Gen := (0 : Int), Box := ([] : List (List UInt8)), Busy := false, Now := ({ Client := (0 : Int), Token := (0 : Int), Call := ({ Kind := (0 : Int), Name := (0 : Int), Other := (0 : Int), N := (0 : Int) } : Mk.Call) } : Mk.Request), Plan := ([] : List Mk.Write), Says := ({ Err := (0 : Int), N := (0 : Int) } : Mk.Reply) } : Mk.Server), Up := false, Pause := (0 : Int), Falls := (0 : Int), Clients := ([] : List Mk.Client) } : Mk.Machine)) (v1.1) (([] : List Int))))
end Sp
end
section
namespace Sp
set_option linter.unusedVariables false
def mkref6_SameReplies_l1 (k2 : Unit → Option Bool) : Nat → (List Mk.Reply) → (List Mk.Reply) → Int → Int → Option Bool
  | 0, _, _, _, _ => none
  | m3 + 1, x0_m3, x1_m3, x12_m3, x13_m3 =>
    (bif (decide (x13_m3 < x12_m3)) then (
        G ((0 ≤ x13_m3 ∧ x13_m3 < (x0_m3.length : Int))) (
          G ((0 ≤ x13_m3 ∧ x13_m3 < (x1_m3.length : Int))) (
            (bif (!decide ((ix x0_m3 x13_m3) = (ix x1_m3 x13_m3))) then (
                some (false)) else (
                G (I (x13_m3 + (1 : Int))) (
                  mkref6_SameReplies_l1 k2 m3 (x0_m3) (x1_m3) (x12_m3) ((x13_m3 + (1 : Int))))))))) else (
        k2 ()))
def mkref6_SameReplies (a0 : List Mk.Reply) (a1 : List Mk.Reply) : Option Bool :=
    (bif (!decide ((a0.length : Int) = (a1.length : Int))) then (
        some (false)) else (
        J (fun (_ : Unit) =>
          some (true)) (fun k2 =>
          mkref6_SameReplies_l1 k2 (((a0.length : Int) - (0 : Int)).toNat + 1) (a0) (a1) ((a0.length : Int)) ((0 : Int)))))
def mkref1_All_l1 (k1 : (List Mk.Write) → (List Mk.Reply) → Option ((List Mk.Write) × (List Mk.Reply))) : Nat → (List Mk.Write) → (List Mk.Request) → Int → Int → (List Mk.Reply) → Option ((List Mk.Write) × (List Mk.Reply))
  | 0, _, _, _, _, _ => none
  | m2 + 1, x4_m2, x10_m2, x11_m2, x12_m2, y1005_m2 =>
    (bif (decide (x12_m2 < x11_m2)) then (
        G ((0 ≤ x12_m2 ∧ x12_m2 < (x10_m2.length : Int))) (
          (mkref1_Do (x4_m2) ((ix x10_m2 x12_m2).Call)).bind (fun v5 =>
            G (((y1005_m2.length + ([v5.2] : List Mk.Reply).length) * 16 ≤ 140737488355328 ∧ y1005_m2.length + ([v5.2] : List Mk.Reply).length ≤ 9223372036854775807)) (
              G (I (x12_m2 + (1 : Int))) (
                mkref1_All_l1 k1 m2 (v5.1) (x10_m2) (x11_m2) ((x12_m2 + (1 : Int))) ((y1005_m2 ++ ([v5.2] : List Mk.Reply)))))))) else (
        k1 (x4_m2) (y1005_m2)))
def mkref1_All (a0 : List Mk.Request) : Option ((List Mk.Write) × (List Mk.Reply)) :=
    J (fun (x4_k1 : List Mk.Write) (y1005_k1 : List Mk.Reply) =>
      some (x4_k1, y1005_k1)) (fun k1 =>
      mkref1_All_l1 k1 (((a0.length : Int) - (0 : Int)).toNat + 1) (([] : List Mk.Write)) (a0) ((a0.length : Int)) ((0 : Int)) (([] : List Mk.Reply)))
def mkref6_Past_l1 (k2 : (List Mk.Request) → (List Mk.Reply) → Option ((List Mk.Request) × (List Mk.Reply))) : Nat → Int → (List Mk.Reply) → Int → Int → Mk.Machine → (List Mk.Request) → (List Mk.Reply) → Option ((List Mk.Request) × (List Mk.Reply))
  | 0, _, _, _, _, _, _, _ => none
  | m3 + 1, x1_m3, x7_m3, x21_m3, x22_m3, y2_m3, y1008_m3, y1009_m3 =>
    (bif (decide (x22_m3 < x21_m3)) then (
        J (fun (x1_k5 : Int) (x7_k5 : List Mk.Reply) (x21_k5 : Int) (x22_k5 : Int) (y2_k5 : Mk.Machine) (y1008_k5 : List Mk.Request) (y1009_k5 : List Mk.Reply) =>
          G (I (x22_k5 + (1 : Int))) (
            mkref6_Past_l1 k2 m3 (x1_k5) (x7_k5) (x21_k5) ((x22_k5 + (1 : Int))) (y2_k5) (y1008_k5) (y1009_k5))) (fun k5 =>
          G ((0 ≤ x22_m3 ∧ x22_m3 < (y2_m3.Store.Past.length : Int))) (
            (bif (decide ((ix y2_m3.Store.Past x22_m3).Client = x1_m3)) then (
                G ((0 ≤ x22_m3 ∧ x22_m3 < (y2_m3.Store.Past.length : Int))) (
                  G (((y1008_m3.length + ([(ix y2_m3.Store.Past x22_m3)] : List Mk.Request).length) * 48 ≤ 140737488355328 ∧ y1008_m3.length + ([(ix y2_m3.Store.Past x22_m3)] : List Mk.Request).length ≤ 9223372036854775807)) (
                    G ((0 ≤ x22_m3 ∧ x22_m3 < (x7_m3.length : Int))) (
                      G (((y1009_m3.length + ([(ix x7_m3 x22_m3)] : List Mk.Reply).length) * 16 ≤ 140737488355328 ∧ y1009_m3.length + ([(ix x7_m3 x22_m3)] : List Mk.Reply).length ≤ 9223372036854775807)) (
                        k5 (x1_m3) (x7_m3) (x21_m3) (x22_m3) (y2_m3) ((y1008_m3 ++ ([(ix y2_m3.Store.Past x22_m3)] : List Mk.Request))) ((y1009_m3 ++ ([(ix x7_m3 x22_m3)] : List Mk.Reply)))))))) else (
                k5 (x1_m3) (x7_m3) (x21_m3) (x22_m3) (y2_m3) (y1008_m3) (y1009_m3)))))) else (
        k2 (y1008_m3) (y1009_m3)))
def mkref6_Past (a0 : Mk.Machine) (a1 : Int) : Option ((List Mk.Request) × (List Mk.Reply)) :=
    (mkref1_All (a0.Store.Past)).bind (fun v1 =>
      J (fun (y1008_k2 : List Mk.Request) (y1009_k2 : List Mk.Reply) =>
        some (y1008_k2, y1009_k2)) (fun k2 =>
        mkref6_Past_l1 k2 (((a0.Store.Past.length : Int) - (0 : Int)).toNat + 1) (a1) (v1.2) ((a0.Store.Past.length : Int)) ((0 : Int)) (a0) (([] : List Mk.Request)) (([] : List Mk.Reply))))
def mkref6_Idle_l1 (k1 : Bool → Option Bool) : Nat → Bool → (List Mk.Client) → Int → Int → Option Bool
  | 0, _, _, _, _ => none
  | m2 + 1, x3_m2, x7_m2, x8_m2, x9_m2 =>
    (bif (decide (x9_m2 < x8_m2)) then (
        G ((0 ≤ x9_m2 ∧ x9_m2 < (x7_m2.length : Int))) (
          G (I (x9_m2 + (1 : Int))) (
            mkref6_Idle_l1 k1 m2 ((x3_m2 && (decide (((ix x7_m2 x9_m2).Calls.length : Int) ≤ (ix x7_m2 x9_m2).At)))) (x7_m2) (x8_m2) ((x9_m2 + (1 : Int)))))) else (
        k1 (x3_m2)))
def mkref6_Idle (a0 : Mk.Machine) : Option Bool :=
    J (fun (x3_k1 : Bool) =>
      some (x3_k1)) (fun k1 =>
      mkref6_Idle_l1 k1 (((a0.Clients.length : Int) - (0 : Int)).toNat + 1) (true) (a0.Clients) ((a0.Clients.length : Int)) ((0 : Int)))
end Sp
end
section
namespace Sp
set_option linter.unusedVariables false
def model_entry_1 (a0 : Mk.Write) (a1 : Int) : Option Bool :=
    some ((decide (a0.At = a1)))
def slices_IndexFunc___api_Write_api_Write__entry_l1 (a2 : Int) (k1 : Unit → Option Int) : Nat → (List Mk.Write) → Int → Int → Option Int
  | 0, _, _, _ => none
  | m2 + 1, x0_m2, x7_m2, x8_m2 =>
    (bif (decide (x8_m2 < x7_m2)) then (
        G ((0 ≤ x8_m2 ∧ x8_m2 < (x0_m2.length : Int))) (
          (model_entry_1 ((ix x0_m2 x8_m2)) (a2)).bind (fun v5 =>
            (bif v5 then (
                some (x8_m2)) else (
                G (I (x8_m2 + (1 : Int))) (
                  slices_IndexFunc___api_Write_api_Write__entry_l1 a2 k1 m2 (x0_m2) (x7_m2) ((x8_m2 + (1 : Int))))))))) else (
        k1 ()))
def slices_IndexFunc___api_Write_api_Write__entry (a0 : List Mk.Write) (a2 : Int) : Option Int :=
    J (fun (_ : Unit) =>
      some ((-1 : Int))) (fun k1 =>
      slices_IndexFunc___api_Write_api_Write__entry_l1 a2 k1 (((a0.length : Int) - (0 : Int)).toNat + 1) (a0) ((a0.length : Int)) ((0 : Int)))
def model_entry (a0 : List Mk.Write) (a1 : Int) : Option Int :=
    (slices_IndexFunc___api_Write_api_Write__entry (a0) (a1)).bind (fun v1 =>
      some (v1))
def model_Do (a0 : List Mk.Write) (a1 : Mk.Call) : Option ((List Mk.Write) × Mk.Reply) :=
    (slices_Clone___api_Write_api_Write_ (a0)).bind (fun v1 =>
      (model_entry (v1) (a1.Name)).bind (fun v2 =>
        J (fun (x7_k3 : Int) (x8_k3 : Int) (y3_k3 : Mk.Call) (y5_k3 : Mk.Reply) (y13_k3 : List Mk.Write) =>
          (bif (decide (y3_k3.Kind = (5 : Int))) then (
              some (y13_k3, ({ Err := (0 : Int), N := (y13_k3.length : Int) } : Mk.Reply))) else (
              (bif (decide (y3_k3.Kind = (1 : Int))) then (
                  (bif ((decide (x7_k3 < (0 : Int))) && (decide ((5 : Int) ≤ (y13_k3.length : Int)))) then (
                      some (y13_k3, ({ Err := (9 : Int), N := (0 : Int) } : Mk.Reply))) else (
                      (bif (decide (x7_k3 < (0 : Int))) then (
                          G (((y13_k3.length + ([({ At := y3_k3.Name, N := y3_k3.N } : Mk.Write)] : List Mk.Write).length) * 16 ≤ 140737488355328 ∧ y13_k3.length + ([({ At := y3_k3.Name, N := y3_k3.N } : Mk.Write)] : List Mk.Write).length ≤ 9223372036854775807)) (
                            some ((y13_k3 ++ ([({ At := y3_k3.Name, N := y3_k3.N } : Mk.Write)] : List Mk.Write)), ({ Err := (0 : Int), N := (0 : Int) } : Mk.Reply)))) else (
                          G ((0 ≤ x7_k3 ∧ x7_k3 < (y13_k3.length : Int))) (
                            some ((up y13_k3 x7_k3 { (ix y13_k3 x7_k3) with N := y3_k3.N }), ({ Err := (0 : Int), N := x8_k3 } : Mk.Reply)))))))) else (
                  (bif (decide (x7_k3 < (0 : Int))) then (
                      some (y13_k3, ({ Err := (6 : Int), N := (0 : Int) } : Mk.Reply))) else (
                      J (fun (x7_k13 : Int) (y5_k13 : Mk.Reply) (y13_k13 : List Mk.Write) =>
                        G ((0 ≤ x7_k13 ∧ x7_k13 < (y13_k13.length : Int))) (
                          some (y13_k13, ({ Err := (0 : Int), N := (ix y13_k13 x7_k13).N } : Mk.Reply)))) (fun k13 =>
                        (bif (decide (y3_k3.Kind = (3 : Int))) then (
                            G (I ((y13_k3.length : Int) - (1 : Int))) (
                            G ((0 ≤ ((y13_k3.length : Int) - (1 : Int)) ∧ ((y13_k3.length : Int) - (1 : Int)) < (y13_k3.length : Int))) (
                            G ((0 ≤ x7_k3 ∧ x7_k3 < (y13_k3.length : Int))) (
                            G ((0 ≤ (0 : Int) ∧ (0 : Int) ≤ ((y13_k3.length : Int) - (1 : Int)) ∧ ((y13_k3.length : Int) - (1 : Int)) ≤ ((up y13_k3 x7_k3 (ix y13_k3 ((y13_k3.length : Int) - (1 : Int)))).length : Int))) (
                            some ((sub (up y13_k3 x7_k3 (ix y13_k3 ((y13_k3.length : Int) - (1 : Int)))) (0 : Int) ((y13_k3.length : Int) - (1 : Int))), ({ Err := (0 : Int), N := x8_k3 } : Mk.Reply))))))) else (
                            (bif (decide (y3_k3.Kind = (4 : Int))) then (
                            G (I (x8_k3 + y3_k3.N)) (
                            (bif ((decide ((x8_k3 + y3_k3.N) < (-1073741824 : Int))) || (decide ((1073741824 : Int) < (x8_k3 + y3_k3.N)))) then (
                            some (y13_k3, ({ Err := (3 : Int), N := (0 : Int) } : Mk.Reply))) else (
                            G ((0 ≤ x7_k3 ∧ x7_k3 < (y13_k3.length : Int))) (
                            k13 (x7_k3) (y5_k3) ((up y13_k3 x7_k3 { (ix y13_k3 x7_k3) with N := (x8_k3 + y3_k3.N) }))))))) else (
                            (bif (decide (y3_k3.Kind = (6 : Int))) then (
                            (model_entry (y13_k3) (y3_k3.Other)).bind (fun v24 =>
                            (bif (decide (v24 < (0 : Int))) then (
                            some (y13_k3, ({ Err := (6 : Int), N := (0 : Int) } : Mk.Reply))) else (
                            G ((0 ≤ v24 ∧ v24 < (y13_k3.length : Int))) (
                            G ((0 ≤ x7_k3 ∧ x7_k3 < (y13_k3.length : Int))) (
                            G ((0 ≤ x7_k3 ∧ x7_k3 < (y13_k3.length : Int))) (
                            G ((0 ≤ v24 ∧ v24 < ((up y13_k3 x7_k3 { (ix y13_k3 x7_k3) with N := (ix y13_k3 v24).N }).length : Int))) (
                            k13 (x7_k3) (y5_k3) ((up (up y13_k3 x7_k3 { (ix y13_k3 x7_k3) with N := (ix y13_k3 v24).N }) v24 { (ix (up y13_k3 x7_k3 { (ix y13_k3 x7_k3) with N := (ix y13_k3 v24).N }) v24) with N := (ix y13_k3 x7_k3).N })))))))))) else (
                            k13 (x7_k3) (y5_k3) (y13_k3))))))))))))))) (fun k3 =>
          (bif (decide ((0 : Int) ≤ v2)) then (
              G ((0 ≤ v2 ∧ v2 < (v1.length : Int))) (
                k3 (v2) ((ix v1 v2).N) (a1) (({ Err := (0 : Int), N := (0 : Int) } : Mk.Reply)) (v1))) else (
              k3 (v2) ((0 : Int)) (a1) (({ Err := (0 : Int), N := (0 : Int) } : Mk.Reply)) (v1))))))
def model_Of_l1 (k1 : (List Mk.Write) → Option ((List Mk.Write))) : Nat → (List Int) → Int → Int → (List Mk.Write) → Option ((List Mk.Write))
  | 0, _, _, _, _ => none
  | m3 + 1, x0_m3, x7_m3, x8_m3, y1003_m3 =>
    (bif (decide (x8_m3 < x7_m3)) then (
        G (I ((2 : Int) * x8_m3)) (
          G (I ((1 : Int) + ((2 : Int) * x8_m3))) (
            G ((0 ≤ ((1 : Int) + ((2 : Int) * x8_m3)) ∧ ((1 : Int) + ((2 : Int) * x8_m3)) < (x0_m3.length : Int))) (
              G (I ((2 : Int) * x8_m3)) (
                G (I ((2 : Int) + ((2 : Int) * x8_m3))) (
                  G ((0 ≤ ((2 : Int) + ((2 : Int) * x8_m3)) ∧ ((2 : Int) + ((2 : Int) * x8_m3)) < (x0_m3.length : Int))) (
                    G (((y1003_m3.length + ([({ At := (ix x0_m3 ((1 : Int) + ((2 : Int) * x8_m3))), N := (ix x0_m3 ((2 : Int) + ((2 : Int) * x8_m3))) } : Mk.Write)] : List Mk.Write).length) * 16 ≤ 140737488355328 ∧ y1003_m3.length + ([({ At := (ix x0_m3 ((1 : Int) + ((2 : Int) * x8_m3))), N := (ix x0_m3 ((2 : Int) + ((2 : Int) * x8_m3))) } : Mk.Write)] : List Mk.Write).length ≤ 9223372036854775807)) (
                      G (I (x8_m3 + (1 : Int))) (
                        model_Of_l1 k1 m3 (x0_m3) (x7_m3) ((x8_m3 + (1 : Int))) ((y1003_m3 ++ ([({ At := (ix x0_m3 ((1 : Int) + ((2 : Int) * x8_m3))), N := (ix x0_m3 ((2 : Int) + ((2 : Int) * x8_m3))) } : Mk.Write)] : List Mk.Write)))))))))))) else (
        k1 (y1003_m3)))
def model_Of (a0 : List Int) : Option ((List Mk.Write)) :=
    J (fun (y1003_k1 : List Mk.Write) =>
      some (y1003_k1)) (fun k1 =>
      G ((0 ≤ (0 : Int) ∧ (0 : Int) < (a0.length : Int))) (
        model_Of_l1 k1 (((ix a0 (0 : Int)) - (0 : Int)).toNat + 1) (a0) ((ix a0 (0 : Int))) ((0 : Int)) (([] : List Mk.Write))))
def model_All_l1 (k1 : (List Mk.Write) → (List Mk.Reply) → Option ((List Mk.Write) × (List Mk.Reply))) : Nat → (List Mk.Write) → (List Mk.Request) → Int → Int → (List Mk.Reply) → Option ((List Mk.Write) × (List Mk.Reply))
  | 0, _, _, _, _, _ => none
  | m2 + 1, x4_m2, x10_m2, x11_m2, x12_m2, y1005_m2 =>
    (bif (decide (x12_m2 < x11_m2)) then (
        G ((0 ≤ x12_m2 ∧ x12_m2 < (x10_m2.length : Int))) (
          (model_Do (x4_m2) ((ix x10_m2 x12_m2).Call)).bind (fun v5 =>
            G (((y1005_m2.length + ([v5.2] : List Mk.Reply).length) * 16 ≤ 140737488355328 ∧ y1005_m2.length + ([v5.2] : List Mk.Reply).length ≤ 9223372036854775807)) (
              G (I (x12_m2 + (1 : Int))) (
                model_All_l1 k1 m2 (v5.1) (x10_m2) (x11_m2) ((x12_m2 + (1 : Int))) ((y1005_m2 ++ ([v5.2] : List Mk.Reply)))))))) else (
        k1 (x4_m2) (y1005_m2)))
def model_All (a0 : List Mk.Request) : Option ((List Mk.Write) × (List Mk.Reply)) :=
    J (fun (x4_k1 : List Mk.Write) (y1005_k1 : List Mk.Reply) =>
      some (x4_k1, y1005_k1)) (fun k1 =>
      model_All_l1 k1 (((a0.length : Int) - (0 : Int)).toNat + 1) (([] : List Mk.Write)) (a0) ((a0.length : Int)) ((0 : Int)) (([] : List Mk.Reply)))
end Sp
end
section
namespace Sp
set_option linter.unusedVariables false
def look_Past_l1 (k2 : (List Mk.Request) → (List Mk.Reply) → Option ((List Mk.Request) × (List Mk.Reply))) : Nat → Int → (List Mk.Reply) → (List Mk.Request) → Int → Int → (List Mk.Request) → (List Mk.Reply) → Option ((List Mk.Request) × (List Mk.Reply))
  | 0, _, _, _, _, _, _, _ => none
  | m3 + 1, x1_m3, x7_m3, x21_m3, x22_m3, x23_m3, y1008_m3, y1009_m3 =>
    (bif (decide (x23_m3 < x22_m3)) then (
        J (fun (x1_k5 : Int) (x7_k5 : List Mk.Reply) (x21_k5 : List Mk.Request) (x22_k5 : Int) (x23_k5 : Int) (y1008_k5 : List Mk.Request) (y1009_k5 : List Mk.Reply) =>
          G (I (x23_k5 + (1 : Int))) (
            look_Past_l1 k2 m3 (x1_k5) (x7_k5) (x21_k5) (x22_k5) ((x23_k5 + (1 : Int))) (y1008_k5) (y1009_k5))) (fun k5 =>
          G ((0 ≤ x23_m3 ∧ x23_m3 < (x21_m3.length : Int))) (
            (bif (decide ((ix x21_m3 x23_m3).Client = x1_m3)) then (
                G (((y1008_m3.length + ([(ix x21_m3 x23_m3)] : List Mk.Request).length) * 48 ≤ 140737488355328 ∧ y1008_m3.length + ([(ix x21_m3 x23_m3)] : List Mk.Request).length ≤ 9223372036854775807)) (
                  G ((0 ≤ x23_m3 ∧ x23_m3 < (x7_m3.length : Int))) (
                    G (((y1009_m3.length + ([(ix x7_m3 x23_m3)] : List Mk.Reply).length) * 16 ≤ 140737488355328 ∧ y1009_m3.length + ([(ix x7_m3 x23_m3)] : List Mk.Reply).length ≤ 9223372036854775807)) (
                      k5 (x1_m3) (x7_m3) (x21_m3) (x22_m3) (x23_m3) ((y1008_m3 ++ ([(ix x21_m3 x23_m3)] : List Mk.Request))) ((y1009_m3 ++ ([(ix x7_m3 x23_m3)] : List Mk.Reply))))))) else (
                k5 (x1_m3) (x7_m3) (x21_m3) (x22_m3) (x23_m3) (y1008_m3) (y1009_m3)))))) else (
        k2 (y1008_m3) (y1009_m3)))
def look_Past (a0 : Mk.Machine) (a1 : Int) : Option ((List Mk.Request) × (List Mk.Reply)) :=
    (model_All (a0.Store.Past)).bind (fun v1 =>
      J (fun (y1008_k2 : List Mk.Request) (y1009_k2 : List Mk.Reply) =>
        some (y1008_k2, y1009_k2)) (fun k2 =>
        look_Past_l1 k2 (((a0.Store.Past.length : Int) - (0 : Int)).toNat + 1) (a1) (v1.2) (a0.Store.Past) ((a0.Store.Past.length : Int)) ((0 : Int)) (([] : List Mk.Request)) (([] : List Mk.Reply))))
def look_Idle_l1 (k1 : Unit → Option Bool) : Nat → (List Mk.Client) → Int → Int → Option Bool
  | 0, _, _, _ => none
  | m2 + 1, x6_m2, x7_m2, x8_m2 =>
    (bif (decide (x8_m2 < x7_m2)) then (
        G ((0 ≤ x8_m2 ∧ x8_m2 < (x6_m2.length : Int))) (
          (bif (decide ((ix x6_m2 x8_m2).At < ((ix x6_m2 x8_m2).Calls.length : Int))) then (
              some (false)) else (
              G (I (x8_m2 + (1 : Int))) (
                look_Idle_l1 k1 m2 (x6_m2) (x7_m2) ((x8_m2 + (1 : Int)))))))) else (
        k1 ()))
def look_Idle (a0 : Mk.Machine) : Option Bool :=
    J (fun (_ : Unit) =>
      some (true)) (fun k1 =>
      look_Idle_l1 k1 (((a0.Clients.length : Int) - (0 : Int)).toNat + 1) (a0.Clients) ((a0.Clients.length : Int)) ((0 : Int)))
def look_Now (a0 : Mk.Machine) : Option ((List Mk.Write)) :=
    (store_Back (a0.Store)).bind (fun v1 =>
      (model_Of (v1.Cells)).bind (fun v2 =>
        some (v2)))
def slices_Equal___api_Write_api_Write__l1 (k2 : Unit → Option Bool) : Nat → (List Mk.Write) → (List Mk.Write) → Int → Int → Option Bool
  | 0, _, _, _, _ => none
  | m3 + 1, x0_m3, x1_m3, x12_m3, x13_m3 =>
    (bif (decide (x13_m3 < x12_m3)) then (
        G ((0 ≤ x13_m3 ∧ x13_m3 < (x0_m3.length : Int))) (
          G ((0 ≤ x13_m3 ∧ x13_m3 < (x1_m3.length : Int))) (
            (bif (!decide ((ix x0_m3 x13_m3) = (ix x1_m3 x13_m3))) then (
                some (false)) else (
                G (I (x13_m3 + (1 : Int))) (
                  slices_Equal___api_Write_api_Write__l1 k2 m3 (x0_m3) (x1_m3) (x12_m3) ((x13_m3 + (1 : Int))))))))) else (
        k2 ()))
def slices_Equal___api_Write_api_Write_ (a0 : List Mk.Write) (a1 : List Mk.Write) : Option Bool :=
    (bif (!decide ((a0.length : Int) = (a1.length : Int))) then (
        some (false)) else (
        J (fun (_ : Unit) =>
          some (true)) (fun k2 =>
          slices_Equal___api_Write_api_Write__l1 k2 (((a0.length : Int) - (0 : Int)).toNat + 1) (a0) (a1) ((a0.length : Int)) ((0 : Int)))))
def slices_Equal___api_Reply_api_Reply__l1 (k2 : Unit → Option Bool) : Nat → (List Mk.Reply) → (List Mk.Reply) → Int → Int → Option Bool
  | 0, _, _, _, _ => none
  | m3 + 1, x0_m3, x1_m3, x12_m3, x13_m3 =>
    (bif (decide (x13_m3 < x12_m3)) then (
        G ((0 ≤ x13_m3 ∧ x13_m3 < (x0_m3.length : Int))) (
          G ((0 ≤ x13_m3 ∧ x13_m3 < (x1_m3.length : Int))) (
            (bif (!decide ((ix x0_m3 x13_m3) = (ix x1_m3 x13_m3))) then (
                some (false)) else (
                G (I (x13_m3 + (1 : Int))) (
                  slices_Equal___api_Reply_api_Reply__l1 k2 m3 (x0_m3) (x1_m3) (x12_m3) ((x13_m3 + (1 : Int))))))))) else (
        k2 ()))
def slices_Equal___api_Reply_api_Reply_ (a0 : List Mk.Reply) (a1 : List Mk.Reply) : Option Bool :=
    (bif (!decide ((a0.length : Int) = (a1.length : Int))) then (
        some (false)) else (
        J (fun (_ : Unit) =>
          some (true)) (fun k2 =>
          slices_Equal___api_Reply_api_Reply__l1 k2 (((a0.length : Int) - (0 : Int)).toNat + 1) (a0) (a1) ((a0.length : Int)) ((0 : Int)))))
def look_Whole_l2 (k8 : (List Mk.Client) → Int → Int → Mk.Machine → Option Bool) : Nat → (List Mk.Client) → Int → Int → (List Mk.Request) → Int → Int → Mk.Machine → Mk.Client → Option Bool
  | 0, _, _, _, _, _, _, _, _ => none
  | m15 + 1, x24_m15, x25_m15, x26_m15, x76_m15, x77_m15, x78_m15, y1_m15, y6_m15 =>
    (bif (decide (x78_m15 < x77_m15)) then (
        G ((0 ≤ x78_m15 ∧ x78_m15 < (x76_m15.length : Int))) (
          G (((!decide ((ix x76_m15 x78_m15).Token = x78_m15))) = false → (0 ≤ x78_m15 ∧ x78_m15 < (y6_m15.Calls.length : Int))) (
            (bif ((!decide ((ix x76_m15 x78_m15).Token = x78_m15)) || (!decide ((ix x76_m15 x78_m15).Call = (ix y6_m15.Calls x78_m15)))) then (
                some (false)) else (
                G (I (x78_m15 + (1 : Int))) (
                  look_Whole_l2 k8 m15 (x24_m15) (x25_m15) (x26_m15) (x76_m15) (x77_m15) ((x78_m15 + (1 : Int))) (y1_m15) (y6_m15))))))) else (
        k8 (x24_m15) (x25_m15) (x26_m15) (y1_m15)))
def look_Whole_l1 (k5 : Unit → Option Bool) : Nat → (List Mk.Client) → Int → Int → Mk.Machine → Option Bool
  | 0, _, _, _, _ => none
  | m6 + 1, x24_m6, x25_m6, x26_m6, y1_m6 =>
    (bif (decide (x26_m6 < x25_m6)) then (
        J (fun (x24_k8 : List Mk.Client) (x25_k8 : Int) (x26_k8 : Int) (y1_k8 : Mk.Machine) =>
          G (I (x26_k8 + (1 : Int))) (
            look_Whole_l1 k5 m6 (x24_k8) (x25_k8) ((x26_k8 + (1 : Int))) (y1_k8))) (fun k8 =>
          G ((0 ≤ x26_m6 ∧ x26_m6 < (x24_m6.length : Int))) (
            (look_Past (y1_m6) (x26_m6)).bind (fun v10 =>
              G ((((!decide (((ix x24_m6 x26_m6).Got.length : Int) = (ix x24_m6 x26_m6).At)) || (decide ((v10.1.length : Int) < (ix x24_m6 x26_m6).At)))) = false → I ((ix x24_m6 x26_m6).At + (1 : Int))) (
                G ((((((!decide (((ix x24_m6 x26_m6).Got.length : Int) = (ix x24_m6 x26_m6).At)) || (decide ((v10.1.length : Int) < (ix x24_m6 x26_m6).At))) || (decide (((ix x24_m6 x26_m6).At + (1 : Int)) < (v10.1.length : Int)))) || (decide (((ix x24_m6 x26_m6).Calls.length : Int) < (v10.1.length : Int))))) = false → (0 ≤ (0 : Int) ∧ (0 : Int) ≤ (ix x24_m6 x26_m6).At ∧ (ix x24_m6 x26_m6).At ≤ (v10.2.length : Int))) (
                  (Cn ((((((!decide (((ix x24_m6 x26_m6).Got.length : Int) = (ix x24_m6 x26_m6).At)) || (decide ((v10.1.length : Int) < (ix x24_m6 x26_m6).At))) || (decide (((ix x24_m6 x26_m6).At + (1 : Int)) < (v10.1.length : Int)))) || (decide (((ix x24_m6 x26_m6).Calls.length : Int) < (v10.1.length : Int))))) = false) (slices_Equal___api_Reply_api_Reply_ ((ix x24_m6 x26_m6).Got) ((sub v10.2 (0 : Int) (ix x24_m6 x26_m6).At)))).bind (fun v13 =>
                    (bif (((((!decide (((ix x24_m6 x26_m6).Got.length : Int) = (ix x24_m6 x26_m6).At)) || (decide ((v10.1.length : Int) < (ix x24_m6 x26_m6).At))) || (decide (((ix x24_m6 x26_m6).At + (1 : Int)) < (v10.1.length : Int)))) || (decide (((ix x24_m6 x26_m6).Calls.length : Int) < (v10.1.length : Int)))) || (!v13)) then (
                        some (false)) else (
                        look_Whole_l2 k8 (((v10.1.length : Int) - (0 : Int)).toNat + 1) (x24_m6) (x25_m6) (x26_m6) (v10.1) ((v10.1.length : Int)) ((0 : Int)) (y1_m6) ((ix x24_m6 x26_m6))))))))))) else (
        k5 ()))
def look_Whole (a0 : Mk.Machine) : Option Bool :=
    (model_All (a0.Store.Past)).bind (fun v1 =>
      (look_Now (a0)).bind (fun v2 =>
        (slices_Equal___api_Write_api_Write_ (v2) (v1.1)).bind (fun v3 =>
          (bif (!v3) then (
              some (false)) else (
              J (fun (_ : Unit) =>
                some (true)) (fun k5 =>
                look_Whole_l1 k5 (((a0.Clients.length : Int) - (0 : Int)).toNat + 1) (a0.Clients) ((a0.Clients.length : Int)) ((0 : Int)) (a0)))))))
end Sp
end
section
namespace Sp
set_option linter.unusedVariables false
def mklaw11_alive  : Option Bool :=
    (mkref6_New (([([({ Kind := (5 : Int), Name := (0 : Int), Other := (0 : Int), N := (0 : Int) } : Mk.Call)] : List Mk.Call)] : List (List Mk.Call)))).bind (fun v1 =>
      (look_Past ({ v1.1 with Store := { v1.1.Store with Past := ([({ Client := (0 : Int), Token := (0 : Int), Call := ({ Kind := (5 : Int), Name := (0 : Int), Other := (0 : Int), N := (0 : Int) } : Mk.Call) } : Mk.Request)] : List Mk.Request) } }) ((0 : Int))).bind (fun v2 =>
        (look_Whole ({ v1.1 with Store := { v1.1.Store with Past := ([({ Client := (0 : Int), Token := (0 : Int), Call := ({ Kind := (5 : Int), Name := (0 : Int), Other := (0 : Int), N := (0 : Int) } : Mk.Call) } : Mk.Request)] : List Mk.Request) } })).bind (fun v3 =>
          (Cn ((v3) = true) (look_Whole ({ ({ v1.1 with Store := { v1.1.Store with Past := ([({ Client := (0 : Int), Token := (0 : Int), Call := ({ Kind := (5 : Int), Name := (0 : Int), Other := (0 : Int), N := (0 : Int) } : Mk.Call) } : Mk.Request)] : List Mk.Request) } }) with Store := { ({ v1.1 with Store := { v1.1.Store with Past := ([({ Client := (0 : Int), Token := (0 : Int), Call := ({ Kind := (5 : Int), Name := (0 : Int), Other := (0 : Int), N := (0 : Int) } : Mk.Call) } : Mk.Request)] : List Mk.Request) } }).Store with Cells := ([(1 : Int), (7 : Int), (5 : Int), (0 : Int), (0 : Int), (0 : Int), (0 : Int), (0 : Int), (0 : Int), (0 : Int), (0 : Int)] : List Int) } }))).bind (fun v4 =>
            (Cn (((v3 && (!v4))) = true) (look_Idle ({ v1.1 with Store := { v1.1.Store with Past := ([({ Client := (0 : Int), Token := (0 : Int), Call := ({ Kind := (5 : Int), Name := (0 : Int), Other := (0 : Int), N := (0 : Int) } : Mk.Call) } : Mk.Request)] : List Mk.Request) } }))).bind (fun v5 =>
              (Cn ((((((v3 && (!v4)) && (!v5)) && (decide ((v2.1.length : Int) = (1 : Int)))) && (decide ((v2.2.length : Int) = (1 : Int))))) = true) (look_Now ({ ({ v1.1 with Store := { v1.1.Store with Past := ([({ Client := (0 : Int), Token := (0 : Int), Call := ({ Kind := (5 : Int), Name := (0 : Int), Other := (0 : Int), N := (0 : Int) } : Mk.Call) } : Mk.Request)] : List Mk.Request) } }) with Store := { ({ v1.1 with Store := { v1.1.Store with Past := ([({ Client := (0 : Int), Token := (0 : Int), Call := ({ Kind := (5 : Int), Name := (0 : Int), Other := (0 : Int), N := (0 : Int) } : Mk.Call) } : Mk.Request)] : List Mk.Request) } }).Store with Cells := ([(1 : Int), (7 : Int), (5 : Int), (0 : Int), (0 : Int), (0 : Int), (0 : Int), (0 : Int), (0 : Int), (0 : Int), (0 : Int)] : List Int) } }))).bind (fun v6 =>
                some ((((((v3 && (!v4)) && (!v5)) && (decide ((v2.1.length : Int) = (1 : Int)))) && (decide ((v2.2.length : Int) = (1 : Int)))) && (decide ((v6.length : Int) = (1 : Int)))))))))))
def mklaw11_LookTells_l1 (k8 : Mk.Machine → Option Bool) : Nat → (List Mk.Request) → (List Mk.Request) → Int → Int → Mk.Machine → Option Bool
  | 0, _, _, _, _, _ => none
  | m9 + 1, x9_m9, x11_m9, x47_m9, x48_m9, y7_m9 =>
    (bif (decide (x48_m9 < x47_m9)) then (
        G ((0 ≤ x48_m9 ∧ x48_m9 < (x9_m9.length : Int))) (
          G ((0 ≤ x48_m9 ∧ x48_m9 < (x11_m9.length : Int))) (
            (bif (!decide ((ix x9_m9 x48_m9) = (ix x11_m9 x48_m9))) then (
                some (false)) else (
                G (I (x48_m9 + (1 : Int))) (
                  mklaw11_LookTells_l1 k8 m9 (x9_m9) (x11_m9) (x47_m9) ((x48_m9 + (1 : Int))) (y7_m9))))))) else (
        k8 (y7_m9)))
def mklaw11_LookTells (a0 : List (List Mk.Call)) (a1 : List Mk.Step) (a2 : Int) : Option Bool :=
    (mkref6_Right (a0)).bind (fun v1 =>
      (bif (!v1) then (
          some (true)) else (
          (mkref6_Play (a0) (a1)).bind (fun v3 =>
            (look_Past (v3.1) (a2)).bind (fun v4 =>
              (mkref6_Past (v3.1) (a2)).bind (fun v5 =>
                (Cn (((!decide ((v4.1.length : Int) = (v5.1.length : Int)))) = false) (mkref6_SameReplies (v4.2) (v5.2))).bind (fun v6 =>
                  (bif ((!decide ((v4.1.length : Int) = (v5.1.length : Int))) || (!v6)) then (
                      some (false)) else (
                      J (fun (y7_k8 : Mk.Machine) =>
                        (look_Idle (y7_k8)).bind (fun v15 =>
                          (mkref6_Idle (y7_k8)).bind (fun v16 =>
                            (Cn (((decide (v15 = v16))) = true) (look_Now (y7_k8))).bind (fun v17 =>
                            (Cn (((decide (v15 = v16))) = true) (mkref1_Back (y7_k8.Store))).bind (fun v18 =>
                            (Cn (((decide (v15 = v16))) = true) (mkref1_Of (v18.Cells))).bind (fun v19 =>
                            (Cn (((decide (v15 = v16))) = true) (mkref1_SameWrites (v17) (v19))).bind (fun v20 =>
                            some (((decide (v15 = v16)) && v20))))))))) (fun k8 =>
                        mklaw11_LookTells_l1 k8 (((v4.1.length : Int) - (0 : Int)).toNat + 1) (v4.1) (v5.1) ((v4.1.length : Int)) ((0 : Int)) (v3.1)))))))))))
def mklaw11_LookWhole (a0 : List (List Mk.Call)) (a1 : List Mk.Step) : Option Bool :=
    (mklaw11_alive).bind (fun v1 =>
      (bif (!v1) then (
          some (false)) else (
          (mkref6_Right (a0)).bind (fun v3 =>
            (bif (!v3) then (
                some (true)) else (
                (mkref6_Play (a0) (a1)).bind (fun v5 =>
                  (look_Whole (v5.1)).bind (fun v6 =>
                    some (v6)))))))))
def mklaw11_LookSharp (a0 : List (List Mk.Call)) (a1 : List Mk.Step) (a2 : Int) (a3 : Int) (a4 : Int) : Option Bool :=
    (mklaw11_alive).bind (fun v1 =>
      (bif (!v1) then (
          some (false)) else (
          (mkref6_Right (a0)).bind (fun v3 =>
            (bif (!v3) then (
                some (true)) else (
                (mkref6_Play (a0) (a1)).bind (fun v5 =>
                  J (fun (y11_k6 : Mk.Machine) =>
                    (look_Whole (y11_k6)).bind (fun v29 =>
                      some ((!v29)))) (fun k6 =>
                    (bif (decide (a2 = (0 : Int))) then (
                        G ((((decide (a3 < (0 : Int))) || (decide ((v5.1.Clients.length : Int) ≤ a3)))) = false → (0 ≤ a3 ∧ a3 < (v5.1.Clients.length : Int))) (
                          G (((((decide (a3 < (0 : Int))) || (decide ((v5.1.Clients.length : Int) ≤ a3))) || (decide (((ix v5.1.Clients a3).Got.length : Int) = (0 : Int))))) = false → (0 ≤ a3 ∧ a3 < (v5.1.Clients.length : Int))) (
                            G (((((decide (a3 < (0 : Int))) || (decide ((v5.1.Clients.length : Int) ≤ a3))) || (decide (((ix v5.1.Clients a3).Got.length : Int) = (0 : Int))))) = false → (0 ≤ (0 : Int) ∧ (0 : Int) < ((ix v5.1.Clients a3).Got.length : Int))) (
                            (bif ((((decide (a3 < (0 : Int))) || (decide ((v5.1.Clients.length : Int) ≤ a3))) || (decide (((ix v5.1.Clients a3).Got.length : Int) = (0 : Int)))) || (decide ((ix (ix v5.1.Clients a3).Got (0 : Int)) = ({ Err := (0 : Int), N := a4 } : Mk.Reply)))) then (
                            some (true)) else (
                            G (((([] : List Mk.Client).length + v5.1.Clients.length) * 96 ≤ 140737488355328 ∧ ([] : List Mk.Client).length + v5.1.Clients.length ≤ 9223372036854775807)) (
                            G ((0 ≤ a3 ∧ a3 < ((([] : List Mk.Client) ++ v5.1.Clients).length : Int))) (
                            G ((0 ≤ (1 : Int) ∧ (1 : Int) ≤ ((ix (([] : List Mk.Client) ++ v5.1.Clients) a3).Got.length : Int) ∧ ((ix (([] : List Mk.Client) ++ v5.1.Clients) a3).Got.length : Int) ≤ ((ix (([] : List Mk.Client) ++ v5.1.Clients) a3).Got.length : Int))) (
                            G (((([({ Err := (0 : Int), N := a4 } : Mk.Reply)] : List Mk.Reply).length + (sub (ix (([] : List Mk.Client) ++ v5.1.Clients) a3).Got (1 : Int) ((ix (([] : List Mk.Client) ++ v5.1.Clients) a3).Got.length : Int)).length) * 16 ≤ 140737488355328 ∧ ([({ Err := (0 : Int), N := a4 } : Mk.Reply)] : List Mk.Reply).length + (sub (ix (([] : List Mk.Client) ++ v5.1.Clients) a3).Got (1 : Int) ((ix (([] : List Mk.Client) ++ v5.1.Clients) a3).Got.length : Int)).length ≤ 9223372036854775807)) (
                            G ((0 ≤ a3 ∧ a3 < ((([] : List Mk.Client) ++ v5.1.Clients).length : Int))) (
                            k6 ({ v5.1 with Clients := (up (([] : List Mk.Client) ++ v5.1.Clients) a3 { (ix (([] : List Mk.Client) ++ v5.1.Clients) a3) with Got := (([({ Err := (0 : Int), N := a4 } : Mk.Reply)] : List Mk.Reply) ++ (sub (ix (([] : List Mk.Client) ++ v5.1.Clients) a3).Got (1 : Int) ((ix (([] : List Mk.Client) ++ v5.1.Clients) a3).Got.length : Int))) }) })))))))))))) else (
                        (bif (decide (a2 = (1 : Int))) then (
                            (mkref1_Back (v5.1.Store)).bind (fun v18 =>
                            G ((0 ≤ (0 : Int) ∧ (0 : Int) < ({ v5.1 with Store := v18 }.Store.Cells.length : Int))) (
                            G (((decide ((ix { v5.1 with Store := v18 }.Store.Cells (0 : Int)) = (0 : Int)))) = false → (0 ≤ (2 : Int) ∧ (2 : Int) < ({ v5.1 with Store := v18 }.Store.Cells.length : Int))) (
                            (bif ((decide ((ix { v5.1 with Store := v18 }.Store.Cells (0 : Int)) = (0 : Int))) || (decide ((ix { v5.1 with Store := v18 }.Store.Cells (2 : Int)) = a4))) then (
                            some (true)) else (
                            G (((([] : List Int).length + { v5.1 with Store := v18 }.Store.Cells.length) * 8 ≤ 140737488355328 ∧ ([] : List Int).length + { v5.1 with Store := v18 }.Store.Cells.length ≤ 9223372036854775807)) (
                            G ((0 ≤ (2 : Int) ∧ (2 : Int) < ((([] : List Int) ++ { v5.1 with Store := v18 }.Store.Cells).length : Int))) (
                            k6 ({ ({ v5.1 with Store := v18 }) with Store := { ({ v5.1 with Store := v18 }).Store with Cells := (up (([] : List Int) ++ { v5.1 with Store := v18 }.Store.Cells) (2 : Int) a4) } }))))))))) else (
                            (bif (decide (a2 = (2 : Int))) then (
                            (bif ((decide (a3 < (0 : Int))) || (decide ((v5.1.Store.Past.length : Int) ≤ a3))) then (
                            some (true)) else (
                            G (((([] : List Mk.Request).length + v5.1.Store.Past.length) * 48 ≤ 140737488355328 ∧ ([] : List Mk.Request).length + v5.1.Store.Past.length ≤ 9223372036854775807)) (
                            G ((0 ≤ a3 ∧ a3 < (v5.1.Store.Past.length : Int))) (
                            G ((((([] : List Mk.Request) ++ v5.1.Store.Past).length + ([(ix v5.1.Store.Past a3)] : List Mk.Request).length) * 48 ≤ 140737488355328 ∧ (([] : List Mk.Request) ++ v5.1.Store.Past).length + ([(ix v5.1.Store.Past a3)] : List Mk.Request).length ≤ 9223372036854775807)) (
                            k6 ({ v5.1 with Store := { v5.1.Store with Past := ((([] : List Mk.Request) ++ v5.1.Store.Past) ++ ([(ix v5.1.Store.Past a3)] : List Mk.Request)) } }))))))) else (
                            some (true)))))))))))))))
end Sp
end
