/- The small logic, seventeenth part: conversions, tests for nil, least and greatest. Nothing here is about one program. -/
import Derived.Test.YtkmokkhcoombnaaGxG
import Derived.Laws.Strings
import Derived.Laws.Concat
import Derived.Laws.BytesArg
import Derived.Laws.IdiomStrings
import Derived.Laws.BitsLemmas
import Derived.Laws.BitsAllLaws
import Derived.Laws.Cover3
namespace Go.Gx
open Go.RowKit Sp
set_option linter.unusedVariables false
set_option linter.unusedSimpArgs false

instance instU32 : GoTy U32 where
  sz := 1
  agg := false
  rep _ x vs := vs = [.int .u32 x.n] ∧ 0 ≤ x.n ∧ x.n < 4294967296
  len h := by simp [h.1]
  mono _ h := h
  one h v hv := by simp [h.1] at hv; subst hv; rfl
  single _ := rfl
  pos := by decide
instance instI32 : GoTy I32 where
  sz := 1
  agg := false
  rep _ x vs := vs = [.int .i32 x.n] ∧ -2147483648 ≤ x.n ∧ x.n < 2147483648
  len h := by simp [h.1]
  mono _ h := h
  one h v hv := by simp [h.1] at hv; subst hv; rfl
  single _ := rfl
  pos := by decide

section
variable {P : Program}
theorem holds_u32 {m : M} {x : U32} {v : Value} (h : Desc.holds m (.val x) v) : v = .int .u32 x.n ∧ 0 ≤ x.n ∧ x.n < 4294967296 := by
  obtain ⟨vs, h1, h2⟩ := h
  obtain ⟨rfl, h3⟩ : vs = [.int .u32 x.n] ∧ 0 ≤ x.n ∧ x.n < 4294967296 := h1
  exact ⟨h2, h3⟩
theorem u32_holds (m : M) {x : U32} (h : 0 ≤ x.n ∧ x.n < 4294967296) : Desc.holds m (.val x) (.int .u32 x.n) := ⟨_, ⟨rfl, h⟩, rfl⟩
theorem holds_i32 {m : M} {x : I32} {v : Value} (h : Desc.holds m (.val x) v) : v = .int .i32 x.n ∧ -2147483648 ≤ x.n ∧ x.n < 2147483648 := by
  obtain ⟨vs, h1, h2⟩ := h
  obtain ⟨rfl, h3⟩ : vs = [.int .i32 x.n] ∧ -2147483648 ≤ x.n ∧ x.n < 2147483648 := h1
  exact ⟨h2, h3⟩
theorem i32_holds (m : M) {x : I32} (h : -2147483648 ≤ x.n ∧ x.n < 2147483648) : Desc.holds m (.val x) (.int .i32 x.n) := ⟨_, ⟨rfl, h⟩, rfl⟩
theorem OpdOk.u32 {n : Int} (h1 : decide (0 ≤ n) = true := by decide) (h2 : decide (n < 4294967296) = true := by decide) : OpdOk (.const (.int .u32 n)) (.val (⟨n⟩ : U32)) [] :=
  fun m a _ => ⟨_, ⟨rfl, of_decide_eq_true h1, of_decide_eq_true h2⟩, rfl⟩
theorem OpdOk.u8 {n : Nat} (h : decide (n < 256) = true := by decide) : OpdOk (.const (.int .u8 (n : Int))) (.val (UInt8.ofNat n)) [] :=
  fun m a _ => ⟨_, rfl, by
    have h' := of_decide_eq_true h
    show Value.int .u8 (n : Int) = Value.int .u8 ((UInt8.ofNat n).toNat : Int)
    rw [show (UInt8.ofNat n).toNat = n from Nat.mod_eq_of_lt h']⟩

/-! ### conversions of numbers -/
def cvB (P : Program) (src dst : TypeId) (k : IntKind) : Bool := (P.underlying src).isSome && (match P.underlying dst with | some (.int k') => k' == k | _ => false)
theorem run_cv {src dst : TypeId} {k k0 : IntKind} {n : Int} (h : cvB P src dst k = true) (w : World) : (convert src dst (.int k0 n)).run P w = .ok (.int k (k.wrap n)) w := by
  unfold cvB at h
  simp only [Bool.and_eq_true] at h
  obtain ⟨h1, h2⟩ := h
  obtain ⟨d, hd⟩ := Option.isSome_iff_exists.mp h1
  split at h2
  · rename_i k' hk
    simp only [beq_iff_eq] at h2
    subst h2
    simp [convert, run_underlying hd, run_underlying hk, Conv.intToInt]
  · cases h2
section cv
variable {x : Operand} {lx : List (Nat × Desc)} {src T : TypeId} {dst : Option Tmp} {ty : TypeId} {pos : String} {af : Array Edge} {g : Option (Nat × Bool)}
theorem exec_cv {a : Act} {w : World} {v u : Value} (e : a.eval x = v) (h : (convert src T v).run P w = .ok u w) : (execOp a.eval ⟨dst, .convert src T x, ty, pos, af, g⟩).run P w = .ok (.value u) w := by
  simp [execOp, e, h]
theorem ox_i64_u8 {p : Int} (h : cvB P src T .u8 = true) (hx : OpdOk x (.val p) lx) : OpX P ⟨dst, .convert src T x, ty, pos, af, g⟩ lx [] (.val (Sp.u8 p)) [] [] :=
  OpX.pure fun m w0 w a hw hs ho => by
    refine ⟨_, exec_cv (holds_int (hx m a hs)).1 (run_cv h w), ?_⟩
    have e : IntKind.u8.wrap p = ((Sp.u8 p).toNat : Int) := by
      rw [IntKind.wrap_u8]
      have : (Sp.u8 p).toNat = (p % 256).toNat := by
        unfold Sp.u8
        exact Nat.mod_eq_of_lt (by omega)
      rw [this]; omega
    rw [e]; exact u8_holds m _
theorem ox_u8_i64 {p : UInt8} (h : cvB P src T .i64 = true) (hx : OpdOk x (.val p) lx) : OpX P ⟨dst, .convert src T x, ty, pos, af, g⟩ lx [] (.val ((p.toNat : Nat) : Int)) [] [] :=
  OpX.pure fun m w0 w a hw hs ho => by
    refine ⟨_, exec_cv (holds_u8 (hx m a hs)) (run_cv h w), ?_⟩
    have hlt := p.toNat_lt
    have e : IntKind.i64.wrap (p.toNat : Int) = (p.toNat : Int) := wrap_in ⟨by omega, by omega⟩
    rw [e]; exact int_holds m ⟨by omega, by omega⟩
theorem ox_i64_i64 {p : Int} (h : cvB P src T .i64 = true) (hx : OpdOk x (.val p) lx) : OpX P ⟨dst, .convert src T x, ty, pos, af, g⟩ lx [] (.val p) [] [] :=
  OpX.pure fun m w0 w a hw hs ho => by
    obtain ⟨e1, e2⟩ := holds_int (hx m a hs)
    refine ⟨_, exec_cv e1 (run_cv h w), ?_⟩
    rw [wrap_in e2]; exact int_holds m e2
theorem ox_u8_u32 {p : UInt8} (h : cvB P src T .u32 = true) (hx : OpdOk x (.val p) lx) : OpX P ⟨dst, .convert src T x, ty, pos, af, g⟩ lx [] (.val (⟨((p.toNat : Nat) : Int)⟩ : U32)) [] [] :=
  OpX.pure fun m w0 w a hw hs ho => by
    refine ⟨_, exec_cv (holds_u8 (hx m a hs)) (run_cv h w), ?_⟩
    have hlt := p.toNat_lt
    have e : IntKind.u32.wrap (p.toNat : Int) = (p.toNat : Int) := by rw [IntKind.wrap_u32]; omega
    rw [e]; exact u32_holds m (x := ⟨(p.toNat : Int)⟩) ⟨by show (0 : Int) ≤ p.toNat; omega, by show (p.toNat : Int) < 4294967296; omega⟩
theorem ox_i64_u32 {p : Int} (h : cvB P src T .u32 = true) (hx : OpdOk x (.val p) lx) : OpX P ⟨dst, .convert src T x, ty, pos, af, g⟩ lx [] (.val (Sp.u32 p)) [] [] :=
  OpX.pure fun m w0 w a hw hs ho => by
    refine ⟨_, exec_cv (holds_int (hx m a hs)).1 (run_cv h w), ?_⟩
    rw [IntKind.wrap_u32]; exact u32_holds m (x := Sp.u32 p) (by unfold Sp.u32; exact ⟨by show (0 : Int) ≤ p % 4294967296; omega, by show p % 4294967296 < 4294967296; omega⟩)
theorem ox_u32_u8 {p : U32} (h : cvB P src T .u8 = true) (hx : OpdOk x (.val p) lx) : OpX P ⟨dst, .convert src T x, ty, pos, af, g⟩ lx [] (.val (Sp.u8 p.n)) [] [] :=
  OpX.pure fun m w0 w a hw hs ho => by
    refine ⟨_, exec_cv (holds_u32 (hx m a hs)).1 (run_cv h w), ?_⟩
    have e : IntKind.u8.wrap p.n = ((Sp.u8 p.n).toNat : Int) := by
      rw [IntKind.wrap_u8]
      have : (Sp.u8 p.n).toNat = (p.n % 256).toNat := by
        unfold Sp.u8
        exact Nat.mod_eq_of_lt (by omega)
      rw [this]; omega
    rw [e]; exact u8_holds m _
theorem ox_u32_i32 {p : U32} (h : cvB P src T .i32 = true) (hx : OpdOk x (.val p) lx) : OpX P ⟨dst, .convert src T x, ty, pos, af, g⟩ lx [] (.val (Sp.i32 p.n)) [] [] :=
  OpX.pure fun m w0 w a hw hs ho => by
    refine ⟨_, exec_cv (holds_u32 (hx m a hs)).1 (run_cv h w), ?_⟩
    rw [IntKind.wrap_i32]
    exact i32_holds m (x := Sp.i32 p.n) (by unfold Sp.i32; exact ⟨by show (-2147483648 : Int) ≤ (p.n + 2147483648) % 4294967296 - 2147483648; omega, by show (p.n + 2147483648) % 4294967296 - 2147483648 < 2147483648; omega⟩)
theorem ox_i32_i64 {p : I32} (h : cvB P src T .i64 = true) (hx : OpdOk x (.val p) lx) : OpX P ⟨dst, .convert src T x, ty, pos, af, g⟩ lx [] (.val p.n) [] [] :=
  OpX.pure fun m w0 w a hw hs ho => by
    obtain ⟨e1, e2⟩ := holds_i32 (hx m a hs)
    refine ⟨_, exec_cv e1 (run_cv h w), ?_⟩
    have h1 : I64 p.n := ⟨by omega, by omega⟩
    rw [wrap_in h1]; exact int_holds m h1
end cv

/-! ### numbers of 32 bits -/
section bin
variable {x y : Operand} {lx ly : List (Nat × Desc)} {T T' : TypeId} {dst : Option Tmp} {ty : TypeId} {pos : String} {af : Array Edge} {g : Option (Nat × Bool)}
theorem run_kk {op : BinOp} {a : Act} {w : World} {k k' : IntKind} {p q : Int} (e1 : a.eval x = .int k p) (e2 : a.eval y = .int k' q)
    {v : Value} (hr : (binOp op T (.int k p) (.int k' q)).run P w = .ok v w) : (execOp a.eval ⟨dst, .binOp op T x y T', ty, pos, af, g⟩).run P w = .ok (.value v) w := by
  have e3 : (eqGuard op T x y (.int k p) (.int k' q)).run P w = .ok () w := by unfold eqGuard; cases op <;> rfl
  simp [execOp, e1, e2, e3, hr]
theorem ox_addU {p q : U32} (hx : OpdOk x (.val p) lx) (hy : OpdOk y (.val q) ly) : OpX P ⟨dst, .binOp .add T x y T', ty, pos, af, g⟩ (lx ++ ly) [] (.val (Sp.u32 (p.n + q.n))) [] [] :=
  OpX.pure fun m w0 w a hw hs ho => by
    refine ⟨.int .u32 ((p.n + q.n) % 4294967296), run_kk (holds_u32 (opd_l hx hs)).1 (holds_u32 (opd_r hy hs)).1 (by simp [binOp, Op.intArith, IntKind.wrap_u32]), ?_⟩
    exact u32_holds m (x := Sp.u32 (p.n + q.n)) (by unfold Sp.u32; exact ⟨by show (0 : Int) ≤ _ % 4294967296; omega, by show _ % 4294967296 < (4294967296 : Int); omega⟩)
theorem ox_mulU {p q : U32} (hx : OpdOk x (.val p) lx) (hy : OpdOk y (.val q) ly) : OpX P ⟨dst, .binOp .mul T x y T', ty, pos, af, g⟩ (lx ++ ly) [] (.val (Sp.u32 (p.n * q.n))) [] [] :=
  OpX.pure fun m w0 w a hw hs ho => by
    refine ⟨.int .u32 ((p.n * q.n) % 4294967296), run_kk (holds_u32 (opd_l hx hs)).1 (holds_u32 (opd_r hy hs)).1 (by simp [binOp, Op.intArith, IntKind.wrap_u32]), ?_⟩
    exact u32_holds m (x := Sp.u32 (p.n * q.n)) (by unfold Sp.u32; exact ⟨by show (0 : Int) ≤ _ % 4294967296; omega, by show _ % 4294967296 < (4294967296 : Int); omega⟩)
theorem ox_quoU {p q : U32} (hx : OpdOk x (.val p) lx) (hy : OpdOk y (.val q) ly) (h : q.n ≠ 0) : OpX P ⟨dst, .binOp .quo T x y T', ty, pos, af, g⟩ (lx ++ ly) [] (.val (Sp.u32 (p.n.tdiv q.n))) [] [] :=
  OpX.pure fun m w0 w a hw hs ho => by
    refine ⟨.int .u32 ((p.n.tdiv q.n) % 4294967296), run_kk (holds_u32 (opd_l hx hs)).1 (holds_u32 (opd_r hy hs)).1 (by simp [binOp, Op.intDiv, h, IntKind.wrap_u32]), ?_⟩
    exact u32_holds m (x := Sp.u32 (p.n.tdiv q.n)) (by unfold Sp.u32; exact ⟨by show (0 : Int) ≤ _ % 4294967296; omega, by show _ % 4294967296 < (4294967296 : Int); omega⟩)
theorem ox_remU {p q : U32} (hx : OpdOk x (.val p) lx) (hy : OpdOk y (.val q) ly) (h : q.n ≠ 0) : OpX P ⟨dst, .binOp .rem T x y T', ty, pos, af, g⟩ (lx ++ ly) [] (.val (⟨p.n.tmod q.n⟩ : U32)) [] [] :=
  OpX.pure fun m w0 w a hw hs ho => by
    obtain ⟨e1, h1, h2⟩ := holds_u32 (opd_l hx hs)
    obtain ⟨e2, h3, h4⟩ := holds_u32 (opd_r hy hs)
    refine ⟨.int .u32 (p.n.tmod q.n), run_kk e1 e2 (by simp [binOp, Op.intDiv, h]), ?_⟩
    have e3 : p.n.tmod q.n = p.n % q.n := Int.tmod_eq_emod_of_nonneg h1
    have h5 := Int.emod_nonneg p.n h
    have h6 := Int.emod_lt_of_pos p.n (show 0 < q.n by omega)
    exact u32_holds m (x := ⟨p.n.tmod q.n⟩) ⟨by show 0 ≤ p.n.tmod q.n; rw [e3]; exact h5, by show p.n.tmod q.n < 4294967296; rw [e3]; omega⟩
theorem ox_orU {p q : U32} (hx : OpdOk x (.val p) lx) (hy : OpdOk y (.val q) ly) : OpX P ⟨dst, .binOp .or T x y T', ty, pos, af, g⟩ (lx ++ ly) [] (.val (Sp.orU p q)) [] [] :=
  OpX.pure fun m w0 w a hw hs ho => by
    refine ⟨.int .u32 (Sp.orU p q).n, run_kk (holds_u32 (opd_l hx hs)).1 (holds_u32 (opd_r hy hs)).1 ?_, ?_⟩
    · have hlt := (BitVec.ofInt 32 p.n ||| BitVec.ofInt 32 q.n).isLt
      have e : IntKind.u32.wrap ((BitVec.ofInt 32 p.n ||| BitVec.ofInt 32 q.n).toNat : Int) = ((BitVec.ofInt 32 p.n ||| BitVec.ofInt 32 q.n).toNat : Int) := by
        rw [IntKind.wrap_u32]; omega
      show (Op.intBits .or .u32 p.n q.n).run P w = _
      unfold Op.intBits
      exact congrArg (fun z => Result.ok (Value.int .u32 z) w) e
    · have hlt := (BitVec.ofInt 32 p.n ||| BitVec.ofInt 32 q.n).isLt
      exact u32_holds m (x := Sp.orU p q) ⟨by show (0 : Int) ≤ ((BitVec.ofInt 32 p.n ||| BitVec.ofInt 32 q.n).toNat : Int); omega, by show ((BitVec.ofInt 32 p.n ||| BitVec.ofInt 32 q.n).toNat : Int) < 4294967296; omega⟩
theorem ox_shlU {p : U32} {b : Int} (k : Nat) (hx : OpdOk x (.val p) lx) (h : decide (0 ≤ b ∧ b ≤ 32) = true) (hk : b.toNat = k) : OpX P ⟨dst, .binOp .shl T x (.const (.int .u64 b)) T', ty, pos, af, g⟩ lx [] (.val (Sp.shlU p k)) [] [] :=
  OpX.pure fun m w0 w a hw hs ho => by
    subst hk
    unfold Sp.shlU
    have hb := of_decide_eq_true h
    refine ⟨.int .u32 ((p.n * 2 ^ b.toNat) % 4294967296), run_kk (k' := .u64) (q := b) (holds_u32 (hx m a hs)).1 rfl ?_, ?_⟩
    · have h1 : ¬ (b < 0) := by omega
      have h2 : min b.toNat IntKind.u32.bits = b.toNat := by show min b.toNat 32 = _; omega
      simp [binOp, Op.shift, h1, h2, IntKind.wrap_u32]
    · exact u32_holds m (x := Sp.u32 (p.n * 2 ^ b.toNat)) (by unfold Sp.u32; exact ⟨by show (0 : Int) ≤ _ % 4294967296; omega, by show _ % 4294967296 < (4294967296 : Int); omega⟩)
theorem ox_shrI {p : Int} {b : Int} (k : Nat) (hx : OpdOk x (.val p) lx) (h : decide (0 ≤ b ∧ b ≤ 64) = true) (hk : b.toNat = k) : OpX P ⟨dst, .binOp .shr T x (.const (.int .u64 b)) T', ty, pos, af, g⟩ lx [] (.val (Sp.shrI p k)) [] [] :=
  OpX.pure fun m w0 w a hw hs ho => by
    subst hk
    unfold Sp.shrI
    have hb := of_decide_eq_true h
    obtain ⟨e1, h3, h4⟩ := holds_int (hx m a hs)
    have e5 : p.fdiv (2 ^ b.toNat) = p / 2 ^ b.toNat := Int.fdiv_eq_ediv_of_nonneg _ (by exact Int.pow_nonneg (by decide))
    have hpos : (0 : Int) < 2 ^ b.toNat := Int.pow_pos (by decide)
    have h6 : I64 (p / 2 ^ b.toNat) := by
      constructor
      · rw [Int.le_ediv_iff_mul_le hpos]
        have : (-9223372036854775808 : Int) * 2 ^ b.toNat ≤ -9223372036854775808 * 1 := Int.mul_le_mul_of_nonpos_left (by decide) (show (1 : Int) ≤ 2 ^ b.toNat from hpos)
        omega
      · by_cases hp : 0 ≤ p
        · have := Int.ediv_le_self (2 ^ b.toNat) hp
          omega
        · have : p / 2 ^ b.toNat < 0 := Int.ediv_neg_of_neg_of_pos (by omega) hpos
          omega
    refine ⟨.int .i64 (p / 2 ^ b.toNat), run_kk (k' := .u64) (q := b) e1 rfl ?_, int_holds m h6⟩
    have h1 : ¬ (b < 0) := by omega
    have h2 : min b.toNat IntKind.i64.bits = b.toNat := by show min b.toNat 64 = _; omega
    simp [binOp, Op.shift, h1, h2, e5]

theorem ox_eqlU8 {p q : UInt8} (hx : OpdOk x (.val p) lx) (hy : OpdOk y (.val q) ly) : OpX P ⟨dst, .binOp .eql T x y T', ty, pos, af, g⟩ (lx ++ ly) [] (.val (decide (p = q))) [] [] :=
  OpX.pure fun m w0 w a hw hs ho => by
    refine ⟨.bool (decide (p = q)), run_kk (holds_u8 (opd_l hx hs)) (holds_u8 (opd_r hy hs)) ?_, bool_holds m _⟩
    have e : ((p.toNat : Int) == (q.toNat : Int)) = decide (p = q) := by
      rw [Bool.eq_iff_iff]
      simp only [beq_iff_eq, decide_eq_true_eq]
      constructor
      · intro h; exact UInt8.toNat_inj.1 (by omega)
      · intro h; rw [h]
    simp [binOp, Op.intCmp]
    exact e
theorem ox_neqU8 {p q : UInt8} (hx : OpdOk x (.val p) lx) (hy : OpdOk y (.val q) ly) : OpX P ⟨dst, .binOp .neq T x y T', ty, pos, af, g⟩ (lx ++ ly) [] (.val (!decide (p = q))) [] [] :=
  OpX.pure fun m w0 w a hw hs ho => by
    refine ⟨.bool (!decide (p = q)), run_kk (holds_u8 (opd_l hx hs)) (holds_u8 (opd_r hy hs)) ?_, bool_holds m _⟩
    have e : ((p.toNat : Int) == (q.toNat : Int)) = decide (p = q) := by
      rw [Bool.eq_iff_iff]
      simp only [beq_iff_eq, decide_eq_true_eq]
      constructor
      · intro h; exact UInt8.toNat_inj.1 (by omega)
      · intro h; rw [h]
    simp [binOp, Op.intCmp]
    exact congrArg (!·) e

/-! ### texts -/
theorem toList_inj {a b : ByteArray} : (a.toList == b.toList) = decide (a = b) := by
  have e : ∀ s : ByteArray, s.toList = s.data.toList := fun s => by
    first | exact ByteArray.toList_eq s | exact Go.toList_eq s | exact Go.byteArray_toList s
  rw [e, e]
  rw [Bool.eq_iff_iff]
  simp only [beq_iff_eq, decide_eq_true_eq]
  constructor
  · intro h; exact ByteArray.ext (Array.ext' h)
  · intro h; rw [h]
theorem run_ss {op : BinOp} {a : Act} {w : World} {p q : ByteArray} (e1 : a.eval x = .string p) (e2 : a.eval y = .string q)
    {v : Value} (hr : (Op.stringOp op p q).run P w = .ok v w) : (execOp a.eval ⟨dst, .binOp op T x y T', ty, pos, af, g⟩).run P w = .ok (.value v) w := by
  have e3 : (eqGuard op T x y (.string p) (.string q)).run P w = .ok () w := by unfold eqGuard; cases op <;> rfl
  have e4 : binOp op T (.string p) (.string q) = Op.stringOp op p q := by cases op <;> rfl
  simp [execOp, e1, e2, e3, e4, hr]
theorem ox_eqlStr {p q : ByteArray} (hx : OpdOk x (.val p) lx) (hy : OpdOk y (.val q) ly) : OpX P ⟨dst, .binOp .eql T x y T', ty, pos, af, g⟩ (lx ++ ly) [] (.val (decide (p = q))) [] [] :=
  OpX.pure fun m w0 w a hw hs ho => ⟨_, run_ss (holds_str (opd_l hx hs)).1 (holds_str (opd_r hy hs)).1 (v := .bool (decide (p = q))) (by simp [Op.stringOp, ← toList_inj]), bool_holds m _⟩
theorem ox_neqStr {p q : ByteArray} (hx : OpdOk x (.val p) lx) (hy : OpdOk y (.val q) ly) : OpX P ⟨dst, .binOp .neq T x y T', ty, pos, af, g⟩ (lx ++ ly) [] (.val (!decide (p = q))) [] [] :=
  OpX.pure fun m w0 w a hw hs ho => ⟨_, run_ss (holds_str (opd_l hx hs)).1 (holds_str (opd_r hy hs)).1 (v := .bool (!decide (p = q))) (by simp [Op.stringOp, ← toList_inj]), bool_holds m _⟩
theorem ox_addStr {p q : ByteArray} (hx : OpdOk x (.val p) lx) (hy : OpdOk y (.val q) ly) (h : p.size + q.size ≤ 9223372036854775807) : OpX P ⟨dst, .binOp .add T x y T', ty, pos, af, g⟩ (lx ++ ly) [] (.val (p ++ q)) [] [] :=
  OpX.pure fun m w0 w a hw hs ho => ⟨_, run_ss (holds_str (opd_l hx hs)).1 (holds_str (opd_r hy hs)).1 (run_string_add_sum w p q h), str_holds m (by rw [ByteArray.size_append]; exact h)⟩
end bin
section cvs
variable {x : Operand} {lx : List (Nat × Desc)} {src T : TypeId} {dst : Option Tmp} {ty : TypeId} {pos : String} {af : Array Edge} {g : Option (Nat × Bool)}
def bsB (P : Program) (s t e : TypeId) : Bool := (match P.underlying s with | some (.slice e') => e' == e | _ => false) && (match P.underlying e with | some (.int .u8) => true | _ => false) && (match P.underlying t with | some .string => true | _ => false)
theorem bsB_inv {s t e : TypeId} (h : bsB P s t e = true) : P.underlying s = some (.slice e) ∧ P.underlying e = some (.int .u8) ∧ P.underlying t = some .string := by
  unfold bsB at h
  simp only [Bool.and_eq_true] at h
  obtain ⟨⟨h1, h2⟩, h3⟩ := h
  refine ⟨?_, ?_, ?_⟩
  · split at h1
    · rename_i e' he; rw [he]; simp at h1; rw [h1]
    · cases h1
  · split at h2
    · assumption
    · cases h2
  · split at h3
    · assumption
    · cases h3
theorem repL_u8 {p : PH} : ∀ {l : List UInt8} {cs : List Value}, RepL p l cs → cs = l.map fun b => .int .u8 (b.toNat : Int)
  | [], cs, h => h
  | b :: l, cs, ⟨c, r, h1, h2, h3⟩ => by
    have h2' : c = [.int .u8 b.toNat] := h2
    rw [h1, h2', repL_u8 h3]; rfl
theorem ox_bts {p : List UInt8} {e : TypeId} (h : bsB P src T e = true) (hx : OpdOk x (.val p) lx) : OpX P ⟨dst, .convert src T x, ty, pos, af, g⟩ lx [] (.val (Sp.bts p)) [] [] :=
  OpX.pure fun m w0 w a hw hs ho => by
    obtain ⟨h1, h2, h3⟩ := bsB_inv h
    obtain ⟨ad, c, cs, e1, e2, e3, e4, e5, e6⟩ := holds_list (hx m a hs)
    have hsz : (Sp.bts p).size ≤ 9223372036854775807 := by show p.toArray.size ≤ _; simp; omega
    refine ⟨.string (Sp.bts p), exec_cv e1 ?_, str_holds m hsz⟩
    have hcs := repL_u8 e4
    rcases e6 with e6 | ⟨b, o, rfl, e6⟩
    · have hp : p = [] := by
        rw [hcs] at e6; exact List.map_eq_nil_iff.1 e6
      subst hp
      cases ad with
      | none => exact run_convert_bytes_nil w src e h1 h2 _ c T h3
      | some ad => exact run_convert_bytes_back w src T e ad c [] h1 h2 h3 (fun j hj => by simp at hj)
    · refine run_convert_bytes_back w src T e ⟨b, o, none⟩ c p h1 h2 h3 fun j hj => ?_
      rw [Addr.add_mid]
      refine hw.on _ _ _ (e6 j _ ?_)
      rw [hcs]; simp [hj]
theorem ox_stb {s : ByteArray} {e : TypeId} (h : bsB P T src e = true) (hx : OpdOk x (.val s) lx) : OpX P ⟨dst, .convert src T x, ty, pos, af, g⟩ lx [] (.val (Sp.stb s)) [] [] := by
  obtain ⟨h1, h2, h3⟩ := bsB_inv h
  refine OpX.turn fun m w0 w a hw hs ho => ?_
  obtain ⟨e1, e2⟩ := holds_str (hx m a hs)
  have hrun := run_bytes_of_string (P := P) w src T e s h3 h1 h2
  obtain ⟨C, hC⟩ : ∃ C, C = bytesRow s (grownCap w s.size 0 e) := ⟨_, rfl⟩
  rw [← hC] at hrun
  have hb : Below w.heap.size w (w.drew.alloc (.cells C e (C.size, C.size + 1))) := ((Below.refl _ w).drew).alloc (Nat.le_refl _) _
  have hnew := heap_new w.drew (.cells C e (C.size, C.size + 1))
  refine ⟨_, _, m.more w (w.drew.alloc (.cells C e (C.size, C.size + 1))), .inl (by simp only [execOp, e1, Sem.run_bind, hrun, Result.andThen_ok]; rfl), hw.more hb, Chg.more hw hb _, ?_, fun id' e he => by cases he⟩
  have hlen : (Sp.stb s).length = s.size := by show s.data.toList.length = s.data.size; simp
  refine list_holds ⟨some ⟨w.heap.size, 0, none⟩, grownCap w s.size 0 e, (Sp.stb s).map fun b => .int .u8 (b.toNat : Int), by rw [hlen], by rw [hlen]; exact grownCap_ge w s.size 0 e, grownCap_le_maxLen w s.size 0 e (by unfold maxLen; omega), ?_, fun h => (by cases h), .inr ⟨w.heap.size, 0, rfl, fun j u hu => ?_⟩⟩
  · have : ∀ l : List UInt8, RepL (m.more w (w.drew.alloc (.cells C e (C.size, C.size + 1)))).ph l (l.map fun b => .int .u8 (b.toNat : Int)) := by
      intro l
      induction l with
      | nil => rfl
      | cons b l ih => exact ⟨[.int .u8 b.toNat], _, rfl, rfl, ih⟩
    exact this _
  · simp only [M.more, Nat.lt_irrefl, if_false, Nat.zero_add]
    unfold World.cell?
    have hh : (w.drew.alloc (.cells C e (C.size, C.size + 1))).heap[w.heap.size]? = some (.cells C e (C.size, C.size + 1)) := hnew
    simp only [hh]
    have hj : j < s.data.size := by
      have := (List.getElem?_eq_some_iff.1 hu).1
      simpa [Sp.stb] using this
    rw [hC, bytesRow]
    rw [Array.getElem?_append_left (by simpa using hj)]
    simp [Sp.stb, hj] at hu ⊢
    exact hu
end cvs

/-! ### tests for nil -/
section nil
variable {x y : Operand} {lx ly : List (Nat × Desc)} {T T' : TypeId} {dst : Option Tmp} {ty : TypeId} {pos : String} {af : Array Edge} {g : Option (Nat × Bool)}
def slB2 (P : Program) (T : TypeId) : Bool := match P.underlying T with | some (.slice _) => true | _ => false
theorem run_nileq {w : World} {a : Option Addr} {n c : Nat} (h : slB2 P T = true) : (Op.equal T (.slice a n c) (.slice none 0 0)).run P w = .ok a.isNone w := by
  unfold slB2 at h
  split at h
  · rename_i e he
    exact run_equal_slice_nil w T e a n c he
  · cases h
theorem exec_nileq {a : Act} {w : World} {ad : Option Addr} {n c : Nat} (h : slB2 P T = true) (e1 : a.eval x = .slice ad n c) (e2 : a.eval y = .slice none 0 0) :
    (execOp a.eval ⟨dst, .binOp .eql T x y T', ty, pos, af, g⟩).run P w = .ok (.value (.bool ad.isNone)) w := by
  have e3 : (eqGuard .eql T x y (.slice ad n c) (.slice none 0 0)).run P w = .ok () w := by unfold eqGuard; rfl
  have e4 : binOp .eql T (.slice ad n c) (.slice none 0 0) = (do pure (.bool (← Op.equal T (.slice ad n c) (.slice none 0 0)))) := rfl
  simp [execOp, e1, e2, e3, e4, run_nileq h]
theorem exec_nilneq {a : Act} {w : World} {ad : Option Addr} {n c : Nat} (h : slB2 P T = true) (e1 : a.eval x = .slice ad n c) (e2 : a.eval y = .slice none 0 0) :
    (execOp a.eval ⟨dst, .binOp .neq T x y T', ty, pos, af, g⟩).run P w = .ok (.value (.bool (!ad.isNone))) w := by
  have e3 : (eqGuard .neq T x y (.slice ad n c) (.slice none 0 0)).run P w = .ok () w := by unfold eqGuard; rfl
  have e4 : binOp .neq T (.slice ad n c) (.slice none 0 0) = (do pure (.bool (!(← Op.equal T (.slice ad n c) (.slice none 0 0))))) := rfl
  simp [execOp, e1, e2, e3, e4, run_nileq h]
/-- who is nil is empty -/
theorem ox_isNil {α : Type} [GoTy α] {l : List α} (h : slB2 P T = true) (hx : OpdOk x (.val l) lx) (hy : OpdOk y .nilS ly) :
    OpX P ⟨dst, .binOp .eql T x y T', ty, pos, af, g⟩ (lx ++ ly) [] (.boolOf fun b => b = true → l = []) [] [] :=
  OpX.pure fun m w0 w a hw hs ho => by
    obtain ⟨ad, c, cs, e1, h2, h3, h4, h5, h6⟩ := holds_list (opd_l hx hs)
    have e2 : a.eval y = .slice none 0 0 := opd_r hy hs
    refine ⟨_, exec_nileq h e1 e2, _, fun hb => ?_, rfl⟩
    cases ad with
    | none =>
      have := h5 rfl
      exact List.eq_nil_of_length_eq_zero (by omega)
    | some ad => cases hb
theorem nlist_nil {m : M} {α : Type} [GoTy α] {l : List α} {v : Value} (h : Desc.holds m (.nlist l) v) : ∃ ad n c, v = .slice ad n c ∧ ad.isNone = l.isEmpty := by
  obtain ⟨⟨ad, c, cs, e1, h2, h3, h4, h5, h6⟩, h7⟩ := h
  refine ⟨ad, _, c, e1, ?_⟩
  cases ad with
  | none =>
    have := h5 rfl
    have : l = [] := List.eq_nil_of_length_eq_zero (by omega)
    subst this; rfl
  | some ad =>
    cases l with
    | nil => have := h7 rfl; rw [e1] at this; cases this
    | cons x l => rfl
theorem ox_isNilN {α : Type} [GoTy α] {l : List α} (h : slB2 P T = true) (hx : OpdOk x (.nlist l) lx) (hy : OpdOk y .nilS ly) :
    OpX P ⟨dst, .binOp .eql T x y T', ty, pos, af, g⟩ (lx ++ ly) [] (.val l.isEmpty) [] [] :=
  OpX.pure fun m w0 w a hw hs ho => by
    obtain ⟨ad, n, c, e1, h2⟩ := nlist_nil (opd_l hx hs)
    have e2 : a.eval y = .slice none 0 0 := opd_r hy hs
    refine ⟨_, exec_nileq h e1 e2, ?_⟩
    rw [h2]; exact bool_holds m _
theorem ox_noNilN {α : Type} [GoTy α] {l : List α} (h : slB2 P T = true) (hx : OpdOk x (.nlist l) lx) (hy : OpdOk y .nilS ly) :
    OpX P ⟨dst, .binOp .neq T x y T', ty, pos, af, g⟩ (lx ++ ly) [] (.val (!l.isEmpty)) [] [] :=
  OpX.pure fun m w0 w a hw hs ho => by
    obtain ⟨ad, n, c, e1, h2⟩ := nlist_nil (opd_l hx hs)
    have e2 : a.eval y = .slice none 0 0 := opd_r hy hs
    refine ⟨_, exec_nilneq h e1 e2, ?_⟩
    rw [h2]; exact bool_holds m _
end nil
section pt
variable {w0 : B0} {n : Nat} {σ : St} {Q : Exit → Act → World → Prop}
theorem PT.condB {t : Nat} {x y : Code} (p : Bool → Prop) (hl : look σ.s t = some (.boolOf p)) (h1 : p true → PT w0 n σ (x.wp P Q)) (h2 : p false → PT w0 n σ (y.wp P Q)) :
    PT w0 n σ ((Code.cond (.tmp t) x y).wp P Q) := fun a w ha => by
  have ha' := ha
  obtain ⟨m, e1, e2, e3, e4, e5⟩ := ha'
  obtain ⟨b, hb, hv⟩ := e4 t _ hl
  have hev : a.eval (.tmp t) = .bool b := hv
  exact wp_cond_split hev (fun e => h1 (e ▸ hb) a w ha) (fun e => h2 (e ▸ hb) a w ha)
end pt
section as
variable {w0 : B0} {n : Nat} {σs : List (Nat × Desc)} {σo : List (Nat × ODesc)} {Q : Act → World → Prop}
theorem PT.asNlistNil (t : Nat) (α : Type) [GoTy α] (hl : look σs t = some .nilS) (h : PT w0 n ⟨(t, .nlist ([] : List α)) :: σs, σo⟩ Q) : PT w0 n ⟨σs, σo⟩ Q :=
  PT.as (d' := .nlist ([] : List α)) t hl (fun m v hv => by rw [show v = _ from hv]; exact ⟨repS_nil _, fun _ => rfl⟩) h
theorem PT.asNlist (t : Nat) {α : Type} [GoTy α] {l : List α} (hne : l ≠ []) (hl : look σs t = some (.val l)) (h : PT w0 n ⟨(t, .nlist l) :: σs, σo⟩ Q) : PT w0 n ⟨σs, σo⟩ Q :=
  PT.as (d' := .nlist l) t hl (fun m v hv => ⟨holds_list hv, fun e => absurd e hne⟩) h
theorem PT.ofNlist (t : Nat) {α : Type} [GoTy α] {l : List α} (hl : look σs t = some (.nlist l)) (h : PT w0 n ⟨(t, .val l) :: σs, σo⟩ Q) : PT w0 n ⟨σs, σo⟩ Q :=
  PT.as (d' := .val l) t hl (fun m v hv => list_holds hv.1) h
theorem PT.ofHole (t : Nat) {α : Type} [GoTy α] {x : α} (hl : look σs t = some (.hole x [])) (h : PT w0 n ⟨(t, .val x) :: σs, σo⟩ Q) : PT w0 n ⟨σs, σo⟩ Q :=
  PT.as (d' := .val x) t hl (fun m v hv => hv) h
end as

/-! ### least and greatest -/
section mm
variable {x y : Operand} {lx ly : List (Nat × Desc)} {p q : Int} {ats : Array TypeId} {dst : Option Tmp} {ty : TypeId} {pos : String} {af : Array Edge} {g : Option (Nat × Bool)}
theorem ox_min (hx : OpdOk x (.val p) lx) (hy : OpdOk y (.val q) ly) : OpX P ⟨dst, .call ⟨.builtin .min, #[x, y], ats⟩, ty, pos, af, g⟩ (lx ++ ly) [] (.val (if q < p then q else p)) [] [] :=
  OpX.pure fun m w0 w a hw hs ho => by
    obtain ⟨e1, h1⟩ := holds_int (opd_l hx hs)
    obtain ⟨e2, h2⟩ := holds_int (opd_r hy hs)
    refine ⟨.int .i64 (if q < p then q else p), ?_, int_holds m (by split <;> assumption)⟩
    simp [execOp, resolve, invoke, builtin, e1, e2, Builtin.min_, Builtin.min2]
theorem ox_max (hx : OpdOk x (.val p) lx) (hy : OpdOk y (.val q) ly) : OpX P ⟨dst, .call ⟨.builtin .max, #[x, y], ats⟩, ty, pos, af, g⟩ (lx ++ ly) [] (.val (if p < q then q else p)) [] [] :=
  OpX.pure fun m w0 w a hw hs ho => by
    obtain ⟨e1, h1⟩ := holds_int (opd_l hx hs)
    obtain ⟨e2, h2⟩ := holds_int (opd_r hy hs)
    refine ⟨.int .i64 (if p < q then q else p), ?_, int_holds m (by split <;> assumption)⟩
    simp [execOp, resolve, invoke, builtin, e1, e2, Builtin.max_, Builtin.max2]
end mm
end
end Go.Gx
