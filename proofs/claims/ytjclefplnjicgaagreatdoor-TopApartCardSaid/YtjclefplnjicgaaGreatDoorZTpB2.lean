/- WHAT THE STATEMENTS OF THIS GROUP NEED, part 2: laid together by prune.py out of own texts. -/
import Derived.Test.YtjclefplnjicgaaGreatDoorZTpB1
set_option linter.unusedVariables false
set_option linter.unusedSimpArgs false
set_option maxRecDepth 20000
set_option maxHeartbeats 4000000
section
namespace Go.Gx
open Go.RowKit Sp
instance instU32 : GoTy U32 where
 sz := 1
 agg := false
 rep _ x vs := vs = [.int .u32 x.n] ∧ 0 ≤ x.n ∧ x.n < 4294967296
 len h := by simp [h.1]
 mono _ h := h
 one h v hv := by simp [h.1] at hv; subst hv; rfl
 single _ := rfl
 pos := by decide
instance instI32 : GoTy I32 where
 sz := 1
 agg := false
 rep _ x vs := vs = [.int .i32 x.n] ∧ -2147483648 ≤ x.n ∧ x.n < 2147483648
 len h := by simp [h.1]
 mono _ h := h
 one h v hv := by simp [h.1] at hv; subst hv; rfl
 single _ := rfl
 pos := by decide
section
variable {P : Program}
theorem holds_u32 {m : M} {x : U32} {v : Value} (h : Desc.holds m (.val x) v) : v = .int .u32 x.n ∧ 0 ≤ x.n ∧ x.n < 4294967296 := by
 obtain ⟨vs, h1, h2⟩ := h
 obtain ⟨rfl, h3⟩ : vs = [.int .u32 x.n] ∧ 0 ≤ x.n ∧ x.n < 4294967296 := h1
 exact ⟨h2, h3⟩
theorem u32_holds (m : M) {x : U32} (h : 0 ≤ x.n ∧ x.n < 4294967296) : Desc.holds m (.val x) (.int .u32 x.n) := ⟨_, ⟨rfl, h⟩, rfl⟩
theorem holds_i32 {m : M} {x : I32} {v : Value} (h : Desc.holds m (.val x) v) : v = .int .i32 x.n ∧ -2147483648 ≤ x.n ∧ x.n < 2147483648 := by
 obtain ⟨vs, h1, h2⟩ := h
 obtain ⟨rfl, h3⟩ : vs = [.int .i32 x.n] ∧ -2147483648 ≤ x.n ∧ x.n < 2147483648 := h1
 exact ⟨h2, h3⟩
theorem i32_holds (m : M) {x : I32} (h : -2147483648 ≤ x.n ∧ x.n < 2147483648) : Desc.holds m (.val x) (.int .i32 x.n) := ⟨_, ⟨rfl, h⟩, rfl⟩
theorem OpdOk.u32 {n : Int} (h1 : decide (0 ≤ n) = true := by decide) (h2 : decide (n < 4294967296) = true := by decide) : OpdOk (.const (.int .u32 n)) (.val (⟨n⟩ : U32)) [] :=
 fun m a _ => ⟨_, ⟨rfl, of_decide_eq_true h1, of_decide_eq_true h2⟩, rfl⟩
theorem OpdOk.u8 {n : Nat} (h : decide (n < 256) = true := by decide) : OpdOk (.const (.int .u8 (n : Int))) (.val (UInt8.ofNat n)) [] :=
 fun m a _ => ⟨_, rfl, by
  have h' := of_decide_eq_true h
  show Value.int .u8 (n : Int) = Value.int .u8 ((UInt8.ofNat n).toNat : Int)
  rw [show (UInt8.ofNat n).toNat = n from Nat.mod_eq_of_lt h']⟩
def cvB (P : Program) (src dst : TypeId) (k : IntKind) : Bool := (P.underlying src).isSome && (match P.underlying dst with | some (.int k') => k' == k | _ => false)
theorem run_cv {src dst : TypeId} {k k0 : IntKind} {n : Int} (h : cvB P src dst k = true) (w : World) : (convert src dst (.int k0 n)).run P w = .ok (.int k (k.wrap n)) w := by
 unfold cvB at h
 simp only [Bool.and_eq_true] at h
 obtain ⟨h1, h2⟩ := h
 obtain ⟨d, hd⟩ := Option.isSome_iff_exists.mp h1
 split at h2
 ·rename_i k' hk
  simp only [beq_iff_eq] at h2
  subst h2
  simp [convert, run_underlying hd, run_underlying hk, Conv.intToInt]
 ·cases h2
section cv
variable {x : Operand} {lx : List (Nat × Desc)} {src T : TypeId} {dst : Option Tmp} {ty : TypeId} {pos : String} {af : Array Edge} {g : Option (Nat × Bool)}
theorem exec_cv {a : Act} {w : World} {v u : Value} (e : a.eval x = v) (h : (convert src T v).run P w = .ok u w) : (execOp a.eval ⟨dst, .convert src T x, ty, pos, af, g⟩).run P w = .ok (.value u) w := by
 simp [execOp, e, h]
theorem ox_i64_u8 {p : Int} (h : cvB P src T .u8 = true) (hx : OpdOk x (.val p) lx) : OpX P ⟨dst, .convert src T x, ty, pos, af, g⟩ lx [] (.val (Sp.u8 p)) [] [] :=
 OpX.pure fun m w0 w a hw hs ho => by
  refine ⟨_, exec_cv (holds_int (hx m a hs)).1 (run_cv h w), ?_⟩
  have e : IntKind.u8.wrap p = ((Sp.u8 p).toNat : Int) := by
   rw [IntKind.wrap_u8]
   have : (Sp.u8 p).toNat = (p % 256).toNat := by
    unfold Sp.u8
    exact Nat.mod_eq_of_lt (by omega)
   rw [this]; omega
  rw [e]; exact u8_holds m _
theorem ox_u8_i64 {p : UInt8} (h : cvB P src T .i64 = true) (hx : OpdOk x (.val p) lx) : OpX P ⟨dst, .convert src T x, ty, pos, af, g⟩ lx [] (.val ((p.toNat : Nat) : Int)) [] [] :=
 OpX.pure fun m w0 w a hw hs ho => by
  refine ⟨_, exec_cv (holds_u8 (hx m a hs)) (run_cv h w), ?_⟩
  have hlt := p.toNat_lt
  have e : IntKind.i64.wrap (p.toNat : Int) = (p.toNat : Int) := wrap_in ⟨by omega, by omega⟩
  rw [e]; exact int_holds m ⟨by omega, by omega⟩
theorem ox_u8_u32 {p : UInt8} (h : cvB P src T .u32 = true) (hx : OpdOk x (.val p) lx) : OpX P ⟨dst, .convert src T x, ty, pos, af, g⟩ lx [] (.val (⟨((p.toNat : Nat) : Int)⟩ : U32)) [] [] :=
 OpX.pure fun m w0 w a hw hs ho => by
  refine ⟨_, exec_cv (holds_u8 (hx m a hs)) (run_cv h w), ?_⟩
  have hlt := p.toNat_lt
  have e : IntKind.u32.wrap (p.toNat : Int) = (p.toNat : Int) := by rw [IntKind.wrap_u32]; omega
  rw [e]; exact u32_holds m (x := ⟨(p.toNat : Int)⟩) ⟨by show (0 : Int) ≤ p.toNat; omega, by show (p.toNat : Int) < 4294967296; omega⟩
theorem ox_u32_i32 {p : U32} (h : cvB P src T .i32 = true) (hx : OpdOk x (.val p) lx) : OpX P ⟨dst, .convert src T x, ty, pos, af, g⟩ lx [] (.val (Sp.i32 p.n)) [] [] :=
 OpX.pure fun m w0 w a hw hs ho => by
  refine ⟨_, exec_cv (holds_u32 (hx m a hs)).1 (run_cv h w), ?_⟩
  rw [IntKind.wrap_i32]
  exact i32_holds m (x := Sp.i32 p.n) (by unfold Sp.i32; exact ⟨by show (-2147483648 : Int) ≤ (p.n + 2147483648) % 4294967296 - 2147483648; omega, by show (p.n + 2147483648) % 4294967296 - 2147483648 < 2147483648; omega⟩)
theorem ox_i32_i64 {p : I32} (h : cvB P src T .i64 = true) (hx : OpdOk x (.val p) lx) : OpX P ⟨dst, .convert src T x, ty, pos, af, g⟩ lx [] (.val p.n) [] [] :=
 OpX.pure fun m w0 w a hw hs ho => by
  obtain ⟨e1, e2⟩ := holds_i32 (hx m a hs)
  refine ⟨_, exec_cv e1 (run_cv h w), ?_⟩
  have h1 : I64 p.n := ⟨by omega, by omega⟩
  rw [wrap_in h1]; exact int_holds m h1
end cv
section bin
variable {x y : Operand} {lx ly : List (Nat × Desc)} {T T' : TypeId} {dst : Option Tmp} {ty : TypeId} {pos : String} {af : Array Edge} {g : Option (Nat × Bool)}
theorem run_kk {op : BinOp} {a : Act} {w : World} {k k' : IntKind} {p q : Int} (e1 : a.eval x = .int k p) (e2 : a.eval y = .int k' q)
  {v : Value} (hr : (binOp op T (.int k p) (.int k' q)).run P w = .ok v w) : (execOp a.eval ⟨dst, .binOp op T x y T', ty, pos, af, g⟩).run P w = .ok (.value v) w := by
 have e3 : (eqGuard op T x y (.int k p) (.int k' q)).run P w = .ok () w := by unfold eqGuard; cases op <;> rfl
 simp [execOp, e1, e2, e3, hr]
theorem ox_orU {p q : U32} (hx : OpdOk x (.val p) lx) (hy : OpdOk y (.val q) ly) : OpX P ⟨dst, .binOp .or T x y T', ty, pos, af, g⟩ (lx ++ ly) [] (.val (Sp.orU p q)) [] [] :=
 OpX.pure fun m w0 w a hw hs ho => by
  refine ⟨.int .u32 (Sp.orU p q).n, run_kk (holds_u32 (opd_l hx hs)).1 (holds_u32 (opd_r hy hs)).1 ?_, ?_⟩
  ·have hlt := (BitVec.ofInt 32 p.n ||| BitVec.ofInt 32 q.n).isLt
   have e : IntKind.u32.wrap ((BitVec.ofInt 32 p.n ||| BitVec.ofInt 32 q.n).toNat : Int) = ((BitVec.ofInt 32 p.n ||| BitVec.ofInt 32 q.n).toNat : Int) := by
    rw [IntKind.wrap_u32]; omega
   show (Op.intBits .or .u32 p.n q.n).run P w = _
   unfold Op.intBits
   exact congrArg (fun z => Result.ok (Value.int .u32 z) w) e
  ·have hlt := (BitVec.ofInt 32 p.n ||| BitVec.ofInt 32 q.n).isLt
   exact u32_holds m (x := Sp.orU p q) ⟨by show (0 : Int) ≤ ((BitVec.ofInt 32 p.n ||| BitVec.ofInt 32 q.n).toNat : Int); omega, by show ((BitVec.ofInt 32 p.n ||| BitVec.ofInt 32 q.n).toNat : Int) < 4294967296; omega⟩
theorem ox_shlU {p : U32} {b : Int} (k : Nat) (hx : OpdOk x (.val p) lx) (h : decide (0 ≤ b ∧ b ≤ 32) = true) (hk : b.toNat = k) : OpX P ⟨dst, .binOp .shl T x (.const (.int .u64 b)) T', ty, pos, af, g⟩ lx [] (.val (Sp.shlU p k)) [] [] :=
 OpX.pure fun m w0 w a hw hs ho => by
  subst hk
  unfold Sp.shlU
  have hb := of_decide_eq_true h
  refine ⟨.int .u32 ((p.n * 2 ^ b.toNat) % 4294967296), run_kk (k' := .u64) (q := b) (holds_u32 (hx m a hs)).1 rfl ?_, ?_⟩
  ·have h1 : ¬ (b < 0) := by omega
   have h2 : min b.toNat IntKind.u32.bits = b.toNat := by show min b.toNat 32 = _; omega
   simp [binOp, Op.shift, h1, h2, IntKind.wrap_u32]
  ·exact u32_holds m (x := Sp.u32 (p.n * 2 ^ b.toNat)) (by unfold Sp.u32; exact ⟨by show (0 : Int) ≤ _ % 4294967296; omega, by show _ % 4294967296 < (4294967296 : Int); omega⟩)
theorem ox_shrI {p : Int} {b : Int} (k : Nat) (hx : OpdOk x (.val p) lx) (h : decide (0 ≤ b ∧ b ≤ 64) = true) (hk : b.toNat = k) : OpX P ⟨dst, .binOp .shr T x (.const (.int .u64 b)) T', ty, pos, af, g⟩ lx [] (.val (Sp.shrI p k)) [] [] :=
 OpX.pure fun m w0 w a hw hs ho => by
  subst hk
  unfold Sp.shrI
  have hb := of_decide_eq_true h
  obtain ⟨e1, h3, h4⟩ := holds_int (hx m a hs)
  have e5 : p.fdiv (2 ^ b.toNat) = p / 2 ^ b.toNat := Int.fdiv_eq_ediv_of_nonneg _ (by exact Int.pow_nonneg (by decide))
  have hpos : (0 : Int) < 2 ^ b.toNat := Int.pow_pos (by decide)
  have h6 : I64 (p / 2 ^ b.toNat) := by
   constructor
   ·rw [Int.le_ediv_iff_mul_le hpos]
    have : (-9223372036854775808 : Int) * 2 ^ b.toNat ≤ -9223372036854775808 * 1 := Int.mul_le_mul_of_nonpos_left (by decide) (show (1 : Int) ≤ 2 ^ b.toNat from hpos)
    omega
   ·by_cases hp : 0 ≤ p
    ·have := Int.ediv_le_self (2 ^ b.toNat) hp
     omega
    ·have : p / 2 ^ b.toNat < 0 := Int.ediv_neg_of_neg_of_pos (by omega) hpos
     omega
  refine ⟨.int .i64 (p / 2 ^ b.toNat), run_kk (k' := .u64) (q := b) e1 rfl ?_, int_holds m h6⟩
  have h1 : ¬ (b < 0) := by omega
  have h2 : min b.toNat IntKind.i64.bits = b.toNat := by show min b.toNat 64 = _; omega
  simp [binOp, Op.shift, h1, h2, e5]
theorem ox_neqU8 {p q : UInt8} (hx : OpdOk x (.val p) lx) (hy : OpdOk y (.val q) ly) : OpX P ⟨dst, .binOp .neq T x y T', ty, pos, af, g⟩ (lx ++ ly) [] (.val (!decide (p = q))) [] [] :=
 OpX.pure fun m w0 w a hw hs ho => by
  refine ⟨.bool (!decide (p = q)), run_kk (holds_u8 (opd_l hx hs)) (holds_u8 (opd_r hy hs)) ?_, bool_holds m _⟩
  have e : ((p.toNat : Int) == (q.toNat : Int)) = decide (p = q) := by
   rw [Bool.eq_iff_iff]
   simp only [beq_iff_eq, decide_eq_true_eq]
   constructor
   ·intro h; exact UInt8.toNat_inj.1 (by omega)
   ·intro h; rw [h]
  simp [binOp, Op.intCmp]
  exact congrArg (!·) e
theorem toList_inj {a b : ByteArray} : (a.toList == b.toList) = decide (a = b) := by
 have e : ∀ s : ByteArray, s.toList = s.data.toList := fun s => by
  first | exact ByteArray.toList_eq s | exact Go.toList_eq s | exact Go.byteArray_toList s
 rw [e, e]
 rw [Bool.eq_iff_iff]
 simp only [beq_iff_eq, decide_eq_true_eq]
 constructor
 ·intro h; exact ByteArray.ext (Array.ext' h)
 ·intro h; rw [h]
theorem run_ss {op : BinOp} {a : Act} {w : World} {p q : ByteArray} (e1 : a.eval x = .string p) (e2 : a.eval y = .string q)
  {v : Value} (hr : (Op.stringOp op p q).run P w = .ok v w) : (execOp a.eval ⟨dst, .binOp op T x y T', ty, pos, af, g⟩).run P w = .ok (.value v) w := by
 have e3 : (eqGuard op T x y (.string p) (.string q)).run P w = .ok () w := by unfold eqGuard; cases op <;> rfl
 have e4 : binOp op T (.string p) (.string q) = Op.stringOp op p q := by cases op <;> rfl
 simp [execOp, e1, e2, e3, e4, hr]
theorem ox_eqlStr {p q : ByteArray} (hx : OpdOk x (.val p) lx) (hy : OpdOk y (.val q) ly) : OpX P ⟨dst, .binOp .eql T x y T', ty, pos, af, g⟩ (lx ++ ly) [] (.val (decide (p = q))) [] [] :=
 OpX.pure fun m w0 w a hw hs ho => ⟨_, run_ss (holds_str (opd_l hx hs)).1 (holds_str (opd_r hy hs)).1 (v := .bool (decide (p = q))) (by simp [Op.stringOp, ← toList_inj]), bool_holds m _⟩
theorem ox_neqStr {p q : ByteArray} (hx : OpdOk x (.val p) lx) (hy : OpdOk y (.val q) ly) : OpX P ⟨dst, .binOp .neq T x y T', ty, pos, af, g⟩ (lx ++ ly) [] (.val (!decide (p = q))) [] [] :=
 OpX.pure fun m w0 w a hw hs ho => ⟨_, run_ss (holds_str (opd_l hx hs)).1 (holds_str (opd_r hy hs)).1 (v := .bool (!decide (p = q))) (by simp [Op.stringOp, ← toList_inj]), bool_holds m _⟩
theorem ox_addStr {p q : ByteArray} (hx : OpdOk x (.val p) lx) (hy : OpdOk y (.val q) ly) (h : p.size + q.size ≤ 9223372036854775807) : OpX P ⟨dst, .binOp .add T x y T', ty, pos, af, g⟩ (lx ++ ly) [] (.val (p ++ q)) [] [] :=
 OpX.pure fun m w0 w a hw hs ho => ⟨_, run_ss (holds_str (opd_l hx hs)).1 (holds_str (opd_r hy hs)).1 (run_string_add_sum w p q h), str_holds m (by rw [ByteArray.size_append]; exact h)⟩
end bin
section cvs
variable {x : Operand} {lx : List (Nat × Desc)} {src T : TypeId} {dst : Option Tmp} {ty : TypeId} {pos : String} {af : Array Edge} {g : Option (Nat × Bool)}
end cvs
section nil
variable {x y : Operand} {lx ly : List (Nat × Desc)} {T T' : TypeId} {dst : Option Tmp} {ty : TypeId} {pos : String} {af : Array Edge} {g : Option (Nat × Bool)}
def slB2 (P : Program) (T : TypeId) : Bool := match P.underlying T with | some (.slice _) => true | _ => false
theorem run_nileq {w : World} {a : Option Addr} {n c : Nat} (h : slB2 P T = true) : (Op.equal T (.slice a n c) (.slice none 0 0)).run P w = .ok a.isNone w := by
 unfold slB2 at h
 split at h
 ·rename_i e he
  exact run_equal_slice_nil w T e a n c he
 ·cases h
theorem exec_nileq {a : Act} {w : World} {ad : Option Addr} {n c : Nat} (h : slB2 P T = true) (e1 : a.eval x = .slice ad n c) (e2 : a.eval y = .slice none 0 0) :
  (execOp a.eval ⟨dst, .binOp .eql T x y T', ty, pos, af, g⟩).run P w = .ok (.value (.bool ad.isNone)) w := by
 have e3 : (eqGuard .eql T x y (.slice ad n c) (.slice none 0 0)).run P w = .ok () w := by unfold eqGuard; rfl
 have e4 : binOp .eql T (.slice ad n c) (.slice none 0 0) = (do pure (.bool (← Op.equal T (.slice ad n c) (.slice none 0 0)))) := rfl
 simp [execOp, e1, e2, e3, e4, run_nileq h]
theorem exec_nilneq {a : Act} {w : World} {ad : Option Addr} {n c : Nat} (h : slB2 P T = true) (e1 : a.eval x = .slice ad n c) (e2 : a.eval y = .slice none 0 0) :
  (execOp a.eval ⟨dst, .binOp .neq T x y T', ty, pos, af, g⟩).run P w = .ok (.value (.bool (!ad.isNone))) w := by
 have e3 : (eqGuard .neq T x y (.slice ad n c) (.slice none 0 0)).run P w = .ok () w := by unfold eqGuard; rfl
 have e4 : binOp .neq T (.slice ad n c) (.slice none 0 0) = (do pure (.bool (!(← Op.equal T (.slice ad n c) (.slice none 0 0))))) := rfl
 simp [execOp, e1, e2, e3, e4, run_nileq h]
theorem ox_isNil {α : Type} [GoTy α] {l : List α} (h : slB2 P T = true) (hx : OpdOk x (.val l) lx) (hy : OpdOk y .nilS ly) :
  OpX P ⟨dst, .binOp .eql T x y T', ty, pos, af, g⟩ (lx ++ ly) [] (.boolOf fun b => b = true → l = []) [] [] :=
 OpX.pure fun m w0 w a hw hs ho => by
  obtain ⟨ad, c, cs, e1, h2, h3, h4, h5, h6⟩ := holds_list (opd_l hx hs)
  have e2 : a.eval y = .slice none 0 0 := opd_r hy hs
  refine ⟨_, exec_nileq h e1 e2, _, fun hb => ?_, rfl⟩
  cases ad with
  | none =>
   have := h5 rfl
   exact List.eq_nil_of_length_eq_zero (by omega)
  | some ad => cases hb
theorem nlist_nil {m : M} {α : Type} [GoTy α] {l : List α} {v : Value} (h : Desc.holds m (.nlist l) v) : ∃ ad n c, v = .slice ad n c ∧ ad.isNone = l.isEmpty := by
 obtain ⟨⟨ad, c, cs, e1, h2, h3, h4, h5, h6⟩, h7⟩ := h
 refine ⟨ad, _, c, e1, ?_⟩
 cases ad with
 | none =>
  have := h5 rfl
  have : l = [] := List.eq_nil_of_length_eq_zero (by omega)
  subst this; rfl
 | some ad =>
  cases l with
  | nil => have := h7 rfl; rw [e1] at this; cases this
  | cons x l => rfl
theorem ox_isNilN {α : Type} [GoTy α] {l : List α} (h : slB2 P T = true) (hx : OpdOk x (.nlist l) lx) (hy : OpdOk y .nilS ly) :
  OpX P ⟨dst, .binOp .eql T x y T', ty, pos, af, g⟩ (lx ++ ly) [] (.val l.isEmpty) [] [] :=
 OpX.pure fun m w0 w a hw hs ho => by
  obtain ⟨ad, n, c, e1, h2⟩ := nlist_nil (opd_l hx hs)
  have e2 : a.eval y = .slice none 0 0 := opd_r hy hs
  refine ⟨_, exec_nileq h e1 e2, ?_⟩
  rw [h2]; exact bool_holds m _
theorem ox_noNilN {α : Type} [GoTy α] {l : List α} (h : slB2 P T = true) (hx : OpdOk x (.nlist l) lx) (hy : OpdOk y .nilS ly) :
  OpX P ⟨dst, .binOp .neq T x y T', ty, pos, af, g⟩ (lx ++ ly) [] (.val (!l.isEmpty)) [] [] :=
 OpX.pure fun m w0 w a hw hs ho => by
  obtain ⟨ad, n, c, e1, h2⟩ := nlist_nil (opd_l hx hs)
  have e2 : a.eval y = .slice none 0 0 := opd_r hy hs
  refine ⟨_, exec_nilneq h e1 e2, ?_⟩
  rw [h2]; exact bool_holds m _
end nil
section pt
variable {w0 : B0} {n : Nat} {σ : St} {Q : Exit → Act → World → Prop}
theorem PT.condB {t : Nat} {x y : Code} (p : Bool → Prop) (hl : look σ.s t = some (.boolOf p)) (h1 : p true → PT w0 n σ (x.wp P Q)) (h2 : p false → PT w0 n σ (y.wp P Q)) :
  PT w0 n σ ((Code.cond (.tmp t) x y).wp P Q) := fun a w ha => by
 have ha' := ha
 obtain ⟨m, e1, e2, e3, e4, e5⟩ := ha'
 obtain ⟨b, hb, hv⟩ := e4 t _ hl
 have hev : a.eval (.tmp t) = .bool b := hv
 exact wp_cond_split hev (fun e => h1 (e ▸ hb) a w ha) (fun e => h2 (e ▸ hb) a w ha)
end pt
section asx
variable {w0 : B0} {n : Nat} {σs : List (Nat × Desc)} {σo : List (Nat × ODesc)} {Q : Act → World → Prop}
theorem fill_set_in {m : M} {off : Nat} (v : Value) : ∀ (hs : List (Nat × Nat)) (cs : List Value), (hs.any fun p => Nat.beq p.1 off) = true → fill m hs (cs.set off v) = fill m hs cs
 | [], cs, h => by simp at h
 | p :: hs, cs, h => by
  show fill m hs ((cs.set off v).set p.1 (one1 (m.sv p.2))) = fill m hs (cs.set p.1 (one1 (m.sv p.2)))
  by_cases e : p.1 = off
  ·rw [e, List.set_set]
  ·rw [List.set_comm _ _ (fun h => e h.symm)]
   refine fill_set_in v hs _ ?_
   have e' : Nat.beq p.1 off = false := by
    cases hb : Nat.beq p.1 off with
    | false => rfl
    | true => exact (e (Nat.eq_of_beq_eq_true hb)).elim
   simpa [e'] using h
theorem PT.holeNil (id : Nat) {α β : Type} [GoTy α] [GoTy β] (L : Lens α (List β)) {x : α} {hs : List (Nat × Nat)} (hl : look σo id = some (.var x hs)) (hin : (hs.any fun p => Nat.beq p.1 L.off) = true)
  (h : PT w0 n ⟨σs, (id, .var (L.set x []) hs) :: σo⟩ Q) : PT w0 n ⟨σs, σo⟩ Q := fun a w ha => by
 refine h a w ?_
 obtain ⟨m, h1, h2, h3, h4, h5⟩ := ha
 refine ⟨m, h1, h2, h3, h4, fun u e he => ?_⟩
 simp only [look] at he
 cases hb : Nat.beq id u with
 | true =>
  have : id = u := Nat.eq_of_beq_eq_true hb
  subst this
  simp only [hb, cond_true, Option.some.injEq] at he
  subst he
  obtain ⟨cs, T, e1, e2, e3⟩ := h5 _ _ hl
  have hle := L.hle
  have hlen := GoTy.len e2
  have hsz : GoTy.sz (List β) = 1 := rfl
  refine ⟨cs.set L.off (.slice none 0 0), T, ?_, ?_, e3⟩
  ·rw [fill_set_in _ _ _ hin]; exact e1
  ·have hr := L.hset e2 (y := ([] : List β)) (us := [.slice none 0 0]) ⟨_, rfl, repS_nil _⟩
   rw [List.set_eq_take_append_cons_drop, if_pos (by omega)]
   rw [hsz] at hr
   simpa using hr
 | false => simp only [hb, cond_false] at he; exact h5 u e he
theorem PT.asNlistNil (t : Nat) (α : Type) [GoTy α] (hl : look σs t = some .nilS) (h : PT w0 n ⟨(t, .nlist ([] : List α)) :: σs, σo⟩ Q) : PT w0 n ⟨σs, σo⟩ Q :=
 PT.as (d' := .nlist ([] : List α)) t hl (fun m v hv => by rw [show v = _ from hv]; exact ⟨repS_nil _, fun _ => rfl⟩) h
theorem PT.asNlist (t : Nat) {α : Type} [GoTy α] {l : List α} (hne : l ≠ []) (hl : look σs t = some (.val l)) (h : PT w0 n ⟨(t, .nlist l) :: σs, σo⟩ Q) : PT w0 n ⟨σs, σo⟩ Q :=
 PT.as (d' := .nlist l) t hl (fun m v hv => ⟨holds_list hv, fun e => absurd e hne⟩) h
theorem PT.ofNlist (t : Nat) {α : Type} [GoTy α] {l : List α} (hl : look σs t = some (.nlist l)) (h : PT w0 n ⟨(t, .val l) :: σs, σo⟩ Q) : PT w0 n ⟨σs, σo⟩ Q :=
 PT.as (d' := .val l) t hl (fun m v hv => list_holds hv.1) h
end asx
section mm
variable {x y : Operand} {lx ly : List (Nat × Desc)} {p q : Int} {ats : Array TypeId} {dst : Option Tmp} {ty : TypeId} {pos : String} {af : Array Edge} {g : Option (Nat × Bool)}
theorem ox_min (hx : OpdOk x (.val p) lx) (hy : OpdOk y (.val q) ly) : OpX P ⟨dst, .call ⟨.builtin .min, #[x, y], ats⟩, ty, pos, af, g⟩ (lx ++ ly) [] (.val (if q < p then q else p)) [] [] :=
 OpX.pure fun m w0 w a hw hs ho => by
  obtain ⟨e1, h1⟩ := holds_int (opd_l hx hs)
  obtain ⟨e2, h2⟩ := holds_int (opd_r hy hs)
  refine ⟨.int .i64 (if q < p then q else p), ?_, int_holds m (by split <;> assumption)⟩
  simp [execOp, resolve, invoke, builtin, e1, e2, Builtin.min_, Builtin.min2]
theorem ox_max (hx : OpdOk x (.val p) lx) (hy : OpdOk y (.val q) ly) : OpX P ⟨dst, .call ⟨.builtin .max, #[x, y], ats⟩, ty, pos, af, g⟩ (lx ++ ly) [] (.val (if p < q then q else p)) [] [] :=
 OpX.pure fun m w0 w a hw hs ho => by
  obtain ⟨e1, h1⟩ := holds_int (opd_l hx hs)
  obtain ⟨e2, h2⟩ := holds_int (opd_r hy hs)
  refine ⟨.int .i64 (if p < q then q else p), ?_, int_holds m (by split <;> assumption)⟩
  simp [execOp, resolve, invoke, builtin, e1, e2, Builtin.max_, Builtin.max2]
end mm
end
end Go.Gx
end
section
namespace Go.Gx
open Go.RowKit Sp
section
variable {P : Program}
@[reducible] def fnV (f : FuncId) : Value := .func (.func f) #[] #[]
def mget : List (Int × Value) → Int → Option Value
 | [], _ => none
 | p :: l, k => if k = p.1 then some p.2 else mget l k
def mset : List (Int × Value) → Int → Value → List (Int × Value)
 | [], k, v => [(k, v)]
 | p :: l, k, v => if k = p.1 then (k, v) :: l else p :: mset l k v
def mpB (P : Program) (T : TypeId) : Bool := match P.underlying T with | some (.map k _) => (match P.underlying k with | some (.int _) => true | _ => false) | _ => false
theorem mpB_inv {T : TypeId} (h : mpB P T = true) : ∃ k e ik, P.underlying T = some (.map k e) ∧ P.underlying k = some (.int ik) := by
 unfold mpB at h
 split at h
 ·rename_i k e he
  split at h
  ·rename_i ik hk; exact ⟨k, e, ik, he, hk⟩
  ·cases h
 ·cases h
theorem ox_makeMap {T id : Nat} {dst ty pos af g} : OpX P ⟨dst, .makeMap T none, ty, pos, af, g⟩ [] [] (.mp id) [(id, .imap [])] [id] := by
 refine OpX.turn fun m w0 w a hw hs ho => ?_
 refine ⟨.map (some w.heap.size), w.alloc (.map #[] 0), m.new id w.heap.size (.map (some w.heap.size)), .inl rfl, hw.new _ _ _, Chg.new hw _ _ _, by simp [Desc.holds, M.new], fun id' e he => ?_⟩
 obtain ⟨rfl, rfl⟩ := look_one he
 exact ⟨#[], 0, by simpa [M.new] using heap_new w (.map #[] 0), rfl, by simp [M.new]⟩
open Instr in
theorem findNow_spec (ik : IntKind) (k : Int) : ∀ (es : List MapEntry) (kv : List (Int × Value)) (i : Nat), es.map (fun e => (e.key, e.val)) = kv.map (fun p => (.int .i64 p.1, p.2)) →
  (mget kv k = none ∧ findNow (.int ik) (.int .i64 k) es i = some none ∧ mset kv k = fun v => kv ++ [(k, v)]) ∨
  ∃ j v, mget kv k = some v ∧ findNow (.int ik) (.int .i64 k) es i = some (some (i + j, v)) ∧ j < es.length ∧ (∃ e, es[j]? = some e ∧ e.key = .int .i64 k) ∧ ∀ u, ((es.modify j fun e => { e with key := .int .i64 k, val := u }).map fun e => (e.key, e.val)) = (mset kv k u).map (fun p => (.int .i64 p.1, p.2))
 | [], [], i, _ => .inl ⟨rfl, rfl, rfl⟩
 | [], p :: kv, i, h => by simp at h
 | e :: es, [], i, h => by simp at h
 | e :: es, p :: kv, i, h => by
  simp only [List.map_cons, List.cons.injEq, Prod.mk.injEq] at h
  obtain ⟨⟨h1, h2⟩, h3⟩ := h
  by_cases hk : k = p.1
  ·right
   refine ⟨0, e.val, by simp [mget, hk, h2], ?_, by simp, ⟨e, by simp, by rw [h1, hk]⟩, fun u => ?_⟩
   ·simp [findNow, sameNow, h1, hk]
   ·subst hk
    simp [mset, h3]
  ·have hne : (k == p.1) = false := by simpa using hk
   rcases findNow_spec ik k es kv (i + 1) h3 with ⟨h4, h5, h6⟩ | ⟨j, v, h4, h5, h6, ⟨e', h7, h9⟩, h8⟩
   ·left
    refine ⟨by simp [mget, hk, h4], by simp [findNow, sameNow, h1, hne, h5], ?_⟩
    funext v
    simp [mset, hk, h6]
   ·right
    refine ⟨j + 1, v, by simp [mget, hk, h4], ?_, by simpa using h6, ⟨e', by simpa using h7, h9⟩, fun u => ?_⟩
    ·simp only [findNow, sameNow, h1, hne, if_true, h5]
     congr 3; omega
    ·simp [mset, hk, h1, h2, h8 u]
theorem run_checkInt {t : TypeId} {ik : IntKind} (h : P.underlying t = some (.int ik)) (w : World) (b : Bool) (n : Nat) (v : Value) : (Instr.checkKey b (n + 1) t v).run P w = .ok () w := by
 simp [Instr.checkKey, run_underlying h]
theorem WOK.obj {w0 : B0} {w : World} {m : M} (h : WOK w0 m w) {g id : Nat} (ho : m.own g = some id) (o : Obj) : WOK w0 m { w with heap := w.heap.setIfInBounds g o } := by
 have hoth : ∀ b, b ≠ g → (w.heap.setIfInBounds g o)[b]? = w.heap[b]? := fun b hb => by rw [Array.getElem?_setIfInBounds_ne (Ne.symm hb)]
 refine ⟨?_, h.old, ?_, ?_, h.apart⟩
 ·refine h.below.trans ⟨rfl, rfl, rfl, by simp, fun k hk hb => ?_⟩
  refine hoth k (fun e => ?_)
  subst e
  rcases (h.own k id ho).1 with h1 | h1
  ·omega
  ·rw [hb] at h1; cases h1
 ·intro b o' u hu
  have h1 := h.on b o' u hu
  have hne : b ≠ g := fun e => by subst e; rw [h.apart b id ho o'] at hu; cases hu
  rw [← h1]
  exact World.cell?_of_block (a := ⟨b, o', none⟩) (hoth b hne)
 ·intro b k hb
  have := h.own b k hb
  exact ⟨this.1, by simpa using this.2⟩
theorem Chg.obj {w : World} {m : M} {g id : Nat} (ho : m.own g = some id) (o : Obj) : Chg [] [id] m w m { w with heap := w.heap.setIfInBounds g o } := by
 refine ⟨⟨PH.le_refl _, fun _ _ => rfl, fun _ _ => rfl⟩, fun b k hb hk => ⟨?_, hb⟩, fun _ _ => rfl⟩
 show (w.heap.setIfInBounds g o)[b]? = _
 rw [Array.getElem?_setIfInBounds_ne]
 intro e; subst e; rw [ho] at hb; cases hb; simp at hk
theorem OpdOk.funcV {f : FuncId} : OpdOk (.func f) (.raw (fnV f)) [] := fun m a _ => rfl
theorem run_mapSet {T : TypeId} (h : mpB P T = true) {w : World} {g : Nat} {es : Array MapEntry} {clock : Nat} (hg : w.heap[g]? = some (.map es clock)) {kv : List (Int × Value)} (hkv : es.toList.map (fun e => (e.key, e.val)) = kv.map (fun p => (.int .i64 p.1, p.2))) (k : Int) (v : Value) :
  ∃ es' clock', (Instr.mapUpdate T (.map (some g)) (.int .i64 k) v).run P w = .ok () { w with heap := w.heap.setIfInBounds g (.map es' clock') } ∧ es'.toList.map (fun e => (e.key, e.val)) = (mset kv k v).map (fun p => (.int .i64 p.1, p.2)) := by
 obtain ⟨kt, e, ik, h1, h2⟩ := mpB_inv h
 have hget := MapKept.run_getObj_map (P := P) hg
 have hchk := run_checkInt h2 w false 9999 (.int .i64 k)
 rcases findNow_spec ik k es.toList kv 0 hkv with ⟨h3, h4, h5⟩ | ⟨j, u, h3, h4, h5, ⟨e', h6, h7⟩, h8⟩
 ·have hfind : (Instr.findKey kt (.int .i64 k) es.toList).run P w = .ok none w := by simp [Instr.findKey, run_underlying h2, h4]
  refine ⟨es.push { key := .int .i64 k, val := v, born := clock }, clock + 1, ?_, ?_⟩
  ·simp only [Instr.mapUpdate, Sem.run_bind, run_underlying h1, Result.andThen_ok, hget, hchk, hfind]
   exact MapKept.run_setObj_map _ hg
  ·rw [h5]; simp [hkv]
 ·have hfind : (Instr.findKey kt (.int .i64 k) es.toList).run P w = .ok (some (j, u)) w := by simp [Instr.findKey, run_underlying h2, h4]
  have hstay : (Instr.keyThatStays (((es[j]?).map (·.key)).getD (.int .i64 k)) (.int .i64 k)).run P w = .ok (.int .i64 k) w := by
   have e1 : es[j]? = some e' := by simpa using h6
   rw [e1]
   simp [Instr.keyThatStays, h7, Instr.sameBits]
  refine ⟨es.modify j fun e => { e with key := .int .i64 k, val := v }, clock, ?_, ?_⟩
  ·simp only [Instr.mapUpdate, Sem.run_bind, run_underlying h1, Result.andThen_ok, hget, hchk, hfind, hstay]
   exact MapKept.run_setObj_map _ hg
  ·rw [Array.toList_modify]; exact h8 v
theorem ox_insert {T s id : Nat} {kv : List (Int × Value)} {key x : Operand} {lk lx : List (Nat × Desc)} {k : Int} {v : Value} {ty pos af g} (h : mpB P T = true) (hk : OpdOk key (.val k) lk) (hx : OpdOk x (.raw v) lx) :
  OpX P ⟨none, .insert T (.tmp s) key x, ty, pos, af, g⟩ ((s, .mp id) :: (lk ++ lx)) [(id, .imap kv)] .any [(id, .imap (mset kv k v))] [] := by
 refine OpX.turn fun m w0 w a hw hs ho => ?_
 have e1 : a.eval (.tmp s) = .map (some (m.blk id)) := hs (s, .mp id) (by simp)
 have e2 := (holds_int (hk m a fun p hp => hs p (by simp [hp]))).1
 have e3 : a.eval x = v := hx m a fun p hp => hs p (by simp [hp])
 obtain ⟨es, clock, h1, h2, h3⟩ := ho (id, .imap kv) (by simp)
 obtain ⟨es', clock', h4, h5⟩ := run_mapSet h h1 h2 k v
 refine ⟨undef, _, m, .inr ⟨by simp only [execOp, e1, e2, e3, Sem.run_bind, h4, Result.andThen_ok]; rfl, rfl⟩, hw.obj h3 _, Chg.obj h3 _, trivial, fun id' e he => ?_⟩
 obtain ⟨rfl, rfl⟩ := look_one he
 have hlt := (hw.own _ _ h3).2
 exact ⟨es', clock', by simp [hlt], h5, h3⟩
theorem run_mapGet {T kt e : TypeId} {ik : IntKind} (h1 : P.underlying T = some (.map kt e)) (h2 : P.underlying kt = some (.int ik)) {w : World} {g : Nat} {es : Array MapEntry} {clock : Nat} (hg : w.heap[g]? = some (.map es clock)) {kv : List (Int × Value)} (hkv : es.toList.map (fun e => (e.key, e.val)) = kv.map (fun p => (.int .i64 p.1, p.2))) (k : Int) :
  (Instr.findKey kt (.int .i64 k) es.toList).run P w = .ok none w ∧ mget kv k = none ∨ ∃ j v, (Instr.findKey kt (.int .i64 k) es.toList).run P w = .ok (some (j, v)) w ∧ mget kv k = some v := by
 rcases findNow_spec ik k es.toList kv 0 hkv with ⟨h3, h4, h5⟩ | ⟨j, u, h3, h4, h5, ⟨e', h6, h7⟩, h8⟩
 ·exact .inl ⟨by simp [Instr.findKey, run_underlying h2, h4], h3⟩
 ·exact .inr ⟨j, u, by simp [Instr.findKey, run_underlying h2, h4], h3⟩
def mpZ (P : Program) (T : TypeId) (z : Value) : Bool := match P.underlying T with | some (.map k e) => (match P.underlying k with | some (.int _) => true | _ => false) && (match (P.info? e).bind (·.zero) with | some (.bool b) => (match z with | .bool c => b == c | _ => false) | some .nilFunc => (match z with | .nilFunc => true | _ => false) | _ => false) | _ => false
theorem mpZ_inv {T : TypeId} {z : Value} (h : mpZ P T z = true) : ∃ k e ik, P.underlying T = some (.map k e) ∧ P.underlying k = some (.int ik) ∧ ∀ w : World, (zeroValue e).run P w = .ok z w := by
 unfold mpZ at h
 split at h
 ·rename_i k e he
  simp only [Bool.and_eq_true] at h
  obtain ⟨h1, h2⟩ := h
  split at h1
  ·rename_i ik hk
   refine ⟨k, e, ik, he, hk, fun w => ?_⟩
   have hz : (P.info? e).bind (·.zero) = some z := by
    split at h2
    ·rename_i b hb
     split at h2
     ·simp only [beq_iff_eq] at h2; rw [hb, h2]
     ·cases h2
    ·rename_i hb
     split at h2
     ·exact hb
     ·cases h2
    ·cases h2
   cases hq : P.info? e with
   | none => simp [hq] at hz
   | some i => simp [hq] at hz; simp [zeroValue, typeInfo, hq, hz]
  ·cases h1
 ·cases h
section lk
variable {T s id : Nat} {kv : List (Int × Value)} {key : Operand} {lk : List (Nat × Desc)} {k : Int} {dst : Option Tmp} {ty : TypeId} {pos : String} {af : Array Edge} {g : Option (Nat × Bool)}
theorem ox_lookup_fn {f : FuncId} (h : mpZ P T .nilFunc = true) (hk : OpdOk key (.val k) lk) (hv : mget kv k = some (fnV f)) :
  OpX P ⟨dst, .lookup T (.tmp s) key true, ty, pos, af, g⟩ ((s, .mp id) :: lk) [(id, .imap kv)] (.tup [.clo f [], .val true]) [] [] := by
 refine OpX.pure fun m w0 w a hw hs ho => ?_
 have e1 : a.eval (.tmp s) = .map (some (m.blk id)) := hs (s, .mp id) (by simp)
 have e2 := (holds_int (hk m a fun p hp => hs p (by simp [hp]))).1
 obtain ⟨es, clock, h1, h2, h3⟩ := ho (id, .imap kv) (by simp)
 obtain ⟨kt, e, ik, h4, h5, h6⟩ := mpZ_inv h
 have hget := MapKept.run_getObj_map (P := P) h1
 rcases run_mapGet h4 h5 h1 h2 k with ⟨_, h7⟩ | ⟨j, v, h7, h8⟩
 ·rw [hv] at h7; cases h7
 ·rw [hv] at h8; cases h8
  have hchk := run_checkInt h5 w es.isEmpty 9999 (.int .i64 k)
  refine ⟨.tuple #[fnV f, .bool true], ?_, [fnV f, .bool true], rfl, _, _, rfl, ⟨[], rfl, rfl⟩, _, _, rfl, bool_holds m true, rfl⟩
  simp [execOp, e1, e2, Instr.lookup, run_underlying h4, hget, hchk, h7]
theorem ox_lookup_noFn (h : mpZ P T .nilFunc = true) (hk : OpdOk key (.val k) lk) (hv : mget kv k = none) :
  OpX P ⟨dst, .lookup T (.tmp s) key true, ty, pos, af, g⟩ ((s, .mp id) :: lk) [(id, .imap kv)] (.tup [.any, .val false]) [] [] := by
 refine OpX.pure fun m w0 w a hw hs ho => ?_
 have e1 : a.eval (.tmp s) = .map (some (m.blk id)) := hs (s, .mp id) (by simp)
 have e2 := (holds_int (hk m a fun p hp => hs p (by simp [hp]))).1
 obtain ⟨es, clock, h1, h2, h3⟩ := ho (id, .imap kv) (by simp)
 obtain ⟨kt, e, ik, h4, h5, h6⟩ := mpZ_inv h
 have hget := MapKept.run_getObj_map (P := P) h1
 rcases run_mapGet h4 h5 h1 h2 k with ⟨h7, _⟩ | ⟨j, v, h7, h8⟩
 ·have hchk := run_checkInt h5 w es.isEmpty 9999 (.int .i64 k)
  refine ⟨.tuple #[.nilFunc, .bool false], ?_, [.nilFunc, .bool false], rfl, _, _, rfl, trivial, _, _, rfl, bool_holds m false, rfl⟩
  simp [execOp, e1, e2, Instr.lookup, run_underlying h4, hget, hchk, h7, h6]
 ·rw [hv] at h8; cases h8
def bk (l : List Int) : List (Int × Value) := l.map fun k => (k, .bool true)
theorem mget_bk (l : List Int) (k : Int) : mget (bk l) k = if k ∈ l then some (.bool true) else none := by
 induction l with
 | nil => rfl
 | cons x l ih =>
  by_cases h : k = x
  ·simp [bk, mget, h]
  ·have : mget (bk (x :: l)) k = mget (bk l) k := by simp [bk, mget, h]
   rw [this, ih]; simp [h]
theorem mset_bk (l : List Int) (k : Int) : mset (bk l) k (.bool true) = bk (if k ∈ l then l else l ++ [k]) := by
 induction l with
 | nil => rfl
 | cons x l ih =>
  by_cases h : k = x
  ·simp [bk, mset, h]
  ·have : mset (bk (x :: l)) k (.bool true) = (x, .bool true) :: mset (bk l) k (.bool true) := by simp [bk, mset, h]
   rw [this, ih]
   by_cases h2 : k ∈ l
   ·simp [h, h2, bk]
   ·simp [h, h2, bk]
theorem ox_lookupB {l : List Int} (h : mpZ P T (.bool false) = true) (hk : OpdOk key (.val k) lk) :
  OpX P ⟨dst, .lookup T (.tmp s) key false, ty, pos, af, g⟩ ((s, .mp id) :: lk) [(id, .imap (bk l))] (.val (decide (k ∈ l))) [] [] := by
 refine OpX.pure fun m w0 w a hw hs ho => ?_
 have e1 : a.eval (.tmp s) = .map (some (m.blk id)) := hs (s, .mp id) (by simp)
 have e2 := (holds_int (hk m a fun p hp => hs p (by simp [hp]))).1
 obtain ⟨es, clock, h1, h2, h3⟩ := ho (id, .imap (bk l)) (by simp)
 obtain ⟨kt, e, ik, h4, h5, h6⟩ := mpZ_inv h
 have hget := MapKept.run_getObj_map (P := P) h1
 have hchk := run_checkInt h5 w es.isEmpty 9999 (.int .i64 k)
 refine ⟨.bool (decide (k ∈ l)), ?_, bool_holds m _⟩
 rcases run_mapGet h4 h5 h1 h2 k with ⟨h7, h8⟩ | ⟨j, v, h7, h8⟩
 ·rw [mget_bk] at h8
  have hn : k ∉ l := fun hm => by rw [if_pos hm] at h8; cases h8
  simp [execOp, e1, e2, Instr.lookup, run_underlying h4, hget, hchk, h7, h6, hn]
 ·rw [mget_bk] at h8
  by_cases hm : k ∈ l
  ·rw [if_pos hm] at h8; cases h8
   simp [execOp, e1, e2, Instr.lookup, run_underlying h4, hget, hchk, h7, hm]
  ·rw [if_neg hm] at h8; cases h8
end lk
theorem ox_makeSet {T id : Nat} {dst ty pos af g} : OpX P ⟨dst, .makeMap T none, ty, pos, af, g⟩ [] [] (.mp id) [(id, .imap (bk []))] [id] := ox_makeMap
theorem ox_insertB {T s id : Nat} {l : List Int} {key x : Operand} {lk : List (Nat × Desc)} {k : Int} {ty pos af g} (h : mpB P T = true) (hk : OpdOk key (.val k) lk) :
  OpX P ⟨none, .insert T (.tmp s) key (.const (.bool true)), ty, pos, af, g⟩ ((s, .mp id) :: (lk ++ [])) [(id, .imap (bk l))] .any [(id, .imap (bk (if k ∈ l then l else l ++ [k])))] [] := by
 rw [← mset_bk]; exact ox_insert h hk OpdOk.raw
theorem ox_updB {T s id : Nat} {l : List Int} {key x : Operand} {lk : List (Nat × Desc)} {k : Int} {ty pos af g} (h : mpB P T = true) (hk : OpdOk key (.val k) lk) :
  OpX P ⟨none, .mapUpdate T (.tmp s) key (.const (.bool true)), ty, pos, af, g⟩ ((s, .mp id) :: (lk ++ [])) [(id, .imap (bk l))] .any [(id, .imap (bk (if k ∈ l then l else l ++ [k])))] [] := by
 have h0 : OpX P ⟨none, .insert T (.tmp s) key (.const (.bool true)), ty, pos, af, g⟩ ((s, .mp id) :: (lk ++ [])) [(id, .imap (bk l))] .any [(id, .imap (bk (if k ∈ l then l else l ++ [k])))] [] := ox_insertB (x := key) h hk
 exact h0
theorem ox_lenSet {T id s : Nat} {l : List Int} {dst ty pos af g} (h : mpB P T = true) (hl : l.length ≤ 9223372036854775807) : OpX P ⟨dst, .call ⟨.builtin .len, #[.tmp s], #[T]⟩, ty, pos, af, g⟩ [(s, .mp id)] [(id, .imap (bk l))] (.val (l.length : Int)) [] [] := by
 refine OpX.pure fun m w0 w a hw hs ho => ?_
 have e1 : a.eval (.tmp s) = .map (some (m.blk id)) := hs (s, .mp id) (by simp)
 obtain ⟨es, clock, h1, h2, h3⟩ := ho (id, .imap (bk l)) (by simp)
 obtain ⟨kt, e, ik, h4, h5⟩ := mpB_inv h
 have hget := MapKept.run_getObj_map (P := P) h1
 have hlen : es.size = l.length := by
  have := congrArg List.length h2
  simpa [bk] using this
 refine ⟨.int .i64 l.length, ?_, int_holds m ⟨by omega, ?_⟩⟩
 ·simp [execOp, resolve, invoke, builtin, e1, Builtin.len_, run_underlying h4, hget, goInt, hlen]
 ·omega
end
end Go.Gx
end
section
namespace Go.Gx
open Go.RowKit
open Sp (RP)
section
variable {P : Program} {ops : Array Oper} {w0 : B0} {n : Nat} {σs : List (Nat × Desc)} {σo : List (Nat × ODesc)} {Q : Exit → Act → World → Prop}
theorem Ops.putW {o : Oper} {l : List Oper} {t : Nat} {rs : List (Nat × Desc)} {ro : List (Nat × ODesc)} {d : Desc} (hg : o.guard = none) (hd : o.dst = some t) (h : OpXW w0 P o rs ro d [] []) (hr : OkL σs rs) (ho : OkL σo ro)
  (hn : decide (t < n) = true) (k : Ops P ops w0 n l ⟨(t, d) :: σs, σo⟩ Q) : Ops P ops w0 n (o :: l) ⟨σs, σo⟩ Q :=
 Ops.consW (StepW.put hg hd h) ⟨hr, ho⟩ rfl (by simpa using hn) k
end
section
variable {P : Program}
def Keeping (G : World → Prop) : Prop := ∀ w w', Below w.heap.size w w' → G w → G w'
structure FnG (P : Program) (G : World → Prop) (f : FuncId) (ds : List Desc) (r : Desc) : Prop where
 callee : Callee P f
 cleanA : Desc.cleanL ds = true
 cleanR : r.clean = true
 run : ∀ (ph : PH) (w : World) (vs : List Value), ph.on w → G w → Desc.holdsL (base ph) ds vs →
  Calls P f vs.toArray w (fun e w' => ∃ v, e = .returned v ∧ Below w.heap.size w w' ∧ r.holds (base (extPH ph w w')) v)
theorem run_callK {f : FuncId} {xs : List Operand} {ats : Array TypeId} {dst ty pos af g} (h : Callee P f) (a : Act) (w : World) :
  (execOp a.eval ⟨dst, .call ⟨.value (.func f), xs.toArray, ats⟩, ty, pos, af, g⟩).run P w = .ok (.enter f (xs.map a.eval).toArray) w := by
 have e : a.eval (.func f) = .func (.func f) #[] #[] := rfl
 simp only [execOp, resolve, Sem.run_bind, e, Deferred.ofValue, Sem.run_pure, Result.andThen_ok, invoke]
 rw [run_call h]
 simp
theorem ox_enterW {G : World → Prop} (hK : Keeping G) {w0 : B0} (hbw : w0.brw = fun _ => false) (hG : G w0.toWorld) {o : Oper} {f : FuncId} {rs : List (Nat × Desc)} {ds : List Desc} {r : Desc} (hF : FnG P G f ds r)
  (h : ∀ (m : M) (w : World) (a : Act), (∀ p ∈ rs, p.2.holds m (a.tmps.getD p.1 undef)) → ∃ vs : List Value, (execOp a.eval o).run P w = .ok (.enter f vs.toArray) w ∧ Desc.holdsL m ds vs) : OpXW w0 P o rs [] r [] [] := by
 intro m w a hw hs ho K Q hk
 have hGw : G w := by
  have := hw.below
  rw [hbw] at this
  exact hK _ _ this.plain hG
 obtain ⟨vs, h1, h2⟩ := h m w a hs
 show o.upon P a K Q _
 rw [h1]
 have h3 : Desc.holdsL (base m.ph) ds vs := Desc.holdsL_clean (m := m) (m' := base m.ph) (PH.le_refl _) ds vs hF.cleanA h2
 refine (hF.run m.ph w vs hw.on hGw h3).mono fun e w' he => ?_
 obtain ⟨v, rfl, hb, hr⟩ := he
 exact hk v w' (m.more w w') (hw.more hb) (Chg.more hw hb _) (Desc.holds_clean (m := base (extPH m.ph w w')) (m' := m.more w w') (PH.le_refl _) r v hF.cleanR hr) (fun id e hu => by cases hu)
theorem ox_callW {G : World → Prop} (hK : Keeping G) {w0 : B0} (hbw : w0.brw = fun _ => false) (hG : G w0.toWorld) {f : FuncId} {xs : List Operand} {ds : List Desc} {r : Desc} {l : List (Nat × Desc)} {ats : Array TypeId} {dst ty pos af g} (hF : FnG P G f ds r) (hA : Args xs ds l) :
  OpXW w0 P ⟨dst, .call ⟨.value (.func f), xs.toArray, ats⟩, ty, pos, af, g⟩ l [] r [] [] :=
 ox_enterW hK hbw hG hF fun m w a hs => ⟨xs.map a.eval, run_callK hF.callee a w, hA.holds hs⟩
theorem FnG.mk' {G : World → Prop} {f : FuncId} {fn : Func} {c : Code} {ds : List Desc} {r : Desc} (hf : P.funcs[f]? = some fn) (hb : fn.body = some c) (hname : (fn.name == "runtime.NumGoroutine") = false)
  (hA : Desc.cleanL ds = true) (hR : r.clean = true) (hl : decide (ds.length ≤ fn.ntmps) = true) (h : ∀ w0 : B0, w0.brw = (fun _ => false) → G w0.toWorld → PT w0 fn.ntmps ⟨enumD 0 ds, []⟩ (c.wp P (bodyPost P fn (RetOf w0 r)))) : FnG P G f ds r := by
 refine ⟨⟨fn, hf, hname, by rw [hb]; rfl⟩, hA, hR, fun ph w vs hon hG hvs => ?_⟩
 refine (calls_of_wp hf hb (h ⟨w, ph, fun _ => false⟩ rfl hG _ w ?_)).mono fun e w' he => he
 have hlen := holdsL_len hvs
 have hl' := of_decide_eq_true hl
 refine ⟨base ph, ⟨BelowX.refl _ _ _, fun _ _ _ _ _ h => h, hon, fun b id h => (by cases h), fun b id h => (by cases h)⟩, rfl, by simp; omega, fun t d ht => ?_, fun id d hd => by cases hd⟩
 obtain ⟨h1, h2⟩ := look_enumD ds 0 t d ht
 obtain ⟨v, h3, h4⟩ := holdsL_get ds vs t d hvs (by simpa using h2)
 have ht' : t < vs.length := (List.getElem?_eq_some_iff.1 h3).1
 have : (vs.toArray ++ Array.replicate (fn.ntmps - vs.toArray.size) undef).getD t undef = v := by
  rw [Array.getD_eq_getD_getElem?, Array.getElem?_append_left (by simpa using ht')]
  simp [h3]
 rw [this]; exact h4
theorem PT.pinB {w0 : B0} {n : Nat} {σs : List (Nat × Desc)} {σo : List (Nat × ODesc)} {Q : Act → World → Prop} (id j : Nat) (h : ∀ b sv, PT w0 n ⟨σs, (j, .pin id b sv) :: σo⟩ Q) : PT w0 n ⟨σs, σo⟩ Q := fun a w ha => by
 obtain ⟨m, h1, h2, h3, h4, h5⟩ := ha
 refine h (m.blk id) (m.sv id) a w ⟨m, h1, h2, h3, h4, fun k d hl => ?_⟩
 simp only [look] at hl
 cases hb : Nat.beq j k with
 | true => simp only [hb, cond_true, Option.some.injEq] at hl; subst hl; exact ⟨rfl, rfl⟩
 | false => simp only [hb, cond_false] at hl; exact h5 k d hl
instance instEr : GoTy Sp.Er where
 sz := 1
 agg := false
 rep _ x vs := (x.bad = true ∧ ∃ te pe, vs = [.iface te pe]) ∨ (x.bad = false ∧ vs = [.nilIface])
 len h := by
  rcases h with ⟨_, te, pe, h⟩ | ⟨_, h⟩ <;> simp [h]
 mono _ h := h
 one h v hv := by
  rcases h with ⟨_, te, pe, h⟩ | ⟨_, h⟩ <;> (simp [h] at hv; subst hv; rfl)
 single _ := rfl
 pos := by decide
theorem ox_neqEr {T T' : TypeId} {x : Operand} {lx : List (Nat × Desc)} {e : Sp.Er} {dst ty pos af g} (h : P.underlying T = some (.interface (P.methodsAt T))) (hx : OpdOk x (.val e) lx) :
  OpX P ⟨dst, .binOp .neq T x (.const .nilIface) T', ty, pos, af, g⟩ lx [] (.val e.bad) [] [] := by
 refine OpX.pure fun m w0 w a hw hs ho => ⟨.bool e.bad, ?_, bool_holds m _⟩
 obtain ⟨vs, h1, h2⟩ := hx m a hs
 have e2 : a.eval (.const .nilIface) = .nilIface := rfl
 rcases h1 with ⟨hb, te, pe, h1⟩ | ⟨hb, h1⟩
 ·subst h1
  have e1 : a.eval x = .iface te pe := h2
  have e3 : (eqGuard .neq T x (.const .nilIface) (.iface te pe) .nilIface).run P w = .ok () w := rfl
  simp [execOp, e1, e2, e3, run_neq_held_nil w T te pe h, hb]
 ·subst h1
  have e1 : a.eval x = .nilIface := h2
  have e3 : (eqGuard .neq T x (.const .nilIface) .nilIface .nilIface).run P w = .ok () w := by simp [eqGuard]
  simp [execOp, e1, e2, e3, run_neq_nil_nil w T h, hb]
instance instRP {b : Nat} : GoTy (RP b) where
 sz := 1
 agg := false
 rep _ x vs := vs = [.pointer (if x.o < 4 then some ⟨b, x.o, none⟩ else none)]
 len h := by simp [h]
 mono _ h := h
 one h v hv := by simp [h] at hv; subst hv; rfl
 single _ := rfl
 pos := by decide
theorem holds_rp {b : Nat} {m : M} {x : RP b} {v : Value} (h : Desc.holds m (.val x) v) (ho : x.o < 4) : v = .pointer (some ⟨b, x.o, none⟩) := by
 obtain ⟨vs, h1, h2⟩ := h
 have h1' : vs = [.pointer (if x.o < 4 then some ⟨b, x.o, none⟩ else none)] := h1
 subst h1'
 rw [if_pos ho] at h2
 exact h2
theorem rp_holds {b o : Nat} (m : M) (ho : o < 4) : Desc.holds m (.val (⟨o⟩ : RP b)) (.pointer (some ⟨b, o, none⟩)) :=
 ⟨[.pointer (some ⟨b, o, none⟩)], (by show _ = [Value.pointer (if o < 4 then some ⟨b, o, none⟩ else none)]; rw [if_pos ho]), rfl⟩
theorem ox_nilCheck_rp {s b : Nat} {x : RP b} {dst ty pos af g} (ho : x.o < 4) : OpX P ⟨dst, .nilCheck (.tmp s), ty, pos, af, g⟩ [(s, .val x)] [] (.val x) [] [] := by
 refine OpX.pure fun m w0 w a hw hs _ => ?_
 have e1 : a.eval (.tmp s) = .pointer (some ⟨b, x.o, none⟩) := holds_rp (hs (s, .val x) (by simp)) ho
 exact ⟨.pointer (some ⟨b, x.o, none⟩), by simp [execOp, e1], rp_holds m ho⟩
theorem ox_fieldAddr_rp {T k s b o sz : Nat} {agg : Bool} {dst ty pos af g} (h : fldB P T k o sz agg = true) (ho : decide (o < 4) = true) :
  OpX P ⟨dst, .fieldAddr T (.tmp s) k, ty, pos, af, g⟩ [(s, .val (⟨0⟩ : RP b))] [] (.val (⟨o⟩ : RP b)) [] [] := by
 refine OpX.pure fun m w0 w a hw hs _ => ?_
 have e1 : a.eval (.tmp s) = .pointer (some ⟨b, 0, none⟩) := holds_rp (x := (⟨0⟩ : RP b)) (hs (s, Desc.val (⟨0⟩ : RP b)) (List.mem_cons_self ..)) (show 0 < 4 by decide)
 refine ⟨.pointer (some ⟨b, 0 + o, none⟩), by simp [execOp, e1, run_fieldAt h], ?_⟩
 rw [Nat.zero_add]
 exact rp_holds m (of_decide_eq_true ho)
def Gc (b o : Nat) (n : Int) (w : World) : Prop := w.cell? ⟨b, o, none⟩ = some (.int .i64 n) ∧ I64 n
theorem keep_gc (b o : Nat) (n : Int) : Keeping (Gc b o n) := fun w w' h ⟨h1, h2⟩ => ⟨by
 rw [← h1]
 exact World.cell?_of_block (a := ⟨b, o, none⟩) (h.block b (by have := World.block_lt_of_cell? _ _ h1; simpa using this)), h2⟩
theorem OpXW.pure {w0 : B0} {o : Oper} {rs : List (Nat × Desc)} {ro : List (Nat × ODesc)} {d : Desc}
  (h : ∀ (m : M) (w : World) (a : Act), WOK w0 m w → (∀ p ∈ rs, p.2.holds m (a.tmps.getD p.1 undef)) → (∀ p ∈ ro, p.2.holds m w0.heap.size w p.1) →
   ∃ v, (execOp a.eval o).run P w = .ok (.value v) w ∧ d.holds m v) : OpXW w0 P o rs ro d [] [] := by
 intro m w a hw hs ho K Q hk
 obtain ⟨v, h1, h2⟩ := h m w a hw hs ho
 show o.upon P a K Q _
 rw [h1]
 exact hk v w m hw (Chg.refl _ _ _) h2 (fun id e hu => by cases hu)
theorem ox_load_gc {w0 : B0} (hbw : w0.brw = fun _ => false) {b o : Nat} {c : Int} (hG : Gc b o c w0.toWorld) {T s : Nat} {dst ty pos af g} (h : Ty P T Int) (ho : decide (o < 4) = true) :
  OpXW w0 P ⟨dst, .load T (.tmp s), ty, pos, af, g⟩ [(s, .val (⟨o⟩ : RP b))] [] (.val c) [] [] := by
 refine OpXW.pure fun m w a hw hs _ => ?_
 have hGw : Gc b o c w := by
  have := hw.below
  rw [hbw] at this
  exact keep_gc b o c _ _ this.plain hG
 have e1 : a.eval (.tmp s) = .pointer (some ⟨b, o, none⟩) := holds_rp (x := (⟨o⟩ : RP b)) (hs (s, Desc.val (⟨o⟩ : RP b)) (List.mem_cons_self ..)) (of_decide_eq_true ho)
 have hr : w.rangeAt b o [.int .i64 c] := fun j v hv => by
  cases j with
  | zero => simp at hv; subst hv; simpa using hGw.1
  | succ j => simp at hv
 have hrep : GoTy.rep m.ph c [.int .i64 c] := ⟨rfl, hGw.2⟩
 exact ⟨mkVal (GoTy.agg Int) [.int .i64 c], by simp [execOp, e1, Instr.loadAt, Instr.sureAddr, run_loadVar h hrep hr], _, hrep, rfl⟩
end
end Go.Gx
end
section
namespace Go.Gx
open Sp
instance instWrite : GoTy Mk.Write := GoTy.via (β := Int × Int) fun x => (x.At, x.N)
def lWrite : Lens Mk.Write (Int × Int) := Lens.via (α := Mk.Write) (β := Int × Int) (fun x : Mk.Write => (x.At, x.N)) (fun y : Int × Int => (⟨y.1, y.2⟩ : Mk.Write)) (fun _ => rfl)
@[reducible] def Write_At : Lens Mk.Write (Int) := ⟨(lWrite.comp Lens.fst).off, fun x => x.At, fun x y => { x with At := y }, (lWrite.comp Lens.fst).hget, (lWrite.comp Lens.fst).hset, (lWrite.comp Lens.fst).hle⟩
@[reducible] def Write_N : Lens Mk.Write (Int) := ⟨(lWrite.comp Lens.snd).off, fun x => x.N, fun x y => { x with N := y }, (lWrite.comp Lens.snd).hget, (lWrite.comp Lens.snd).hset, (lWrite.comp Lens.snd).hle⟩
instance instCall : GoTy Mk.Call := GoTy.via (β := Int × Int × Int × Int) fun x => (x.Kind, x.Name, x.Other, x.N)
def lCall : Lens Mk.Call (Int × Int × Int × Int) := Lens.via (α := Mk.Call) (β := Int × Int × Int × Int) (fun x : Mk.Call => (x.Kind, x.Name, x.Other, x.N)) (fun y : Int × Int × Int × Int => (⟨y.1, y.2.1, y.2.2.1, y.2.2.2⟩ : Mk.Call)) (fun _ => rfl)
@[reducible] def Call_Kind : Lens Mk.Call (Int) := ⟨(lCall.comp Lens.fst).off, fun x => x.Kind, fun x y => { x with Kind := y }, (lCall.comp Lens.fst).hget, (lCall.comp Lens.fst).hset, (lCall.comp Lens.fst).hle⟩
@[reducible] def Call_Name : Lens Mk.Call (Int) := ⟨((lCall.comp Lens.snd).comp Lens.fst).off, fun x => x.Name, fun x y => { x with Name := y }, ((lCall.comp Lens.snd).comp Lens.fst).hget, ((lCall.comp Lens.snd).comp Lens.fst).hset, ((lCall.comp Lens.snd).comp Lens.fst).hle⟩
@[reducible] def Call_Other : Lens Mk.Call (Int) := ⟨(((lCall.comp Lens.snd).comp Lens.snd).comp Lens.fst).off, fun x => x.Other, fun x y => { x with Other := y }, (((lCall.comp Lens.snd).comp Lens.snd).comp Lens.fst).hget, (((lCall.comp Lens.snd).comp Lens.snd).comp Lens.fst).hset, (((lCall.comp Lens.snd).comp Lens.snd).comp Lens.fst).hle⟩
@[reducible] def Call_N : Lens Mk.Call (Int) := ⟨(((lCall.comp Lens.snd).comp Lens.snd).comp Lens.snd).off, fun x => x.N, fun x y => { x with N := y }, (((lCall.comp Lens.snd).comp Lens.snd).comp Lens.snd).hget, (((lCall.comp Lens.snd).comp Lens.snd).comp Lens.snd).hset, (((lCall.comp Lens.snd).comp Lens.snd).comp Lens.snd).hle⟩
instance instReply : GoTy Mk.Reply := GoTy.via (β := Int × Int) fun x => (x.Err, x.N)
def lReply : Lens Mk.Reply (Int × Int) := Lens.via (α := Mk.Reply) (β := Int × Int) (fun x : Mk.Reply => (x.Err, x.N)) (fun y : Int × Int => (⟨y.1, y.2⟩ : Mk.Reply)) (fun _ => rfl)
@[reducible] def Reply_Err : Lens Mk.Reply (Int) := ⟨(lReply.comp Lens.fst).off, fun x => x.Err, fun x y => { x with Err := y }, (lReply.comp Lens.fst).hget, (lReply.comp Lens.fst).hset, (lReply.comp Lens.fst).hle⟩
@[reducible] def Reply_N : Lens Mk.Reply (Int) := ⟨(lReply.comp Lens.snd).off, fun x => x.N, fun x y => { x with N := y }, (lReply.comp Lens.snd).hget, (lReply.comp Lens.snd).hset, (lReply.comp Lens.snd).hle⟩
instance instRequest : GoTy Mk.Request := GoTy.via (β := Int × Int × Mk.Call) fun x => (x.Client, x.Token, x.Call)
def lRequest : Lens Mk.Request (Int × Int × Mk.Call) := Lens.via (α := Mk.Request) (β := Int × Int × Mk.Call) (fun x : Mk.Request => (x.Client, x.Token, x.Call)) (fun y : Int × Int × Mk.Call => (⟨y.1, y.2.1, y.2.2⟩ : Mk.Request)) (fun _ => rfl)
@[reducible] def Request_Client : Lens Mk.Request (Int) := ⟨(lRequest.comp Lens.fst).off, fun x => x.Client, fun x y => { x with Client := y }, (lRequest.comp Lens.fst).hget, (lRequest.comp Lens.fst).hset, (lRequest.comp Lens.fst).hle⟩
@[reducible] def Request_Token : Lens Mk.Request (Int) := ⟨((lRequest.comp Lens.snd).comp Lens.fst).off, fun x => x.Token, fun x y => { x with Token := y }, ((lRequest.comp Lens.snd).comp Lens.fst).hget, ((lRequest.comp Lens.snd).comp Lens.fst).hset, ((lRequest.comp Lens.snd).comp Lens.fst).hle⟩
@[reducible] def Request_Call : Lens Mk.Request (Mk.Call) := ⟨((lRequest.comp Lens.snd).comp Lens.snd).off, fun x => x.Call, fun x y => { x with Call := y }, ((lRequest.comp Lens.snd).comp Lens.snd).hget, ((lRequest.comp Lens.snd).comp Lens.snd).hset, ((lRequest.comp Lens.snd).comp Lens.snd).hle⟩
instance instAnswer : GoTy Mk.Answer := GoTy.via (β := Int × Int × Mk.Reply) fun x => (x.Client, x.Token, x.Reply)
def lAnswer : Lens Mk.Answer (Int × Int × Mk.Reply) := Lens.via (α := Mk.Answer) (β := Int × Int × Mk.Reply) (fun x : Mk.Answer => (x.Client, x.Token, x.Reply)) (fun y : Int × Int × Mk.Reply => (⟨y.1, y.2.1, y.2.2⟩ : Mk.Answer)) (fun _ => rfl)
@[reducible] def Answer_Client : Lens Mk.Answer (Int) := ⟨(lAnswer.comp Lens.fst).off, fun x => x.Client, fun x y => { x with Client := y }, (lAnswer.comp Lens.fst).hget, (lAnswer.comp Lens.fst).hset, (lAnswer.comp Lens.fst).hle⟩
@[reducible] def Answer_Token : Lens Mk.Answer (Int) := ⟨((lAnswer.comp Lens.snd).comp Lens.fst).off, fun x => x.Token, fun x y => { x with Token := y }, ((lAnswer.comp Lens.snd).comp Lens.fst).hget, ((lAnswer.comp Lens.snd).comp Lens.fst).hset, ((lAnswer.comp Lens.snd).comp Lens.fst).hle⟩
@[reducible] def Answer_Reply : Lens Mk.Answer (Mk.Reply) := ⟨((lAnswer.comp Lens.snd).comp Lens.snd).off, fun x => x.Reply, fun x y => { x with Reply := y }, ((lAnswer.comp Lens.snd).comp Lens.snd).hget, ((lAnswer.comp Lens.snd).comp Lens.snd).hset, ((lAnswer.comp Lens.snd).comp Lens.snd).hle⟩
instance instStore : GoTy Mk.Store := GoTy.via (β := (List Int) × (List Mk.Write) × (List Mk.Answer) × (List Mk.Request)) fun x => (x.Cells, x.Undo, x.Answers, x.Past)
def lStore : Lens Mk.Store ((List Int) × (List Mk.Write) × (List Mk.Answer) × (List Mk.Request)) := Lens.via (α := Mk.Store) (β := (List Int) × (List Mk.Write) × (List Mk.Answer) × (List Mk.Request)) (fun x : Mk.Store => (x.Cells, x.Undo, x.Answers, x.Past)) (fun y : (List Int) × (List Mk.Write) × (List Mk.Answer) × (List Mk.Request) => (⟨y.1, y.2.1, y.2.2.1, y.2.2.2⟩ : Mk.Store)) (fun _ => rfl)
@[reducible] def Store_Cells : Lens Mk.Store (List Int) := ⟨(lStore.comp Lens.fst).off, fun x => x.Cells, fun x y => { x with Cells := y }, (lStore.comp Lens.fst).hget, (lStore.comp Lens.fst).hset, (lStore.comp Lens.fst).hle⟩
@[reducible] def Store_Undo : Lens Mk.Store (List Mk.Write) := ⟨((lStore.comp Lens.snd).comp Lens.fst).off, fun x => x.Undo, fun x y => { x with Undo := y }, ((lStore.comp Lens.snd).comp Lens.fst).hget, ((lStore.comp Lens.snd).comp Lens.fst).hset, ((lStore.comp Lens.snd).comp Lens.fst).hle⟩
@[reducible] def Store_Answers : Lens Mk.Store (List Mk.Answer) := ⟨(((lStore.comp Lens.snd).comp Lens.snd).comp Lens.fst).off, fun x => x.Answers, fun x y => { x with Answers := y }, (((lStore.comp Lens.snd).comp Lens.snd).comp Lens.fst).hget, (((lStore.comp Lens.snd).comp Lens.snd).comp Lens.fst).hset, (((lStore.comp Lens.snd).comp Lens.snd).comp Lens.fst).hle⟩
@[reducible] def Store_Past : Lens Mk.Store (List Mk.Request) := ⟨(((lStore.comp Lens.snd).comp Lens.snd).comp Lens.snd).off, fun x => x.Past, fun x y => { x with Past := y }, (((lStore.comp Lens.snd).comp Lens.snd).comp Lens.snd).hget, (((lStore.comp Lens.snd).comp Lens.snd).comp Lens.snd).hset, (((lStore.comp Lens.snd).comp Lens.snd).comp Lens.snd).hle⟩
instance instServer : GoTy Mk.Server := GoTy.via (β := Int × (List (List UInt8)) × Bool × Mk.Request × (List Mk.Write) × Mk.Reply) fun x => (x.Gen, x.Box, x.Busy, x.Now, x.Plan, x.Says)
def lServer : Lens Mk.Server (Int × (List (List UInt8)) × Bool × Mk.Request × (List Mk.Write) × Mk.Reply) := Lens.via (α := Mk.Server) (β := Int × (List (List UInt8)) × Bool × Mk.Request × (List Mk.Write) × Mk.Reply) (fun x : Mk.Server => (x.Gen, x.Box, x.Busy, x.Now, x.Plan, x.Says)) (fun y : Int × (List (List UInt8)) × Bool × Mk.Request × (List Mk.Write) × Mk.Reply => (⟨y.1, y.2.1, y.2.2.1, y.2.2.2.1, y.2.2.2.2.1, y.2.2.2.2.2⟩ : Mk.Server)) (fun _ => rfl)
@[reducible] def Server_Gen : Lens Mk.Server (Int) := ⟨(lServer.comp Lens.fst).off, fun x => x.Gen, fun x y => { x with Gen := y }, (lServer.comp Lens.fst).hget, (lServer.comp Lens.fst).hset, (lServer.comp Lens.fst).hle⟩
@[reducible] def Server_Box : Lens Mk.Server (List (List UInt8)) := ⟨((lServer.comp Lens.snd).comp Lens.fst).off, fun x => x.Box, fun x y => { x with Box := y }, ((lServer.comp Lens.snd).comp Lens.fst).hget, ((lServer.comp Lens.snd).comp Lens.fst).hset, ((lServer.comp Lens.snd).comp Lens.fst).hle⟩
@[reducible] def Server_Busy : Lens Mk.Server (Bool) := ⟨(((lServer.comp Lens.snd).comp Lens.snd).comp Lens.fst).off, fun x => x.Busy, fun x y => { x with Busy := y }, (((lServer.comp Lens.snd).comp Lens.snd).comp Lens.fst).hget, (((lServer.comp Lens.snd).comp Lens.snd).comp Lens.fst).hset, (((lServer.comp Lens.snd).comp Lens.snd).comp Lens.fst).hle⟩
@[reducible] def Server_Now : Lens Mk.Server (Mk.Request) := ⟨((((lServer.comp Lens.snd).comp Lens.snd).comp Lens.snd).comp Lens.fst).off, fun x => x.Now, fun x y => { x with Now := y }, ((((lServer.comp Lens.snd).comp Lens.snd).comp Lens.snd).comp Lens.fst).hget, ((((lServer.comp Lens.snd).comp Lens.snd).comp Lens.snd).comp Lens.fst).hset, ((((lServer.comp Lens.snd).comp Lens.snd).comp Lens.snd).comp Lens.fst).hle⟩
@[reducible] def Server_Plan : Lens Mk.Server (List Mk.Write) := ⟨(((((lServer.comp Lens.snd).comp Lens.snd).comp Lens.snd).comp Lens.snd).comp Lens.fst).off, fun x => x.Plan, fun x y => { x with Plan := y }, (((((lServer.comp Lens.snd).comp Lens.snd).comp Lens.snd).comp Lens.snd).comp Lens.fst).hget, (((((lServer.comp Lens.snd).comp Lens.snd).comp Lens.snd).comp Lens.snd).comp Lens.fst).hset, (((((lServer.comp Lens.snd).comp Lens.snd).comp Lens.snd).comp Lens.snd).comp Lens.fst).hle⟩
@[reducible] def Server_Says : Lens Mk.Server (Mk.Reply) := ⟨(((((lServer.comp Lens.snd).comp Lens.snd).comp Lens.snd).comp Lens.snd).comp Lens.snd).off, fun x => x.Says, fun x y => { x with Says := y }, (((((lServer.comp Lens.snd).comp Lens.snd).comp Lens.snd).comp Lens.snd).comp Lens.snd).hget, (((((lServer.comp Lens.snd).comp Lens.snd).comp Lens.snd).comp Lens.snd).comp Lens.snd).hset, (((((lServer.comp Lens.snd).comp Lens.snd).comp Lens.snd).comp Lens.snd).comp Lens.snd).hle⟩
instance instClient : GoTy Mk.Client := GoTy.via (β := (List Mk.Call) × Int × Bool × Int × (List (List UInt8)) × (List Mk.Reply)) fun x => (x.Calls, x.At, x.Sent, x.Gen, x.Box, x.Got)
def lClient : Lens Mk.Client ((List Mk.Call) × Int × Bool × Int × (List (List UInt8)) × (List Mk.Reply)) := Lens.via (α := Mk.Client) (β := (List Mk.Call) × Int × Bool × Int × (List (List UInt8)) × (List Mk.Reply)) (fun x : Mk.Client => (x.Calls, x.At, x.Sent, x.Gen, x.Box, x.Got)) (fun y : (List Mk.Call) × Int × Bool × Int × (List (List UInt8)) × (List Mk.Reply) => (⟨y.1, y.2.1, y.2.2.1, y.2.2.2.1, y.2.2.2.2.1, y.2.2.2.2.2⟩ : Mk.Client)) (fun _ => rfl)
@[reducible] def Client_Calls : Lens Mk.Client (List Mk.Call) := ⟨(lClient.comp Lens.fst).off, fun x => x.Calls, fun x y => { x with Calls := y }, (lClient.comp Lens.fst).hget, (lClient.comp Lens.fst).hset, (lClient.comp Lens.fst).hle⟩
@[reducible] def Client_At : Lens Mk.Client (Int) := ⟨((lClient.comp Lens.snd).comp Lens.fst).off, fun x => x.At, fun x y => { x with At := y }, ((lClient.comp Lens.snd).comp Lens.fst).hget, ((lClient.comp Lens.snd).comp Lens.fst).hset, ((lClient.comp Lens.snd).comp Lens.fst).hle⟩
@[reducible] def Client_Sent : Lens Mk.Client (Bool) := ⟨(((lClient.comp Lens.snd).comp Lens.snd).comp Lens.fst).off, fun x => x.Sent, fun x y => { x with Sent := y }, (((lClient.comp Lens.snd).comp Lens.snd).comp Lens.fst).hget, (((lClient.comp Lens.snd).comp Lens.snd).comp Lens.fst).hset, (((lClient.comp Lens.snd).comp Lens.snd).comp Lens.fst).hle⟩
@[reducible] def Client_Gen : Lens Mk.Client (Int) := ⟨((((lClient.comp Lens.snd).comp Lens.snd).comp Lens.snd).comp Lens.fst).off, fun x => x.Gen, fun x y => { x with Gen := y }, ((((lClient.comp Lens.snd).comp Lens.snd).comp Lens.snd).comp Lens.fst).hget, ((((lClient.comp Lens.snd).comp Lens.snd).comp Lens.snd).comp Lens.fst).hset, ((((lClient.comp Lens.snd).comp Lens.snd).comp Lens.snd).comp Lens.fst).hle⟩
@[reducible] def Client_Box : Lens Mk.Client (List (List UInt8)) := ⟨(((((lClient.comp Lens.snd).comp Lens.snd).comp Lens.snd).comp Lens.snd).comp Lens.fst).off, fun x => x.Box, fun x y => { x with Box := y }, (((((lClient.comp Lens.snd).comp Lens.snd).comp Lens.snd).comp Lens.snd).comp Lens.fst).hget, (((((lClient.comp Lens.snd).comp Lens.snd).comp Lens.snd).comp Lens.snd).comp Lens.fst).hset, (((((lClient.comp Lens.snd).comp Lens.snd).comp Lens.snd).comp Lens.snd).comp Lens.fst).hle⟩
@[reducible] def Client_Got : Lens Mk.Client (List Mk.Reply) := ⟨(((((lClient.comp Lens.snd).comp Lens.snd).comp Lens.snd).comp Lens.snd).comp Lens.snd).off, fun x => x.Got, fun x y => { x with Got := y }, (((((lClient.comp Lens.snd).comp Lens.snd).comp Lens.snd).comp Lens.snd).comp Lens.snd).hget, (((((lClient.comp Lens.snd).comp Lens.snd).comp Lens.snd).comp Lens.snd).comp Lens.snd).hset, (((((lClient.comp Lens.snd).comp Lens.snd).comp Lens.snd).comp Lens.snd).comp Lens.snd).hle⟩
instance instMachine : GoTy Mk.Machine := GoTy.via (β := Mk.Store × Mk.Server × Bool × Int × Int × (List Mk.Client)) fun x => (x.Store, x.Server, x.Up, x.Pause, x.Falls, x.Clients)
def lMachine : Lens Mk.Machine (Mk.Store × Mk.Server × Bool × Int × Int × (List Mk.Client)) := Lens.via (α := Mk.Machine) (β := Mk.Store × Mk.Server × Bool × Int × Int × (List Mk.Client)) (fun x : Mk.Machine => (x.Store, x.Server, x.Up, x.Pause, x.Falls, x.Clients)) (fun y : Mk.Store × Mk.Server × Bool × Int × Int × (List Mk.Client) => (⟨y.1, y.2.1, y.2.2.1, y.2.2.2.1, y.2.2.2.2.1, y.2.2.2.2.2⟩ : Mk.Machine)) (fun _ => rfl)
@[reducible] def Machine_Store : Lens Mk.Machine (Mk.Store) := ⟨(lMachine.comp Lens.fst).off, fun x => x.Store, fun x y => { x with Store := y }, (lMachine.comp Lens.fst).hget, (lMachine.comp Lens.fst).hset, (lMachine.comp Lens.fst).hle⟩
@[reducible] def Machine_Server : Lens Mk.Machine (Mk.Server) := ⟨((lMachine.comp Lens.snd).comp Lens.fst).off, fun x => x.Server, fun x y => { x with Server := y }, ((lMachine.comp Lens.snd).comp Lens.fst).hget, ((lMachine.comp Lens.snd).comp Lens.fst).hset, ((lMachine.comp Lens.snd).comp Lens.fst).hle⟩
@[reducible] def Machine_Up : Lens Mk.Machine (Bool) := ⟨(((lMachine.comp Lens.snd).comp Lens.snd).comp Lens.fst).off, fun x => x.Up, fun x y => { x with Up := y }, (((lMachine.comp Lens.snd).comp Lens.snd).comp Lens.fst).hget, (((lMachine.comp Lens.snd).comp Lens.snd).comp Lens.fst).hset, (((lMachine.comp Lens.snd).comp Lens.snd).comp Lens.fst).hle⟩
@[reducible] def Machine_Pause : Lens Mk.Machine (Int) := ⟨((((lMachine.comp Lens.snd).comp Lens.snd).comp Lens.snd).comp Lens.fst).off, fun x => x.Pause, fun x y => { x with Pause := y }, ((((lMachine.comp Lens.snd).comp Lens.snd).comp Lens.snd).comp Lens.fst).hget, ((((lMachine.comp Lens.snd).comp Lens.snd).comp Lens.snd).comp Lens.fst).hset, ((((lMachine.comp Lens.snd).comp Lens.snd).comp Lens.snd).comp Lens.fst).hle⟩
@[reducible] def Machine_Falls : Lens Mk.Machine (Int) := ⟨(((((lMachine.comp Lens.snd).comp Lens.snd).comp Lens.snd).comp Lens.snd).comp Lens.fst).off, fun x => x.Falls, fun x y => { x with Falls := y }, (((((lMachine.comp Lens.snd).comp Lens.snd).comp Lens.snd).comp Lens.snd).comp Lens.fst).hget, (((((lMachine.comp Lens.snd).comp Lens.snd).comp Lens.snd).comp Lens.snd).comp Lens.fst).hset, (((((lMachine.comp Lens.snd).comp Lens.snd).comp Lens.snd).comp Lens.snd).comp Lens.fst).hle⟩
@[reducible] def Machine_Clients : Lens Mk.Machine (List Mk.Client) := ⟨(((((lMachine.comp Lens.snd).comp Lens.snd).comp Lens.snd).comp Lens.snd).comp Lens.snd).off, fun x => x.Clients, fun x y => { x with Clients := y }, (((((lMachine.comp Lens.snd).comp Lens.snd).comp Lens.snd).comp Lens.snd).comp Lens.snd).hget, (((((lMachine.comp Lens.snd).comp Lens.snd).comp Lens.snd).comp Lens.snd).comp Lens.snd).hset, (((((lMachine.comp Lens.snd).comp Lens.snd).comp Lens.snd).comp Lens.snd).comp Lens.snd).hle⟩
instance instStep : GoTy Mk.Step := GoTy.via (β := Int × Int) fun x => (x.Kind, x.N)
def lStep : Lens Mk.Step (Int × Int) := Lens.via (α := Mk.Step) (β := Int × Int) (fun x : Mk.Step => (x.Kind, x.N)) (fun y : Int × Int => (⟨y.1, y.2⟩ : Mk.Step)) (fun _ => rfl)
@[reducible] def Step_Kind : Lens Mk.Step (Int) := ⟨(lStep.comp Lens.fst).off, fun x => x.Kind, fun x y => { x with Kind := y }, (lStep.comp Lens.fst).hget, (lStep.comp Lens.fst).hset, (lStep.comp Lens.fst).hle⟩
@[reducible] def Step_N : Lens Mk.Step (Int) := ⟨(lStep.comp Lens.snd).off, fun x => x.N, fun x y => { x with N := y }, (lStep.comp Lens.snd).hget, (lStep.comp Lens.snd).hset, (lStep.comp Lens.snd).hle⟩
class GoZ (α : Type) [GoTy α] where
 z : α
 zc : List Value
 hz : ∀ ph : PH, GoTy.rep ph z zc
instance : GoZ Int := ⟨0, [.int .i64 0], fun _ => ⟨rfl, by decide, by decide⟩⟩
instance : GoZ Bool := ⟨false, [.bool false], fun _ => rfl⟩
instance : GoZ UInt8 := ⟨0, [.int .u8 0], fun _ => rfl⟩
instance : GoZ ByteArray := ⟨ByteArray.empty, [.string ByteArray.empty], fun _ => ⟨rfl, by decide⟩⟩
instance : GoZ Er := ⟨⟨false⟩, [.nilIface], fun _ => .inr ⟨rfl, rfl⟩⟩
instance {b : Nat} : GoZ (RP b) := ⟨⟨4⟩, [.pointer none], fun _ => rfl⟩
instance {α : Type} [GoTy α] : GoZ (List α) := ⟨[], [.slice none 0 0], fun _ => ⟨_, rfl, repS_nil _⟩⟩
instance {α β : Type} [GoTy α] [GoTy β] [GoZ α] [GoZ β] : GoZ (α × β) := ⟨(GoZ.z, GoZ.z), GoZ.zc α ++ GoZ.zc β, fun ph => ⟨_, _, rfl, GoZ.hz ph, GoZ.hz ph⟩⟩
instance : GoZ Mk.Write := ⟨⟨0, 0⟩, GoZ.zc (Int × Int), fun ph => GoZ.hz (α := Int × Int) ph⟩
instance : GoZ Mk.Call := ⟨⟨0, 0, 0, 0⟩, GoZ.zc (Int × Int × Int × Int), fun ph => GoZ.hz (α := Int × Int × Int × Int) ph⟩
instance : GoZ Mk.Reply := ⟨⟨0, 0⟩, GoZ.zc (Int × Int), fun ph => GoZ.hz (α := Int × Int) ph⟩
instance : GoZ Mk.Request := ⟨⟨0, 0, ⟨0, 0, 0, 0⟩⟩, GoZ.zc (Int × Int × Mk.Call), fun ph => GoZ.hz (α := Int × Int × Mk.Call) ph⟩
instance : GoZ Mk.Answer := ⟨⟨0, 0, ⟨0, 0⟩⟩, GoZ.zc (Int × Int × Mk.Reply), fun ph => GoZ.hz (α := Int × Int × Mk.Reply) ph⟩
instance : GoZ Mk.Store := ⟨⟨[], [], [], []⟩, GoZ.zc ((List Int) × (List Mk.Write) × (List Mk.Answer) × (List Mk.Request)), fun ph => GoZ.hz (α := (List Int) × (List Mk.Write) × (List Mk.Answer) × (List Mk.Request)) ph⟩
instance : GoZ Mk.Server := ⟨⟨0, [], false, ⟨0, 0, ⟨0, 0, 0, 0⟩⟩, [], ⟨0, 0⟩⟩, GoZ.zc (Int × (List (List UInt8)) × Bool × Mk.Request × (List Mk.Write) × Mk.Reply), fun ph => GoZ.hz (α := Int × (List (List UInt8)) × Bool × Mk.Request × (List Mk.Write) × Mk.Reply) ph⟩
instance : GoZ Mk.Client := ⟨⟨[], 0, false, 0, [], []⟩, GoZ.zc ((List Mk.Call) × Int × Bool × Int × (List (List UInt8)) × (List Mk.Reply)), fun ph => GoZ.hz (α := (List Mk.Call) × Int × Bool × Int × (List (List UInt8)) × (List Mk.Reply)) ph⟩
instance : GoZ Mk.Machine := ⟨⟨⟨[], [], [], []⟩, ⟨0, [], false, ⟨0, 0, ⟨0, 0, 0, 0⟩⟩, [], ⟨0, 0⟩⟩, false, 0, 0, []⟩, GoZ.zc (Mk.Store × Mk.Server × Bool × Int × Int × (List Mk.Client)), fun ph => GoZ.hz (α := Mk.Store × Mk.Server × Bool × Int × Int × (List Mk.Client)) ph⟩
instance : GoZ Mk.Step := ⟨⟨0, 0⟩, GoZ.zc (Int × Int), fun ph => GoZ.hz (α := Int × Int) ph⟩
theorem TyZ.mk' {P : Program} {T : TypeId} {α : Type} [GoTy α] [GoZ α] (h : Ty P T α) (hz : (P.info? T).bind (·.zero) = some (mkVal (GoTy.agg α) (GoZ.zc α))) : TyZ P T (GoZ.z : α) :=
 { h with zero := ⟨_, hz, fun ph => by rw [cells_mkVal (GoZ.hz (α := α) ph)]; simpa using GoZ.hz ph⟩ }
theorem hMixed : Go.Proofs.Tryz.prog.follows .mixedOrders = true := by kernel_rfl
theorem t2 : Ty Go.Proofs.Tryz.prog 2 Int := ⟨by kernel_rfl, by kernel_rfl⟩
theorem z2 : TyZ Go.Proofs.Tryz.prog 2 (GoZ.z : Int) := TyZ.mk' t2 (by kernel_rfl)
theorem t3 : Ty Go.Proofs.Tryz.prog 3 Int := ⟨by kernel_rfl, by kernel_rfl⟩
theorem z3 : TyZ Go.Proofs.Tryz.prog 3 (GoZ.z : Int) := TyZ.mk' t3 (by kernel_rfl)
theorem t4 : Ty Go.Proofs.Tryz.prog 4 Bool := ⟨by kernel_rfl, by kernel_rfl⟩
theorem z4 : TyZ Go.Proofs.Tryz.prog 4 (GoZ.z : Bool) := TyZ.mk' t4 (by kernel_rfl)
theorem t5 : Ty Go.Proofs.Tryz.prog 5 UInt8 := ⟨by kernel_rfl, by kernel_rfl⟩
theorem z5 : TyZ Go.Proofs.Tryz.prog 5 (GoZ.z : UInt8) := TyZ.mk' t5 (by kernel_rfl)
theorem t9 : Ty Go.Proofs.Tryz.prog 9 ByteArray := ⟨by kernel_rfl, by kernel_rfl⟩
theorem z9 : TyZ Go.Proofs.Tryz.prog 9 (GoZ.z : ByteArray) := TyZ.mk' t9 (by kernel_rfl)
theorem t21 : Ty Go.Proofs.Tryz.prog 21 I32 := ⟨by kernel_rfl, by kernel_rfl⟩
theorem s22 : slB Go.Proofs.Tryz.prog 22 77 (GoTy.sz Mk.Step) = true := by kernel_rfl
theorem s24 : slB Go.Proofs.Tryz.prog 24 9 (GoTy.sz ByteArray) = true := by kernel_rfl
theorem t25 : Ty Go.Proofs.Tryz.prog 25 (List Int) := ⟨by kernel_rfl, by kernel_rfl⟩
theorem s25 : slB Go.Proofs.Tryz.prog 25 3 (GoTy.sz Int) = true := by kernel_rfl
theorem a25 : apB Go.Proofs.Tryz.prog 25 3 (GoTy.sz Int) 8 = true := by kernel_rfl
theorem t26 : Ty Go.Proofs.Tryz.prog 26 (List Mk.Write) := ⟨by kernel_rfl, by kernel_rfl⟩
theorem s26 : slB Go.Proofs.Tryz.prog 26 52 (GoTy.sz Mk.Write) = true := by kernel_rfl
theorem a26 : apB Go.Proofs.Tryz.prog 26 52 (GoTy.sz Mk.Write) 16 = true := by kernel_rfl
theorem t27 : Ty Go.Proofs.Tryz.prog 27 (List Mk.Answer) := ⟨by kernel_rfl, by kernel_rfl⟩
theorem s27 : slB Go.Proofs.Tryz.prog 27 105 (GoTy.sz Mk.Answer) = true := by kernel_rfl
theorem a27 : apB Go.Proofs.Tryz.prog 27 105 (GoTy.sz Mk.Answer) 32 = true := by kernel_rfl
theorem t28 : Ty Go.Proofs.Tryz.prog 28 (List Mk.Request) := ⟨by kernel_rfl, by kernel_rfl⟩
theorem s28 : slB Go.Proofs.Tryz.prog 28 35 (GoTy.sz Mk.Request) = true := by kernel_rfl
theorem a28 : apB Go.Proofs.Tryz.prog 28 35 (GoTy.sz Mk.Request) 48 = true := by kernel_rfl
theorem t30 : Ty Go.Proofs.Tryz.prog 30 Mk.Store := ⟨by kernel_rfl, by kernel_rfl⟩
theorem z30 : TyZ Go.Proofs.Tryz.prog 30 (GoZ.z : Mk.Store) := TyZ.mk' t30 (by kernel_rfl)
theorem u30 : bldB Go.Proofs.Tryz.prog 30 = true := by kernel_rfl
theorem f30_0 : fldB Go.Proofs.Tryz.prog 30 0 Store_Cells.off (GoTy.sz (List Int)) (GoTy.agg (List Int)) = true := by kernel_rfl
theorem f30_1 : fldB Go.Proofs.Tryz.prog 30 1 Store_Undo.off (GoTy.sz (List Mk.Write)) (GoTy.agg (List Mk.Write)) = true := by kernel_rfl
theorem f30_2 : fldB Go.Proofs.Tryz.prog 30 2 Store_Answers.off (GoTy.sz (List Mk.Answer)) (GoTy.agg (List Mk.Answer)) = true := by kernel_rfl
theorem f30_3 : fldB Go.Proofs.Tryz.prog 30 3 Store_Past.off (GoTy.sz (List Mk.Request)) (GoTy.agg (List Mk.Request)) = true := by kernel_rfl
theorem t31 : Ty Go.Proofs.Tryz.prog 31 (List (List UInt8)) := ⟨by kernel_rfl, by kernel_rfl⟩
theorem z31 : TyZ Go.Proofs.Tryz.prog 31 (GoZ.z : (List (List UInt8))) := TyZ.mk' t31 (by kernel_rfl)
theorem s31 : slB Go.Proofs.Tryz.prog 31 112 (GoTy.sz (List UInt8)) = true := by kernel_rfl
theorem a31 : apB Go.Proofs.Tryz.prog 31 112 (GoTy.sz (List UInt8)) 24 = true := by kernel_rfl
theorem t33 : Ty Go.Proofs.Tryz.prog 33 Mk.Call := ⟨by kernel_rfl, by kernel_rfl⟩
theorem z33 : TyZ Go.Proofs.Tryz.prog 33 (GoZ.z : Mk.Call) := TyZ.mk' t33 (by kernel_rfl)
theorem u33 : bldB Go.Proofs.Tryz.prog 33 = true := by kernel_rfl
theorem f33_0 : fldB Go.Proofs.Tryz.prog 33 0 Call_Kind.off (GoTy.sz (Int)) (GoTy.agg (Int)) = true := by kernel_rfl
theorem f33_1 : fldB Go.Proofs.Tryz.prog 33 1 Call_Name.off (GoTy.sz (Int)) (GoTy.agg (Int)) = true := by kernel_rfl
theorem f33_2 : fldB Go.Proofs.Tryz.prog 33 2 Call_Other.off (GoTy.sz (Int)) (GoTy.agg (Int)) = true := by kernel_rfl
theorem f33_3 : fldB Go.Proofs.Tryz.prog 33 3 Call_N.off (GoTy.sz (Int)) (GoTy.agg (Int)) = true := by kernel_rfl
theorem t35 : Ty Go.Proofs.Tryz.prog 35 Mk.Request := ⟨by kernel_rfl, by kernel_rfl⟩
theorem z35 : TyZ Go.Proofs.Tryz.prog 35 (GoZ.z : Mk.Request) := TyZ.mk' t35 (by kernel_rfl)
theorem u35 : bldB Go.Proofs.Tryz.prog 35 = true := by kernel_rfl
theorem f35_0 : fldB Go.Proofs.Tryz.prog 35 0 Request_Client.off (GoTy.sz (Int)) (GoTy.agg (Int)) = true := by kernel_rfl
theorem f35_1 : fldB Go.Proofs.Tryz.prog 35 1 Request_Token.off (GoTy.sz (Int)) (GoTy.agg (Int)) = true := by kernel_rfl
theorem f35_2 : fldB Go.Proofs.Tryz.prog 35 2 Request_Call.off (GoTy.sz (Mk.Call)) (GoTy.agg (Mk.Call)) = true := by kernel_rfl
theorem t36 : Ty Go.Proofs.Tryz.prog 36 Int := ⟨by kernel_rfl, by kernel_rfl⟩
theorem z36 : TyZ Go.Proofs.Tryz.prog 36 (GoZ.z : Int) := TyZ.mk' t36 (by kernel_rfl)
theorem t38 : Ty Go.Proofs.Tryz.prog 38 Mk.Reply := ⟨by kernel_rfl, by kernel_rfl⟩
theorem z38 : TyZ Go.Proofs.Tryz.prog 38 (GoZ.z : Mk.Reply) := TyZ.mk' t38 (by kernel_rfl)
theorem u38 : bldB Go.Proofs.Tryz.prog 38 = true := by kernel_rfl
theorem f38_0 : fldB Go.Proofs.Tryz.prog 38 0 Reply_Err.off (GoTy.sz (Int)) (GoTy.agg (Int)) = true := by kernel_rfl
theorem f38_1 : fldB Go.Proofs.Tryz.prog 38 1 Reply_N.off (GoTy.sz (Int)) (GoTy.agg (Int)) = true := by kernel_rfl
theorem t40 : Ty Go.Proofs.Tryz.prog 40 Mk.Server := ⟨by kernel_rfl, by kernel_rfl⟩
theorem z40 : TyZ Go.Proofs.Tryz.prog 40 (GoZ.z : Mk.Server) := TyZ.mk' t40 (by kernel_rfl)
theorem u40 : bldB Go.Proofs.Tryz.prog 40 = true := by kernel_rfl
theorem f40_0 : fldB Go.Proofs.Tryz.prog 40 0 Server_Gen.off (GoTy.sz (Int)) (GoTy.agg (Int)) = true := by kernel_rfl
theorem f40_1 : fldB Go.Proofs.Tryz.prog 40 1 Server_Box.off (GoTy.sz (List (List UInt8))) (GoTy.agg (List (List UInt8))) = true := by kernel_rfl
theorem f40_2 : fldB Go.Proofs.Tryz.prog 40 2 Server_Busy.off (GoTy.sz (Bool)) (GoTy.agg (Bool)) = true := by kernel_rfl
theorem f40_3 : fldB Go.Proofs.Tryz.prog 40 3 Server_Now.off (GoTy.sz (Mk.Request)) (GoTy.agg (Mk.Request)) = true := by kernel_rfl
theorem f40_4 : fldB Go.Proofs.Tryz.prog 40 4 Server_Plan.off (GoTy.sz (List Mk.Write)) (GoTy.agg (List Mk.Write)) = true := by kernel_rfl
theorem f40_5 : fldB Go.Proofs.Tryz.prog 40 5 Server_Says.off (GoTy.sz (Mk.Reply)) (GoTy.agg (Mk.Reply)) = true := by kernel_rfl
theorem t41 : Ty Go.Proofs.Tryz.prog 41 (List Mk.Client) := ⟨by kernel_rfl, by kernel_rfl⟩
theorem s41 : slB Go.Proofs.Tryz.prog 41 49 (GoTy.sz Mk.Client) = true := by kernel_rfl
theorem a41 : apB Go.Proofs.Tryz.prog 41 49 (GoTy.sz Mk.Client) 96 = true := by kernel_rfl
theorem t43 : Ty Go.Proofs.Tryz.prog 43 Mk.Machine := ⟨by kernel_rfl, by kernel_rfl⟩
theorem z43 : TyZ Go.Proofs.Tryz.prog 43 (GoZ.z : Mk.Machine) := TyZ.mk' t43 (by kernel_rfl)
theorem u43 : bldB Go.Proofs.Tryz.prog 43 = true := by kernel_rfl
theorem f43_0 : fldB Go.Proofs.Tryz.prog 43 0 Machine_Store.off (GoTy.sz (Mk.Store)) (GoTy.agg (Mk.Store)) = true := by kernel_rfl
theorem f43_1 : fldB Go.Proofs.Tryz.prog 43 1 Machine_Server.off (GoTy.sz (Mk.Server)) (GoTy.agg (Mk.Server)) = true := by kernel_rfl
theorem f43_2 : fldB Go.Proofs.Tryz.prog 43 2 Machine_Up.off (GoTy.sz (Bool)) (GoTy.agg (Bool)) = true := by kernel_rfl
theorem f43_3 : fldB Go.Proofs.Tryz.prog 43 3 Machine_Pause.off (GoTy.sz (Int)) (GoTy.agg (Int)) = true := by kernel_rfl
theorem f43_4 : fldB Go.Proofs.Tryz.prog 43 4 Machine_Falls.off (GoTy.sz (Int)) (GoTy.agg (Int)) = true := by kernel_rfl
theorem f43_5 : fldB Go.Proofs.Tryz.prog 43 5 Machine_Clients.off (GoTy.sz (List Mk.Client)) (GoTy.agg (List Mk.Client)) = true := by kernel_rfl
theorem t46 : Ty Go.Proofs.Tryz.prog 46 (List Mk.Call) := ⟨by kernel_rfl, by kernel_rfl⟩
theorem z46 : TyZ Go.Proofs.Tryz.prog 46 (GoZ.z : (List Mk.Call)) := TyZ.mk' t46 (by kernel_rfl)
theorem s46 : slB Go.Proofs.Tryz.prog 46 33 (GoTy.sz Mk.Call) = true := by kernel_rfl
theorem a46 : apB Go.Proofs.Tryz.prog 46 33 (GoTy.sz Mk.Call) 32 = true := by kernel_rfl
theorem t47 : Ty Go.Proofs.Tryz.prog 47 (List Mk.Reply) := ⟨by kernel_rfl, by kernel_rfl⟩
theorem s47 : slB Go.Proofs.Tryz.prog 47 38 (GoTy.sz Mk.Reply) = true := by kernel_rfl
theorem a47 : apB Go.Proofs.Tryz.prog 47 38 (GoTy.sz Mk.Reply) 16 = true := by kernel_rfl
theorem t49 : Ty Go.Proofs.Tryz.prog 49 Mk.Client := ⟨by kernel_rfl, by kernel_rfl⟩
theorem z49 : TyZ Go.Proofs.Tryz.prog 49 (GoZ.z : Mk.Client) := TyZ.mk' t49 (by kernel_rfl)
theorem u49 : bldB Go.Proofs.Tryz.prog 49 = true := by kernel_rfl
theorem f49_0 : fldB Go.Proofs.Tryz.prog 49 0 Client_Calls.off (GoTy.sz (List Mk.Call)) (GoTy.agg (List Mk.Call)) = true := by kernel_rfl
theorem f49_1 : fldB Go.Proofs.Tryz.prog 49 1 Client_At.off (GoTy.sz (Int)) (GoTy.agg (Int)) = true := by kernel_rfl
theorem f49_2 : fldB Go.Proofs.Tryz.prog 49 2 Client_Sent.off (GoTy.sz (Bool)) (GoTy.agg (Bool)) = true := by kernel_rfl
theorem f49_3 : fldB Go.Proofs.Tryz.prog 49 3 Client_Gen.off (GoTy.sz (Int)) (GoTy.agg (Int)) = true := by kernel_rfl
theorem f49_4 : fldB Go.Proofs.Tryz.prog 49 4 Client_Box.off (GoTy.sz (List (List UInt8))) (GoTy.agg (List (List UInt8))) = true := by kernel_rfl
theorem f49_5 : fldB Go.Proofs.Tryz.prog 49 5 Client_Got.off (GoTy.sz (List Mk.Reply)) (GoTy.agg (List Mk.Reply)) = true := by kernel_rfl
theorem t52 : Ty Go.Proofs.Tryz.prog 52 Mk.Write := ⟨by kernel_rfl, by kernel_rfl⟩
theorem z52 : TyZ Go.Proofs.Tryz.prog 52 (GoZ.z : Mk.Write) := TyZ.mk' t52 (by kernel_rfl)
theorem u52 : bldB Go.Proofs.Tryz.prog 52 = true := by kernel_rfl
theorem f52_0 : fldB Go.Proofs.Tryz.prog 52 0 Write_At.off (GoTy.sz (Int)) (GoTy.agg (Int)) = true := by kernel_rfl
theorem f52_1 : fldB Go.Proofs.Tryz.prog 52 1 Write_N.off (GoTy.sz (Int)) (GoTy.agg (Int)) = true := by kernel_rfl
theorem s55 : slB Go.Proofs.Tryz.prog 55 46 (GoTy.sz (List Mk.Call)) = true := by kernel_rfl
theorem a55 : apB Go.Proofs.Tryz.prog 55 46 (GoTy.sz (List Mk.Call)) 24 = true := by kernel_rfl
theorem s61 : slB Go.Proofs.Tryz.prog 61 36 (GoTy.sz Int) = true := by kernel_rfl
theorem a61 : apB Go.Proofs.Tryz.prog 61 36 (GoTy.sz Int) 8 = true := by kernel_rfl
theorem t77 : Ty Go.Proofs.Tryz.prog 77 Mk.Step := ⟨by kernel_rfl, by kernel_rfl⟩
theorem z77 : TyZ Go.Proofs.Tryz.prog 77 (GoZ.z : Mk.Step) := TyZ.mk' t77 (by kernel_rfl)
theorem u77 : bldB Go.Proofs.Tryz.prog 77 = true := by kernel_rfl
theorem f77_0 : fldB Go.Proofs.Tryz.prog 77 0 Step_Kind.off (GoTy.sz (Int)) (GoTy.agg (Int)) = true := by kernel_rfl
theorem f77_1 : fldB Go.Proofs.Tryz.prog 77 1 Step_N.off (GoTy.sz (Int)) (GoTy.agg (Int)) = true := by kernel_rfl
theorem s82 {b : Nat} : slB Go.Proofs.Tryz.prog 82 85 (GoTy.sz (RP b)) = true := by kernel_rfl
theorem t85 {b : Nat} : Ty Go.Proofs.Tryz.prog 85 (RP b) := ⟨by kernel_rfl, by kernel_rfl⟩
theorem z85 {b : Nat} : TyZ Go.Proofs.Tryz.prog 85 (GoZ.z : (RP b)) := TyZ.mk' t85 (by kernel_rfl)
theorem i89 : Go.Proofs.Tryz.prog.underlying 89 = some (.interface (Go.Proofs.Tryz.prog.methodsAt 89)) := by kernel_rfl
theorem t105 : Ty Go.Proofs.Tryz.prog 105 Mk.Answer := ⟨by kernel_rfl, by kernel_rfl⟩
theorem z105 : TyZ Go.Proofs.Tryz.prog 105 (GoZ.z : Mk.Answer) := TyZ.mk' t105 (by kernel_rfl)
theorem u105 : bldB Go.Proofs.Tryz.prog 105 = true := by kernel_rfl
theorem f105_0 : fldB Go.Proofs.Tryz.prog 105 0 Answer_Client.off (GoTy.sz (Int)) (GoTy.agg (Int)) = true := by kernel_rfl
theorem f105_1 : fldB Go.Proofs.Tryz.prog 105 1 Answer_Token.off (GoTy.sz (Int)) (GoTy.agg (Int)) = true := by kernel_rfl
theorem f105_2 : fldB Go.Proofs.Tryz.prog 105 2 Answer_Reply.off (GoTy.sz (Mk.Reply)) (GoTy.agg (Mk.Reply)) = true := by kernel_rfl
theorem t112 : Ty Go.Proofs.Tryz.prog 112 (List UInt8) := ⟨by kernel_rfl, by kernel_rfl⟩
theorem z112 : TyZ Go.Proofs.Tryz.prog 112 (GoZ.z : (List UInt8)) := TyZ.mk' t112 (by kernel_rfl)
theorem s112 : slB Go.Proofs.Tryz.prog 112 5 (GoTy.sz UInt8) = true := by kernel_rfl
theorem a112 : apB Go.Proofs.Tryz.prog 112 5 (GoTy.sz UInt8) 1 = true := by kernel_rfl
theorem e38q : EqT Go.Proofs.Tryz.prog 38 Mk.Reply 2 := EqT.struct t38 (fun x => (x.Err, x.N)) (by intro x y h; cases x; cases y; simp_all) (fun _ _ _ h => h) rfl Go.Proofs.Tryz.underlying38 (by kernel_rfl) (EqRow.cons rfl (by decide) (EqT.int ⟨by kernel_rfl, by kernel_rfl⟩ (by kernel_rfl)) (EqRow.one rfl (by decide) (EqT.int ⟨by kernel_rfl, by kernel_rfl⟩ (by kernel_rfl))))
theorem e38 : EqS Go.Proofs.Tryz.prog 38 Mk.Reply := ⟨e38q.ups 9998, rfl, by kernel_rfl⟩
theorem e4 : Go.Proofs.Tryz.prog.underlying 4 = some .bool := by kernel_rfl
end Go.Gx
end
section
namespace Sp
def mkref1_WrongCall (a0 : Mk.Call) : Option Int :=
 (bif ((decide (a0.Kind < (1 : Int))) || (decide ((6 : Int) < a0.Kind))) then (
 some ((1 : Int))) else (
 J (fun (x3_k2 : Int) (x4_k2 : Int) (y1_k2 : Mk.Call) =>
 J (fun (x3_k4 : Int) (x4_k4 : Int) (x5_k4 : Int) (x6_k4 : Int) (y1_k4 : Mk.Call) =>
 (bif ((((decide (y1_k4.Name < x3_k4)) || (decide (x4_k4 < y1_k4.Name))) || (decide (y1_k4.Other < x5_k4))) || (decide (x6_k4 < y1_k4.Other))) then (
 some ((7 : Int))) else (
 J (fun (x7_k7 : Int) (y1_k7 : Mk.Call) =>
 G (I (-x7_k7)) (
 (bif ((decide (y1_k7.N < (-x7_k7))) || (decide (x7_k7 < y1_k7.N))) then (
 some ((3 : Int))) else (
 some ((0 : Int)))))) (fun k7 =>
 (bif ((decide (y1_k4.Kind = (1 : Int))) || (decide (y1_k4.Kind = (4 : Int)))) then (
 k7 ((1073741824 : Int)) (y1_k4)) else (
 k7 ((0 : Int)) (y1_k4))))))) (fun k4 =>
 (bif (decide (y1_k2.Kind = (6 : Int))) then (
 k4 (x3_k2) (x4_k2) ((1 : Int)) ((255 : Int)) (y1_k2)) else (
 k4 (x3_k2) (x4_k2) ((0 : Int)) ((0 : Int)) (y1_k2))))) (fun k2 =>
 (bif (decide (a0.Kind = (5 : Int))) then (
 k2 ((0 : Int)) ((0 : Int)) (a0)) else (
 k2 ((1 : Int)) ((255 : Int)) (a0))))))
def cell_Find_l1 (k1 : Unit → Option Int) : Nat → (List Int) → Int → Int → Int → Option Int
 | 0, _, _, _, _ => none
 | m3 + 1, x0_m3, x1_m3, x8_m3, x9_m3 =>
 (bif (decide (x9_m3 < x8_m3)) then (
 G (I ((2 : Int) * x9_m3)) (
 G (I ((1 : Int) + ((2 : Int) * x9_m3))) (
 G ((0 ≤ ((1 : Int) + ((2 : Int) * x9_m3)) ∧ ((1 : Int) + ((2 : Int) * x9_m3)) < (x0_m3.length : Int))) (
 (bif (decide ((ix x0_m3 ((1 : Int) + ((2 : Int) * x9_m3))) = x1_m3)) then (
 some (x9_m3)) else (
 G (I (x9_m3 + (1 : Int))) (
 cell_Find_l1 k1 m3 (x0_m3) (x1_m3) (x8_m3) ((x9_m3 + (1 : Int)))))))))) else (
 k1 ()))
def cell_Find (a0 : List Int) (a1 : Int) : Option Int :=
 J (fun (_ : Unit) =>
 some ((-1 : Int))) (fun k1 =>
 G ((0 ≤ (0 : Int) ∧ (0 : Int) < (a0.length : Int))) (
 cell_Find_l1 k1 (((ix a0 (0 : Int)) - (0 : Int)).toNat + 1) (a0) (a1) ((ix a0 (0 : Int))) ((0 : Int))))
def plan_at (a0 : Int) : Option Int :=
 G (I ((2 : Int) * a0)) (
 G (I ((2 : Int) + ((2 : Int) * a0))) (
 some (((2 : Int) + ((2 : Int) * a0)))))
def plan_Make (a0 : List Int) (a1 : Mk.Call) : Option ((List Mk.Write) × Mk.Reply) :=
 (cell_Find (a0) (a1.Name)).bind (fun v1 =>
 G ((0 ≤ (0 : Int) ∧ (0 : Int) < (a0.length : Int))) (
 (bif (decide (a1.Kind = (5 : Int))) then (
 some (([] : List Mk.Write), ({ Err := (0 : Int), N := (ix a0 (0 : Int)) } : Mk.Reply))) else (
 (bif (((decide (a1.Kind = (1 : Int))) && (decide (v1 < (0 : Int)))) && (decide ((5 : Int) ≤ (ix a0 (0 : Int))))) then (
 some (([] : List Mk.Write), ({ Err := (9 : Int), N := (0 : Int) } : Mk.Reply))) else (
 (bif ((decide (a1.Kind = (1 : Int))) && (decide (v1 < (0 : Int)))) then (
 (plan_at ((ix a0 (0 : Int)))).bind (fun v6 =>
 G (I (v6 - (1 : Int))) (
 (plan_at ((ix a0 (0 : Int)))).bind (fun v8 =>
 G (I ((ix a0 (0 : Int)) + (1 : Int))) (
 some (([({ At := (v6 - (1 : Int)), N := a1.Name } : Mk.Write), ({ At := v8, N := a1.N } : Mk.Write), ({ At := (0 : Int), N := ((ix a0 (0 : Int)) + (1 : Int)) } : Mk.Write)] : List Mk.Write), ({ Err := (0 : Int), N := (0 : Int) } : Mk.Reply))))))) else (
 (bif (decide (v1 < (0 : Int))) then (
 some (([] : List Mk.Write), ({ Err := (6 : Int), N := (0 : Int) } : Mk.Reply))) else (
 (plan_at (v1)).bind (fun v11 =>
 G ((0 ≤ v11 ∧ v11 < (a0.length : Int))) (
 (bif (decide (a1.Kind = (1 : Int))) then (
 (plan_at (v1)).bind (fun v14 =>
 some (([({ At := v14, N := a1.N } : Mk.Write)] : List Mk.Write), ({ Err := (0 : Int), N := (ix a0 v11) } : Mk.Reply)))) else (
 (bif (decide (a1.Kind = (3 : Int))) then (
 G (I ((ix a0 (0 : Int)) - (1 : Int))) (
 J (fun (x8_k17 : Int) (x9_k17 : List Mk.Write) (y5_k17 : Mk.Reply) =>
 some (x9_k17, ({ Err := (0 : Int), N := x8_k17 } : Mk.Reply))) (fun k17 =>
 G (I ((ix a0 (0 : Int)) - (1 : Int))) (
 (bif (decide (v1 < ((ix a0 (0 : Int)) - (1 : Int)))) then (
 (plan_at (v1)).bind (fun v20 =>
 G (I (v20 - (1 : Int))) (
 G (I ((ix a0 (0 : Int)) - (1 : Int))) (
 (plan_at (((ix a0 (0 : Int)) - (1 : Int)))).bind (fun v23 =>
 G (I (v23 - (1 : Int))) (
 G ((0 ≤ (v23 - (1 : Int)) ∧ (v23 - (1 : Int)) < (a0.length : Int))) (
 (plan_at (v1)).bind (fun v26 =>
 G (I ((ix a0 (0 : Int)) - (1 : Int))) (
 (plan_at (((ix a0 (0 : Int)) - (1 : Int)))).bind (fun v28 =>
 G ((0 ≤ v28 ∧ v28 < (a0.length : Int))) (
 G (I ((ix a0 (0 : Int)) - (1 : Int))) (
 k17 ((ix a0 v11)) (([({ At := (v20 - (1 : Int)), N := (ix a0 (v23 - (1 : Int))) } : Mk.Write), ({ At := v26, N := (ix a0 v28) } : Mk.Write), ({ At := (0 : Int), N := ((ix a0 (0 : Int)) - (1 : Int)) } : Mk.Write)] : List Mk.Write)) (({ Err := (0 : Int), N := (0 : Int) } : Mk.Reply)))))))))))))) else (
 k17 ((ix a0 v11)) (([({ At := (0 : Int), N := ((ix a0 (0 : Int)) - (1 : Int)) } : Mk.Write)] : List Mk.Write)) (({ Err := (0 : Int), N := (0 : Int) } : Mk.Reply)))))))) else (
 (bif (decide (a1.Kind = (4 : Int))) then (
 G (I ((ix a0 v11) + a1.N)) (
 (bif ((decide ((-1073741824 : Int) ≤ ((ix a0 v11) + a1.N))) && (decide (((ix a0 v11) + a1.N) ≤ (1073741824 : Int)))) then (
 (plan_at (v1)).bind (fun v34 =>
 some (([({ At := v34, N := ((ix a0 v11) + a1.N) } : Mk.Write)] : List Mk.Write), ({ Err := (0 : Int), N := ((ix a0 v11) + a1.N) } : Mk.Reply)))) else (
 some (([] : List Mk.Write), ({ Err := (3 : Int), N := (0 : Int) } : Mk.Reply)))))) else (
 (bif (decide (a1.Kind = (6 : Int))) then (
 (cell_Find (a0) (a1.Other)).bind (fun v36 =>
 (bif (decide (v36 < (0 : Int))) then (
 some (([] : List Mk.Write), ({ Err := (6 : Int), N := (0 : Int) } : Mk.Reply))) else (
 (plan_at (v1)).bind (fun v38 =>
 (plan_at (v36)).bind (fun v39 =>
 G ((0 ≤ v39 ∧ v39 < (a0.length : Int))) (
 (plan_at (v36)).bind (fun v41 =>
 (plan_at (v36)).bind (fun v42 =>
 G ((0 ≤ v42 ∧ v42 < (a0.length : Int))) (
 some (([({ At := v38, N := (ix a0 v39) } : Mk.Write), ({ At := v41, N := (ix a0 v11) } : Mk.Write)] : List Mk.Write), ({ Err := (0 : Int), N := (ix a0 v42) } : Mk.Reply)))))))))))) else (
 some (([] : List Mk.Write), ({ Err := (0 : Int), N := (ix a0 v11) } : Mk.Reply))))))))))))))))))))))
def mkref1_Of_l1 (k1 : (List Mk.Write) → Option ((List Mk.Write))) : Nat → (List Int) → Int → (List Mk.Write) → Option ((List Mk.Write))
 | 0, _, _, _ => none
 | m2 + 1, x0_m2, x4_m2, y1003_m2 =>
 G ((0 ≤ (0 : Int) ∧ (0 : Int) < (x0_m2.length : Int))) (
 G (I ((2 : Int) * (ix x0_m2 (0 : Int)))) (
 G (I ((1 : Int) + ((2 : Int) * (ix x0_m2 (0 : Int))))) (
 (bif (decide (x4_m2 < ((1 : Int) + ((2 : Int) * (ix x0_m2 (0 : Int)))))) then (
 G ((0 ≤ x4_m2 ∧ x4_m2 < (x0_m2.length : Int))) (
 G (I (x4_m2 + (1 : Int))) (
 G ((0 ≤ (x4_m2 + (1 : Int)) ∧ (x4_m2 + (1 : Int)) < (x0_m2.length : Int))) (
 G (((y1003_m2.length + ([({ At := (ix x0_m2 x4_m2), N := (ix x0_m2 (x4_m2 + (1 : Int))) } : Mk.Write)] : List Mk.Write).length) * 16 ≤ 140737488355328 ∧ y1003_m2.length + ([({ At := (ix x0_m2 x4_m2), N := (ix x0_m2 (x4_m2 + (1 : Int))) } : Mk.Write)] : List Mk.Write).length ≤ 9223372036854775807)) (
 G (I (x4_m2 + (2 : Int))) (
 mkref1_Of_l1 k1 m2 (x0_m2) ((x4_m2 + (2 : Int))) ((y1003_m2 ++ ([({ At := (ix x0_m2 x4_m2), N := (ix x0_m2 (x4_m2 + (1 : Int))) } : Mk.Write)] : List Mk.Write))))))))) else (
 k1 (y1003_m2))))))
def mkref1_Of (a0 : List Int) : Option ((List Mk.Write)) :=
 J (fun (y1003_k1 : List Mk.Write) =>
 some (y1003_k1)) (fun k1 =>
 mkref1_Of_l1 k1 ((((1 : Int) + ((2 : Int) * (ix a0 (0 : Int)))) - (1 : Int)).toNat + 1) (a0) ((1 : Int)) (([] : List Mk.Write)))
def mkref1_get_l1 (k1 : Unit → Option (Int × Bool)) : Nat → Int → (List Mk.Write) → Int → Int → Option (Int × Bool)
 | 0, _, _, _, _ => none
 | m2 + 1, x1_m2, x8_m2, x9_m2, x10_m2 =>
 (bif (decide (x10_m2 < x9_m2)) then (
 G ((0 ≤ x10_m2 ∧ x10_m2 < (x8_m2.length : Int))) (
 (bif (decide ((ix x8_m2 x10_m2).At = x1_m2)) then (
 some ((ix x8_m2 x10_m2).N, true)) else (
 G (I (x10_m2 + (1 : Int))) (
 mkref1_get_l1 k1 m2 (x1_m2) (x8_m2) (x9_m2) ((x10_m2 + (1 : Int)))))))) else (
 k1 ()))
def mkref1_get (a0 : List Mk.Write) (a1 : Int) : Option (Int × Bool) :=
 J (fun (_ : Unit) =>
 some ((0 : Int), false)) (fun k1 =>
 mkref1_get_l1 k1 (((a0.length : Int) - (0 : Int)).toNat + 1) (a1) (a0) ((a0.length : Int)) ((0 : Int)))
def mkref1_Do_1 (a0 : Int) (a1 : List Mk.Write) : Option ((List Mk.Write) × Mk.Reply) :=
 some (a1, ({ Err := a0, N := (0 : Int) } : Mk.Reply))
def mkref1_set_l1 (k1 : Int → Int → Bool → (List Mk.Write) → Option ((List Mk.Write))) : Nat → Int → Int → Bool → (List Mk.Write) → Int → Int → (List Mk.Write) → Option ((List Mk.Write))
 | 0, _, _, _, _, _, _, _ => none
 | m2 + 1, x1_m2, x2_m2, x8_m2, x11_m2, x12_m2, x13_m2, y1007_m2 =>
 (bif (decide (x13_m2 < x12_m2)) then (
 G ((0 ≤ x13_m2 ∧ x13_m2 < (x11_m2.length : Int))) (
 J (fun (x1_k5 : Int) (x2_k5 : Int) (x8_k5 : Bool) (x11_k5 : List Mk.Write) (x12_k5 : Int) (x13_k5 : Int) (y10_k5 : Mk.Write) (y1007_k5 : List Mk.Write) =>
 G (((y1007_k5.length + ([y10_k5] : List Mk.Write).length) * 16 ≤ 140737488355328 ∧ y1007_k5.length + ([y10_k5] : List Mk.Write).length ≤ 9223372036854775807)) (
 G (I (x13_k5 + (1 : Int))) (
 mkref1_set_l1 k1 m2 (x1_k5) (x2_k5) (x8_k5) (x11_k5) (x12_k5) ((x13_k5 + (1 : Int))) ((y1007_k5 ++ ([y10_k5] : List Mk.Write)))))) (fun k5 =>
 (bif (decide ((ix x11_m2 x13_m2).At = x1_m2)) then (
 k5 (x1_m2) (x2_m2) (true) (x11_m2) (x12_m2) (x13_m2) ({ (ix x11_m2 x13_m2) with N := x2_m2 }) (y1007_m2)) else (
 k5 (x1_m2) (x2_m2) (x8_m2) (x11_m2) (x12_m2) (x13_m2) ((ix x11_m2 x13_m2)) (y1007_m2)))))) else (
 k1 (x1_m2) (x2_m2) (x8_m2) (y1007_m2)))
def mkref1_set (a0 : List Mk.Write) (a1 : Int) (a2 : Int) : Option ((List Mk.Write)) :=
 J (fun (x1_k1 : Int) (x2_k1 : Int) (x8_k1 : Bool) (y1007_k1 : List Mk.Write) =>
 J (fun (y1007_k9 : List Mk.Write) =>
 some (y1007_k9)) (fun k9 =>
 (bif (!x8_k1) then (
 G (((y1007_k1.length + ([({ At := x1_k1, N := x2_k1 } : Mk.Write)] : List Mk.Write).length) * 16 ≤ 140737488355328 ∧ y1007_k1.length + ([({ At := x1_k1, N := x2_k1 } : Mk.Write)] : List Mk.Write).length ≤ 9223372036854775807)) (
 k9 ((y1007_k1 ++ ([({ At := x1_k1, N := x2_k1 } : Mk.Write)] : List Mk.Write))))) else (
 k9 (y1007_k1))))) (fun k1 =>
 mkref1_set_l1 k1 (((a0.length : Int) - (0 : Int)).toNat + 1) (a1) (a2) (false) (a0) ((a0.length : Int)) ((0 : Int)) (([] : List Mk.Write)))
def mkref1_Do_l1 (k11 : Int → Mk.Reply → (List Mk.Write) → Option ((List Mk.Write) × Mk.Reply)) : Nat → (List Mk.Write) → Int → (List Mk.Write) → Int → Int → Mk.Call → Mk.Reply → (List Mk.Write) → Option ((List Mk.Write) × Mk.Reply)
 | 0, _, _, _, _, _, _, _, _ => none
 | m12 + 1, x2_m12, x6_m12, x76_m12, x77_m12, x78_m12, y3_m12, y5_m12, y1009_m12 =>
 (bif (decide (x78_m12 < x77_m12)) then (
 J (fun (x2_k14 : List Mk.Write) (x6_k14 : Int) (x76_k14 : List Mk.Write) (x77_k14 : Int) (x78_k14 : Int) (y3_k14 : Mk.Call) (y5_k14 : Mk.Reply) (y1009_k14 : List Mk.Write) =>
 G (I (x78_k14 + (1 : Int))) (
 mkref1_Do_l1 k11 m12 (x2_k14) (x6_k14) (x76_k14) (x77_k14) ((x78_k14 + (1 : Int))) (y3_k14) (y5_k14) (y1009_k14))) (fun k14 =>
 G ((0 ≤ x78_m12 ∧ x78_m12 < (x76_m12.length : Int))) (
 J (fun (x2_k16 : List Mk.Write) (x6_k16 : Int) (x10_k16 : Int) (x76_k16 : List Mk.Write) (x77_k16 : Int) (x78_k16 : Int) (y3_k16 : Mk.Call) (y5_k16 : Mk.Reply) (y11_k16 : Mk.Write) (y1009_k16 : List Mk.Write) =>
 G (I ((x2_k16.length : Int) - (1 : Int))) (
 (bif (decide (x10_k16 < ((x2_k16.length : Int) - (1 : Int)))) then (
 G (((y1009_k16.length + ([y11_k16] : List Mk.Write).length) * 16 ≤ 140737488355328 ∧ y1009_k16.length + ([y11_k16] : List Mk.Write).length ≤ 9223372036854775807)) (
 k14 (x2_k16) (x6_k16) (x76_k16) (x77_k16) (x78_k16) (y3_k16) (y5_k16) ((y1009_k16 ++ ([y11_k16] : List Mk.Write))))) else (
 k14 (x2_k16) (x6_k16) (x76_k16) (x77_k16) (x78_k16) (y3_k16) (y5_k16) (y1009_k16))))) (fun k16 =>
 (bif (decide ((ix x76_m12 x78_m12).At = y3_m12.Name)) then (
 G (I ((x2_m12.length : Int) - (1 : Int))) (
 G ((0 ≤ ((x2_m12.length : Int) - (1 : Int)) ∧ ((x2_m12.length : Int) - (1 : Int)) < (x2_m12.length : Int))) (
 k16 (x2_m12) (x6_m12) (x78_m12) (x76_m12) (x77_m12) (x78_m12) (y3_m12) (y5_m12) ((ix x2_m12 ((x2_m12.length : Int) - (1 : Int)))) (y1009_m12)))) else (
 k16 (x2_m12) (x6_m12) (x78_m12) (x76_m12) (x77_m12) (x78_m12) (y3_m12) (y5_m12) ((ix x76_m12 x78_m12)) (y1009_m12))))))) else (
 k11 (x6_m12) (y5_m12) (y1009_m12)))
def mkref1_Do (a0 : List Mk.Write) (a1 : Mk.Call) : Option ((List Mk.Write) × Mk.Reply) :=
 (mkref1_get (a0) (a1.Name)).bind (fun v1 =>
 (bif (decide (a1.Kind = (5 : Int))) then (
 some (a0, ({ Err := (0 : Int), N := (a0.length : Int) } : Mk.Reply))) else (
 (bif (((decide (a1.Kind = (1 : Int))) && (!v1.2)) && (decide ((5 : Int) ≤ (a0.length : Int)))) then (
 (mkref1_Do_1 ((9 : Int)) (a0)).bind (fun v4 =>
 some (v4.1, v4.2))) else (
 (bif (decide (a1.Kind = (1 : Int))) then (
 (mkref1_set (a0) (a1.Name) (a1.N)).bind (fun v6 =>
 some (v6, ({ Err := (0 : Int), N := v1.1 } : Mk.Reply)))) else (
 (bif (!v1.2) then (
 (mkref1_Do_1 ((6 : Int)) (a0)).bind (fun v8 =>
 some (v8.1, v8.2))) else (
 (bif (decide (a1.Kind = (2 : Int))) then (
 some (a0, ({ Err := (0 : Int), N := v1.1 } : Mk.Reply))) else (
 (bif (decide (a1.Kind = (3 : Int))) then (
 J (fun (x6_k11 : Int) (y5_k11 : Mk.Reply) (y1009_k11 : List Mk.Write) =>
 some (y1009_k11, ({ Err := (0 : Int), N := x6_k11 } : Mk.Reply))) (fun k11 =>
 mkref1_Do_l1 k11 (((a0.length : Int) - (0 : Int)).toNat + 1) (a0) (v1.1) (a0) ((a0.length : Int)) ((0 : Int)) (a1) (({ Err := (0 : Int), N := (0 : Int) } : Mk.Reply)) (([] : List Mk.Write)))) else (
 (bif (decide (a1.Kind = (4 : Int))) then (
 G (I (v1.1 + a1.N)) (
 G (((decide ((1073741824 : Int) < (v1.1 + a1.N)))) = false → I (v1.1 + a1.N)) (
 (bif ((decide ((1073741824 : Int) < (v1.1 + a1.N))) || (decide ((v1.1 + a1.N) < (-1073741824 : Int)))) then (
 (mkref1_Do_1 ((3 : Int)) (a0)).bind (fun v28 =>
 some (v28.1, v28.2))) else (
 G (I (v1.1 + a1.N)) (
 (mkref1_set (a0) (a1.Name) ((v1.1 + a1.N))).bind (fun v30 =>
 G (I (v1.1 + a1.N)) (
 some (v30, ({ Err := (0 : Int), N := (v1.1 + a1.N) } : Mk.Reply)))))))))) else (
 (mkref1_get (a0) (a1.Other)).bind (fun v32 =>
 (bif (!v32.2) then (
 (mkref1_Do_1 ((6 : Int)) (a0)).bind (fun v34 =>
 some (v34.1, v34.2))) else (
 (mkref1_set (a0) (a1.Name) (v32.1)).bind (fun v35 =>
 (mkref1_set (v35) (a1.Other) (v1.1)).bind (fun v36 =>
 some (v36, ({ Err := (0 : Int), N := v32.1 } : Mk.Reply))))))))))))))))))))))
def mkref1_Find_l1 (k1 : Unit → Option Int) : Nat → (List Int) → Int → Int → Option Int
 | 0, _, _, _ => none
 | m2 + 1, x0_m2, x1_m2, x5_m2 =>
 G ((0 ≤ (0 : Int) ∧ (0 : Int) < (x0_m2.length : Int))) (
 G (I ((2 : Int) * (ix x0_m2 (0 : Int)))) (
 G (I ((1 : Int) + ((2 : Int) * (ix x0_m2 (0 : Int))))) (
 (bif (decide (x5_m2 < ((1 : Int) + ((2 : Int) * (ix x0_m2 (0 : Int)))))) then (
 G ((0 ≤ x5_m2 ∧ x5_m2 < (x0_m2.length : Int))) (
 (bif (decide ((ix x0_m2 x5_m2) = x1_m2)) then (
 G (((2 : Int) ≠ 0 ∧ I (Int.tdiv x5_m2 (2 : Int)))) (
 some ((Int.tdiv x5_m2 (2 : Int))))) else (
 G (I (x5_m2 + (2 : Int))) (
 mkref1_Find_l1 k1 m2 (x0_m2) (x1_m2) ((x5_m2 + (2 : Int)))))))) else (
 k1 ())))))
def mkref1_Find (a0 : List Int) (a1 : Int) : Option Int :=
 J (fun (_ : Unit) =>
 some ((-1 : Int))) (fun k1 =>
 mkref1_Find_l1 k1 ((((1 : Int) + ((2 : Int) * (ix a0 (0 : Int)))) - (1 : Int)).toNat + 1) (a0) (a1) ((1 : Int)))
def mkref1_Plan (a0 : List Int) (a1 : Mk.Call) : Option ((List Mk.Write) × Mk.Reply) :=
 (mkref1_Of (a0)).bind (fun v1 =>
 (mkref1_Do (v1) (a1)).bind (fun v2 =>
 (bif (!decide (v2.2.Err = (0 : Int))) then (
 some (([] : List Mk.Write), v2.2)) else (
 (mkref1_Find (a0) (a1.Name)).bind (fun v4 =>
 J (fun (x6_k5 : List Mk.Write) (x7_k5 : List Mk.Write) (y5_k5 : Mk.Reply) (y8_k5 : Mk.Reply) (y1009_k5 : List Mk.Write) =>
 J (fun (y5_k29 : Mk.Reply) (y8_k29 : Mk.Reply) (y1009_k29 : List Mk.Write) =>
 some (y1009_k29, y8_k29)) (fun k29 =>
 (bif (!decide ((x7_k5.length : Int) = (x6_k5.length : Int))) then (
 G (((y1009_k5.length + ([({ At := (0 : Int), N := (x7_k5.length : Int) } : Mk.Write)] : List Mk.Write).length) * 16 ≤ 140737488355328 ∧ y1009_k5.length + ([({ At := (0 : Int), N := (x7_k5.length : Int) } : Mk.Write)] : List Mk.Write).length ≤ 9223372036854775807)) (
 k29 (y5_k5) (y8_k5) ((y1009_k5 ++ ([({ At := (0 : Int), N := (x7_k5.length : Int) } : Mk.Write)] : List Mk.Write))))) else (
 k29 (y5_k5) (y8_k5) (y1009_k5))))) (fun k5 =>
 (bif (decide (a1.Kind = (6 : Int))) then (
 (mkref1_Find (a0) (a1.Other)).bind (fun v7 =>
 G (I ((2 : Int) * v4)) (
 G (I ((2 : Int) + ((2 : Int) * v4))) (
 G ((0 ≤ v4 ∧ v4 < (v2.1.length : Int))) (
 G (I ((2 : Int) * v7)) (
 G (I ((2 : Int) + ((2 : Int) * v7))) (
 G ((0 ≤ v7 ∧ v7 < (v2.1.length : Int))) (
 some (([({ At := ((2 : Int) + ((2 : Int) * v4)), N := (ix v2.1 v4).N } : Mk.Write), ({ At := ((2 : Int) + ((2 : Int) * v7)), N := (ix v2.1 v7).N } : Mk.Write)] : List Mk.Write), v2.2))))))))) else (
 (bif ((decide (a1.Kind = (3 : Int))) && (decide (v4 < (v2.1.length : Int)))) then (
 G (I ((2 : Int) * v4)) (
 G (I ((1 : Int) + ((2 : Int) * v4))) (
 G ((0 ≤ v4 ∧ v4 < (v2.1.length : Int))) (
 G (I ((2 : Int) * v4)) (
 G (I ((2 : Int) + ((2 : Int) * v4))) (
 G ((0 ≤ v4 ∧ v4 < (v2.1.length : Int))) (
 k5 (v1) (v2.1) (({ Err := (0 : Int), N := (0 : Int) } : Mk.Reply)) (v2.2) (([({ At := ((1 : Int) + ((2 : Int) * v4)), N := (ix v2.1 v4).At } : Mk.Write), ({ At := ((2 : Int) + ((2 : Int) * v4)), N := (ix v2.1 v4).N } : Mk.Write)] : List Mk.Write))))))))) else (
 (bif ((decide (a1.Kind = (1 : Int))) && (decide (v4 < (0 : Int)))) then (
 G (I ((2 : Int) * (v2.1.length : Int))) (
 G (I (((2 : Int) * (v2.1.length : Int)) - (1 : Int))) (
 G (I ((2 : Int) * (v2.1.length : Int))) (
 k5 (v1) (v2.1) (({ Err := (0 : Int), N := (0 : Int) } : Mk.Reply)) (v2.2) (([({ At := (((2 : Int) * (v2.1.length : Int)) - (1 : Int)), N := a1.Name } : Mk.Write), ({ At := ((2 : Int) * (v2.1.length : Int)), N := a1.N } : Mk.Write)] : List Mk.Write)))))) else (
 (bif ((decide (a1.Kind = (1 : Int))) || (decide (a1.Kind = (4 : Int)))) then (
 G (I ((2 : Int) * v4)) (
 G (I ((2 : Int) + ((2 : Int) * v4))) (
 G ((0 ≤ v4 ∧ v4 < (v2.1.length : Int))) (
 some (([({ At := ((2 : Int) + ((2 : Int) * v4)), N := (ix v2.1 v4).N } : Mk.Write)] : List Mk.Write), v2.2))))) else (
 k5 (v1) (v2.1) (({ Err := (0 : Int), N := (0 : Int) } : Mk.Reply)) (v2.2) (([] : List Mk.Write))))))))))))))))
def mkref1_Set_l2 (k5 : (List Mk.Write) → Int → (List Int) → Int → Int → (List Int) → Option ((List Int))) : Nat → (List Mk.Write) → Int → Int → (List Int) → Int → Int → (List Mk.Write) → Int → Int → (List Int) → Option ((List Int))
 | 0, _, _, _, _, _, _, _, _, _, _ => none
 | m6 + 1, x1_m6, x6_m6, x7_m6, x10_m6, x11_m6, x12_m6, x17_m6, x18_m6, x19_m6, y1005_m6 =>
 (bif (decide (x19_m6 < x18_m6)) then (
 J (fun (x1_k8 : List Mk.Write) (x6_k8 : Int) (x7_k8 : Int) (x10_k8 : List Int) (x11_k8 : Int) (x12_k8 : Int) (x17_k8 : List Mk.Write) (x18_k8 : Int) (x19_k8 : Int) (y1005_k8 : List Int) =>
 G (I (x19_k8 + (1 : Int))) (
 mkref1_Set_l2 k5 m6 (x1_k8) (x6_k8) (x7_k8) (x10_k8) (x11_k8) (x12_k8) (x17_k8) (x18_k8) ((x19_k8 + (1 : Int))) (y1005_k8))) (fun k8 =>
 G ((0 ≤ x19_m6 ∧ x19_m6 < (x17_m6.length : Int))) (
 (bif (decide ((ix x17_m6 x19_m6).At = x6_m6)) then (
 k8 (x1_m6) (x6_m6) ((ix x17_m6 x19_m6).N) (x10_m6) (x11_m6) (x12_m6) (x17_m6) (x18_m6) (x19_m6) (y1005_m6)) else (
 k8 (x1_m6) (x6_m6) (x7_m6) (x10_m6) (x11_m6) (x12_m6) (x17_m6) (x18_m6) (x19_m6) (y1005_m6)))))) else (
 k5 (x1_m6) (x7_m6) (x10_m6) (x11_m6) (x12_m6) (y1005_m6)))
def mkref1_Set_l1 (k1 : (List Int) → Option ((List Int))) : Nat → (List Mk.Write) → (List Int) → Int → Int → (List Int) → Option ((List Int))
 | 0, _, _, _, _, _ => none
 | m2 + 1, x1_m2, x10_m2, x11_m2, x12_m2, y1005_m2 =>
 (bif (decide (x12_m2 < x11_m2)) then (
 G ((0 ≤ x12_m2 ∧ x12_m2 < (x10_m2.length : Int))) (
 J (fun (x1_k5 : List Mk.Write) (x7_k5 : Int) (x10_k5 : List Int) (x11_k5 : Int) (x12_k5 : Int) (y1005_k5 : List Int) =>
 G (((y1005_k5.length + ([x7_k5] : List Int).length) * 8 ≤ 140737488355328 ∧ y1005_k5.length + ([x7_k5] : List Int).length ≤ 9223372036854775807)) (
 G (I (x12_k5 + (1 : Int))) (
 mkref1_Set_l1 k1 m2 (x1_k5) (x10_k5) (x11_k5) ((x12_k5 + (1 : Int))) ((y1005_k5 ++ ([x7_k5] : List Int)))))) (fun k5 =>
 mkref1_Set_l2 k5 (((x1_m2.length : Int) - (0 : Int)).toNat + 1) (x1_m2) (x12_m2) ((ix x10_m2 x12_m2)) (x10_m2) (x11_m2) (x12_m2) (x1_m2) ((x1_m2.length : Int)) ((0 : Int)) (y1005_m2)))) else (
 k1 (y1005_m2)))
def mkref1_Set (a0 : List Int) (a1 : List Mk.Write) : Option ((List Int)) :=
 J (fun (y1005_k1 : List Int) =>
 some (y1005_k1)) (fun k1 =>
 mkref1_Set_l1 k1 (((a0.length : Int) - (0 : Int)).toNat + 1) (a1) (a0) ((a0.length : Int)) ((0 : Int)) (([] : List Int)))
def mkref1_Set2_l1 (k1 : (List Int) → Option ((List Int))) : Nat → (List Int) → (List Mk.Write) → Int → Int → Option ((List Int))
 | 0, _, _, _, _ => none
 | m2 + 1, x0_m2, x7_m2, x8_m2, x9_m2 =>
 (bif (decide (x9_m2 < x8_m2)) then (
 G ((0 ≤ x9_m2 ∧ x9_m2 < (x7_m2.length : Int))) (
 (mkref1_Set (x0_m2) (([(ix x7_m2 x9_m2)] : List Mk.Write))).bind (fun v5 =>
 G (I (x9_m2 + (1 : Int))) (
 mkref1_Set2_l1 k1 m2 (v5) (x7_m2) (x8_m2) ((x9_m2 + (1 : Int))))))) else (
 k1 (x0_m2)))
def mkref1_Set2 (a0 : List Int) (a1 : List Mk.Write) : Option ((List Int)) :=
 J (fun (x0_k1 : List Int) =>
 some (x0_k1)) (fun k1 =>
 mkref1_Set2_l1 k1 (((a1.length : Int) - (0 : Int)).toNat + 1) (a0) (a1) ((a1.length : Int)) ((0 : Int)))
end Sp
end
section
namespace Sp
def wire_who (a0 : Int) (a1 : Int) : Option Int :=
 (bif ((((decide (a0 < (0 : Int))) || (decide ((3 : Int) ≤ a0))) || (decide (a1 < (0 : Int)))) || (decide ((8 : Int) ≤ a1))) then (
 some ((3 : Int))) else (
 some ((0 : Int))))
def model_Wrong_1 (a0 : Int) : Option Bool :=
 some (((decide ((1 : Int) ≤ a0)) && (decide (a0 ≤ (255 : Int)))))
def model_Wrong (a0 : Mk.Call) : Option Int :=
 (bif ((decide (a0.Kind < (1 : Int))) || (decide ((6 : Int) < a0.Kind))) then (
 some ((1 : Int))) else (
 J (fun (x13_k2 : Bool) (y1_k2 : Mk.Call) =>
 (bif x13_k2 then (
 some ((7 : Int))) else (
 (bif (((decide (y1_k2.N < (-1073741824 : Int))) || (decide ((1073741824 : Int) < y1_k2.N))) || (((!decide (y1_k2.Kind = (1 : Int))) && (!decide (y1_k2.Kind = (4 : Int)))) && (!decide (y1_k2.N = (0 : Int))))) then (
 some ((3 : Int))) else (
 some ((0 : Int))))))) (fun k2 =>
 (model_Wrong_1 (a0.Name)).bind (fun v3 =>
 (bif ((!decide ((!decide (a0.Kind = (5 : Int))) = v3)) || ((decide (a0.Kind = (5 : Int))) && (!decide (a0.Name = (0 : Int))))) then (
 k2 (((!decide ((!decide (a0.Kind = (5 : Int))) = v3)) || ((decide (a0.Kind = (5 : Int))) && (!decide (a0.Name = (0 : Int)))))) (a0)) else (
 (model_Wrong_1 (a0.Other)).bind (fun v5 =>
 k2 (((!decide ((decide (a0.Kind = (6 : Int))) = v5)) || ((!decide (a0.Kind = (6 : Int))) && (!decide (a0.Other = (0 : Int)))))) (a0))))))))
def wire_WrongRequest (a0 : Mk.Request) : Option Int :=
 (wire_who (a0.Client) (a0.Token)).bind (fun v1 =>
 (bif (!decide (v1 = (0 : Int))) then (
 some (v1)) else (
 (model_Wrong (a0.Call)).bind (fun v3 =>
 some (v3)))))
def mkref1_who (a0 : Int) (a1 : Int) : Option Bool :=
 some (((((decide ((0 : Int) ≤ a0)) && (decide (a0 < (3 : Int)))) && (decide ((0 : Int) ≤ a1))) && (decide (a1 < (8 : Int)))))
def mkref1_WrongRequest (a0 : Mk.Request) : Option Int :=
 (mkref1_who (a0.Client) (a0.Token)).bind (fun v1 =>
 (bif (!v1) then (
 some ((3 : Int))) else (
 (mkref1_WrongCall (a0.Call)).bind (fun v3 =>
 some (v3)))))
def wire_WrongAnswer (a0 : Mk.Answer) : Option Int :=
 (wire_who (a0.Client) (a0.Token)).bind (fun v1 =>
 (bif (!decide (v1 = (0 : Int))) then (
 some (v1)) else (
 (bif (((((decide (a0.Reply.Err < (0 : Int))) || (decide ((12 : Int) < a0.Reply.Err))) || (decide (a0.Reply.N < (-1073741824 : Int)))) || (decide ((1073741824 : Int) < a0.Reply.N))) || ((!decide (a0.Reply.Err = (0 : Int))) && (!decide (a0.Reply.N = (0 : Int))))) then (
 some ((3 : Int))) else (
 some ((0 : Int)))))))
def mkref1_WrongAnswer (a0 : Mk.Answer) : Option Int :=
 (mkref1_who (a0.Client) (a0.Token)).bind (fun v1 =>
 (bif ((((((!v1) || (decide (a0.Reply.Err < (0 : Int)))) || (decide ((12 : Int) < a0.Reply.Err))) || (decide ((1073741824 : Int) < a0.Reply.N))) || (decide (a0.Reply.N < (-1073741824 : Int)))) || ((decide ((0 : Int) < a0.Reply.Err)) && (!decide (a0.Reply.N = (0 : Int))))) then (
 some ((3 : Int))) else (
 some ((0 : Int)))))
def wire_num (a0 : List UInt8) (a1 : Int) : Option ((List UInt8)) :=
 G (((a0.length + ([(u8 (shrI a1 24)), (u8 (shrI a1 16)), (u8 (shrI a1 8)), (u8 a1)] : List UInt8).length) * 1 ≤ 140737488355328 ∧ a0.length + ([(u8 (shrI a1 24)), (u8 (shrI a1 16)), (u8 (shrI a1 8)), (u8 a1)] : List UInt8).length ≤ 9223372036854775807)) (
 some ((a0 ++ ([(u8 (shrI a1 24)), (u8 (shrI a1 16)), (u8 (shrI a1 8)), (u8 a1)] : List UInt8))))
def wire_Request (a0 : Mk.Request) : Option ((List UInt8)) :=
 (wire_num (([(UInt8.ofNat 113), (u8 a0.Client), (u8 a0.Token), (u8 a0.Call.Kind), (u8 a0.Call.Name), (u8 a0.Call.Other)] : List UInt8)) (a0.Call.N)).bind (fun v1 =>
 some (v1))
def mkref1_four (a0 : Int) : Option ByteArray :=
 some ((bts ([(u8 (u32 (Int.tdiv (u32 a0).n (⟨16777216⟩ : U32).n)).n), (u8 (⟨Int.tmod (u32 (Int.tdiv (u32 a0).n (⟨65536⟩ : U32).n)).n (⟨256⟩ : U32).n⟩ : U32).n), (u8 (⟨Int.tmod (u32 (Int.tdiv (u32 a0).n (⟨256⟩ : U32).n)).n (⟨256⟩ : U32).n⟩ : U32).n), (u8 (⟨Int.tmod (u32 a0).n (⟨256⟩ : U32).n⟩ : U32).n)] : List UInt8)))
def mkref1_RequestBytes (a0 : Mk.Request) : Option ((List UInt8)) :=
 G (((⟨#[113]⟩ : ByteArray).size + (bts ([(u8 a0.Client), (u8 a0.Token), (u8 a0.Call.Kind), (u8 a0.Call.Name), (u8 a0.Call.Other)] : List UInt8)).size ≤ 9223372036854775807)) (
 (mkref1_four (a0.Call.N)).bind (fun v2 =>
 G ((((⟨#[113]⟩ : ByteArray) ++ (bts ([(u8 a0.Client), (u8 a0.Token), (u8 a0.Call.Kind), (u8 a0.Call.Name), (u8 a0.Call.Other)] : List UInt8))).size + v2.size ≤ 9223372036854775807)) (
 some ((stb (((⟨#[113]⟩ : ByteArray) ++ (bts ([(u8 a0.Client), (u8 a0.Token), (u8 a0.Call.Kind), (u8 a0.Call.Name), (u8 a0.Call.Other)] : List UInt8))) ++ v2))))))
def wire_Answer (a0 : Mk.Answer) : Option ((List UInt8)) :=
 (wire_num (([(UInt8.ofNat 97), (u8 a0.Client), (u8 a0.Token), (u8 a0.Reply.Err)] : List UInt8)) (a0.Reply.N)).bind (fun v1 =>
 some (v1))
def mkref1_AnswerBytes (a0 : Mk.Answer) : Option ((List UInt8)) :=
 G (((⟨#[97]⟩ : ByteArray).size + (bts ([(u8 a0.Client), (u8 a0.Token), (u8 a0.Reply.Err)] : List UInt8)).size ≤ 9223372036854775807)) (
 (mkref1_four (a0.Reply.N)).bind (fun v2 =>
 G ((((⟨#[97]⟩ : ByteArray) ++ (bts ([(u8 a0.Client), (u8 a0.Token), (u8 a0.Reply.Err)] : List UInt8))).size + v2.size ≤ 9223372036854775807)) (
 some ((stb (((⟨#[97]⟩ : ByteArray) ++ (bts ([(u8 a0.Client), (u8 a0.Token), (u8 a0.Reply.Err)] : List UInt8))) ++ v2))))))
def wire_get (a0 : List UInt8) : Option Int :=
 G ((0 ≤ (0 : Int) ∧ (0 : Int) < (a0.length : Int))) (
 G ((0 ≤ (1 : Int) ∧ (1 : Int) < (a0.length : Int))) (
 G ((0 ≤ (2 : Int) ∧ (2 : Int) < (a0.length : Int))) (
 G ((0 ≤ (3 : Int) ∧ (3 : Int) < (a0.length : Int))) (
 some ((i32 (orU (orU (orU (shlU (⟨(((ix a0 (0 : Int)).toNat : Nat) : Int)⟩ : U32) 24) (shlU (⟨(((ix a0 (1 : Int)).toNat : Nat) : Int)⟩ : U32) 16)) (shlU (⟨(((ix a0 (2 : Int)).toNat : Nat) : Int)⟩ : U32) 8)) (⟨(((ix a0 (3 : Int)).toNat : Nat) : Int)⟩ : U32)).n).n)))))
def wire_ReadRequest (a0 : List UInt8) : Option (Mk.Request × Int) :=
 G (((!decide ((a0.length : Int) = (10 : Int)))) = false → (0 ≤ (0 : Int) ∧ (0 : Int) < (a0.length : Int))) (
 (bif ((!decide ((a0.length : Int) = (10 : Int))) || (!decide ((ix a0 (0 : Int)) = (UInt8.ofNat 113)))) then (
 some (({ Client := (0 : Int), Token := (0 : Int), Call := ({ Kind := (0 : Int), Name := (0 : Int), Other := (0 : Int), N := (0 : Int) } : Mk.Call) } : Mk.Request), (2 : Int))) else (
 G ((0 ≤ (1 : Int) ∧ (1 : Int) < (a0.length : Int))) (
 G ((0 ≤ (2 : Int) ∧ (2 : Int) < (a0.length : Int))) (
 G ((0 ≤ (3 : Int) ∧ (3 : Int) < (a0.length : Int))) (
 G ((0 ≤ (4 : Int) ∧ (4 : Int) < (a0.length : Int))) (
 G ((0 ≤ (5 : Int) ∧ (5 : Int) < (a0.length : Int))) (
 G ((0 ≤ (6 : Int) ∧ (6 : Int) ≤ (a0.length : Int) ∧ (a0.length : Int) ≤ (a0.length : Int))) (
 (wire_get ((sub a0 (6 : Int) (a0.length : Int)))).bind (fun v9 =>
 (wire_WrongRequest (({ Client := (((ix a0 (1 : Int)).toNat : Nat) : Int), Token := (((ix a0 (2 : Int)).toNat : Nat) : Int), Call := ({ Kind := (((ix a0 (3 : Int)).toNat : Nat) : Int), Name := (((ix a0 (4 : Int)).toNat : Nat) : Int), Other := (((ix a0 (5 : Int)).toNat : Nat) : Int), N := v9 } : Mk.Call) } : Mk.Request))).bind (fun v10 =>
 (bif (!decide (v10 = (0 : Int))) then (
 some (({ Client := (0 : Int), Token := (0 : Int), Call := ({ Kind := (0 : Int), Name := (0 : Int), Other := (0 : Int), N := (0 : Int) } : Mk.Call) } : Mk.Request), v10)) else (
 some (({ Client := (((ix a0 (1 : Int)).toNat : Nat) : Int), Token := (((ix a0 (2 : Int)).toNat : Nat) : Int), Call := ({ Kind := (((ix a0 (3 : Int)).toNat : Nat) : Int), Name := (((ix a0 (4 : Int)).toNat : Nat) : Int), Other := (((ix a0 (5 : Int)).toNat : Nat) : Int), N := v9 } : Mk.Call) } : Mk.Request), (0 : Int)))))))))))))))
def mkref1_num_l1 (k1 : U32 → Option Int) : Nat → (List UInt8) → U32 → Int → Option Int
 | 0, _, _, _ => none
 | m2 + 1, x0_m2, x3_m2, x5_m2 =>
 (bif (decide (x5_m2 < (4 : Int))) then (
 G ((0 ≤ x5_m2 ∧ x5_m2 < (x0_m2.length : Int))) (
 G (I (x5_m2 + (1 : Int))) (
 mkref1_num_l1 k1 m2 (x0_m2) ((u32 ((u32 ((⟨256⟩ : U32).n * x3_m2.n)).n + (⟨(((ix x0_m2 x5_m2).toNat : Nat) : Int)⟩ : U32).n))) ((x5_m2 + (1 : Int)))))) else (
 k1 (x3_m2)))
def mkref1_num (a0 : List UInt8) : Option Int :=
 J (fun (x3_k1 : U32) =>
 some ((i32 x3_k1.n).n)) (fun k1 =>
 mkref1_num_l1 k1 (((4 : Int) - (0 : Int)).toNat + 1) (a0) ((⟨0⟩ : U32)) ((0 : Int)))
def mkref1_ReadRequest (a0 : List UInt8) : Option (Mk.Request × Int) :=
 G (((!decide ((a0.length : Int) = (10 : Int)))) = false → (0 ≤ (0 : Int) ∧ (0 : Int) < (a0.length : Int))) (
 (bif ((!decide ((a0.length : Int) = (10 : Int))) || (!decide ((ix a0 (0 : Int)) = (UInt8.ofNat 113)))) then (
 some (({ Client := (0 : Int), Token := (0 : Int), Call := ({ Kind := (0 : Int), Name := (0 : Int), Other := (0 : Int), N := (0 : Int) } : Mk.Call) } : Mk.Request), (2 : Int))) else (
 G ((0 ≤ (1 : Int) ∧ (1 : Int) < (a0.length : Int))) (
 G ((0 ≤ (2 : Int) ∧ (2 : Int) < (a0.length : Int))) (
 G ((0 ≤ (3 : Int) ∧ (3 : Int) < (a0.length : Int))) (
 G ((0 ≤ (4 : Int) ∧ (4 : Int) < (a0.length : Int))) (
 G ((0 ≤ (5 : Int) ∧ (5 : Int) < (a0.length : Int))) (
 G ((0 ≤ (6 : Int) ∧ (6 : Int) ≤ (a0.length : Int) ∧ (a0.length : Int) ≤ (a0.length : Int))) (
 (mkref1_num ((sub a0 (6 : Int) (a0.length : Int)))).bind (fun v9 =>
 (mkref1_WrongRequest (({ Client := (((ix a0 (1 : Int)).toNat : Nat) : Int), Token := (((ix a0 (2 : Int)).toNat : Nat) : Int), Call := ({ Kind := (((ix a0 (3 : Int)).toNat : Nat) : Int), Name := (((ix a0 (4 : Int)).toNat : Nat) : Int), Other := (((ix a0 (5 : Int)).toNat : Nat) : Int), N := v9 } : Mk.Call) } : Mk.Request))).bind (fun v10 =>
 (bif (!decide (v10 = (0 : Int))) then (
 some (({ Client := (0 : Int), Token := (0 : Int), Call := ({ Kind := (0 : Int), Name := (0 : Int), Other := (0 : Int), N := (0 : Int) } : Mk.Call) } : Mk.Request), v10)) else (
 some (({ Client := (((ix a0 (1 : Int)).toNat : Nat) : Int), Token := (((ix a0 (2 : Int)).toNat : Nat) : Int), Call := ({ Kind := (((ix a0 (3 : Int)).toNat : Nat) : Int), Name := (((ix a0 (4 : Int)).toNat : Nat) : Int), Other := (((ix a0 (5 : Int)).toNat : Nat) : Int), N := v9 } : Mk.Call) } : Mk.Request), (0 : Int)))))))))))))))
def wire_ReadAnswer (a0 : List UInt8) : Option (Mk.Answer × Int) :=
 G (((!decide ((a0.length : Int) = (8 : Int)))) = false → (0 ≤ (0 : Int) ∧ (0 : Int) < (a0.length : Int))) (
 (bif ((!decide ((a0.length : Int) = (8 : Int))) || (!decide ((ix a0 (0 : Int)) = (UInt8.ofNat 97)))) then (
 some (({ Client := (0 : Int), Token := (0 : Int), Reply := ({ Err := (0 : Int), N := (0 : Int) } : Mk.Reply) } : Mk.Answer), (2 : Int))) else (
 G ((0 ≤ (1 : Int) ∧ (1 : Int) < (a0.length : Int))) (
 G ((0 ≤ (2 : Int) ∧ (2 : Int) < (a0.length : Int))) (
 G ((0 ≤ (3 : Int) ∧ (3 : Int) < (a0.length : Int))) (
 G ((0 ≤ (4 : Int) ∧ (4 : Int) ≤ (a0.length : Int) ∧ (a0.length : Int) ≤ (a0.length : Int))) (
 (wire_get ((sub a0 (4 : Int) (a0.length : Int)))).bind (fun v7 =>
 (wire_WrongAnswer (({ Client := (((ix a0 (1 : Int)).toNat : Nat) : Int), Token := (((ix a0 (2 : Int)).toNat : Nat) : Int), Reply := ({ Err := (((ix a0 (3 : Int)).toNat : Nat) : Int), N := v7 } : Mk.Reply) } : Mk.Answer))).bind (fun v8 =>
 (bif (!decide (v8 = (0 : Int))) then (
 some (({ Client := (0 : Int), Token := (0 : Int), Reply := ({ Err := (0 : Int), N := (0 : Int) } : Mk.Reply) } : Mk.Answer), v8)) else (
 some (({ Client := (((ix a0 (1 : Int)).toNat : Nat) : Int), Token := (((ix a0 (2 : Int)).toNat : Nat) : Int), Reply := ({ Err := (((ix a0 (3 : Int)).toNat : Nat) : Int), N := v7 } : Mk.Reply) } : Mk.Answer), (0 : Int)))))))))))))
def mkref1_ReadAnswer (a0 : List UInt8) : Option (Mk.Answer × Int) :=
 G (((!decide ((a0.length : Int) = (8 : Int)))) = false → (0 ≤ (0 : Int) ∧ (0 : Int) < (a0.length : Int))) (
 (bif ((!decide ((a0.length : Int) = (8 : Int))) || (!decide ((ix a0 (0 : Int)) = (UInt8.ofNat 97)))) then (
 some (({ Client := (0 : Int), Token := (0 : Int), Reply := ({ Err := (0 : Int), N := (0 : Int) } : Mk.Reply) } : Mk.Answer), (2 : Int))) else (
 G ((0 ≤ (1 : Int) ∧ (1 : Int) < (a0.length : Int))) (
 G ((0 ≤ (2 : Int) ∧ (2 : Int) < (a0.length : Int))) (
 G ((0 ≤ (3 : Int) ∧ (3 : Int) < (a0.length : Int))) (
 G ((0 ≤ (4 : Int) ∧ (4 : Int) ≤ (a0.length : Int) ∧ (a0.length : Int) ≤ (a0.length : Int))) (
 (mkref1_num ((sub a0 (4 : Int) (a0.length : Int)))).bind (fun v7 =>
 (mkref1_WrongAnswer (({ Client := (((ix a0 (1 : Int)).toNat : Nat) : Int), Token := (((ix a0 (2 : Int)).toNat : Nat) : Int), Reply := ({ Err := (((ix a0 (3 : Int)).toNat : Nat) : Int), N := v7 } : Mk.Reply) } : Mk.Answer))).bind (fun v8 =>
 (bif (!decide (v8 = (0 : Int))) then (
 some (({ Client := (0 : Int), Token := (0 : Int), Reply := ({ Err := (0 : Int), N := (0 : Int) } : Mk.Reply) } : Mk.Answer), v8)) else (
 some (({ Client := (((ix a0 (1 : Int)).toNat : Nat) : Int), Token := (((ix a0 (2 : Int)).toNat : Nat) : Int), Reply := ({ Err := (((ix a0 (3 : Int)).toNat : Nat) : Int), N := v7 } : Mk.Reply) } : Mk.Answer), (0 : Int)))))))))))))
end Sp
end
section
namespace Sp
def cell_New  : Option ((List Int)) :=
 G ((0 ≤ (11 : Int) ∧ (11 : Int) = (11 : Int) ∧ (11 : Int) ≤ 16777216)) (
 some ((List.replicate (Int.toNat (11 : Int)) (0 : Int))))
def slices_Clone___int_int_ (a0 : List Int) : Option ((List Int)) :=
 G (((([] : List Int).length + a0.length) * 8 ≤ 140737488355328 ∧ ([] : List Int).length + a0.length ≤ 9223372036854775807)) (
 some ((([] : List Int) ++ a0)))
def slices_Clone___api_Write_api_Write_ (a0 : List Mk.Write) : Option ((List Mk.Write)) :=
 G (((([] : List Mk.Write).length + a0.length) * 16 ≤ 140737488355328 ∧ ([] : List Mk.Write).length + a0.length ≤ 9223372036854775807)) (
 some ((([] : List Mk.Write) ++ a0)))
def cell_Set_l1 (k2 : (List Int) → Option ((List Int))) : Nat → (List Mk.Write) → Int → Int → (List Int) → Option ((List Int))
 | 0, _, _, _, _ => none
 | m3 + 1, x10_m3, x11_m3, x12_m3, y9_m3 =>
 (bif (decide (x12_m3 < x11_m3)) then (
 J (fun (x10_k5 : List Mk.Write) (x11_k5 : Int) (x12_k5 : Int) (y9_k5 : List Int) =>
 G (I (x12_k5 + (1 : Int))) (
 cell_Set_l1 k2 m3 (x10_k5) (x11_k5) ((x12_k5 + (1 : Int))) (y9_k5))) (fun k5 =>
 G ((0 ≤ x12_m3 ∧ x12_m3 < (x10_m3.length : Int))) (
 (bif ((decide ((0 : Int) ≤ (ix x10_m3 x12_m3).At)) && (decide ((ix x10_m3 x12_m3).At < (y9_m3.length : Int)))) then (
 G ((0 ≤ (ix x10_m3 x12_m3).At ∧ (ix x10_m3 x12_m3).At < (y9_m3.length : Int))) (
 k5 (x10_m3) (x11_m3) (x12_m3) ((up y9_m3 (ix x10_m3 x12_m3).At (ix x10_m3 x12_m3).N)))) else (
 k5 (x10_m3) (x11_m3) (x12_m3) (y9_m3)))))) else (
 k2 (y9_m3)))
def cell_Set (a0 : List Int) (a1 : List Mk.Write) : Option ((List Int)) :=
 (slices_Clone___int_int_ (a0)).bind (fun v1 =>
 J (fun (y9_k2 : List Int) =>
 some (y9_k2)) (fun k2 =>
 cell_Set_l1 k2 (((a1.length : Int) - (0 : Int)).toNat + 1) (a1) ((a1.length : Int)) ((0 : Int)) (v1)))
def slices_Reverse___api_Write_api_Write__l1 : Nat → Int → Int → (List Mk.Write) → Option ((List Mk.Write))
 | 0, _, _, _ => none
 | m2 + 1, x2_m2, x3_m2, y600_m2 =>
 (bif (decide (x2_m2 < x3_m2)) then (
 G ((0 ≤ x3_m2 ∧ x3_m2 < (y600_m2.length : Int))) (
 G ((0 ≤ x2_m2 ∧ x2_m2 < (y600_m2.length : Int))) (
 G ((0 ≤ x2_m2 ∧ x2_m2 < (y600_m2.length : Int))) (
 G ((0 ≤ x3_m2 ∧ x3_m2 < ((up y600_m2 x2_m2 (ix y600_m2 x3_m2)).length : Int))) (
 G (I (x2_m2 + (1 : Int))) (
 G (I (x3_m2 - (1 : Int))) (
 slices_Reverse___api_Write_api_Write__l1  m2 ((x2_m2 + (1 : Int))) ((x3_m2 - (1 : Int))) ((up (up y600_m2 x2_m2 (ix y600_m2 x3_m2)) x3_m2 (ix y600_m2 x2_m2)))))))))) else (
 some (y600_m2)))
def slices_Reverse___api_Write_api_Write_ (a0 : List Mk.Write) : Option ((List Mk.Write)) :=
 G (I ((a0.length : Int) - (1 : Int))) (
 slices_Reverse___api_Write_api_Write__l1  ((((a0.length : Int) - (1 : Int)) - (0 : Int)).toNat + 1) ((0 : Int)) (((a0.length : Int) - (1 : Int))) (a0))
def cell_Undo_l1 (k2 : (List Mk.Write) → Option ((List Mk.Write))) : Nat → (List Mk.Write) → Int → Int → (List Int) → (List Mk.Write) → Option ((List Mk.Write))
 | 0, _, _, _, _, _ => none
 | m3 + 1, x11_m3, x12_m3, x13_m3, y10_m3, y1006_m3 =>
 (bif (decide (x13_m3 < x12_m3)) then (
 J (fun (x11_k5 : List Mk.Write) (x12_k5 : Int) (x13_k5 : Int) (y10_k5 : List Int) (y1006_k5 : List Mk.Write) =>
 G (I (x13_k5 + (1 : Int))) (
 cell_Undo_l1 k2 m3 (x11_k5) (x12_k5) ((x13_k5 + (1 : Int))) (y10_k5) (y1006_k5))) (fun k5 =>
 G ((0 ≤ x13_m3 ∧ x13_m3 < (x11_m3.length : Int))) (
 (bif ((decide ((ix x11_m3 x13_m3).At < (0 : Int))) || (decide ((y10_m3.length : Int) ≤ (ix x11_m3 x13_m3).At))) then (
 k5 (x11_m3) (x12_m3) (x13_m3) (y10_m3) (y1006_m3)) else (
 G ((0 ≤ (ix x11_m3 x13_m3).At ∧ (ix x11_m3 x13_m3).At < (y10_m3.length : Int))) (
 G (((y1006_m3.length + ([({ At := (ix x11_m3 x13_m3).At, N := (ix y10_m3 (ix x11_m3 x13_m3).At) } : Mk.Write)] : List Mk.Write).length) * 16 ≤ 140737488355328 ∧ y1006_m3.length + ([({ At := (ix x11_m3 x13_m3).At, N := (ix y10_m3 (ix x11_m3 x13_m3).At) } : Mk.Write)] : List Mk.Write).length ≤ 9223372036854775807)) (
 G ((0 ≤ (ix x11_m3 x13_m3).At ∧ (ix x11_m3 x13_m3).At < (y10_m3.length : Int))) (
 k5 (x11_m3) (x12_m3) (x13_m3) ((up y10_m3 (ix x11_m3 x13_m3).At (ix x11_m3 x13_m3).N)) ((y1006_m3 ++ ([({ At := (ix x11_m3 x13_m3).At, N := (ix y10_m3 (ix x11_m3 x13_m3).At) } : Mk.Write)] : List Mk.Write))))))))))) else (
 k2 (y1006_m3)))
def cell_Undo (a0 : List Int) (a1 : List Mk.Write) : Option ((List Mk.Write)) :=
 (slices_Clone___int_int_ (a0)).bind (fun v1 =>
 J (fun (y1006_k2 : List Mk.Write) =>
 (slices_Reverse___api_Write_api_Write_ (y1006_k2)).bind (fun v12 =>
 some (v12))) (fun k2 =>
 cell_Undo_l1 k2 (((a1.length : Int) - (0 : Int)).toNat + 1) (a1) ((a1.length : Int)) ((0 : Int)) (v1) (([] : List Mk.Write))))
end Sp
end
section
namespace Sp
def store_New  : Option Mk.Store :=
 (cell_New).bind (fun v1 =>
 some (({ Cells := v1, Undo := ([] : List Mk.Write), Answers := ([] : List Mk.Answer), Past := ([] : List Mk.Request) } : Mk.Store)))
def store_Last_l1 (k1 : Mk.Answer → Option (Mk.Answer × Bool)) : Nat → Int → (List Mk.Answer) → Int → Int → Mk.Answer → Option (Mk.Answer × Bool)
 | 0, _, _, _, _, _ => none
 | m2 + 1, x1_m2, x9_m2, x10_m2, x11_m2, y4_m2 =>
 (bif (decide (x11_m2 < x10_m2)) then (
 G ((0 ≤ x11_m2 ∧ x11_m2 < (x9_m2.length : Int))) (
 (bif (decide ((ix x9_m2 x11_m2).Client = x1_m2)) then (
 some ((ix x9_m2 x11_m2), true)) else (
 G (I (x11_m2 + (1 : Int))) (
 store_Last_l1 k1 m2 (x1_m2) (x9_m2) (x10_m2) ((x11_m2 + (1 : Int))) (y4_m2)))))) else (
 k1 (y4_m2)))
def store_Last (a0 : Mk.Store) (a1 : Int) : Option (Mk.Answer × Bool) :=
 J (fun (y4_k1 : Mk.Answer) =>
 some (({ Client := (0 : Int), Token := (0 : Int), Reply := ({ Err := (0 : Int), N := (0 : Int) } : Mk.Reply) } : Mk.Answer), false)) (fun k1 =>
 store_Last_l1 k1 (((a0.Answers.length : Int) - (0 : Int)).toNat + 1) (a1) (a0.Answers) ((a0.Answers.length : Int)) ((0 : Int)) (({ Client := (0 : Int), Token := (0 : Int), Reply := ({ Err := (0 : Int), N := (0 : Int) } : Mk.Reply) } : Mk.Answer)))
def mkref1_Last_l1 (k1 : Mk.Answer → Option (Mk.Answer × Bool)) : Nat → Int → Int → Int → Mk.Store → Mk.Answer → Option (Mk.Answer × Bool)
 | 0, _, _, _, _, _ => none
 | m2 + 1, x1_m2, x9_m2, x10_m2, y2_m2, y4_m2 =>
 (bif (decide (x10_m2 < x9_m2)) then (
 G ((0 ≤ x10_m2 ∧ x10_m2 < (y2_m2.Answers.length : Int))) (
 (bif (decide ((ix y2_m2.Answers x10_m2).Client = x1_m2)) then (
 G ((0 ≤ x10_m2 ∧ x10_m2 < (y2_m2.Answers.length : Int))) (
 some ((ix y2_m2.Answers x10_m2), true))) else (
 G (I (x10_m2 + (1 : Int))) (
 mkref1_Last_l1 k1 m2 (x1_m2) (x9_m2) ((x10_m2 + (1 : Int))) (y2_m2) (y4_m2)))))) else (
 k1 (y4_m2)))
def mkref1_Last (a0 : Mk.Store) (a1 : Int) : Option (Mk.Answer × Bool) :=
 J (fun (y4_k1 : Mk.Answer) =>
 some (({ Client := (0 : Int), Token := (0 : Int), Reply := ({ Err := (0 : Int), N := (0 : Int) } : Mk.Reply) } : Mk.Answer), false)) (fun k1 =>
 mkref1_Last_l1 k1 (((a0.Answers.length : Int) - (0 : Int)).toNat + 1) (a1) ((a0.Answers.length : Int)) ((0 : Int)) (a0) (({ Client := (0 : Int), Token := (0 : Int), Reply := ({ Err := (0 : Int), N := (0 : Int) } : Mk.Reply) } : Mk.Answer)))
def slices_Clone___api_Answer_api_Answer_ (a0 : List Mk.Answer) : Option ((List Mk.Answer)) :=
 G (((([] : List Mk.Answer).length + a0.length) * 32 ≤ 140737488355328 ∧ ([] : List Mk.Answer).length + a0.length ≤ 9223372036854775807)) (
 some ((([] : List Mk.Answer) ++ a0)))
def slices_Clone___api_Request_api_Request_ (a0 : List Mk.Request) : Option ((List Mk.Request)) :=
 G (((([] : List Mk.Request).length + a0.length) * 48 ≤ 140737488355328 ∧ ([] : List Mk.Request).length + a0.length ≤ 9223372036854775807)) (
 some ((([] : List Mk.Request) ++ a0)))
def store_Own (a0 : Mk.Store) : Option Mk.Store :=
 (slices_Clone___int_int_ (a0.Cells)).bind (fun v1 =>
 (slices_Clone___api_Write_api_Write_ (a0.Undo)).bind (fun v2 =>
 (slices_Clone___api_Answer_api_Answer_ (a0.Answers)).bind (fun v3 =>
 (slices_Clone___api_Request_api_Request_ (a0.Past)).bind (fun v4 =>
 some (({ Cells := v1, Undo := v2, Answers := v3, Past := v4 } : Mk.Store))))))
def store_Write (a0 : Mk.Store) (a1 : Mk.Write) : Option Mk.Store :=
 (store_Own (a0)).bind (fun v1 =>
 (cell_Undo (a0.Cells) (([a1] : List Mk.Write))).bind (fun v2 =>
 G (((v2.length + v1.Undo.length) * 16 ≤ 140737488355328 ∧ v2.length + v1.Undo.length ≤ 9223372036854775807)) (
 (cell_Set ({ v1 with Undo := (v2 ++ v1.Undo) }.Cells) (([a1] : List Mk.Write))).bind (fun v4 =>
 some ({ ({ v1 with Undo := (v2 ++ v1.Undo) }) with Cells := v4 })))))
def mkref1_Write (a0 : Mk.Store) (a1 : Mk.Write) : Option Mk.Store :=
 J (fun (y2_k1 : Mk.Store) (y4_k1 : Mk.Store) =>
 some (y2_k1)) (fun k1 =>
 (bif ((decide ((0 : Int) ≤ a1.At)) && (decide (a1.At < (a0.Cells.length : Int)))) then (
 G ((0 ≤ a1.At ∧ a1.At < (a0.Cells.length : Int))) (
 G (((([({ At := a1.At, N := (ix a0.Cells a1.At) } : Mk.Write)] : List Mk.Write).length + a0.Undo.length) * 16 ≤ 140737488355328 ∧ ([({ At := a1.At, N := (ix a0.Cells a1.At) } : Mk.Write)] : List Mk.Write).length + a0.Undo.length ≤ 9223372036854775807)) (
 (mkref1_Set ({ a0 with Undo := (([({ At := a1.At, N := (ix a0.Cells a1.At) } : Mk.Write)] : List Mk.Write) ++ a0.Undo) }.Cells) (([a1] : List Mk.Write))).bind (fun v5 =>
 k1 ({ ({ a0 with Undo := (([({ At := a1.At, N := (ix a0.Cells a1.At) } : Mk.Write)] : List Mk.Write) ++ a0.Undo) }) with Cells := v5 }) (({ Cells := ([] : List Int), Undo := ([] : List Mk.Write), Answers := ([] : List Mk.Answer), Past := ([] : List Mk.Request) } : Mk.Store)))))) else (
 k1 (a0) (({ Cells := ([] : List Int), Undo := ([] : List Mk.Write), Answers := ([] : List Mk.Answer), Past := ([] : List Mk.Request) } : Mk.Store)))))
def store_Commit_l1 (k3 : Mk.Store → Mk.Store → Mk.Answer → (List Mk.Answer) → (List Mk.Request) → Option Mk.Store) : Nat → Int → Int → Mk.Request → Mk.Store → Mk.Store → Mk.Answer → (List Mk.Answer) → (List Mk.Request) → Option Mk.Store
 | 0, _, _, _, _, _, _, _, _ => none
 | m4 + 1, x28_m4, x29_m4, y4_m4, y6_m4, y7_m4, y8_m4, y40122_m4, y40123_m4 =>
 (bif (decide (x29_m4 < x28_m4)) then (
 G ((0 ≤ x29_m4 ∧ x29_m4 < (y40122_m4.length : Int))) (
 (bif (decide ((ix y40122_m4 x29_m4).Client = y4_m4.Client)) then (
 G ((0 ≤ x29_m4 ∧ x29_m4 < (y40122_m4.length : Int))) (
 some ({ ({ y7_m4 with Answers := (up y40122_m4 x29_m4 y8_m4) }) with Past := y40123_m4 }))) else (
 G (I (x29_m4 + (1 : Int))) (
 store_Commit_l1 k3 m4 (x28_m4) ((x29_m4 + (1 : Int))) (y4_m4) (y6_m4) (y7_m4) (y8_m4) (y40122_m4) (y40123_m4)))))) else (
 k3 (y6_m4) (y7_m4) (y8_m4) (y40122_m4) (y40123_m4)))
def store_Commit (a0 : Mk.Store) (a1 : Mk.Request) (a2 : Mk.Reply) : Option Mk.Store :=
 (store_Own (a0)).bind (fun v1 =>
 G (((v1.Past.length + ([a1] : List Mk.Request).length) * 48 ≤ 140737488355328 ∧ v1.Past.length + ([a1] : List Mk.Request).length ≤ 9223372036854775807)) (
 J (fun (y6_k3 : Mk.Store) (y7_k3 : Mk.Store) (y8_k3 : Mk.Answer) (y40122_k3 : List Mk.Answer) (y40123_k3 : List Mk.Request) =>
 G (((y40122_k3.length + ([y8_k3] : List Mk.Answer).length) * 32 ≤ 140737488355328 ∧ y40122_k3.length + ([y8_k3] : List Mk.Answer).length ≤ 9223372036854775807)) (
 some ({ ({ y7_k3 with Past := y40123_k3 }) with Answers := (y40122_k3 ++ ([y8_k3] : List Mk.Answer)) }))) (fun k3 =>
 store_Commit_l1 k3 (((v1.Answers.length : Int) - (0 : Int)).toNat + 1) ((v1.Answers.length : Int)) ((0 : Int)) (a1) (({ Cells := ([] : List Int), Undo := ([] : List Mk.Write), Answers := ([] : List Mk.Answer), Past := ([] : List Mk.Request) } : Mk.Store)) ({ ({ ({ v1 with Answers := ([] : List Mk.Answer) }) with Past := ([] : List Mk.Request) }) with Undo := ([] : List Mk.Write) }) (({ Client := a1.Client, Token := a1.Token, Reply := a2 } : Mk.Answer)) (v1.Answers) ((v1.Past ++ ([a1] : List Mk.Request))))))
def mkref1_Commit_l1 (k1 : Bool → Mk.Store → Mk.Request → Mk.Store → Mk.Answer → (List Mk.Answer) → Option Mk.Store) : Nat → Bool → (List Mk.Answer) → Int → Int → Mk.Store → Mk.Request → Mk.Store → Mk.Answer → (List Mk.Answer) → Option Mk.Store
 | 0, _, _, _, _, _, _, _, _, _ => none
 | m2 + 1, x9_m2, x19_m2, x20_m2, x21_m2, y3_m2, y4_m2, y6_m2, y7_m2, y1008_m2 =>
 (bif (decide (x21_m2 < x20_m2)) then (
 G ((0 ≤ x21_m2 ∧ x21_m2 < (x19_m2.length : Int))) (
 J (fun (x9_k5 : Bool) (x19_k5 : List Mk.Answer) (x20_k5 : Int) (x21_k5 : Int) (y3_k5 : Mk.Store) (y4_k5 : Mk.Request) (y6_k5 : Mk.Store) (y7_k5 : Mk.Answer) (y11_k5 : Mk.Answer) (y1008_k5 : List Mk.Answer) =>
 G (((y1008_k5.length + ([y11_k5] : List Mk.Answer).length) * 32 ≤ 140737488355328 ∧ y1008_k5.length + ([y11_k5] : List Mk.Answer).length ≤ 9223372036854775807)) (
 G (I (x21_k5 + (1 : Int))) (
 mkref1_Commit_l1 k1 m2 (x9_k5) (x19_k5) (x20_k5) ((x21_k5 + (1 : Int))) (y3_k5) (y4_k5) (y6_k5) (y7_k5) ((y1008_k5 ++ ([y11_k5] : List Mk.Answer)))))) (fun k5 =>
 (bif ((decide ((ix x19_m2 x21_m2).Client = y4_m2.Client)) && (!x9_m2)) then (
 k5 (true) (x19_m2) (x20_m2) (x21_m2) (y3_m2) (y4_m2) (y6_m2) (y7_m2) (y7_m2) (y1008_m2)) else (
 k5 (x9_m2) (x19_m2) (x20_m2) (x21_m2) (y3_m2) (y4_m2) (y6_m2) (y7_m2) ((ix x19_m2 x21_m2)) (y1008_m2)))))) else (
 k1 (x9_m2) (y3_m2) (y4_m2) (y6_m2) (y7_m2) (y1008_m2)))
def mkref1_Commit (a0 : Mk.Store) (a1 : Mk.Request) (a2 : Mk.Reply) : Option Mk.Store :=
 J (fun (x9_k1 : Bool) (y3_k1 : Mk.Store) (y4_k1 : Mk.Request) (y6_k1 : Mk.Store) (y7_k1 : Mk.Answer) (y1008_k1 : List Mk.Answer) =>
 J (fun (y3_k9 : Mk.Store) (y4_k9 : Mk.Request) (y6_k9 : Mk.Store) (y1008_k9 : List Mk.Answer) =>
 G (((([] : List Mk.Request).length + y3_k9.Past.length) * 48 ≤ 140737488355328 ∧ ([] : List Mk.Request).length + y3_k9.Past.length ≤ 9223372036854775807)) (
 G ((((([] : List Mk.Request) ++ y3_k9.Past).length + ([y4_k9] : List Mk.Request).length) * 48 ≤ 140737488355328 ∧ (([] : List Mk.Request) ++ y3_k9.Past).length + ([y4_k9] : List Mk.Request).length ≤ 9223372036854775807)) (
 some (({ Cells := y3_k9.Cells, Undo := ([] : List Mk.Write), Answers := y1008_k9, Past := ((([] : List Mk.Request) ++ y3_k9.Past) ++ ([y4_k9] : List Mk.Request)) } : Mk.Store))))) (fun k9 =>
 (bif (!x9_k1) then (
 G (((y1008_k1.length + ([y7_k1] : List Mk.Answer).length) * 32 ≤ 140737488355328 ∧ y1008_k1.length + ([y7_k1] : List Mk.Answer).length ≤ 9223372036854775807)) (
 k9 (y3_k1) (y4_k1) (y6_k1) ((y1008_k1 ++ ([y7_k1] : List Mk.Answer))))) else (
 k9 (y3_k1) (y4_k1) (y6_k1) (y1008_k1))))) (fun k1 =>
 mkref1_Commit_l1 k1 (((a0.Answers.length : Int) - (0 : Int)).toNat + 1) (false) (a0.Answers) ((a0.Answers.length : Int)) ((0 : Int)) (a0) (a1) (({ Cells := ([] : List Int), Undo := ([] : List Mk.Write), Answers := ([] : List Mk.Answer), Past := ([] : List Mk.Request) } : Mk.Store)) (({ Client := a1.Client, Token := a1.Token, Reply := a2 } : Mk.Answer)) (([] : List Mk.Answer)))
def store_Back (a0 : Mk.Store) : Option Mk.Store :=
 (store_Own (a0)).bind (fun v1 =>
 (cell_Set (v1.Cells) (v1.Undo)).bind (fun v2 =>
 some ({ ({ v1 with Cells := v2 }) with Undo := ([] : List Mk.Write) })))
def mkref1_Back (a0 : Mk.Store) : Option Mk.Store :=
 (mkref1_Set2 (a0.Cells) (a0.Undo)).bind (fun v1 =>
 some ({ ({ a0 with Cells := v1 }) with Undo := ([] : List Mk.Write) }))
end Sp
end
section
namespace Sp
def mkref6_ClientGo (a0 : Mk.Client) (a1 : Int) (a2 : Int) (a3 : Bool) : Option (Mk.Client × (List UInt8) × Int) :=
 (bif (decide ((0 : Int) < (a0.Box.length : Int))) then (
 G ((0 ≤ (0 : Int) ∧ (0 : Int) < (a0.Box.length : Int))) (
 (mkref1_ReadAnswer ((ix a0.Box (0 : Int)))).bind (fun v3 =>
 G ((0 ≤ (1 : Int) ∧ (1 : Int) ≤ (a0.Box.length : Int) ∧ (a0.Box.length : Int) ≤ (a0.Box.length : Int))) (
 J (fun (y4_k5 : Mk.Client) (y8_k5 : Mk.Client) =>
 some (y4_k5, ([] : List UInt8), (0 : Int))) (fun k5 =>
 (bif ((((decide (v3.2 = (0 : Int))) && (decide (v3.1.Client = a1))) && (decide (v3.1.Token = { a0 with Box := (sub a0.Box (1 : Int) (a0.Box.length : Int)) }.At))) && { a0 with Box := (sub a0.Box (1 : Int) (a0.Box.length : Int)) }.Sent) then (
 G (((([] : List Mk.Reply).length + { a0 with Box := (sub a0.Box (1 : Int) (a0.Box.length : Int)) }.Got.length) * 16 ≤ 140737488355328 ∧ ([] : List Mk.Reply).length + { a0 with Box := (sub a0.Box (1 : Int) (a0.Box.length : Int)) }.Got.length ≤ 9223372036854775807)) (
 G ((((([] : List Mk.Reply) ++ { a0 with Box := (sub a0.Box (1 : Int) (a0.Box.length : Int)) }.Got).length + ([v3.1.Reply] : List Mk.Reply).length) * 16 ≤ 140737488355328 ∧ (([] : List Mk.Reply) ++ { a0 with Box := (sub a0.Box (1 : Int) (a0.Box.length : Int)) }.Got).length + ([v3.1.Reply] : List Mk.Reply).length ≤ 9223372036854775807)) (
 G (I ({ ({ a0 with Box := (sub a0.Box (1 : Int) (a0.Box.length : Int)) }) with Got := ((([] : List Mk.Reply) ++ { a0 with Box := (sub a0.Box (1 : Int) (a0.Box.length : Int)) }.Got) ++ ([v3.1.Reply] : List Mk.Reply)) }.At + (1 : Int))) (
 k5 ({ ({ ({ ({ a0 with Box := (sub a0.Box (1 : Int) (a0.Box.length : Int)) }) with Got := ((([] : List Mk.Reply) ++ { a0 with Box := (sub a0.Box (1 : Int) (a0.Box.length : Int)) }.Got) ++ ([v3.1.Reply] : List Mk.Reply)) }) with At := ({ ({ a0 with Box := (sub a0.Box (1 : Int) (a0.Box.length : Int)) }) with Got := ((([] : List Mk.Reply) ++ { a0 with Box := (sub a0.Box (1 : Int) (a0.Box.length : Int)) }.Got) ++ ([v3.1.Reply] : List Mk.Reply)) }.At + (1 : Int)) }) with Sent := false }) (({ Calls := ([] : List Mk.Call), At := (0 : Int), Sent := false, Gen := (0 : Int), Box := ([] : List (List UInt8)), Got := ([] : List Mk.Reply) } : Mk.Client)))))) else (
 k5 ({ a0 with Box := (sub a0.Box (1 : Int) (a0.Box.length : Int)) }) (({ Calls := ([] : List Mk.Call), At := (0 : Int), Sent := false, Gen := (0 : Int), Box := ([] : List (List UInt8)), Got := ([] : List Mk.Reply) } : Mk.Client))))))))) else (
 (bif (decide ((a0.Calls.length : Int) ≤ a0.At)) then (
 some (a0, ([] : List UInt8), (11 : Int))) else (
 (bif (!a3) then (
 some (a0, ([] : List UInt8), (10 : Int))) else (
 (bif (a0.Sent && (decide (a0.Gen = a2))) then (
 some (a0, ([] : List UInt8), (12 : Int))) else (
 G ((0 ≤ { ({ a0 with Sent := true }) with Gen := a2 }.At ∧ { ({ a0 with Sent := true }) with Gen := a2 }.At < ({ ({ a0 with Sent := true }) with Gen := a2 }.Calls.length : Int))) (
 (mkref1_RequestBytes (({ Client := a1, Token := { ({ a0 with Sent := true }) with Gen := a2 }.At, Call := (ix { ({ a0 with Sent := true }) with Gen := a2 }.Calls { ({ a0 with Sent := true }) with Gen := a2 }.At) } : Mk.Request))).bind (fun v14 =>
 some ({ ({ a0 with Sent := true }) with Gen := a2 }, v14, (0 : Int))))))))))))
def mkref6_ServerCome (a0 : Mk.Server) (a1 : List UInt8) : Option (Mk.Server × Int) :=
 (bif (decide ((3 : Int) ≤ (a0.Box.length : Int))) then (
 some (a0, (9 : Int))) else (
 G (((([] : List (List UInt8)).length + a0.Box.length) * 24 ≤ 140737488355328 ∧ ([] : List (List UInt8)).length + a0.Box.length ≤ 9223372036854775807)) (
 G ((((([] : List (List UInt8)) ++ a0.Box).length + ([a1] : List (List UInt8)).length) * 24 ≤ 140737488355328 ∧ (([] : List (List UInt8)) ++ a0.Box).length + ([a1] : List (List UInt8)).length ≤ 9223372036854775807)) (
 some ({ a0 with Box := ((([] : List (List UInt8)) ++ a0.Box) ++ ([a1] : List (List UInt8))) }, (0 : Int))))))
def mkref6_with (a0 : Mk.Machine) (a1 : Int) (a2 : Mk.Client) : Option Mk.Machine :=
 G (((([] : List Mk.Client).length + a0.Clients.length) * 96 ≤ 140737488355328 ∧ ([] : List Mk.Client).length + a0.Clients.length ≤ 9223372036854775807)) (
 G ((0 ≤ a1 ∧ a1 < ((([] : List Mk.Client) ++ a0.Clients).length : Int))) (
 some ({ a0 with Clients := (up (([] : List Mk.Client) ++ a0.Clients) a1 a2) })))
def mkref6_Serve (a0 : Mk.Store) (a1 : Mk.Server) : Option (Mk.Store × Mk.Server × (List UInt8) × Int) :=
 (bif (a1.Busy && (decide ((0 : Int) < (a1.Plan.length : Int)))) then (
 G ((0 ≤ (0 : Int) ∧ (0 : Int) < (a1.Plan.length : Int))) (
 (mkref1_Write (a0) ((ix a1.Plan (0 : Int)))).bind (fun v3 =>
 G ((0 ≤ (1 : Int) ∧ (1 : Int) ≤ (a1.Plan.length : Int) ∧ (a1.Plan.length : Int) ≤ (a1.Plan.length : Int))) (
 some (v3, { a1 with Plan := (sub a1.Plan (1 : Int) (a1.Plan.length : Int)) }, ([] : List UInt8), (0 : Int)))))) else (
 (bif a1.Busy then (
 (mkref1_AnswerBytes (({ Client := a1.Now.Client, Token := a1.Now.Token, Reply := a1.Says } : Mk.Answer))).bind (fun v6 =>
 (mkref1_Commit (a0) (a1.Now) (a1.Says)).bind (fun v7 =>
 some (v7, ({ Gen := a1.Gen, Box := a1.Box, Busy := false, Now := ({ Client := (0 : Int), Token := (0 : Int), Call := ({ Kind := (0 : Int), Name := (0 : Int), Other := (0 : Int), N := (0 : Int) } : Mk.Call) } : Mk.Request), Plan := ([] : List Mk.Write), Says := ({ Err := (0 : Int), N := (0 : Int) } : Mk.Reply) } : Mk.Server), v6, (0 : Int))))) else (
 (bif (decide ((a1.Box.length : Int) = (0 : Int))) then (
 some (a0, a1, ([] : List UInt8), (12 : Int))) else (
 G ((0 ≤ (0 : Int) ∧ (0 : Int) < (a1.Box.length : Int))) (
 (mkref1_ReadRequest ((ix a1.Box (0 : Int)))).bind (fun v10 =>
 G ((0 ≤ (1 : Int) ∧ (1 : Int) ≤ (a1.Box.length : Int) ∧ (a1.Box.length : Int) ≤ (a1.Box.length : Int))) (
 (bif (!decide (v10.2 = (0 : Int))) then (
 some (a0, { a1 with Box := (sub a1.Box (1 : Int) (a1.Box.length : Int)) }, ([] : List UInt8), (0 : Int))) else (
 (mkref1_Last (a0) (v10.1.Client)).bind (fun v13 =>
 (bif (v13.2 && (decide (v10.1.Token ≤ v13.1.Token))) then (
 (bif (decide (v13.1.Token = v10.1.Token)) then (
 (mkref1_AnswerBytes (v13.1)).bind (fun v16 =>
 some (a0, { a1 with Box := (sub a1.Box (1 : Int) (a1.Box.length : Int)) }, v16, (0 : Int)))) else (
 some (a0, { a1 with Box := (sub a1.Box (1 : Int) (a1.Box.length : Int)) }, ([] : List UInt8), (0 : Int))))) else (
 (mkref1_Plan (a0.Cells) (v10.1.Call)).bind (fun v17 =>
 some (a0, { ({ ({ ({ ({ a1 with Box := (sub a1.Box (1 : Int) (a1.Box.length : Int)) }) with Busy := true }) with Now := v10.1 }) with Plan := v17.1 }) with Says := v17.2 }, ([] : List UInt8), (0 : Int)))))))))))))))))
def mkref6_ClientCome (a0 : Mk.Client) (a1 : List UInt8) : Option Mk.Client :=
 J (fun (y2_k1 : Mk.Client) (y4_k1 : Mk.Client) =>
 some (y2_k1)) (fun k1 =>
 (bif (decide ((a0.Box.length : Int) < (3 : Int))) then (
 G (((([] : List (List UInt8)).length + a0.Box.length) * 24 ≤ 140737488355328 ∧ ([] : List (List UInt8)).length + a0.Box.length ≤ 9223372036854775807)) (
 G ((((([] : List (List UInt8)) ++ a0.Box).length + ([a1] : List (List UInt8)).length) * 24 ≤ 140737488355328 ∧ (([] : List (List UInt8)) ++ a0.Box).length + ([a1] : List (List UInt8)).length ≤ 9223372036854775807)) (
 k1 ({ a0 with Box := ((([] : List (List UInt8)) ++ a0.Box) ++ ([a1] : List (List UInt8))) }) (({ Calls := ([] : List Mk.Call), At := (0 : Int), Sent := false, Gen := (0 : Int), Box := ([] : List (List UInt8)), Got := ([] : List Mk.Reply) } : Mk.Client))))) else (
 k1 (a0) (({ Calls := ([] : List Mk.Call), At := (0 : Int), Sent := false, Gen := (0 : Int), Box := ([] : List (List UInt8)), Got := ([] : List Mk.Reply) } : Mk.Client)))))
def mkref6_Fall (a0 : Mk.Machine) : Option (Mk.Machine × Int) :=
 (bif (!a0.Up) then (
 some (a0, (11 : Int))) else (
 (bif (decide ((5 : Int) < a0.Falls)) then (
 some (a0, (5 : Int))) else (
 G (I (a0.Falls + (1 : Int))) (
 G ((0 ≤ { ({ a0 with Falls := (a0.Falls + (1 : Int)) }) with Up := false }.Falls ∧ { ({ a0 with Falls := (a0.Falls + (1 : Int)) }) with Up := false }.Falls < (([(1 : Int), (1 : Int), (2 : Int), (3 : Int), (3 : Int), (3 : Int), (3 : Int)] : List Int).length : Int))) (
 some ({ ({ ({ ({ a0 with Falls := (a0.Falls + (1 : Int)) }) with Up := false }) with Pause := (ix ([(1 : Int), (1 : Int), (2 : Int), (3 : Int), (3 : Int), (3 : Int), (3 : Int)] : List Int) { ({ a0 with Falls := (a0.Falls + (1 : Int)) }) with Up := false }.Falls) }) with Server := ({ Gen := { ({ ({ a0 with Falls := (a0.Falls + (1 : Int)) }) with Up := false }) with Pause := (ix ([(1 : Int), (1 : Int), (2 : Int), (3 : Int), (3 : Int), (3 : Int), (3 : Int)] : List Int) { ({ a0 with Falls := (a0.Falls + (1 : Int)) }) with Up := false }.Falls) }.Server.Gen, Box := ([] : List (List UInt8)), Busy := false, Now := ({ Client := (0 : Int), Token := (0 : Int), Call := ({ Kind := (0 : Int), Name := (0 : Int), Other := (0 : Int), N := (0 : Int) } : Mk.Call) } : Mk.Request), Plan := ([] : List Mk.Write), Says := ({ Err := (0 : Int), N := (0 : Int) } : Mk.Reply) } : Mk.Server) }, (0 : Int))))))))
def mkref6_Tick (a0 : Mk.Machine) : Option Mk.Machine :=
 J (fun (y1_k1 : Mk.Machine) (y2_k1 : Mk.Machine) =>
 some (y1_k1)) (fun k1 =>
 (bif a0.Up then (
 k1 (a0) (({ Store := ({ Cells := ([] : List Int), Undo := ([] : List Mk.Write), Answers := ([] : List Mk.Answer), Past := ([] : List Mk.Request) } : Mk.Store), Server := ({ Gen := (0 : Int), Box := ([] : List (List UInt8)), Busy := false, Now := ({ Client := (0 : Int), Token := (0 : Int), Call := ({ Kind := (0 : Int), Name := (0 : Int), Other := (0 : Int), N := (0 : Int) } : Mk.Call) } : Mk.Request), Plan := ([] : List Mk.Write), Says := ({ Err := (0 : Int), N := (0 : Int) } : Mk.Reply) } : Mk.Server), Up := false, Pause := (0 : Int), Falls := (0 : Int), Clients := ([] : List Mk.Client) } : Mk.Machine))) else (
 (bif (decide ((1 : Int) < a0.Pause)) then (
 G (I (a0.Pause - (1 : Int))) (
 k1 ({ a0 with Pause := (a0.Pause - (1 : Int)) }) (({ Store := ({ Cells := ([] : List Int), Undo := ([] : List Mk.Write), Answers := ([] : List Mk.Answer), Past := ([] : List Mk.Request) } : Mk.Store), Server := ({ Gen := (0 : Int), Box := ([] : List (List UInt8)), Busy := false, Now := ({ Client := (0 : Int), Token := (0 : Int), Call := ({ Kind := (0 : Int), Name := (0 : Int), Other := (0 : Int), N := (0 : Int) } : Mk.Call) } : Mk.Request), Plan := ([] : List Mk.Write), Says := ({ Err := (0 : Int), N := (0 : Int) } : Mk.Reply) } : Mk.Server), Up := false, Pause := (0 : Int), Falls := (0 : Int), Clients := ([] : List Mk.Client) } : Mk.Machine)))) else (
 (mkref1_Back ({ ({ a0 with Up := true }) with Pause := (0 : Int) }.Store)).bind (fun v5 =>
 G (I ({ ({ ({ a0 with Up := true }) with Pause := (0 : Int) }) with Store := v5 }.Server.Gen + (1 : Int))) (
 k1 ({ ({ ({ ({ a0 with Up := true }) with Pause := (0 : Int) }) with Store := v5 }) with Server := ({ Gen := ({ ({ ({ a0 with Up := true }) with Pause := (0 : Int) }) with Store := v5 }.Server.Gen + (1 : Int)), Box := ([] : List (List UInt8)), Busy := false, Now := ({ Client := (0 : Int), Token := (0 : Int), Call := ({ Kind := (0 : Int), Name := (0 : Int), Other := (0 : Int), N := (0 : Int) } : Mk.Call) } : Mk.Request), Plan := ([] : List Mk.Write), Says := ({ Err := (0 : Int), N := (0 : Int) } : Mk.Reply) } : Mk.Server) }) (({ Store := ({ Cells := ([] : List Int), Undo := ([] : List Mk.Write), Answers := ([] : List Mk.Answer), Past := ([] : List Mk.Request) } : Mk.Store), Server := ({ Gen := (0 : Int), Box := ([] : List (List UInt8)), Busy := false, Now := ({ Client := (0 : Int), Token := (0 : Int), Call := ({ Kind := (0 : Int), Name := (0 : Int), Other := (0 : Int), N := (0 : Int) } : Mk.Call) } : Mk.Request), Plan := ([] : List Mk.Write), Says := ({ Err := (0 : Int), N := (0 : Int) } : Mk.Reply) } : Mk.Server), Up := false, Pause := (0 : Int), Falls := (0 : Int), Clients := ([] : List Mk.Client) } : Mk.Machine)))))))))
def mkref6_Do (a0 : Mk.Machine) (a1 : Mk.Step) : Option (Mk.Machine × Int) :=
 (bif (decide (a1.Kind = (1 : Int))) then (
 (bif ((decide (a1.N < (0 : Int))) || (decide ((a0.Clients.length : Int) ≤ a1.N))) then (
 some (a0, (6 : Int))) else (
 G ((0 ≤ a1.N ∧ a1.N < (a0.Clients.length : Int))) (
 (mkref6_ClientGo ((ix a0.Clients a1.N)) (a1.N) (a0.Server.Gen) (a0.Up)).bind (fun v4 =>
 (bif (!decide (v4.2.2 = (0 : Int))) then (
 some (a0, v4.2.2)) else (
 J (fun (y2_k6 : Mk.Machine) (y3_k6 : Mk.Step) (y4_k6 : Mk.Machine) (y6_k6 : Mk.Client) =>
 (mkref6_with (y2_k6) (y3_k6.N) (y6_k6)).bind (fun v10 =>
 some (v10, (0 : Int)))) (fun k6 =>
 (bif (decide ((0 : Int) < (v4.2.1.length : Int))) then (
 (mkref6_ServerCome (a0.Server) (v4.2.1)).bind (fun v8 =>
 (bif (!decide (v8.2 = (0 : Int))) then (
 some (a0, v8.2)) else (
 k6 ({ a0 with Server := v8.1 }) (a1) (({ Store := ({ Cells := ([] : List Int), Undo := ([] : List Mk.Write), Answers := ([] : List Mk.Answer), Past := ([] : List Mk.Request) } : Mk.Store), Server := ({ Gen := (0 : Int), Box := ([] : List (List UInt8)), Busy := false, Now := ({ Client := (0 : Int), Token := (0 : Int), Call := ({ Kind := (0 : Int), Name := (0 : Int), Other := (0 : Int), N := (0 : Int) } : Mk.Call) } : Mk.Request), Plan := ([] : List Mk.Write), Says := ({ Err := (0 : Int), N := (0 : Int) } : Mk.Reply) } : Mk.Server), Up := false, Pause := (0 : Int), Falls := (0 : Int), Clients := ([] : List Mk.Client) } : Mk.Machine)) (v4.1))))) else (
 k6 (a0) (a1) (({ Store := ({ Cells := ([] : List Int), Undo := ([] : List Mk.Write), Answers := ([] : List Mk.Answer), Past := ([] : List Mk.Request) } : Mk.Store), Server := ({ Gen := (0 : Int), Box := ([] : List (List UInt8)), Busy := false, Now := ({ Client := (0 : Int), Token := (0 : Int), Call := ({ Kind := (0 : Int), Name := (0 : Int), Other := (0 : Int), N := (0 : Int) } : Mk.Call) } : Mk.Request), Plan := ([] : List Mk.Write), Says := ({ Err := (0 : Int), N := (0 : Int) } : Mk.Reply) } : Mk.Server), Up := false, Pause := (0 : Int), Falls := (0 : Int), Clients := ([] : List Mk.Client) } : Mk.Machine)) (v4.1))))))))))) else (
 (bif (decide (a1.Kind = (2 : Int))) then (
 (bif (!a0.Up) then (
 some (a0, (10 : Int))) else (
 (mkref6_Serve (a0.Store) (a0.Server)).bind (fun v13 =>
 (bif (!decide (v13.2.2.2 = (0 : Int))) then (
 some (a0, v13.2.2.2)) else (
 J (fun (y2_k15 : Mk.Machine) (y4_k15 : Mk.Machine) =>
 some (y2_k15, (0 : Int))) (fun k15 =>
 (bif (decide ((0 : Int) < (v13.2.2.1.length : Int))) then (
 G ((0 ≤ (1 : Int) ∧ (1 : Int) < (v13.2.2.1.length : Int))) (
 (bif (decide ((((ix v13.2.2.1 (1 : Int)).toNat : Nat) : Int) < ({ ({ a0 with Store := v13.1 }) with Server := v13.2.1 }.Clients.length : Int))) then (
 G ((0 ≤ (((ix v13.2.2.1 (1 : Int)).toNat : Nat) : Int) ∧ (((ix v13.2.2.1 (1 : Int)).toNat : Nat) : Int) < ({ ({ a0 with Store := v13.1 }) with Server := v13.2.1 }.Clients.length : Int))) (
 (mkref6_ClientCome ((ix { ({ a0 with Store := v13.1 }) with Server := v13.2.1 }.Clients (((ix v13.2.2.1 (1 : Int)).toNat : Nat) : Int))) (v13.2.2.1)).bind (fun v20 =>
 (mkref6_with ({ ({ a0 with Store := v13.1 }) with Server := v13.2.1 }) ((((ix v13.2.2.1 (1 : Int)).toNat : Nat) : Int)) (v20)).bind (fun v21 =>
 k15 (v21) (({ Store := ({ Cells := ([] : List Int), Undo := ([] : List Mk.Write), Answers := ([] : List Mk.Answer), Past := ([] : List Mk.Request) } : Mk.Store), Server := ({ Gen := (0 : Int), Box := ([] : List (List UInt8)), Busy := false, Now := ({ Client := (0 : Int), Token := (0 : Int), Call := ({ Kind := (0 : Int), Name := (0 : Int), Other := (0 : Int), N := (0 : Int) } : Mk.Call) } : Mk.Request), Plan := ([] : List Mk.Write), Says := ({ Err := (0 : Int), N := (0 : Int) } : Mk.Reply) } : Mk.Server), Up := false, Pause := (0 : Int), Falls := (0 : Int), Clients := ([] : List Mk.Client) } : Mk.Machine)))))) else (
 k15 ({ ({ a0 with Store := v13.1 }) with Server := v13.2.1 }) (({ Store := ({ Cells := ([] : List Int), Undo := ([] : List Mk.Write), Answers := ([] : List Mk.Answer), Past := ([] : List Mk.Request) } : Mk.Store), Server := ({ Gen := (0 : Int), Box := ([] : List (List UInt8)), Busy := false, Now := ({ Client := (0 : Int), Token := (0 : Int), Call := ({ Kind := (0 : Int), Name := (0 : Int), Other := (0 : Int), N := (0 : Int) } : Mk.Call) } : Mk.Request), Plan := ([] : List Mk.Write), Says := ({ Err := (0 : Int), N := (0 : Int) } : Mk.Reply) } : Mk.Server), Up := false, Pause := (0 : Int), Falls := (0 : Int), Clients := ([] : List Mk.Client) } : Mk.Machine)))))) else (
 k15 ({ ({ a0 with Store := v13.1 }) with Server := v13.2.1 }) (({ Store := ({ Cells := ([] : List Int), Undo := ([] : List Mk.Write), Answers := ([] : List Mk.Answer), Past := ([] : List Mk.Request) } : Mk.Store), Server := ({ Gen := (0 : Int), Box := ([] : List (List UInt8)), Busy := false, Now := ({ Client := (0 : Int), Token := (0 : Int), Call := ({ Kind := (0 : Int), Name := (0 : Int), Other := (0 : Int), N := (0 : Int) } : Mk.Call) } : Mk.Request), Plan := ([] : List Mk.Write), Says := ({ Err := (0 : Int), N := (0 : Int) } : Mk.Reply) } : Mk.Server), Up := false, Pause := (0 : Int), Falls := (0 : Int), Clients := ([] : List Mk.Client) } : Mk.Machine))))))))))) else (
 (bif (decide (a1.Kind = (3 : Int))) then (
 (mkref6_Fall (a0)).bind (fun v23 =>
 some (v23.1, v23.2))) else (
 (bif (decide (a1.Kind = (4 : Int))) then (
 (mkref6_Tick (a0)).bind (fun v25 =>
 some (v25, (0 : Int)))) else (
 some (a0, (1 : Int))))))))))
end Sp
end
section
namespace Sp
def strconv_Itoa (n : Int) : Option ByteArray := some ⟨(Go.Lib.itoa n).toArray⟩
def atoiOf (l : List UInt8) : Int × Er := match Go.Lib.atoiAll l with
 | .ok v => (v, ⟨false⟩)
 | .range => (Go.Lib.atoiSat l, ⟨true⟩)
 | _ => (0, ⟨true⟩)
def strconv_Atoi (s : ByteArray) : Option (Int × Er) := G (s.size ≤ 4294967280) (some (atoiOf s.data.toList))
def strings_Split (s sep : ByteArray) : Option (List ByteArray) := G (s.size ≤ 4294967280 ∧ 1 ≤ sep.size) (some (Go.Lib.splitB sep 0 (Go.Lib.countB s sep) s))
def strings_Cut (s sep : ByteArray) : Option (ByteArray × ByteArray × Bool) := G (s.size ≤ 4294967280) (some (⟨(Go.Lib.cut s.data.toList sep.data.toList).1.toArray⟩, ⟨(Go.Lib.cut s.data.toList sep.data.toList).2.1.toArray⟩, (Go.Lib.cut s.data.toList sep.data.toList).2.2))
def text_fields (k : Int) : Option (List Nat) := G (1 ≤ k ∧ k ≤ 6) (some (if k = 6 then [1, 2] else if k = 5 then [] else if k = 2 ∨ k = 3 then [1] else [1, 3]))
end Sp
end
section
namespace Sp
def text_counts  : Option ((List Int)) :=
 some (([(2 : Int), (1 : Int), (1 : Int), (2 : Int), (0 : Int), (2 : Int)] : List Int))
def text_fieldsB (b : Nat) (a0 : Int) : Option ((List (RP b))) :=
 J (fun (y10_k1 : List (RP b)) =>
 (text_counts).bind (fun v4 =>
 G (I (a0 - (1 : Int))) (
 G ((0 ≤ (a0 - (1 : Int)) ∧ (a0 - (1 : Int)) < (v4.length : Int))) (
 G ((0 ≤ (0 : Int) ∧ (0 : Int) ≤ (ix v4 (a0 - (1 : Int))) ∧ (ix v4 (a0 - (1 : Int))) ≤ (y10_k1.length : Int))) (
 some ((sub y10_k1 (0 : Int) (ix v4 (a0 - (1 : Int)))))))))) (fun k1 =>
 (bif (decide (a0 = (6 : Int))) then (
 G ((0 ≤ (1 : Int) ∧ (1 : Int) < (([(⟨1⟩ : RP b), (⟨3⟩ : RP b)] : List (RP b)).length : Int))) (
 k1 ((up ([(⟨1⟩ : RP b), (⟨3⟩ : RP b)] : List (RP b)) (1 : Int) (⟨2⟩ : RP b))))) else (
 k1 (([(⟨1⟩ : RP b), (⟨3⟩ : RP b)] : List (RP b))))))
end Sp
end
section
namespace Sp
def text_words  : Option ((List ByteArray)) :=
 some (([(⟨#[112, 117, 116]⟩ : ByteArray), (⟨#[103, 101, 116]⟩ : ByteArray), (⟨#[100, 114, 111, 112]⟩ : ByteArray), (⟨#[97, 100, 100]⟩ : ByteArray), (⟨#[99, 111, 117, 110, 116]⟩ : ByteArray), (⟨#[115, 119, 97, 112]⟩ : ByteArray)] : List ByteArray))
def text_Call_l1 (k4 : ByteArray → Option ByteArray) : Nat → ByteArray → (List Nat) → Int → Int → Mk.Call → Option ByteArray
 | 0, _, _, _, _, _ => none
 | m6 + 1, x3_m6, x12_m6, x13_m6, x14_m6, y1_m6 =>
 (bif (decide (x14_m6 < x13_m6)) then (
 G ((0 ≤ x14_m6 ∧ x14_m6 < (x12_m6.length : Int))) (
 G (((ix x12_m6 x14_m6) < 4)) (
 G (((ix x12_m6 x14_m6) < 4)) (
 (strconv_Itoa ((cget y1_m6 (ix x12_m6 x14_m6)))).bind (fun v11 =>
 G (((⟨#[32]⟩ : ByteArray).size + v11.size ≤ 9223372036854775807)) (
 G ((x3_m6.size + ((⟨#[32]⟩ : ByteArray) ++ v11).size ≤ 9223372036854775807)) (
 G (I (x14_m6 + (1 : Int))) (
 text_Call_l1 k4 m6 ((x3_m6 ++ ((⟨#[32]⟩ : ByteArray) ++ v11))) (x12_m6) (x13_m6) ((x14_m6 + (1 : Int))) (y1_m6))))))))) else (
 k4 (x3_m6)))
def text_Call (a0 : Mk.Call) : Option ByteArray :=
 (text_words).bind (fun v1 =>
 G (I (a0.Kind - (1 : Int))) (
 G ((0 ≤ (a0.Kind - (1 : Int)) ∧ (a0.Kind - (1 : Int)) < (v1.length : Int))) (
 J (fun (x3_k4 : ByteArray) =>
 some (x3_k4)) (fun k4 =>
 (text_fields (a0.Kind)).bind (fun v5 =>
 text_Call_l1 k4 (((v5.length : Int) - (0 : Int)).toNat + 1) ((ix v1 (a0.Kind - (1 : Int)))) (v5) ((v5.length : Int)) ((0 : Int)) (a0))))))
def text_ReadCall_l1 (k2 : (List ByteArray) → Mk.Call → Mk.Call → Option (Mk.Call × Int)) : Nat → (List ByteArray) → (List ByteArray) → Int → Int → Mk.Call → Mk.Call → Option (Mk.Call × Int)
 | 0, _, _, _, _, _, _ => none
 | m4 + 1, x4_m4, x16_m4, x17_m4, x18_m4, y2_m4, y5_m4 =>
 (bif (decide (x18_m4 < x17_m4)) then (
 J (fun (x4_k6 : List ByteArray) (x16_k6 : List ByteArray) (x17_k6 : Int) (x18_k6 : Int) (y2_k6 : Mk.Call) (y5_k6 : Mk.Call) =>
 G (I (x18_k6 + (1 : Int))) (
 text_ReadCall_l1 k2 m4 (x4_k6) (x16_k6) (x17_k6) ((x18_k6 + (1 : Int))) (y2_k6) (y5_k6))) (fun k6 =>
 G ((0 ≤ x18_m4 ∧ x18_m4 < (x16_m4.length : Int))) (
 G ((0 ≤ (0 : Int) ∧ (0 : Int) < (x4_m4.length : Int))) (
 (bif (decide ((ix x16_m4 x18_m4) = (ix x4_m4 (0 : Int)))) then (
 G (I (x18_m4 + (1 : Int))) (
 k6 (x4_m4) (x16_m4) (x17_m4) (x18_m4) (y2_m4) ({ y5_m4 with Kind := (x18_m4 + (1 : Int)) }))) else (
 k6 (x4_m4) (x16_m4) (x17_m4) (x18_m4) (y2_m4) (y5_m4))))))) else (
 k2 (x4_m4) (y2_m4) (y5_m4)))
def text_ReadCall_l2 (k16 : Mk.Call → Mk.Call → Option (Mk.Call × Int)) : Nat → (List ByteArray) → (List Nat) → Int → Int → Mk.Call → Mk.Call → Option (Mk.Call × Int)
 | 0, _, _, _, _, _, _ => none
 | m17 + 1, x4_m17, x44_m17, x45_m17, x46_m17, y2_m17, y5_m17 =>
 (bif (decide (x46_m17 < x45_m17)) then (
 G ((0 ≤ x46_m17 ∧ x46_m17 < (x44_m17.length : Int))) (
 G (I ((1 : Int) + x46_m17)) (
 G ((0 ≤ ((1 : Int) + x46_m17) ∧ ((1 : Int) + x46_m17) < (x4_m17.length : Int))) (
 (strconv_Atoi ((ix x4_m17 ((1 : Int) + x46_m17)))).bind (fun v22 =>
 (Cn ((v22.2.bad) = false) (strconv_Itoa (v22.1))).bind (fun v23 =>
 G ((v22.2.bad) = false → I ((1 : Int) + x46_m17)) (
 G ((v22.2.bad) = false → (0 ≤ ((1 : Int) + x46_m17) ∧ ((1 : Int) + x46_m17) < (x4_m17.length : Int))) (
 (bif (v22.2.bad || (!decide (v23 = (ix x4_m17 ((1 : Int) + x46_m17))))) then (
 some (({ Kind := (0 : Int), Name := (0 : Int), Other := (0 : Int), N := (0 : Int) } : Mk.Call), (2 : Int))) else (
 G (((ix x44_m17 x46_m17) < 4)) (
 G (((ix x44_m17 x46_m17) < 4)) (
 G (I (x46_m17 + (1 : Int))) (
 text_ReadCall_l2 k16 m17 (x4_m17) (x44_m17) (x45_m17) ((x46_m17 + (1 : Int))) (y2_m17) ((cset y5_m17 (ix x44_m17 x46_m17) v22.1))))))))))))))) else (
 k16 (y2_m17) (y5_m17)))
def text_ReadCall (a0 : ByteArray) : Option (Mk.Call × Int) :=
 (strings_Split (a0) ((⟨#[32]⟩ : ByteArray))).bind (fun v1 =>
 J (fun (x4_k2 : List ByteArray) (y2_k2 : Mk.Call) (y5_k2 : Mk.Call) =>
 (bif (decide (y5_k2.Kind = (0 : Int))) then (
 some (({ Kind := (0 : Int), Name := (0 : Int), Other := (0 : Int), N := (0 : Int) } : Mk.Call), (1 : Int))) else (
 (text_fields (y5_k2.Kind)).bind (fun v13 =>
 G (I ((1 : Int) + (v13.length : Int))) (
 (bif (!decide ((x4_k2.length : Int) = ((1 : Int) + (v13.length : Int)))) then (
 some (({ Kind := (0 : Int), Name := (0 : Int), Other := (0 : Int), N := (0 : Int) } : Mk.Call), (2 : Int))) else (
 J (fun (y2_k16 : Mk.Call) (y5_k16 : Mk.Call) =>
 (model_Wrong (y5_k16)).bind (fun v30 =>
 (bif (!decide (v30 = (0 : Int))) then (
 some (({ Kind := (0 : Int), Name := (0 : Int), Other := (0 : Int), N := (0 : Int) } : Mk.Call), v30)) else (
 some (y5_k16, (0 : Int)))))) (fun k16 =>
 text_ReadCall_l2 k16 (((v13.length : Int) - (0 : Int)).toNat + 1) (x4_k2) (v13) ((v13.length : Int)) ((0 : Int)) (y2_k2) (y5_k2))))))))) (fun k2 =>
 (text_words).bind (fun v3 =>
 text_ReadCall_l1 k2 (((v3.length : Int) - (0 : Int)).toNat + 1) (v1) (v3) ((v3.length : Int)) ((0 : Int)) (({ Kind := (0 : Int), Name := (0 : Int), Other := (0 : Int), N := (0 : Int) } : Mk.Call)) (({ Kind := (0 : Int), Name := (0 : Int), Other := (0 : Int), N := (0 : Int) } : Mk.Call)))))
def text_Print_l1 (k1 : ByteArray → Option ByteArray) : Nat → ByteArray → (List Mk.Call) → Int → Int → Option ByteArray
 | 0, _, _, _, _ => none
 | m2 + 1, x3_m2, x6_m2, x7_m2, x8_m2 =>
 (bif (decide (x8_m2 < x7_m2)) then (
 G ((0 ≤ x8_m2 ∧ x8_m2 < (x6_m2.length : Int))) (
 (text_Call ((ix x6_m2 x8_m2))).bind (fun v5 =>
 G ((v5.size + (⟨#[10]⟩ : ByteArray).size ≤ 9223372036854775807)) (
 G ((x3_m2.size + (v5 ++ (⟨#[10]⟩ : ByteArray)).size ≤ 9223372036854775807)) (
 G (I (x8_m2 + (1 : Int))) (
 text_Print_l1 k1 m2 ((x3_m2 ++ (v5 ++ (⟨#[10]⟩ : ByteArray)))) (x6_m2) (x7_m2) ((x8_m2 + (1 : Int))))))))) else (
 k1 (x3_m2)))
def text_Print (a0 : List Mk.Call) : Option ByteArray :=
 J (fun (x3_k1 : ByteArray) =>
 some (x3_k1)) (fun k1 =>
 text_Print_l1 k1 (((a0.length : Int) - (0 : Int)).toNat + 1) ((⟨#[]⟩ : ByteArray)) (a0) ((a0.length : Int)) ((0 : Int)))
def text_Parse_l1 (k1 : (List Mk.Call) → Option ((List Mk.Call) × Int)) : Nat → ByteArray → (List Mk.Call) → Option ((List Mk.Call) × Int)
 | 0, _, _ => none
 | m2 + 1, x0_m2, y1004_m2 =>
 (bif (!decide (x0_m2 = (⟨#[]⟩ : ByteArray))) then (
 (strings_Cut (x0_m2) ((⟨#[10]⟩ : ByteArray))).bind (fun v4 =>
 (bif (!v4.2.2) then (
 some (([] : List Mk.Call), (8 : Int))) else (
 (text_ReadCall (v4.1)).bind (fun v6 =>
 (bif (!decide (v6.2 = (0 : Int))) then (
 some (([] : List Mk.Call), v6.2)) else (
 G (((y1004_m2.length + ([v6.1] : List Mk.Call).length) * 32 ≤ 140737488355328 ∧ y1004_m2.length + ([v6.1] : List Mk.Call).length ≤ 9223372036854775807)) (
 text_Parse_l1 k1 m2 (v4.2.1) ((y1004_m2 ++ ([v6.1] : List Mk.Call))))))))))) else (
 k1 (y1004_m2)))
def text_Parse (a0 : ByteArray) : Option ((List Mk.Call) × Int) :=
 J (fun (y1004_k1 : List Mk.Call) =>
 (bif (decide ((8 : Int) < (y1004_k1.length : Int))) then (
 some (([] : List Mk.Call), (5 : Int))) else (
 some (y1004_k1, (0 : Int))))) (fun k1 =>
 text_Parse_l1 k1 (a0.size + 1) (a0) (([] : List Mk.Call)))
end Sp
end
section
namespace Sp
def slices_Clone_____byte___byte_ (a0 : List (List UInt8)) : Option ((List (List UInt8))) :=
 G (((([] : List (List UInt8)).length + a0.length) * 24 ≤ 140737488355328 ∧ ([] : List (List UInt8)).length + a0.length ≤ 9223372036854775807)) (
 some ((([] : List (List UInt8)) ++ a0)))
def slices_Clone___byte_byte_ (a0 : List UInt8) : Option ((List UInt8)) :=
 G (((([] : List UInt8).length + a0.length) * 1 ≤ 140737488355328 ∧ ([] : List UInt8).length + a0.length ≤ 9223372036854775807)) (
 some ((([] : List UInt8) ++ a0)))
def client_Come (a0 : Mk.Client) (a1 : List UInt8) : Option Mk.Client :=
 J (fun (y4_k1 : Mk.Client) (y5_k1 : Mk.Client) =>
 some (y5_k1)) (fun k1 =>
 (bif (decide ((a0.Box.length : Int) < (3 : Int))) then (
 (slices_Clone_____byte___byte_ (a0.Box)).bind (fun v3 =>
 (slices_Clone___byte_byte_ (a1)).bind (fun v4 =>
 G (((v3.length + ([v4] : List (List UInt8)).length) * 24 ≤ 140737488355328 ∧ v3.length + ([v4] : List (List UInt8)).length ≤ 9223372036854775807)) (
 k1 (({ Calls := ([] : List Mk.Call), At := (0 : Int), Sent := false, Gen := (0 : Int), Box := ([] : List (List UInt8)), Got := ([] : List Mk.Reply) } : Mk.Client)) ({ a0 with Box := (v3 ++ ([v4] : List (List UInt8))) }))))) else (
 k1 (({ Calls := ([] : List Mk.Call), At := (0 : Int), Sent := false, Gen := (0 : Int), Box := ([] : List (List UInt8)), Got := ([] : List Mk.Reply) } : Mk.Client)) (a0))))
def slices_Clone___api_Reply_api_Reply_ (a0 : List Mk.Reply) : Option ((List Mk.Reply)) :=
 G (((([] : List Mk.Reply).length + a0.length) * 16 ≤ 140737488355328 ∧ ([] : List Mk.Reply).length + a0.length ≤ 9223372036854775807)) (
 some ((([] : List Mk.Reply) ++ a0)))
def client_hear (a0 : Mk.Client) (a1 : Int) : Option Mk.Client :=
 G ((0 ≤ (0 : Int) ∧ (0 : Int) < (a0.Box.length : Int))) (
 (wire_ReadAnswer ((ix a0.Box (0 : Int)))).bind (fun v2 =>
 G ((0 ≤ (1 : Int) ∧ (1 : Int) ≤ (a0.Box.length : Int) ∧ (a0.Box.length : Int) ≤ (a0.Box.length : Int))) (
 (slices_Clone_____byte___byte_ ((sub a0.Box (1 : Int) (a0.Box.length : Int)))).bind (fun v4 =>
 J (fun (y2_k5 : Mk.Client) (y4_k5 : Mk.Client) =>
 some (y2_k5)) (fun k5 =>
 (bif ((((decide (v2.2 = (0 : Int))) && (decide (v2.1.Client = a1))) && (decide (v2.1.Token = { a0 with Box := v4 }.At))) && { a0 with Box := v4 }.Sent) then (
 (slices_Clone___api_Reply_api_Reply_ ({ a0 with Box := v4 }.Got)).bind (fun v7 =>
 G (((v7.length + ([v2.1.Reply] : List Mk.Reply).length) * 16 ≤ 140737488355328 ∧ v7.length + ([v2.1.Reply] : List Mk.Reply).length ≤ 9223372036854775807)) (
 G (I ({ ({ a0 with Box := v4 }) with Got := (v7 ++ ([v2.1.Reply] : List Mk.Reply)) }.At + (1 : Int))) (
 k5 ({ ({ ({ ({ a0 with Box := v4 }) with Got := (v7 ++ ([v2.1.Reply] : List Mk.Reply)) }) with At := ({ ({ a0 with Box := v4 }) with Got := (v7 ++ ([v2.1.Reply] : List Mk.Reply)) }.At + (1 : Int)) }) with Sent := false }) (({ Calls := ([] : List Mk.Call), At := (0 : Int), Sent := false, Gen := (0 : Int), Box := ([] : List (List UInt8)), Got := ([] : List Mk.Reply) } : Mk.Client)))))) else (
 k5 ({ a0 with Box := v4 }) (({ Calls := ([] : List Mk.Call), At := (0 : Int), Sent := false, Gen := (0 : Int), Box := ([] : List (List UInt8)), Got := ([] : List Mk.Reply) } : Mk.Client)))))))))
def client_Go (a0 : Mk.Client) (a1 : Int) (a2 : Int) (a3 : Bool) : Option (Mk.Client × (List UInt8) × Int) :=
 (bif (decide ((0 : Int) < (a0.Box.length : Int))) then (
 (client_hear (a0) (a1)).bind (fun v2 =>
 some (v2, ([] : List UInt8), (0 : Int)))) else (
 (bif (decide ((a0.Calls.length : Int) ≤ a0.At)) then (
 some (a0, ([] : List UInt8), (11 : Int))) else (
 (bif (!a3) then (
 some (a0, ([] : List UInt8), (10 : Int))) else (
 (bif (a0.Sent && (decide (a0.Gen = a2))) then (
 some (a0, ([] : List UInt8), (12 : Int))) else (
 G ((0 ≤ a0.At ∧ a0.At < (a0.Calls.length : Int))) (
 (wire_Request (({ Client := a1, Token := a0.At, Call := (ix a0.Calls a0.At) } : Mk.Request))).bind (fun v7 =>
 G (v7 ≠ []) (
 some ({ ({ a0 with Sent := true }) with Gen := a2 }, v7, (0 : Int)))))))))))))
end Sp
end
section
namespace Sp
def serve_Own_l1 (k1 : Mk.Server → Mk.Server → Mk.Server → (List (List UInt8)) → Option Mk.Server) : Nat → (List (List UInt8)) → Int → Int → Mk.Server → Mk.Server → Mk.Server → (List (List UInt8)) → Option Mk.Server
 | 0, _, _, _, _, _, _, _ => none
 | m2 + 1, x9_m2, x10_m2, x11_m2, y1_m2, y2_m2, y3_m2, y30031_m2 =>
 (bif (decide (x11_m2 < x10_m2)) then (
 G ((0 ≤ x11_m2 ∧ x11_m2 < (x9_m2.length : Int))) (
 (slices_Clone___byte_byte_ ((ix x9_m2 x11_m2))).bind (fun v5 =>
 G (((y30031_m2.length + ([v5] : List (List UInt8)).length) * 24 ≤ 140737488355328 ∧ y30031_m2.length + ([v5] : List (List UInt8)).length ≤ 9223372036854775807)) (
 G (I (x11_m2 + (1 : Int))) (
 serve_Own_l1 k1 m2 (x9_m2) (x10_m2) ((x11_m2 + (1 : Int))) (y1_m2) (y2_m2) (y3_m2) ((y30031_m2 ++ ([v5] : List (List UInt8))))))))) else (
 k1 (y1_m2) (y2_m2) (y3_m2) (y30031_m2)))
def serve_Own (a0 : Mk.Server) : Option Mk.Server :=
 J (fun (y1_k1 : Mk.Server) (y2_k1 : Mk.Server) (y3_k1 : Mk.Server) (y30031_k1 : List (List UInt8)) =>
 (slices_Clone___api_Write_api_Write_ (y1_k1.Plan)).bind (fun v8 =>
 some ({ ({ y3_k1 with Plan := v8 }) with Box := y30031_k1 }))) (fun k1 =>
 serve_Own_l1 k1 (((a0.Box.length : Int) - (0 : Int)).toNat + 1) (a0.Box) ((a0.Box.length : Int)) ((0 : Int)) (a0) (({ Gen := (0 : Int), Box := ([] : List (List UInt8)), Busy := false, Now := ({ Client := (0 : Int), Token := (0 : Int), Call := ({ Kind := (0 : Int), Name := (0 : Int), Other := (0 : Int), N := (0 : Int) } : Mk.Call) } : Mk.Request), Plan := ([] : List Mk.Write), Says := ({ Err := (0 : Int), N := (0 : Int) } : Mk.Reply) } : Mk.Server)) (a0) (([] : List (List UInt8))))
def slices_Clone___api_Call_api_Call_ (a0 : List Mk.Call) : Option ((List Mk.Call)) :=
 G (((([] : List Mk.Call).length + a0.length) * 32 ≤ 140737488355328 ∧ ([] : List Mk.Call).length + a0.length ≤ 9223372036854775807)) (
 some ((([] : List Mk.Call) ++ a0)))
def guard_client_l1 (k3 : Mk.Client → Mk.Client → (List (List UInt8)) → Option Mk.Client) : Nat → (List (List UInt8)) → Int → Int → Mk.Client → Mk.Client → (List (List UInt8)) → Option Mk.Client
 | 0, _, _, _, _, _, _ => none
 | m4 + 1, x17_m4, x18_m4, x19_m4, y2_m4, y3_m4, y30034_m4 =>
 (bif (decide (x19_m4 < x18_m4)) then (
 G ((0 ≤ x19_m4 ∧ x19_m4 < (x17_m4.length : Int))) (
 (slices_Clone___byte_byte_ ((ix x17_m4 x19_m4))).bind (fun v7 =>
 G (((y30034_m4.length + ([v7] : List (List UInt8)).length) * 24 ≤ 140737488355328 ∧ y30034_m4.length + ([v7] : List (List UInt8)).length ≤ 9223372036854775807)) (
 G (I (x19_m4 + (1 : Int))) (
 guard_client_l1 k3 m4 (x17_m4) (x18_m4) ((x19_m4 + (1 : Int))) (y2_m4) (y3_m4) ((y30034_m4 ++ ([v7] : List (List UInt8))))))))) else (
 k3 (y2_m4) (y3_m4) (y30034_m4)))
def guard_client (a0 : Mk.Client) : Option Mk.Client :=
 (slices_Clone___api_Call_api_Call_ (a0.Calls)).bind (fun v1 =>
 (slices_Clone___api_Reply_api_Reply_ (a0.Got)).bind (fun v2 =>
 J (fun (y2_k3 : Mk.Client) (y3_k3 : Mk.Client) (y30034_k3 : List (List UInt8)) =>
 some ({ y3_k3 with Box := y30034_k3 })) (fun k3 =>
 guard_client_l1 k3 (((a0.Box.length : Int) - (0 : Int)).toNat + 1) (a0.Box) ((a0.Box.length : Int)) ((0 : Int)) (({ Calls := ([] : List Mk.Call), At := (0 : Int), Sent := false, Gen := (0 : Int), Box := ([] : List (List UInt8)), Got := ([] : List Mk.Reply) } : Mk.Client)) ({ ({ a0 with Calls := v1 }) with Got := v2 }) (([] : List (List UInt8))))))
def guard_Own_l1 (k3 : Mk.Machine → Mk.Machine → (List Mk.Client) → Option Mk.Machine) : Nat → (List Mk.Client) → Int → Int → Mk.Machine → Mk.Machine → (List Mk.Client) → Option Mk.Machine
 | 0, _, _, _, _, _, _ => none
 | m4 + 1, x17_m4, x18_m4, x19_m4, y2_m4, y3_m4, y30049_m4 =>
 (bif (decide (x19_m4 < x18_m4)) then (
 G ((0 ≤ x19_m4 ∧ x19_m4 < (x17_m4.length : Int))) (
 (guard_client ((ix x17_m4 x19_m4))).bind (fun v7 =>
 G (((y30049_m4.length + ([v7] : List Mk.Client).length) * 96 ≤ 140737488355328 ∧ y30049_m4.length + ([v7] : List Mk.Client).length ≤ 9223372036854775807)) (
 G (I (x19_m4 + (1 : Int))) (
 guard_Own_l1 k3 m4 (x17_m4) (x18_m4) ((x19_m4 + (1 : Int))) (y2_m4) (y3_m4) ((y30049_m4 ++ ([v7] : List Mk.Client)))))))) else (
 k3 (y2_m4) (y3_m4) (y30049_m4)))
def guard_Own (a0 : Mk.Machine) : Option Mk.Machine :=
 (store_Own (a0.Store)).bind (fun v1 =>
 (serve_Own (a0.Server)).bind (fun v2 =>
 J (fun (y2_k3 : Mk.Machine) (y3_k3 : Mk.Machine) (y30049_k3 : List Mk.Client) =>
 some ({ y3_k3 with Clients := y30049_k3 })) (fun k3 =>
 guard_Own_l1 k3 (((a0.Clients.length : Int) - (0 : Int)).toNat + 1) (a0.Clients) ((a0.Clients.length : Int)) ((0 : Int)) (({ Store := ({ Cells := ([] : List Int), Undo := ([] : List Mk.Write), Answers := ([] : List Mk.Answer), Past := ([] : List Mk.Request) } : Mk.Store), Server := ({ Gen := (0 : Int), Box := ([] : List (List UInt8)), Busy := false, Now := ({ Client := (0 : Int), Token := (0 : Int), Call := ({ Kind := (0 : Int), Name := (0 : Int), Other := (0 : Int), N := (0 : Int) } : Mk.Call) } : Mk.Request), Plan := ([] : List Mk.Write), Says := ({ Err := (0 : Int), N := (0 : Int) } : Mk.Reply) } : Mk.Server), Up := false, Pause := (0 : Int), Falls := (0 : Int), Clients := ([] : List Mk.Client) } : Mk.Machine)) ({ ({ a0 with Store := v1 }) with Server := v2 }) (([] : List Mk.Client)))))
def guard_Pause (a0 : Int) : Option Int :=
 some ((if (3 : Int) < (if a0 < (1 : Int) then (1 : Int) else a0) then (3 : Int) else (if a0 < (1 : Int) then (1 : Int) else a0)))
def guard_Fall (a0 : Mk.Machine) : Option (Mk.Machine × Int) :=
 (guard_Own (a0)).bind (fun v1 =>
 (bif (!a0.Up) then (
 some (v1, (11 : Int))) else (
 (bif (decide ((6 : Int) ≤ a0.Falls)) then (
 some (v1, (5 : Int))) else (
 G (I (v1.Falls + (1 : Int))) (
 (guard_Pause ({ v1 with Falls := (v1.Falls + (1 : Int)) }.Falls)).bind (fun v5 =>
 some ({ ({ ({ ({ v1 with Falls := (v1.Falls + (1 : Int)) }) with Up := false }) with Pause := v5 }) with Server := ({ Gen := a0.Server.Gen, Box := ([] : List (List UInt8)), Busy := false, Now := ({ Client := (0 : Int), Token := (0 : Int), Call := ({ Kind := (0 : Int), Name := (0 : Int), Other := (0 : Int), N := (0 : Int) } : Mk.Call) } : Mk.Request), Plan := ([] : List Mk.Write), Says := ({ Err := (0 : Int), N := (0 : Int) } : Mk.Reply) } : Mk.Server) }, (0 : Int)))))))))
def guard_Tick (a0 : Mk.Machine) : Option Mk.Machine :=
 (guard_Own (a0)).bind (fun v1 =>
 (bif a0.Up then (
 some (v1)) else (
 G (I (v1.Pause - (1 : Int))) (
 J (fun (y2_k4 : Mk.Machine) (y3_k4 : Mk.Machine) =>
 some (y3_k4)) (fun k4 =>
 (bif (decide ({ v1 with Pause := (v1.Pause - (1 : Int)) }.Pause ≤ (0 : Int))) then (
 (store_Back (a0.Store)).bind (fun v6 =>
 G (I (a0.Server.Gen + (1 : Int))) (
 k4 (({ Store := ({ Cells := ([] : List Int), Undo := ([] : List Mk.Write), Answers := ([] : List Mk.Answer), Past := ([] : List Mk.Request) } : Mk.Store), Server := ({ Gen := (0 : Int), Box := ([] : List (List UInt8)), Busy := false, Now := ({ Client := (0 : Int), Token := (0 : Int), Call := ({ Kind := (0 : Int), Name := (0 : Int), Other := (0 : Int), N := (0 : Int) } : Mk.Call) } : Mk.Request), Plan := ([] : List Mk.Write), Says := ({ Err := (0 : Int), N := (0 : Int) } : Mk.Reply) } : Mk.Server), Up := false, Pause := (0 : Int), Falls := (0 : Int), Clients := ([] : List Mk.Client) } : Mk.Machine)) ({ ({ ({ ({ ({ v1 with Pause := (v1.Pause - (1 : Int)) }) with Up := true }) with Pause := (0 : Int) }) with Store := v6 }) with Server := ({ Gen := (a0.Server.Gen + (1 : Int)), Box := ([] : List (List UInt8)), Busy := false, Now := ({ Client := (0 : Int), Token := (0 : Int), Call := ({ Kind := (0 : Int), Name := (0 : Int), Other := (0 : Int), N := (0 : Int) } : Mk.Call) } : Mk.Request), Plan := ([] : List Mk.Write), Says := ({ Err := (0 : Int), N := (0 : Int) } : Mk.Reply) } : Mk.Server) })))) else (
 k4 (({ Store := ({ Cells := ([] : List Int), Undo := ([] : List Mk.Write), Answers := ([] : List Mk.Answer), Past := ([] : List Mk.Request) } : Mk.Store), Server := ({ Gen := (0 : Int), Box := ([] : List (List UInt8)), Busy := false, Now := ({ Client := (0 : Int), Token := (0 : Int), Call := ({ Kind := (0 : Int), Name := (0 : Int), Other := (0 : Int), N := (0 : Int) } : Mk.Call) } : Mk.Request), Plan := ([] : List Mk.Write), Says := ({ Err := (0 : Int), N := (0 : Int) } : Mk.Reply) } : Mk.Server), Up := false, Pause := (0 : Int), Falls := (0 : Int), Clients := ([] : List Mk.Client) } : Mk.Machine)) ({ v1 with Pause := (v1.Pause - (1 : Int)) }))))))))
end Sp
end
section
namespace Sp
def serve_Come (a0 : Mk.Server) (a1 : List UInt8) : Option (Mk.Server × Int) :=
 (serve_Own (a0)).bind (fun v1 =>
 (bif (decide ((3 : Int) ≤ (a0.Box.length : Int))) then (
 some ({ ({ v1 with Box := ([] : List (List UInt8)) }) with Box := v1.Box }, (9 : Int))) else (
 (slices_Clone___byte_byte_ (a1)).bind (fun v3 =>
 G (((v1.Box.length + ([v3] : List (List UInt8)).length) * 24 ≤ 140737488355328 ∧ v1.Box.length + ([v3] : List (List UInt8)).length ≤ 9223372036854775807)) (
 some ({ ({ v1 with Box := ([] : List (List UInt8)) }) with Box := (v1.Box ++ ([v3] : List (List UInt8))) }, (0 : Int)))))))
def serve_take (a0 : Mk.Store) (a1 : Mk.Server) : Option (Mk.Server × (List UInt8)) :=
 G ((0 ≤ (0 : Int) ∧ (0 : Int) < (a1.Box.length : Int))) (
 (wire_ReadRequest ((ix a1.Box (0 : Int)))).bind (fun v2 =>
 G ((0 ≤ (1 : Int) ∧ (1 : Int) ≤ (a1.Box.length : Int) ∧ (a1.Box.length : Int) ≤ (a1.Box.length : Int))) (
 (bif (!decide (v2.2 = (0 : Int))) then (
 some ({ a1 with Box := (sub a1.Box (1 : Int) (a1.Box.length : Int)) }, ([] : List UInt8))) else (
 (store_Last (a0) (v2.1.Client)).bind (fun v5 =>
 (bif (v5.2 && (decide (v5.1.Token = v2.1.Token))) then (
 (wire_Answer (v5.1)).bind (fun v7 =>
 G (v7 ≠ []) (
 some ({ a1 with Box := (sub a1.Box (1 : Int) (a1.Box.length : Int)) }, v7)))) else (
 (bif (v5.2 && (decide (v2.1.Token < v5.1.Token))) then (
 some ({ a1 with Box := (sub a1.Box (1 : Int) (a1.Box.length : Int)) }, ([] : List UInt8))) else (
 (plan_Make (a0.Cells) (v2.1.Call)).bind (fun v10 =>
 some ({ ({ ({ ({ ({ a1 with Box := (sub a1.Box (1 : Int) (a1.Box.length : Int)) }) with Busy := true }) with Now := v2.1 }) with Plan := v10.1 }) with Says := v10.2 }, ([] : List UInt8)))))))))))))
def serve_Go (a0 : Mk.Store) (a1 : Mk.Server) : Option (Mk.Store × Mk.Server × (List UInt8) × Int) :=
 (serve_Own (a1)).bind (fun v1 =>
 (bif ((!a1.Busy) && (decide ((a1.Box.length : Int) = (0 : Int)))) then (
 (store_Own (a0)).bind (fun v3 =>
 some (v3, v1, ([] : List UInt8), (12 : Int)))) else (
 (bif (!a1.Busy) then (
 (serve_take (a0) (v1)).bind (fun v5 =>
 (store_Own (a0)).bind (fun v6 =>
 some (v6, v5.1, v5.2, (0 : Int))))) else (
 (bif (decide ((0 : Int) < (a1.Plan.length : Int))) then (
 G ((0 ≤ (1 : Int) ∧ (1 : Int) ≤ (v1.Plan.length : Int) ∧ (v1.Plan.length : Int) ≤ (v1.Plan.length : Int))) (
 G ((0 ≤ (0 : Int) ∧ (0 : Int) < (a1.Plan.length : Int))) (
 (store_Write (a0) ((ix a1.Plan (0 : Int)))).bind (fun v10 =>
 some (v10, { v1 with Plan := (sub v1.Plan (1 : Int) (v1.Plan.length : Int)) }, ([] : List UInt8), (0 : Int)))))) else (
 (wire_Answer (({ Client := a1.Now.Client, Token := a1.Now.Token, Reply := a1.Says } : Mk.Answer))).bind (fun v11 =>
 (store_Commit (a0) (a1.Now) (a1.Says)).bind (fun v12 =>
 G (v11 ≠ []) (
 some (v12, ({ Gen := a1.Gen, Box := v1.Box, Busy := false, Now := ({ Client := (0 : Int), Token := (0 : Int), Call := ({ Kind := (0 : Int), Name := (0 : Int), Other := (0 : Int), N := (0 : Int) } : Mk.Call) } : Mk.Request), Plan := ([] : List Mk.Write), Says := ({ Err := (0 : Int), N := (0 : Int) } : Mk.Reply) } : Mk.Server), v11, (0 : Int))))))))))))
end Sp
end
section
namespace Sp
def machine_New_l2 (k8 : (List Mk.Call) → (List (List Mk.Call)) → Int → Int → Mk.Machine → Mk.Machine → (List Mk.Client) → Option (Mk.Machine × Int)) : Nat → (List Mk.Call) → (List (List Mk.Call)) → Int → Int → (List Mk.Call) → Int → Int → Mk.Machine → Mk.Machine → (List Mk.Client) → Option (Mk.Machine × Int)
 | 0, _, _, _, _, _, _, _, _, _, _ => none
 | m9 + 1, x6_m9, x16_m9, x17_m9, x18_m9, x26_m9, x27_m9, x28_m9, y2_m9, y4_m9, y50155_m9 =>
 (bif (decide (x28_m9 < x27_m9)) then (
 G ((0 ≤ x28_m9 ∧ x28_m9 < (x26_m9.length : Int))) (
 (model_Wrong ((ix x26_m9 x28_m9))).bind (fun v12 =>
 (bif (!decide (v12 = (0 : Int))) then (
 some (({ Store := ({ Cells := ([] : List Int), Undo := ([] : List Mk.Write), Answers := ([] : List Mk.Answer), Past := ([] : List Mk.Request) } : Mk.Store), Server := ({ Gen := (0 : Int), Box := ([] : List (List UInt8)), Busy := false, Now := ({ Client := (0 : Int), Token := (0 : Int), Call := ({ Kind := (0 : Int), Name := (0 : Int), Other := (0 : Int), N := (0 : Int) } : Mk.Call) } : Mk.Request), Plan := ([] : List Mk.Write), Says := ({ Err := (0 : Int), N := (0 : Int) } : Mk.Reply) } : Mk.Server), Up := false, Pause := (0 : Int), Falls := (0 : Int), Clients := ([] : List Mk.Client) } : Mk.Machine), v12)) else (
 G (I (x28_m9 + (1 : Int))) (
 machine_New_l2 k8 m9 (x6_m9) (x16_m9) (x17_m9) (x18_m9) (x26_m9) (x27_m9) ((x28_m9 + (1 : Int))) (y2_m9) (y4_m9) (y50155_m9))))))) else (
 k8 (x6_m9) (x16_m9) (x17_m9) (x18_m9) (y2_m9) (y4_m9) (y50155_m9)))
def machine_New_l1 (k3 : Mk.Machine → Mk.Machine → (List Mk.Client) → Option (Mk.Machine × Int)) : Nat → (List (List Mk.Call)) → Int → Int → Mk.Machine → Mk.Machine → (List Mk.Client) → Option (Mk.Machine × Int)
 | 0, _, _, _, _, _, _ => none
 | m4 + 1, x16_m4, x17_m4, x18_m4, y2_m4, y4_m4, y50155_m4 =>
 (bif (decide (x18_m4 < x17_m4)) then (
 G ((0 ≤ x18_m4 ∧ x18_m4 < (x16_m4.length : Int))) (
 (bif (decide ((8 : Int) < ((ix x16_m4 x18_m4).length : Int))) then (
 some (({ Store := ({ Cells := ([] : List Int), Undo := ([] : List Mk.Write), Answers := ([] : List Mk.Answer), Past := ([] : List Mk.Request) } : Mk.Store), Server := ({ Gen := (0 : Int), Box := ([] : List (List UInt8)), Busy := false, Now := ({ Client := (0 : Int), Token := (0 : Int), Call := ({ Kind := (0 : Int), Name := (0 : Int), Other := (0 : Int), N := (0 : Int) } : Mk.Call) } : Mk.Request), Plan := ([] : List Mk.Write), Says := ({ Err := (0 : Int), N := (0 : Int) } : Mk.Reply) } : Mk.Server), Up := false, Pause := (0 : Int), Falls := (0 : Int), Clients := ([] : List Mk.Client) } : Mk.Machine), (4 : Int))) else (
 J (fun (x6_k8 : List Mk.Call) (x16_k8 : List (List Mk.Call)) (x17_k8 : Int) (x18_k8 : Int) (y2_k8 : Mk.Machine) (y4_k8 : Mk.Machine) (y50155_k8 : List Mk.Client) =>
 (slices_Clone___api_Call_api_Call_ (x6_k8)).bind (fun v15 =>
 G (((y50155_k8.length + ([({ Calls := v15, At := (0 : Int), Sent := false, Gen := (0 : Int), Box := ([] : List (List UInt8)), Got := ([] : List Mk.Reply) } : Mk.Client)] : List Mk.Client).length) * 96 ≤ 140737488355328 ∧ y50155_k8.length + ([({ Calls := v15, At := (0 : Int), Sent := false, Gen := (0 : Int), Box := ([] : List (List UInt8)), Got := ([] : List Mk.Reply) } : Mk.Client)] : List Mk.Client).length ≤ 9223372036854775807)) (
 G (I (x18_k8 + (1 : Int))) (
 machine_New_l1 k3 m4 (x16_k8) (x17_k8) ((x18_k8 + (1 : Int))) (y2_k8) (y4_k8) ((y50155_k8 ++ ([({ Calls := v15, At := (0 : Int), Sent := false, Gen := (0 : Int), Box := ([] : List (List UInt8)), Got := ([] : List Mk.Reply) } : Mk.Client)] : List Mk.Client))))))) (fun k8 =>
 machine_New_l2 k8 ((((ix x16_m4 x18_m4).length : Int) - (0 : Int)).toNat + 1) ((ix x16_m4 x18_m4)) (x16_m4) (x17_m4) (x18_m4) ((ix x16_m4 x18_m4)) (((ix x16_m4 x18_m4).length : Int)) ((0 : Int)) (y2_m4) (y4_m4) (y50155_m4)))))) else (
 k3 (y2_m4) (y4_m4) (y50155_m4)))
def machine_New (a0 : List (List Mk.Call)) : Option (Mk.Machine × Int) :=
 (bif (decide ((3 : Int) < (a0.length : Int))) then (
 some (({ Store := ({ Cells := ([] : List Int), Undo := ([] : List Mk.Write), Answers := ([] : List Mk.Answer), Past := ([] : List Mk.Request) } : Mk.Store), Server := ({ Gen := (0 : Int), Box := ([] : List (List UInt8)), Busy := false, Now := ({ Client := (0 : Int), Token := (0 : Int), Call := ({ Kind := (0 : Int), Name := (0 : Int), Other := (0 : Int), N := (0 : Int) } : Mk.Call) } : Mk.Request), Plan := ([] : List Mk.Write), Says := ({ Err := (0 : Int), N := (0 : Int) } : Mk.Reply) } : Mk.Server), Up := false, Pause := (0 : Int), Falls := (0 : Int), Clients := ([] : List Mk.Client) } : Mk.Machine), (5 : Int))) else (
 (store_New).bind (fun v2 =>
 J (fun (y2_k3 : Mk.Machine) (y4_k3 : Mk.Machine) (y50155_k3 : List Mk.Client) =>
 some ({ y4_k3 with Clients := y50155_k3 }, (0 : Int))) (fun k3 =>
 machine_New_l1 k3 (((a0.length : Int) - (0 : Int)).toNat + 1) (a0) ((a0.length : Int)) ((0 : Int)) (({ Store := ({ Cells := ([] : List Int), Undo := ([] : List Mk.Write), Answers := ([] : List Mk.Answer), Past := ([] : List Mk.Request) } : Mk.Store), Server := ({ Gen := (0 : Int), Box := ([] : List (List UInt8)), Busy := false, Now := ({ Client := (0 : Int), Token := (0 : Int), Call := ({ Kind := (0 : Int), Name := (0 : Int), Other := (0 : Int), N := (0 : Int) } : Mk.Call) } : Mk.Request), Plan := ([] : List Mk.Write), Says := ({ Err := (0 : Int), N := (0 : Int) } : Mk.Reply) } : Mk.Server), Up := false, Pause := (0 : Int), Falls := (0 : Int), Clients := ([] : List Mk.Client) } : Mk.Machine)) (({ Store := v2, Server := ({ Gen := (0 : Int), Box := ([] : List (List UInt8)), Busy := false, Now := ({ Client := (0 : Int), Token := (0 : Int), Call := ({ Kind := (0 : Int), Name := (0 : Int), Other := (0 : Int), N := (0 : Int) } : Mk.Call) } : Mk.Request), Plan := ([] : List Mk.Write), Says := ({ Err := (0 : Int), N := (0 : Int) } : Mk.Reply) } : Mk.Server), Up := true, Pause := (0 : Int), Falls := (0 : Int), Clients := ([] : List Mk.Client) } : Mk.Machine)) (([] : List Mk.Client))))))
def machine_goes (a0 : Mk.Machine) (a1 : Int) : Option (Mk.Machine × Int) :=
 (bif ((decide (a1 < (0 : Int))) || (decide ((a0.Clients.length : Int) ≤ a1))) then (
 some ({ ({ a0 with Clients := ([] : List Mk.Client) }) with Clients := a0.Clients }, (6 : Int))) else (
 G ((0 ≤ a1 ∧ a1 < (a0.Clients.length : Int))) (
 (client_Go ((ix a0.Clients a1)) (a1) ({ a0 with Clients := ([] : List Mk.Client) }.Server.Gen) ({ a0 with Clients := ([] : List Mk.Client) }.Up)).bind (fun v3 =>
 (bif (!decide (v3.2.2 = (0 : Int))) then (
 some ({ ({ a0 with Clients := ([] : List Mk.Client) }) with Clients := a0.Clients }, v3.2.2)) else (
 J (fun (x1_k5 : Int) (y5_k5 : Mk.Client) (y600_k5 : Mk.Machine) (y700_k5 : List Mk.Client) =>
 G ((0 ≤ x1_k5 ∧ x1_k5 < (y700_k5.length : Int))) (
 some ({ y600_k5 with Clients := (up y700_k5 x1_k5 y5_k5) }, (0 : Int)))) (fun k5 =>
 (bif (!v3.2.1.isEmpty) then (
 (serve_Come ({ a0 with Clients := ([] : List Mk.Client) }.Server) (v3.2.1)).bind (fun v7 =>
 (bif (!decide (v7.2 = (0 : Int))) then (
 some ({ ({ a0 with Clients := ([] : List Mk.Client) }) with Clients := a0.Clients }, v7.2)) else (
 k5 (a1) (v3.1) ({ ({ a0 with Clients := ([] : List Mk.Client) }) with Server := v7.1 }) (a0.Clients))))) else (
 k5 (a1) (v3.1) ({ a0 with Clients := ([] : List Mk.Client) }) (a0.Clients))))))))))
def machine_serves (a0 : Mk.Machine) (a1 : Int) : Option (Mk.Machine × Int) :=
 (bif (!{ a0 with Clients := ([] : List Mk.Client) }.Up) then (
 some ({ ({ a0 with Clients := ([] : List Mk.Client) }) with Clients := a0.Clients }, (10 : Int))) else (
 (serve_Go ({ a0 with Clients := ([] : List Mk.Client) }.Store) ({ a0 with Clients := ([] : List Mk.Client) }.Server)).bind (fun v2 =>
 (bif (!decide (v2.2.2.2 = (0 : Int))) then (
 some ({ ({ a0 with Clients := ([] : List Mk.Client) }) with Clients := a0.Clients }, v2.2.2.2)) else (
 (bif v2.2.2.1.isEmpty then (
 some ({ ({ ({ ({ a0 with Clients := ([] : List Mk.Client) }) with Store := v2.1 }) with Server := v2.2.1 }) with Clients := a0.Clients }, (0 : Int))) else (
 J (fun (y600_k5 : Mk.Machine) (y700_k5 : List Mk.Client) =>
 some ({ y600_k5 with Clients := y700_k5 }, (0 : Int))) (fun k5 =>
 (wire_ReadAnswer (v2.2.2.1)).bind (fun v6 =>
 (bif ((decide (v6.2 = (0 : Int))) && (decide (v6.1.Client < (a0.Clients.length : Int)))) then (
 G ((0 ≤ v6.1.Client ∧ v6.1.Client < (a0.Clients.length : Int))) (
 (client_Come ((ix a0.Clients v6.1.Client)) (v2.2.2.1)).bind (fun v9 =>
 G ((0 ≤ v6.1.Client ∧ v6.1.Client < (a0.Clients.length : Int))) (
 k5 ({ ({ ({ a0 with Clients := ([] : List Mk.Client) }) with Store := v2.1 }) with Server := v2.2.1 }) ((up a0.Clients v6.1.Client v9)))))) else (
 k5 ({ ({ ({ a0 with Clients := ([] : List Mk.Client) }) with Store := v2.1 }) with Server := v2.2.1 }) (a0.Clients))))))))))))
def machine_falls (a0 : Mk.Machine) (a1 : Int) : Option (Mk.Machine × Int) :=
 (guard_Fall ({ ({ a0 with Clients := ([] : List Mk.Client) }) with Clients := a0.Clients })).bind (fun v1 =>
 some (v1.1, v1.2))
def machine_ticks (a0 : Mk.Machine) (a1 : Int) : Option (Mk.Machine × Int) :=
 (guard_Tick ({ ({ a0 with Clients := ([] : List Mk.Client) }) with Clients := a0.Clients })).bind (fun v1 =>
 some (v1, (0 : Int)))
def machine_Do (a0 : Mk.Machine) (a1 : Mk.Step) : Option (Mk.Machine × Int) :=
 (guard_Own (a0)).bind (fun v1 =>
 (bif (decide (a1.Kind = (1 : Int))) then (
 (machine_goes ({ ({ v1 with Clients := ([] : List Mk.Client) }) with Clients := v1.Clients }) (a1.N)).bind (fun v4 =>
 some ({ ({ v4.1 with Clients := ([] : List Mk.Client) }) with Clients := v4.1.Clients }, v4.2))) else (
 (bif (decide (a1.Kind = (2 : Int))) then (
 (machine_serves ({ ({ v1 with Clients := ([] : List Mk.Client) }) with Clients := v1.Clients }) (a1.N)).bind (fun v7 =>
 some ({ ({ v7.1 with Clients := ([] : List Mk.Client) }) with Clients := v7.1.Clients }, v7.2))) else (
 (bif (decide (a1.Kind = (3 : Int))) then (
 (machine_falls ({ ({ v1 with Clients := ([] : List Mk.Client) }) with Clients := v1.Clients }) (a1.N)).bind (fun v10 =>
 some (v10.1, v10.2))) else (
 (bif (decide (a1.Kind = (4 : Int))) then (
 (machine_ticks ({ ({ v1 with Clients := ([] : List Mk.Client) }) with Clients := v1.Clients }) (a1.N)).bind (fun v13 =>
 some (v13.1, v13.2))) else (
 some ({ ({ v1 with Clients := ([] : List Mk.Client) }) with Clients := v1.Clients }, (1 : Int)))))))))))
end Sp
end
section
namespace Sp
def model_Of_l1 (k1 : (List Mk.Write) → Option ((List Mk.Write))) : Nat → (List Int) → Int → Int → (List Mk.Write) → Option ((List Mk.Write))
 | 0, _, _, _, _ => none
 | m3 + 1, x0_m3, x7_m3, x8_m3, y1003_m3 =>
 (bif (decide (x8_m3 < x7_m3)) then (
 G (I ((2 : Int) * x8_m3)) (
 G (I ((1 : Int) + ((2 : Int) * x8_m3))) (
 G ((0 ≤ ((1 : Int) + ((2 : Int) * x8_m3)) ∧ ((1 : Int) + ((2 : Int) * x8_m3)) < (x0_m3.length : Int))) (
 G (I ((2 : Int) * x8_m3)) (
 G (I ((2 : Int) + ((2 : Int) * x8_m3))) (
 G ((0 ≤ ((2 : Int) + ((2 : Int) * x8_m3)) ∧ ((2 : Int) + ((2 : Int) * x8_m3)) < (x0_m3.length : Int))) (
 G (((y1003_m3.length + ([({ At := (ix x0_m3 ((1 : Int) + ((2 : Int) * x8_m3))), N := (ix x0_m3 ((2 : Int) + ((2 : Int) * x8_m3))) } : Mk.Write)] : List Mk.Write).length) * 16 ≤ 140737488355328 ∧ y1003_m3.length + ([({ At := (ix x0_m3 ((1 : Int) + ((2 : Int) * x8_m3))), N := (ix x0_m3 ((2 : Int) + ((2 : Int) * x8_m3))) } : Mk.Write)] : List Mk.Write).length ≤ 9223372036854775807)) (
 G (I (x8_m3 + (1 : Int))) (
 model_Of_l1 k1 m3 (x0_m3) (x7_m3) ((x8_m3 + (1 : Int))) ((y1003_m3 ++ ([({ At := (ix x0_m3 ((1 : Int) + ((2 : Int) * x8_m3))), N := (ix x0_m3 ((2 : Int) + ((2 : Int) * x8_m3))) } : Mk.Write)] : List Mk.Write)))))))))))) else (
 k1 (y1003_m3)))
def model_Of (a0 : List Int) : Option ((List Mk.Write)) :=
 J (fun (y1003_k1 : List Mk.Write) =>
 some (y1003_k1)) (fun k1 =>
 G ((0 ≤ (0 : Int) ∧ (0 : Int) < (a0.length : Int))) (
 model_Of_l1 k1 (((ix a0 (0 : Int)) - (0 : Int)).toNat + 1) (a0) ((ix a0 (0 : Int))) ((0 : Int)) (([] : List Mk.Write))))
end Sp
end
section
namespace Sp
def look_Idle_l1 (k1 : Unit → Option Bool) : Nat → (List Mk.Client) → Int → Int → Option Bool
 | 0, _, _, _ => none
 | m2 + 1, x6_m2, x7_m2, x8_m2 =>
 (bif (decide (x8_m2 < x7_m2)) then (
 G ((0 ≤ x8_m2 ∧ x8_m2 < (x6_m2.length : Int))) (
 (bif (decide ((ix x6_m2 x8_m2).At < ((ix x6_m2 x8_m2).Calls.length : Int))) then (
 some (false)) else (
 G (I (x8_m2 + (1 : Int))) (
 look_Idle_l1 k1 m2 (x6_m2) (x7_m2) ((x8_m2 + (1 : Int)))))))) else (
 k1 ()))
def look_Idle (a0 : Mk.Machine) : Option Bool :=
 J (fun (_ : Unit) =>
 some (true)) (fun k1 =>
 look_Idle_l1 k1 (((a0.Clients.length : Int) - (0 : Int)).toNat + 1) (a0.Clients) ((a0.Clients.length : Int)) ((0 : Int)))
def look_Now (a0 : Mk.Machine) : Option ((List Mk.Write)) :=
 (store_Back (a0.Store)).bind (fun v1 =>
 (model_Of (v1.Cells)).bind (fun v2 =>
 some (v2)))
end Sp
end
section
namespace Sp
def fair_Play_l1 (k4 : Mk.Machine → Mk.Machine → (List Int) → Option (Mk.Machine × (List Int) × Int)) : Nat → (List Mk.Step) → Int → Int → Mk.Machine → Mk.Machine → (List Int) → Option (Mk.Machine × (List Int) × Int)
 | 0, _, _, _, _, _, _ => none
 | m5 + 1, x27_m5, x28_m5, x29_m5, y4_m5, y7_m5, y1009_m5 =>
 (bif (decide (x29_m5 < x28_m5)) then (
 G ((0 ≤ x29_m5 ∧ x29_m5 < (x27_m5.length : Int))) (
 (machine_Do (y7_m5) ((ix x27_m5 x29_m5))).bind (fun v8 =>
 G (((y1009_m5.length + ([v8.2] : List Int).length) * 8 ≤ 140737488355328 ∧ y1009_m5.length + ([v8.2] : List Int).length ≤ 9223372036854775807)) (
 G (I (x29_m5 + (1 : Int))) (
 fair_Play_l1 k4 m5 (x27_m5) (x28_m5) ((x29_m5 + (1 : Int))) (y4_m5) (v8.1) ((y1009_m5 ++ ([v8.2] : List Int)))))))) else (
 k4 (y4_m5) (y7_m5) (y1009_m5)))
def fair_Play (a0 : List (List Mk.Call)) (a1 : List Mk.Step) : Option (Mk.Machine × (List Int) × Int) :=
 (machine_New (a0)).bind (fun v1 =>
 (bif (!decide (v1.2 = (0 : Int))) then (
 some (({ Store := ({ Cells := ([] : List Int), Undo := ([] : List Mk.Write), Answers := ([] : List Mk.Answer), Past := ([] : List Mk.Request) } : Mk.Store), Server := ({ Gen := (0 : Int), Box := ([] : List (List UInt8)), Busy := false, Now := ({ Client := (0 : Int), Token := (0 : Int), Call := ({ Kind := (0 : Int), Name := (0 : Int), Other := (0 : Int), N := (0 : Int) } : Mk.Call) } : Mk.Request), Plan := ([] : List Mk.Write), Says := ({ Err := (0 : Int), N := (0 : Int) } : Mk.Reply) } : Mk.Server), Up := false, Pause := (0 : Int), Falls := (0 : Int), Clients := ([] : List Mk.Client) } : Mk.Machine), ([] : List Int), v1.2)) else (
 (bif (decide ((400 : Int) < (a1.length : Int))) then (
 some (({ Store := ({ Cells := ([] : List Int), Undo := ([] : List Mk.Write), Answers := ([] : List Mk.Answer), Past := ([] : List Mk.Request) } : Mk.Store), Server := ({ Gen := (0 : Int), Box := ([] : List (List UInt8)), Busy := false, Now := ({ Client := (0 : Int), Token := (0 : Int), Call := ({ Kind := (0 : Int), Name := (0 : Int), Other := (0 : Int), N := (0 : Int) } : Mk.Call) } : Mk.Request), Plan := ([] : List Mk.Write), Says := ({ Err := (0 : Int), N := (0 : Int) } : Mk.Reply) } : Mk.Server), Up := false, Pause := (0 : Int), Falls := (0 : Int), Clients := ([] : List Mk.Client) } : Mk.Machine), ([] : List Int), (5 : Int))) else (
 J (fun (y4_k4 : Mk.Machine) (y7_k4 : Mk.Machine) (y1009_k4 : List Int) =>
 some (y7_k4, y1009_k4, (0 : Int))) (fun k4 =>
 fair_Play_l1 k4 (((a1.length : Int) - (0 : Int)).toNat + 1) (a1) ((a1.length : Int)) ((0 : Int)) (({ Store := ({ Cells := ([] : List Int), Undo := ([] : List Mk.Write), Answers := ([] : List Mk.Answer), Past := ([] : List Mk.Request) } : Mk.Store), Server := ({ Gen := (0 : Int), Box := ([] : List (List UInt8)), Busy := false, Now := ({ Client := (0 : Int), Token := (0 : Int), Call := ({ Kind := (0 : Int), Name := (0 : Int), Other := (0 : Int), N := (0 : Int) } : Mk.Call) } : Mk.Request), Plan := ([] : List Mk.Write), Says := ({ Err := (0 : Int), N := (0 : Int) } : Mk.Reply) } : Mk.Server), Up := false, Pause := (0 : Int), Falls := (0 : Int), Clients := ([] : List Mk.Client) } : Mk.Machine)) (v1.1) (([] : List Int))))))))
def fair_Round_l1 (k2 : Mk.Machine → Mk.Machine → Option Mk.Machine) : Nat → Int → Int → Mk.Machine → Mk.Machine → Option Mk.Machine
 | 0, _, _, _, _ => none
 | m3 + 1, x14_m3, x15_m3, y2_m3, y3_m3 =>
 (bif (decide (x15_m3 < x14_m3)) then (
 (machine_Do (y3_m3) (({ Kind := (1 : Int), N := x15_m3 } : Mk.Step))).bind (fun v5 =>
 G (I (x15_m3 + (1 : Int))) (
 fair_Round_l1 k2 m3 (x14_m3) ((x15_m3 + (1 : Int))) (y2_m3) (v5.1)))) else (
 k2 (y2_m3) (y3_m3)))
def fair_Round (a0 : Mk.Machine) : Option Mk.Machine :=
 (machine_Do (a0) (({ Kind := (4 : Int), N := (0 : Int) } : Mk.Step))).bind (fun v1 =>
 J (fun (y2_k2 : Mk.Machine) (y3_k2 : Mk.Machine) =>
 (machine_Do (y3_k2) (({ Kind := (2 : Int), N := (0 : Int) } : Mk.Step))).bind (fun v7 =>
 some (v7.1))) (fun k2 =>
 fair_Round_l1 k2 (((v1.1.Clients.length : Int) - (0 : Int)).toNat + 1) ((v1.1.Clients.length : Int)) ((0 : Int)) (({ Store := ({ Cells := ([] : List Int), Undo := ([] : List Mk.Write), Answers := ([] : List Mk.Answer), Past := ([] : List Mk.Request) } : Mk.Store), Server := ({ Gen := (0 : Int), Box := ([] : List (List UInt8)), Busy := false, Now := ({ Client := (0 : Int), Token := (0 : Int), Call := ({ Kind := (0 : Int), Name := (0 : Int), Other := (0 : Int), N := (0 : Int) } : Mk.Call) } : Mk.Request), Plan := ([] : List Mk.Write), Says := ({ Err := (0 : Int), N := (0 : Int) } : Mk.Reply) } : Mk.Server), Up := false, Pause := (0 : Int), Falls := (0 : Int), Clients := ([] : List Mk.Client) } : Mk.Machine)) (v1.1)))
def fair_Settle_l1 (k2 : Int → Mk.Machine → Mk.Machine → Option (Mk.Machine × Int)) : Nat → Int → Mk.Machine → Mk.Machine → Option (Mk.Machine × Int)
 | 0, _, _, _ => none
 | m3 + 1, x5_m3, y2_m3, y4_m3 =>
 (Cn (((decide (x5_m3 < (300 : Int)))) = true) (look_Idle (y4_m3))).bind (fun v4 =>
 (bif ((decide (x5_m3 < (300 : Int))) && (!v4)) then (
 (fair_Round (y4_m3)).bind (fun v6 =>
 G (I (x5_m3 + (1 : Int))) (
 fair_Settle_l1 k2 m3 ((x5_m3 + (1 : Int))) (y2_m3) (v6)))) else (
 k2 (x5_m3) (y2_m3) (y4_m3))))
def fair_Settle (a0 : Mk.Machine) : Option (Mk.Machine × Int) :=
 (guard_Own (a0)).bind (fun v1 =>
 J (fun (x5_k2 : Int) (y2_k2 : Mk.Machine) (y4_k2 : Mk.Machine) =>
 some (y4_k2, x5_k2)) (fun k2 =>
 fair_Settle_l1 k2 (((300 : Int) - (0 : Int)).toNat + 1) ((0 : Int)) (({ Store := ({ Cells := ([] : List Int), Undo := ([] : List Mk.Write), Answers := ([] : List Mk.Answer), Past := ([] : List Mk.Request) } : Mk.Store), Server := ({ Gen := (0 : Int), Box := ([] : List (List UInt8)), Busy := false, Now := ({ Client := (0 : Int), Token := (0 : Int), Call := ({ Kind := (0 : Int), Name := (0 : Int), Other := (0 : Int), N := (0 : Int) } : Mk.Call) } : Mk.Request), Plan := ([] : List Mk.Write), Says := ({ Err := (0 : Int), N := (0 : Int) } : Mk.Reply) } : Mk.Server), Up := false, Pause := (0 : Int), Falls := (0 : Int), Clients := ([] : List Mk.Client) } : Mk.Machine)) (v1)))
end Sp
end
section
namespace Sp
def mktop_settled_l1 (k1 : (List ByteArray) → (List Mk.Step) → Mk.Machine → (List (List Mk.Call)) → Option (Mk.Machine × Bool)) : Nat → (List ByteArray) → (List Mk.Step) → (List ByteArray) → Int → Int → Mk.Machine → (List (List Mk.Call)) → Option (Mk.Machine × Bool)
 | 0, _, _, _, _, _, _, _ => none
 | m2 + 1, x0_m2, x1_m2, x16_m2, x17_m2, x18_m2, y4_m2, y1006_m2 =>
 (bif (decide (x18_m2 < x17_m2)) then (
 G ((0 ≤ x18_m2 ∧ x18_m2 < (x16_m2.length : Int))) (
 (text_Parse ((ix x16_m2 x18_m2))).bind (fun v5 =>
 (bif (!decide (v5.2 = (0 : Int))) then (
 some (({ Store := ({ Cells := ([] : List Int), Undo := ([] : List Mk.Write), Answers := ([] : List Mk.Answer), Past := ([] : List Mk.Request) } : Mk.Store), Server := ({ Gen := (0 : Int), Box := ([] : List (List UInt8)), Busy := false, Now := ({ Client := (0 : Int), Token := (0 : Int), Call := ({ Kind := (0 : Int), Name := (0 : Int), Other := (0 : Int), N := (0 : Int) } : Mk.Call) } : Mk.Request), Plan := ([] : List Mk.Write), Says := ({ Err := (0 : Int), N := (0 : Int) } : Mk.Reply) } : Mk.Server), Up := false, Pause := (0 : Int), Falls := (0 : Int), Clients := ([] : List Mk.Client) } : Mk.Machine), false)) else (
 G (((y1006_m2.length + ([v5.1] : List (List Mk.Call)).length) * 24 ≤ 140737488355328 ∧ y1006_m2.length + ([v5.1] : List (List Mk.Call)).length ≤ 9223372036854775807)) (
 G (I (x18_m2 + (1 : Int))) (
 mktop_settled_l1 k1 m2 (x0_m2) (x1_m2) (x16_m2) (x17_m2) ((x18_m2 + (1 : Int))) (y4_m2) ((y1006_m2 ++ ([v5.1] : List (List Mk.Call))))))))))) else (
 k1 (x0_m2) (x1_m2) (y4_m2) (y1006_m2)))
def mktop_settled (a0 : List ByteArray) (a1 : List Mk.Step) : Option (Mk.Machine × Bool) :=
 J (fun (x0_k1 : List ByteArray) (x1_k1 : List Mk.Step) (y4_k1 : Mk.Machine) (y1006_k1 : List (List Mk.Call)) =>
 (fair_Play (y1006_k1) (x1_k1)).bind (fun v9 =>
 (bif (!decide (v9.2.2 = (0 : Int))) then (
 some (({ Store := ({ Cells := ([] : List Int), Undo := ([] : List Mk.Write), Answers := ([] : List Mk.Answer), Past := ([] : List Mk.Request) } : Mk.Store), Server := ({ Gen := (0 : Int), Box := ([] : List (List UInt8)), Busy := false, Now := ({ Client := (0 : Int), Token := (0 : Int), Call := ({ Kind := (0 : Int), Name := (0 : Int), Other := (0 : Int), N := (0 : Int) } : Mk.Call) } : Mk.Request), Plan := ([] : List Mk.Write), Says := ({ Err := (0 : Int), N := (0 : Int) } : Mk.Reply) } : Mk.Server), Up := false, Pause := (0 : Int), Falls := (0 : Int), Clients := ([] : List Mk.Client) } : Mk.Machine), false)) else (
 (fair_Settle (v9.1)).bind (fun v11 =>
 (look_Idle (v11.1)).bind (fun v12 =>
 some (v11.1, (v12 && (decide ((v11.1.Clients.length : Int) = (x0_k1.length : Int))))))))))) (fun k1 =>
 mktop_settled_l1 k1 (((a0.length : Int) - (0 : Int)).toNat + 1) (a0) (a1) (a0) ((a0.length : Int)) ((0 : Int)) (({ Store := ({ Cells := ([] : List Int), Undo := ([] : List Mk.Write), Answers := ([] : List Mk.Answer), Past := ([] : List Mk.Request) } : Mk.Store), Server := ({ Gen := (0 : Int), Box := ([] : List (List UInt8)), Busy := false, Now := ({ Client := (0 : Int), Token := (0 : Int), Call := ({ Kind := (0 : Int), Name := (0 : Int), Other := (0 : Int), N := (0 : Int) } : Mk.Call) } : Mk.Request), Plan := ([] : List Mk.Write), Says := ({ Err := (0 : Int), N := (0 : Int) } : Mk.Reply) } : Mk.Server), Up := false, Pause := (0 : Int), Falls := (0 : Int), Clients := ([] : List Mk.Client) } : Mk.Machine)) (([] : List (List Mk.Call))))
def mktop_alive  : Option Bool :=
 (mktop_settled (([(⟨#[112, 117, 116, 32, 55, 32, 53, 10, 103, 101, 116, 32, 55, 10]⟩ : ByteArray)] : List ByteArray)) (([] : List Mk.Step))).bind (fun v1 =>
 G ((v1.2) = true → (0 ≤ (0 : Int) ∧ (0 : Int) < (v1.1.Clients.length : Int))) (
 G (((v1.2 && (decide (((ix v1.1.Clients (0 : Int)).Got.length : Int) = (2 : Int))))) = true → (0 ≤ (0 : Int) ∧ (0 : Int) < (v1.1.Clients.length : Int))) (
 G (((v1.2 && (decide (((ix v1.1.Clients (0 : Int)).Got.length : Int) = (2 : Int))))) = true → (0 ≤ (1 : Int) ∧ (1 : Int) < ((ix v1.1.Clients (0 : Int)).Got.length : Int))) (
 some (((v1.2 && (decide (((ix v1.1.Clients (0 : Int)).Got.length : Int) = (2 : Int)))) && (decide ((ix (ix v1.1.Clients (0 : Int)).Got (1 : Int)).N = (5 : Int)))))))))
def mktop_TopRoom_l1 (k4 : Int → Int → (List Mk.Step) → (List Mk.Call) → Option Bool) : Nat → Int → Int → (List Mk.Step) → Int → Int → (List Mk.Call) → Option Bool
 | 0, _, _, _, _, _, _ => none
 | m5 + 1, x0_m5, x1_m5, x2_m5, x41_m5, x42_m5, y1007_m5 =>
 (bif (decide (x42_m5 < x41_m5)) then (
 G (I ((1 : Int) + x42_m5)) (
 G (((y1007_m5.length + ([({ Kind := (1 : Int), Name := ((1 : Int) + x42_m5), Other := (0 : Int), N := x42_m5 } : Mk.Call)] : List Mk.Call).length) * 32 ≤ 140737488355328 ∧ y1007_m5.length + ([({ Kind := (1 : Int), Name := ((1 : Int) + x42_m5), Other := (0 : Int), N := x42_m5 } : Mk.Call)] : List Mk.Call).length ≤ 9223372036854775807)) (
 G (I (x42_m5 + (1 : Int))) (
 mktop_TopRoom_l1 k4 m5 (x0_m5) (x1_m5) (x2_m5) (x41_m5) ((x42_m5 + (1 : Int))) ((y1007_m5 ++ ([({ Kind := (1 : Int), Name := ((1 : Int) + x42_m5), Other := (0 : Int), N := x42_m5 } : Mk.Call)] : List Mk.Call))))))) else (
 k4 (x0_m5) (x1_m5) (x2_m5) (y1007_m5)))
def mktop_TopRoom_l2 (k10 : Int → Int → (List Mk.Step) → (List Mk.Call) → (List Mk.Call) → Option Bool) : Nat → Int → Int → (List Mk.Step) → Int → Int → (List Mk.Call) → (List Mk.Call) → Option Bool
 | 0, _, _, _, _, _, _, _ => none
 | m11 + 1, x0_m11, x1_m11, x2_m11, x53_m11, x54_m11, y1007_m11, y1008_m11 =>
 (bif (decide (x54_m11 < x53_m11)) then (
 G (I ((101 : Int) + x54_m11)) (
 G (((y1008_m11.length + ([({ Kind := (1 : Int), Name := ((101 : Int) + x54_m11), Other := (0 : Int), N := x54_m11 } : Mk.Call)] : List Mk.Call).length) * 32 ≤ 140737488355328 ∧ y1008_m11.length + ([({ Kind := (1 : Int), Name := ((101 : Int) + x54_m11), Other := (0 : Int), N := x54_m11 } : Mk.Call)] : List Mk.Call).length ≤ 9223372036854775807)) (
 G (I (x54_m11 + (1 : Int))) (
 mktop_TopRoom_l2 k10 m11 (x0_m11) (x1_m11) (x2_m11) (x53_m11) ((x54_m11 + (1 : Int))) (y1007_m11) ((y1008_m11 ++ ([({ Kind := (1 : Int), Name := ((101 : Int) + x54_m11), Other := (0 : Int), N := x54_m11 } : Mk.Call)] : List Mk.Call))))))) else (
 k10 (x0_m11) (x1_m11) (x2_m11) (y1007_m11) (y1008_m11)))
def mktop_TopRoom_l3 (k20 : Int → Int → Mk.Machine → (List Int) → Option Bool) : Nat → Int → Int → (List Mk.Write) → Int → Int → Mk.Machine → (List Int) → Option Bool
 | 0, _, _, _, _, _, _, _ => none
 | m22 + 1, x0_m22, x1_m22, x79_m22, x80_m22, x81_m22, y11_m22, y77_m22 =>
 (bif (decide (x81_m22 < x80_m22)) then (
 G ((0 ≤ x81_m22 ∧ x81_m22 < (x79_m22.length : Int))) (
 G (I (x81_m22 + (1 : Int))) (
 mktop_TopRoom_l3 k20 m22 (x0_m22) (x1_m22) (x79_m22) (x80_m22) ((x81_m22 + (1 : Int))) (y11_m22) ((if (ix x79_m22 x81_m22).At ∈ y77_m22 then y77_m22 else y77_m22 ++ [(ix x79_m22 x81_m22).At]))))) else (
 k20 (x0_m22) (x1_m22) (y11_m22) (y77_m22)))
def mktop_TopRoom_l5 (k32 : (List Mk.Client) → Int → Int → (List Int) → Option Bool) : Nat → Int → (List Mk.Client) → Int → Int → (List Mk.Reply) → Int → Int → (List Int) → Option Bool
 | 0, _, _, _, _, _, _, _, _ => none
 | m34 + 1, x16_m34, x97_m34, x98_m34, x99_m34, x105_m34, x106_m34, x107_m34, y77_m34 =>
 (bif (decide (x107_m34 < x106_m34)) then (
 G ((0 ≤ x107_m34 ∧ x107_m34 < (x105_m34.length : Int))) (
 G (I ((100 : Int) * x16_m34)) (
 G (I ((1 : Int) + ((100 : Int) * x16_m34))) (
 G (I (((1 : Int) + ((100 : Int) * x16_m34)) + x107_m34)) (
 (bif ((!decide ((decide ((((1 : Int) + ((100 : Int) * x16_m34)) + x107_m34) ∈ y77_m34)) = (decide ((ix x105_m34 x107_m34).Err = (0 : Int))))) || ((!decide ((ix x105_m34 x107_m34).Err = (0 : Int))) && (!decide ((ix x105_m34 x107_m34).Err = (9 : Int))))) then (
 some (false)) else (
 G (I (x107_m34 + (1 : Int))) (
 mktop_TopRoom_l5 k32 m34 (x16_m34) (x97_m34) (x98_m34) (x99_m34) (x105_m34) (x106_m34) ((x107_m34 + (1 : Int))) (y77_m34))))))))) else (
 k32 (x97_m34) (x98_m34) (x99_m34) (y77_m34)))
def mktop_TopRoom_l4 (k29 : Unit → Option Bool) : Nat → (List Mk.Client) → Int → Int → (List Int) → Option Bool
 | 0, _, _, _, _ => none
 | m30 + 1, x97_m30, x98_m30, x99_m30, y77_m30 =>
 (bif (decide (x99_m30 < x98_m30)) then (
 J (fun (x97_k32 : List Mk.Client) (x98_k32 : Int) (x99_k32 : Int) (y77_k32 : List Int) =>
 G (I (x99_k32 + (1 : Int))) (
 mktop_TopRoom_l4 k29 m30 (x97_k32) (x98_k32) ((x99_k32 + (1 : Int))) (y77_k32))) (fun k32 =>
 G ((0 ≤ x99_m30 ∧ x99_m30 < (x97_m30.length : Int))) (
 mktop_TopRoom_l5 k32 ((((ix x97_m30 x99_m30).Got.length : Int) - (0 : Int)).toNat + 1) (x99_m30) (x97_m30) (x98_m30) (x99_m30) ((ix x97_m30 x99_m30).Got) (((ix x97_m30 x99_m30).Got.length : Int)) ((0 : Int)) (y77_m30)))) else (
 k29 ()))
def mktop_TopRoom (a0 : Int) (a1 : Int) (a2 : List Mk.Step) : Option Bool :=
 (mktop_alive).bind (fun v1 =>
 (bif (!v1) then (
 some (false)) else (
 (bif (((((decide (a0 < (0 : Int))) || (decide ((8 : Int) < a0))) || (decide (a1 < (0 : Int)))) || (decide ((8 : Int) < a1))) || (decide ((400 : Int) < (a2.length : Int)))) then (
 some (true)) else (
 J (fun (x0_k4 : Int) (x1_k4 : Int) (x2_k4 : List Mk.Step) (y1007_k4 : List Mk.Call) =>
 J (fun (x0_k10 : Int) (x1_k10 : Int) (x2_k10 : List Mk.Step) (y1007_k10 : List Mk.Call) (y1008_k10 : List Mk.Call) =>
 (text_Print (y1007_k10)).bind (fun v16 =>
 (text_Print (y1008_k10)).bind (fun v17 =>
 (mktop_settled (([v16, v17] : List ByteArray)) (x2_k10)).bind (fun v18 =>
 (bif (!v18.2) then (
 some (false)) else (
 J (fun (x0_k20 : Int) (x1_k20 : Int) (y11_k20 : Mk.Machine) (y77_k20 : List Int) =>
 G ((y77_k20.length ≤ 9223372036854775807)) (
 G (I (x0_k20 + x1_k20)) (
 (bif (!decide ((y77_k20.length : Int) = (if (5 : Int) < (x0_k20 + x1_k20) then (5 : Int) else (x0_k20 + x1_k20)))) then (
 some (false)) else (
 J (fun (_ : Unit) =>
 some (true)) (fun k29 =>
 mktop_TopRoom_l4 k29 (((y11_k20.Clients.length : Int) - (0 : Int)).toNat + 1) (y11_k20.Clients) ((y11_k20.Clients.length : Int)) ((0 : Int)) (y77_k20))))))) (fun k20 =>
 (look_Now (v18.1)).bind (fun v21 =>
 mktop_TopRoom_l3 k20 (((v21.length : Int) - (0 : Int)).toNat + 1) (x0_k10) (x1_k10) (v21) ((v21.length : Int)) ((0 : Int)) (v18.1) (([] : List Int)))))))))) (fun k10 =>
 mktop_TopRoom_l2 k10 ((x1_k4 - (0 : Int)).toNat + 1) (x0_k4) (x1_k4) (x2_k4) (x1_k4) ((0 : Int)) (y1007_k4) (([] : List Mk.Call)))) (fun k4 =>
 mktop_TopRoom_l1 k4 ((a0 - (0 : Int)).toNat + 1) (a0) (a1) (a2) (a0) ((0 : Int)) (([] : List Mk.Call))))))))
def mktop_TopApart_l2 (k7 : (List Mk.Call) → (List Mk.Call) → (List Mk.Step) → (List (List Mk.Call)) → Int → Int → (List Int) → Option Bool) : Nat → (List Mk.Call) → (List Mk.Call) → (List Mk.Step) → Int → (List (List Mk.Call)) → Int → Int → (List Mk.Call) → Int → Int → (List Int) → Option Bool
 | 0, _, _, _, _, _, _, _, _, _, _, _ => none
 | m9 + 1, x0_m9, x1_m9, x2_m9, x8_m9, x38_m9, x39_m9, x40_m9, x45_m9, x46_m9, x47_m9, y35_m9 =>
 (bif (decide (x47_m9 < x46_m9)) then (
 G ((0 ≤ x47_m9 ∧ x47_m9 < (x45_m9.length : Int))) (
 G ((((decide ((ix x45_m9 x47_m9).Kind < (1 : Int))) || (decide ((4 : Int) < (ix x45_m9 x47_m9).Kind)))) = false → I ((100 : Int) * x8_m9)) (
 G ((((decide ((ix x45_m9 x47_m9).Kind < (1 : Int))) || (decide ((4 : Int) < (ix x45_m9 x47_m9).Kind)))) = false → I ((1 : Int) + ((100 : Int) * x8_m9))) (
 G (((((decide ((ix x45_m9 x47_m9).Kind < (1 : Int))) || (decide ((4 : Int) < (ix x45_m9 x47_m9).Kind))) || (decide ((ix x45_m9 x47_m9).Name < ((1 : Int) + ((100 : Int) * x8_m9)))))) = false → I ((100 : Int) * x8_m9)) (
 G (((((decide ((ix x45_m9 x47_m9).Kind < (1 : Int))) || (decide ((4 : Int) < (ix x45_m9 x47_m9).Kind))) || (decide ((ix x45_m9 x47_m9).Name < ((1 : Int) + ((100 : Int) * x8_m9)))))) = false → I ((99 : Int) + ((100 : Int) * x8_m9))) (
 (bif ((((((((decide ((ix x45_m9 x47_m9).Kind < (1 : Int))) || (decide ((4 : Int) < (ix x45_m9 x47_m9).Kind))) || (decide ((ix x45_m9 x47_m9).Name < ((1 : Int) + ((100 : Int) * x8_m9))))) || (decide (((99 : Int) + ((100 : Int) * x8_m9)) < (ix x45_m9 x47_m9).Name))) || (!decide ((ix x45_m9 x47_m9).Other = (0 : Int)))) || (decide ((ix x45_m9 x47_m9).N < (-1000 : Int)))) || (decide ((1000 : Int) < (ix x45_m9 x47_m9).N))) || (((!decide ((ix x45_m9 x47_m9).Kind = (1 : Int))) && (!decide ((ix x45_m9 x47_m9).Kind = (4 : Int)))) && (!decide ((ix x45_m9 x47_m9).N = (0 : Int))))) then (
 some (true)) else (
 G (I (x47_m9 + (1 : Int))) (
 mktop_TopApart_l2 k7 m9 (x0_m9) (x1_m9) (x2_m9) (x8_m9) (x38_m9) (x39_m9) (x40_m9) (x45_m9) (x46_m9) ((x47_m9 + (1 : Int))) ((if (ix x45_m9 x47_m9).Name ∈ y35_m9 then y35_m9 else y35_m9 ++ [(ix x45_m9 x47_m9).Name]))))))))))) else (
 k7 (x0_m9) (x1_m9) (x2_m9) (x38_m9) (x39_m9) (x40_m9) (y35_m9)))
def mktop_TopApart_l1 (k4 : (List Mk.Call) → (List Mk.Call) → (List Mk.Step) → (List Int) → Option Bool) : Nat → (List Mk.Call) → (List Mk.Call) → (List Mk.Step) → (List (List Mk.Call)) → Int → Int → (List Int) → Option Bool
 | 0, _, _, _, _, _, _, _ => none
 | m5 + 1, x0_m5, x1_m5, x2_m5, x38_m5, x39_m5, x40_m5, y35_m5 =>
 (bif (decide (x40_m5 < x39_m5)) then (
 J (fun (x0_k7 : List Mk.Call) (x1_k7 : List Mk.Call) (x2_k7 : List Mk.Step) (x38_k7 : List (List Mk.Call)) (x39_k7 : Int) (x40_k7 : Int) (y35_k7 : List Int) =>
 G (I (x40_k7 + (1 : Int))) (
 mktop_TopApart_l1 k4 m5 (x0_k7) (x1_k7) (x2_k7) (x38_k7) (x39_k7) ((x40_k7 + (1 : Int))) (y35_k7))) (fun k7 =>
 G ((0 ≤ x40_m5 ∧ x40_m5 < (x38_m5.length : Int))) (
 mktop_TopApart_l2 k7 ((((ix x38_m5 x40_m5).length : Int) - (0 : Int)).toNat + 1) (x0_m5) (x1_m5) (x2_m5) (x40_m5) (x38_m5) (x39_m5) (x40_m5) ((ix x38_m5 x40_m5)) (((ix x38_m5 x40_m5).length : Int)) ((0 : Int)) (y35_m5)))) else (
 k4 (x0_m5) (x1_m5) (x2_m5) (y35_m5)))
def mktop_TopApart_l4 (k28 : (List (List Mk.Call)) → Int → Int → Mk.Machine → Option Bool) : Nat → Int → (List (List Mk.Call)) → Int → Int → (List Mk.Reply) → Int → Int → Mk.Machine → Option Bool
 | 0, _, _, _, _, _, _, _, _ => none
 | m36 + 1, x14_m36, x127_m36, x128_m36, x129_m36, x163_m36, x164_m36, x165_m36, y12_m36 =>
 (bif (decide (x165_m36 < x164_m36)) then (
 G ((0 ≤ x165_m36 ∧ x165_m36 < (x163_m36.length : Int))) (
 G ((0 ≤ x14_m36 ∧ x14_m36 < (y12_m36.Clients.length : Int))) (
 G ((0 ≤ x165_m36 ∧ x165_m36 < ((ix y12_m36.Clients x14_m36).Got.length : Int))) (
 (bif (!decide ((ix (ix y12_m36.Clients x14_m36).Got x165_m36) = (ix x163_m36 x165_m36))) then (
 some (false)) else (
 G (I (x165_m36 + (1 : Int))) (
 mktop_TopApart_l4 k28 m36 (x14_m36) (x127_m36) (x128_m36) (x129_m36) (x163_m36) (x164_m36) ((x165_m36 + (1 : Int))) (y12_m36)))))))) else (
 k28 (x127_m36) (x128_m36) (x129_m36) (y12_m36)))
def mktop_TopApart_l3 (k25 : Unit → Option Bool) : Nat → (List (List Mk.Call)) → Int → Int → Mk.Machine → Option Bool
 | 0, _, _, _, _ => none
 | m26 + 1, x127_m26, x128_m26, x129_m26, y12_m26 =>
 (bif (decide (x129_m26 < x128_m26)) then (
 J (fun (x127_k28 : List (List Mk.Call)) (x128_k28 : Int) (x129_k28 : Int) (y12_k28 : Mk.Machine) =>
 G (I (x129_k28 + (1 : Int))) (
 mktop_TopApart_l3 k25 m26 (x127_k28) (x128_k28) ((x129_k28 + (1 : Int))) (y12_k28))) (fun k28 =>
 G ((0 ≤ x129_m26 ∧ x129_m26 < (x127_m26.length : Int))) (
 (text_Print ((ix x127_m26 x129_m26))).bind (fun v30 =>
 (mktop_settled (([v30] : List ByteArray)) (([] : List Mk.Step))).bind (fun v31 =>
 G (((!v31.2)) = false → (0 ≤ (0 : Int) ∧ (0 : Int) < (v31.1.Clients.length : Int))) (
 G (((!v31.2)) = false → (0 ≤ x129_m26 ∧ x129_m26 < (y12_m26.Clients.length : Int))) (
 (bif ((!v31.2) || (!decide (((ix v31.1.Clients (0 : Int)).Got.length : Int) = ((ix y12_m26.Clients x129_m26).Got.length : Int)))) then (
 some (false)) else (
 G ((0 ≤ (0 : Int) ∧ (0 : Int) < (v31.1.Clients.length : Int))) (
 mktop_TopApart_l4 k28 ((((ix v31.1.Clients (0 : Int)).Got.length : Int) - (0 : Int)).toNat + 1) (x129_m26) (x127_m26) (x128_m26) (x129_m26) ((ix v31.1.Clients (0 : Int)).Got) (((ix v31.1.Clients (0 : Int)).Got.length : Int)) ((0 : Int)) (y12_m26))))))))))) else (
 k25 ()))
def mktop_TopApart (a0 : List Mk.Call) (a1 : List Mk.Call) (a2 : List Mk.Step) : Option Bool :=
 (mktop_alive).bind (fun v1 =>
 (bif (!v1) then (
 some (false)) else (
 (bif (((decide ((8 : Int) < (a0.length : Int))) || (decide ((8 : Int) < (a1.length : Int)))) || (decide ((400 : Int) < (a2.length : Int)))) then (
 some (true)) else (
 J (fun (x0_k4 : List Mk.Call) (x1_k4 : List Mk.Call) (x2_k4 : List Mk.Step) (y35_k4 : List Int) =>
 G ((y35_k4.length ≤ 9223372036854775807)) (
 (bif (decide ((5 : Int) < (y35_k4.length : Int))) then (
 some (true)) else (
 (text_Print (x0_k4)).bind (fun v21 =>
 (text_Print (x1_k4)).bind (fun v22 =>
 (mktop_settled (([v21, v22] : List ByteArray)) (x2_k4)).bind (fun v23 =>
 (bif (!v23.2) then (
 some (false)) else (
 J (fun (_ : Unit) =>
 some (true)) (fun k25 =>
 mktop_TopApart_l3 k25 (((([x0_k4, x1_k4] : List (List Mk.Call)).length : Int) - (0 : Int)).toNat + 1) (([x0_k4, x1_k4] : List (List Mk.Call))) ((([x0_k4, x1_k4] : List (List Mk.Call)).length : Int)) ((0 : Int)) (v23.1))))))))))) (fun k4 =>
 mktop_TopApart_l1 k4 (((([a0, a1] : List (List Mk.Call)).length : Int) - (0 : Int)).toNat + 1) (a0) (a1) (a2) (([a0, a1] : List (List Mk.Call))) ((([a0, a1] : List (List Mk.Call)).length : Int)) ((0 : Int)) (([] : List Int))))))))
end Sp
end
section
namespace Go.Gx
open Sp
theorem c_cell_Find {a0 : List Int} {a1 : Int} {r : Int} (hφ : cell_Find a0 a1 = some r) : Fn Go.Proofs.Tryz.prog 112 [.val a0, .val a1] (.val r) := by
 unfold cell_Find at hφ
 refine Fn.mk' Go.Proofs.Tryz.func112 rfl (by decide) rfl rfl rfl (fun w0 hw0 => ?_)
 refine Q2 (Q1 ?_)
 refine O5 (ox1 .int) .nil .nil rfl <| O1 <| Q0 (σ' := ⟨[(0, .val (a0)), (1, .val (a1))], []⟩) (j2 rfl rfl) trivial ?_
 obtain ⟨k1, hk1, hφ⟩ := J_some hφ
 refine PT.cut (ι := Unit) (fun p => ⟨[], []⟩) (fun p => k1 () = some r) ?_ ?_
 ·skip
  refine Q2 ?_
  obtain ⟨hb2, hφ⟩ := G_some hφ
  refine Q1 ?_
  refine O5 (ox0 .tmp) (.one rfl) .nil rfl <| O5 (ox_ix s25 .tmp .int hb2.1 hb2.2) (.app (.one rfl) .nil) .nil rfl <| O5 (ox_load_elem t3) (.one rfl) .nil rfl <| O5 (ox0 .int) .nil .nil rfl <| O1 <| Q0 (σ' := ⟨[(0, _), (1, _), (8, .val (ix a0 (0 : Int))), (9, .val (0 : Int))], []⟩) (j4 rfl rfl rfl rfl) trivial ?_
  refine PT.block ?_
  refine PT.loop (ι := Nat × (List Int) × Int × Int × Int) (fun p => ⟨[(0, .val (p.2.1)), (1, .val (p.2.2.1)), (8, .val (p.2.2.2.1)), (9, .val (p.2.2.2.2))], []⟩) (fun p => cell_Find_l1 k1 p.1 (p.2.1) (p.2.2.1) (p.2.2.2.1) (p.2.2.2.2) = some r) (fun p => p.1) (((ix a0 (0 : Int)) - (0 : Int)).toNat + 1, a0, a1, (ix a0 (0 : Int)), (0 : Int)) hφ (j4 rfl rfl rfl rfl) trivial ?_
  rintro ⟨m3, x0_m3, x1_m3, x8_m3, x9_m3⟩ (hφ : cell_Find_l1 k1 m3 x0_m3 x1_m3 x8_m3 x9_m3 = some r)
  obtain _ | m3 := m3
  ·exact (none_no hφ).elim
  rw [cell_Find_l1.eq_2] at hφ
  refine Q0 (σ' := ⟨[(0, .val (x0_m3)), (1, .val (x1_m3)), (8, .val (x8_m3)), (9, .val (x9_m3))], []⟩) (j4 rfl rfl rfl rfl) trivial ?_
  refine Q2 (Q1 ?_)
  refine O5 (ox_lss .tmp .tmp) (.app (.one rfl) (.one rfl)) .nil rfl <| O1 <| Q0 (σ' := ⟨[(0, _), (1, _), (8, _), (9, _), (10, .val (decide (x9_m3 < x8_m3)))], []⟩) (j5 rfl rfl rfl rfl rfl) trivial ?_
  refine Q2 ?_
  refine Q3 _ rfl (fun hc4 => ?_) (fun hc4 => ?_)
  ·replace hφ := if_then hφ hc4
   refine Q0 (σ' := ⟨[(0, _), (1, _), (8, _), (9, _)], []⟩) (j4 rfl rfl rfl rfl) trivial ?_
   refine Q4 ?_
   refine Q2 ?_
   refine PT.block ?_
   refine Q2 (Q1 ?_)
   refine O5 (ox0 .tmp) (.one rfl) .nil rfl <| O5 (ox1 .tmp) (.one rfl) .nil rfl <| O1 <| Q0 (σ' := ⟨[(0, _), (1, _), (5, .val (x9_m3)), (8, _), (9, _)], []⟩) (j5 rfl rfl rfl rfl rfl) trivial ?_
   refine Q2 ?_
   obtain ⟨hb5, hφ⟩ := G_some hφ
   obtain ⟨hb6, hφ⟩ := G_some hφ
   obtain ⟨hb7, hφ⟩ := G_some hφ
   refine Q1 ?_
   refine O5 (ox0 .tmp) (.one rfl) .nil rfl <| O5 (ox0 .tmp) (.one rfl) .nil rfl <| O5 (ox_mul .int .tmp hb5) (.app .nil (.one rfl)) .nil rfl <| O5 (ox_add .int .tmp hb6) (.app .nil (.one rfl)) .nil rfl <| O5 (ox_ix s25 .tmp .tmp hb7.1 hb7.2) (.app (.one rfl) (.one rfl)) .nil rfl <| O5 (ox_load_elem t3) (.one rfl) .nil rfl ?_
   refine O5 (ox0 .tmp) (.one rfl) .nil rfl <| O5 (ox_eql .tmp .tmp) (.app (.one rfl) (.one rfl)) .nil rfl <| O1 <| Q0 (σ' := ⟨[(0, _), (1, _), (5, _), (8, _), (9, _), (19, .val ((decide ((ix x0_m3 ((1 : Int) + ((2 : Int) * x9_m3))) = x1_m3))))], []⟩) (j6 rfl rfl rfl rfl rfl rfl) trivial ?_
   refine Q3 _ rfl (fun hc8 => ?_) (fun hc8 => ?_)
   ·replace hφ := if_then hφ hc8
    refine Q0 (σ' := ⟨[(5, _)], []⟩) (j1 rfl) trivial ?_
    refine Q2 (Q1 ?_)
    refine O5 (ox0 .tmp) (.one rfl) .nil rfl <| O5 (ox1 .tmp) (.one rfl) .nil rfl <| O1 <| Q0 (σ' := ⟨[(4, .val (x9_m3))], []⟩) (j1 rfl) trivial ?_
    refine Q5 ?_
    obtain rfl := Option.some.inj hφ
    exact Q6 hw0 rfl (.tmp rfl rfl .nil) rfl
   ·replace hφ := if_else hφ hc8
    refine Q0 (σ' := ⟨[(0, _), (1, _), (8, _), (9, _)], []⟩) (j4 rfl rfl rfl rfl) trivial ?_
    refine Q4 ?_
    obtain ⟨hb9, hφ⟩ := G_some hφ
    refine Q1 ?_
    refine O5 (ox_add .tmp .int hb9) (.app (.one rfl) .nil) .nil rfl <| O5 (ox0 .tmp) (.one rfl) .nil rfl <| O1 <| Q0 (σ' := ⟨[(0, _), (1, _), (8, _), (9, .val (x9_m3 + (1 : Int)))], []⟩) (j4 rfl rfl rfl rfl) trivial ?_
    exact PT.next (m3, x0_m3, x1_m3, x8_m3, (x9_m3 + (1 : Int))) hφ (Nat.lt_succ_self _) (j4 rfl rfl rfl rfl) trivial
  ·replace hφ := if_else hφ hc4
   refine Q0 (σ' := ⟨[], []⟩) trivial trivial ?_
   refine PT.exit ?_
   exact PT.meet () hφ trivial trivial
 ·rintro ⟨⟩ hφ
  subst hk1
  refine Q0 (σ' := ⟨[], []⟩) trivial trivial ?_
  refine Q2 (Q1 ?_)
  refine O5 (ox1 .int) .nil .nil rfl <| O1 <| Q0 (σ' := ⟨[(4, .val (-1 : Int))], []⟩) (j1 rfl) trivial ?_
  refine Q5 ?_
  obtain rfl := Option.some.inj hφ
  exact Q6 hw0 rfl (.tmp rfl rfl .nil) rfl
theorem c_plan_at {a0 : Int} {r : Int} (hφ : plan_at a0 = some r) : Fn Go.Proofs.Tryz.prog 113 [.val a0] (.val r) := by
 unfold plan_at at hφ
 refine Fn.mk' Go.Proofs.Tryz.func113 rfl (by decide) rfl rfl rfl (fun w0 hw0 => ?_)
 refine Q2 (Q1 ?_)
 refine O5 (ox1 .int) .nil .nil rfl <| O1 <| Q0 (σ' := ⟨[(0, .val (a0))], []⟩) (j1 rfl) trivial ?_
 refine Q2 ?_
 obtain ⟨hb1, hφ⟩ := G_some hφ
 obtain ⟨hb2, hφ⟩ := G_some hφ
 refine Q1 ?_
 refine O5 (ox0 .tmp) (.one rfl) .nil rfl <| O5 (ox_mul .int .tmp hb1) (.app .nil (.one rfl)) .nil rfl <| O5 (ox_add .int .tmp hb2) (.app .nil (.one rfl)) .nil rfl <| O5 (ox1 .tmp) (.one rfl) .nil rfl <| O1 <| Q0 (σ' := ⟨[(2, .val ((2 : Int) + ((2 : Int) * a0)))], []⟩) (j1 rfl) trivial ?_
 refine Q5 ?_
 obtain rfl := Option.some.inj hφ
 exact Q6 hw0 rfl (.tmp rfl rfl .nil) rfl
theorem c_plan_Make {a0 : List Int} {a1 : Mk.Call} {r : ((List Mk.Write) × Mk.Reply)} (hφ : plan_Make a0 a1 = some r) : Fn Go.Proofs.Tryz.prog 100 [.val a0, .val a1] (.tup [.val r.1, .val r.2]) := by
 unfold plan_Make at hφ
 refine Fn.mk' Go.Proofs.Tryz.func100 rfl (by decide) rfl rfl rfl (fun w0 hw0 => ?_)
 refine Q2 (Q1 ?_)
 refine O3 rfl rfl (ox_box (id := 3) .tmp) (.one rfl) .nil rfl (by kernel_rfl) <| O5 (ox1 .nilS) .nil .nil rfl <| O3 rfl rfl (ox_alloc (id := 5) z38) .nil .nil rfl (by kernel_rfl) <| O1 <| Q0 (σ' := ⟨[(0, .val (a0)), (3, _), (5, _)], [(3, .var (a1) []), (5, .var zRe [])]⟩) (j3 rfl rfl rfl) (j2 rfl rfl) ?_
 refine Q2 ?_
 obtain ⟨v1, hv1, hφ⟩ := B_some hφ
 refine Q1 ?_
 refine O5 (ox0 .tmp) (.one rfl) .nil rfl <| O5 (ox3 Call_Name f33_1) (.one rfl) .nil rfl <| O5 (ox2 t3) (.one rfl) (.one rfl) rfl <| O5 (ox_call (c_cell_Find hv1) (.cons .tmp (.cons .tmp .nil))) (.app (.one rfl) (.app (.one rfl) .nil)) .nil rfl <| O5 (ox1 .tmp) (.one rfl) .nil rfl <| O1 <| Q0 (σ' := ⟨[(0, _), (3, _), (5, _), (6, .val (v1))], [(3, _), (5, _)]⟩) (j4 rfl rfl rfl rfl) (j2 rfl rfl) ?_
 refine Q2 ?_
 obtain ⟨hb2, hφ⟩ := G_some hφ
 refine Q1 ?_
 refine O5 (ox0 .tmp) (.one rfl) .nil rfl <| O5 (ox_ix s25 .tmp .int hb2.1 hb2.2) (.app (.one rfl) .nil) .nil rfl <| O5 (ox_load_elem t3) (.one rfl) .nil rfl <| O5 (ox1 .tmp) (.one rfl) .nil rfl <| O1 <| Q0 (σ' := ⟨[(0, _), (3, _), (5, _), (6, _), (7, .val (ix a0 (0 : Int)))], [(3, _), (5, _)]⟩) (j5 rfl rfl rfl rfl rfl) (j2 rfl rfl) ?_
 refine Q2 ?_
 refine PT.block ?_
 refine Q2 (Q1 ?_)
 refine O5 (ox3 Call_Kind f33_0) (.one rfl) .nil rfl <| O5 (ox2 t3) (.one rfl) (.one rfl) rfl <| O5 (ox_eql .tmp .int) (.app (.one rfl) .nil) .nil rfl <| O5 (ox1 .tmp) (.one rfl) .nil rfl <| O1 <| Q0 (σ' := ⟨[(0, _), (3, _), (5, _), (6, _), (7, _), (19, .val (decide (a1.Kind = (5 : Int))))], [(3, _), (5, _)]⟩) (j6 rfl rfl rfl rfl rfl rfl) (j2 rfl rfl) ?_
 refine Q3 _ rfl (fun hc3 => ?_) (fun hc3 => ?_)
 ·replace hφ := if_then hφ hc3
  refine Q0 (σ' := ⟨[(5, _), (7, _)], [(5, _)]⟩) (j2 rfl rfl) (j1 rfl) ?_
  refine Q2 (Q1 ?_)
  refine O5 (ox0 .tmp) (.one rfl) .nil rfl <| O5 (oxa z38 u38 rfl (.cons Reply_N f38_1 .tmp Bld.nil)) (.app (.one rfl) .nil) .nil rfl <| O5 (ox1 .nilS) .nil .nil rfl <| O2 rfl rfl (ox5 t38 .tmp) (.cons rfl (.one rfl)) (.one rfl) <| O1 <| Q0 (σ' := ⟨[(4, .nilS), (5, _)], [(5, .var ({ Err := (0 : Int), N := (ix a0 (0 : Int)) } : Mk.Reply) [])]⟩) (j2 rfl rfl) (j1 rfl) ?_
  refine Q5 ?_
  refine PT.asNil 4 (Mk.Write) rfl ?_
  obtain rfl := Option.some.inj hφ
  exact Q6 hw0 rfl (.tmp rfl rfl (.cell t38 rfl rfl .nil)) rfl
 ·replace hφ := if_else hφ hc3
  refine Q0 (σ' := ⟨[(0, _), (3, _), (5, _), (6, _), (7, _)], [(3, _), (5, _)]⟩) (j5 rfl rfl rfl rfl rfl) (j2 rfl rfl) ?_
  refine Q2 (Q1 ?_)
  refine O5 (ox3 Call_Kind f33_0) (.one rfl) .nil rfl <| O5 (ox2 t3) (.one rfl) (.one rfl) rfl <| O5 (ox_eql .tmp .int) (.app (.one rfl) .nil) .nil rfl <| O5 (ox0 .tmp) (.one rfl) .nil rfl <| O4 rfl rfl rfl rfl (.plain .nil) (fun hG => (ox0 .tmp)) (j1 rfl) .nil rfl <| O4 rfl rfl rfl rfl (.cond (fun h => h) .nil) (fun hG => (ox_lss .tmp .int)) (j1 rfl) .nil rfl ?_
  refine O5 ox8 (j2 rfl rfl) .nil rfl <| O5 (ox0 .tmp) (.one rfl) .nil rfl <| O4 rfl rfl rfl rfl (.plain .nil) (fun hG => (ox0 .tmp)) (j1 rfl) .nil rfl <| O4 rfl rfl rfl rfl (.cond (fun h => h) .nil) (fun hG => (ox_geq .tmp .int)) (j1 rfl) .nil rfl <| O5 ox8 (j2 rfl rfl) .nil rfl <| O5 (ox1 .tmp) (.one rfl) .nil rfl <| O1 <| Q0 (σ' := ⟨[(0, _), (3, _), (5, _), (6, _), (7, _), (25, .val ((((decide (a1.Kind = (1 : Int))) && (decide (v1 < (0 : Int)))) && (decide ((5 : Int) ≤ (ix a0 (0 : Int)))))))], [(3, _), (5, _)]⟩) (j6 rfl rfl rfl rfl rfl rfl) (j2 rfl rfl) ?_
  refine Q3 _ rfl (fun hc4 => ?_) (fun hc4 => ?_)
  ·replace hφ := if_then hφ hc4
   refine Q0 (σ' := ⟨[(5, _)], [(5, _)]⟩) (j1 rfl) (j1 rfl) ?_
   refine Q2 (Q1 ?_)
   refine O5 (oxa z38 u38 rfl (.cons Reply_Err f38_0 .int Bld.nil)) (.app .nil .nil) .nil rfl <| O5 (ox1 .nilS) .nil .nil rfl <| O2 rfl rfl (ox5 t38 .tmp) (.cons rfl (.one rfl)) (.one rfl) <| O1 <| Q0 (σ' := ⟨[(4, .nilS), (5, _)], [(5, .var ({ Err := (9 : Int), N := (0 : Int) } : Mk.Reply) [])]⟩) (j2 rfl rfl) (j1 rfl) ?_
   refine Q5 ?_
   refine PT.asNil 4 (Mk.Write) rfl ?_
   obtain rfl := Option.some.inj hφ
   exact Q6 hw0 rfl (.tmp rfl rfl (.cell t38 rfl rfl .nil)) rfl
  ·replace hφ := if_else hφ hc4
   refine Q0 (σ' := ⟨[(0, _), (3, _), (5, _), (6, _), (7, _)], [(3, _), (5, _)]⟩) (j5 rfl rfl rfl rfl rfl) (j2 rfl rfl) ?_
   refine Q2 (Q1 ?_)
   refine O5 (ox3 Call_Kind f33_0) (.one rfl) .nil rfl <| O5 (ox2 t3) (.one rfl) (.one rfl) rfl <| O5 (ox_eql .tmp .int) (.app (.one rfl) .nil) .nil rfl <| O5 (ox0 .tmp) (.one rfl) .nil rfl <| O4 rfl rfl rfl rfl (.plain .nil) (fun hG => (ox0 .tmp)) (j1 rfl) .nil rfl <| O4 rfl rfl rfl rfl (.cond (fun h => h) .nil) (fun hG => (ox_lss .tmp .int)) (j1 rfl) .nil rfl ?_
   refine O5 ox8 (j2 rfl rfl) .nil rfl <| O5 (ox1 .tmp) (.one rfl) .nil rfl <| O1 <| Q0 (σ' := ⟨[(0, _), (3, _), (5, _), (6, _), (7, _), (38, .val ((decide (a1.Kind = (1 : Int))) && (decide (v1 < (0 : Int)))))], [(3, _), (5, _)]⟩) (j6 rfl rfl rfl rfl rfl rfl) (j2 rfl rfl) ?_
   refine Q3 _ rfl (fun hc5 => ?_) (fun hc5 => ?_)
   ·replace hφ := if_then hφ hc5
    refine Q0 (σ' := ⟨[(3, _), (5, _), (7, _)], [(3, _), (5, _)]⟩) (j3 rfl rfl rfl) (j2 rfl rfl) ?_
    refine Q2 ?_
    obtain ⟨v6, hv6, hφ⟩ := B_some hφ
    obtain ⟨hb7, hφ⟩ := G_some hφ
    obtain ⟨v8, hv8, hφ⟩ := B_some hφ
    obtain ⟨hb9, hφ⟩ := G_some hφ
    refine Q8 hMixed (
      .cons (S5 (ox0 .tmp)) ⟨.one rfl, .nil⟩ (by kernel_rfl) rfl <|
      .cons (S5 (ox_call (c_plan_at hv6) (.cons .tmp .nil))) ⟨(.app (.one rfl) .nil), .nil⟩ (by kernel_rfl) rfl <|
      .cons (S5 (ox_sub .tmp .int hb7)) ⟨(.app (.one rfl) .nil), .nil⟩ (by kernel_rfl) rfl <|
      .cons (S5 (ox3 Call_Name f33_1)) ⟨.one rfl, .nil⟩ (by kernel_rfl) rfl <|
      .cons (S5 (ox2 t3)) ⟨.one rfl, .one rfl⟩ (by kernel_rfl) rfl <|
      .cons (S5 (oxa z52 u52 rfl (.cons Write_At f52_0 .tmp (.cons Write_N f52_1 .tmp Bld.nil)))) ⟨(.app (.one rfl) (.app (.one rfl) .nil)), .nil⟩ (by kernel_rfl) rfl <|
      .cons (S5 (ox0 .tmp)) ⟨.one rfl, .nil⟩ (by kernel_rfl) rfl <|
      .cons (S5 (ox_call (c_plan_at hv8) (.cons .tmp .nil))) ⟨(.app (.one rfl) .nil), .nil⟩ (by kernel_rfl) rfl <|
      .cons (S5 (ox3 Call_N f33_3)) ⟨.one rfl, .nil⟩ (by kernel_rfl) rfl <|
      .cons (S5 (ox2 t3)) ⟨.one rfl, .one rfl⟩ (by kernel_rfl) rfl <|
      .cons (S5 (oxa z52 u52 rfl (.cons Write_At f52_0 .tmp (.cons Write_N f52_1 .tmp Bld.nil)))) ⟨(.app (.one rfl) (.app (.one rfl) .nil)), .nil⟩ (by kernel_rfl) rfl <|
      .cons (S5 (ox0 .tmp)) ⟨.one rfl, .nil⟩ (by kernel_rfl) rfl <|
      .cons (S5 (ox_add .tmp .int hb9)) ⟨(.app (.one rfl) .nil), .nil⟩ (by kernel_rfl) rfl <|
      .cons (S5 (oxa z52 u52 rfl (.cons Write_At f52_0 .int (.cons Write_N f52_1 .tmp Bld.nil)))) ⟨(.app .nil (.app (.one rfl) .nil)), .nil⟩ (by kernel_rfl) rfl <|
      .cons (S5 (ox_buildSlice_val s26 z52 (.cons .tmp (.cons .tmp (.cons .tmp Parts.nil))) rfl (by decide))) ⟨(.app (.one rfl) (.app (.one rfl) (.app (.one rfl) .nil))), .nil⟩ (by kernel_rfl) rfl <|
      .cons (S5 (oxa z38 u38 rfl Bld.nil)) ⟨.nil, .nil⟩ (by kernel_rfl) rfl <|
      .cons (S5 (ox1 .tmp)) ⟨.one rfl, .nil⟩ (by kernel_rfl) rfl <|
      .cons (S4 rfl rfl (ox5 t38 .tmp)) ⟨(.cons rfl (.one rfl)), .one rfl⟩ (by kernel_rfl) rfl <|
      .nil) _ [[], [0], [0, 1], [], [3], [0, 1, 2, 3, 4], [], [0, 1, 6], [], [8], [0, 1, 6, 7, 8, 9], [], [11], [11, 12], [0, 1, 2, 3, 4, 5, 6, 7, 8, 9, 10, 11, 12, 13], [], [0, 1, 2, 3, 4, 5, 6, 7, 8, 9, 10, 11, 12, 13, 14], [0, 1, 2, 3, 4, 5, 6, 7, 8, 9, 10, 11, 12, 13, 14, 15, 16]] rfl (by kernel_rfl) (by kernel_rfl) ?_
    refine Q0 (σ' := ⟨[(4, .val (([({ At := (v6 - (1 : Int)), N := a1.Name } : Mk.Write), ({ At := v8, N := a1.N } : Mk.Write), ({ At := (0 : Int), N := ((ix a0 (0 : Int)) + (1 : Int)) } : Mk.Write)] : List Mk.Write))), (5, _)], [(5, _)]⟩) (j2 rfl rfl) (j1 rfl) ?_
    refine Q5 ?_
    obtain rfl := Option.some.inj hφ
    exact Q6 hw0 rfl (.tmp rfl rfl (.cell t38 rfl rfl .nil)) rfl
   ·replace hφ := if_else hφ hc5
    refine Q0 (σ' := ⟨[(0, _), (3, _), (5, _), (6, _), (7, _)], [(3, _), (5, _)]⟩) (j5 rfl rfl rfl rfl rfl) (j2 rfl rfl) ?_
    refine Q2 (Q1 ?_)
    refine O5 (ox0 .tmp) (.one rfl) .nil rfl <| O5 (ox_lss .tmp .int) (.app (.one rfl) .nil) .nil rfl <| O5 (ox1 .tmp) (.one rfl) .nil rfl <| O1 <| Q0 (σ' := ⟨[(0, _), (3, _), (5, _), (6, _), (7, _), (62, .val (decide (v1 < (0 : Int))))], [(3, _), (5, _)]⟩) (j6 rfl rfl rfl rfl rfl rfl) (j2 rfl rfl) ?_
    refine Q3 _ rfl (fun hc10 => ?_) (fun hc10 => ?_)
    ·replace hφ := if_then hφ hc10
     refine Q0 (σ' := ⟨[(5, _)], [(5, _)]⟩) (j1 rfl) (j1 rfl) ?_
     refine Q2 (Q1 ?_)
     refine O5 (oxa z38 u38 rfl (.cons Reply_Err f38_0 .int Bld.nil)) (.app .nil .nil) .nil rfl <| O5 (ox1 .nilS) .nil .nil rfl <| O2 rfl rfl (ox5 t38 .tmp) (.cons rfl (.one rfl)) (.one rfl) <| O1 <| Q0 (σ' := ⟨[(4, .nilS), (5, _)], [(5, .var ({ Err := (6 : Int), N := (0 : Int) } : Mk.Reply) [])]⟩) (j2 rfl rfl) (j1 rfl) ?_
     refine Q5 ?_
     refine PT.asNil 4 (Mk.Write) rfl ?_
     obtain rfl := Option.some.inj hφ
     exact Q6 hw0 rfl (.tmp rfl rfl (.cell t38 rfl rfl .nil)) rfl
    ·replace hφ := if_else hφ hc10
     refine Q0 (σ' := ⟨[(0, _), (3, _), (5, _), (6, _), (7, _)], [(3, _), (5, _)]⟩) (j5 rfl rfl rfl rfl rfl) (j2 rfl rfl) ?_
     refine Q4 ?_
     refine Q2 ?_
     obtain ⟨v11, hv11, hφ⟩ := B_some hφ
     obtain ⟨hb12, hφ⟩ := G_some hφ
     refine Q1 ?_
     refine O5 (ox0 .tmp) (.one rfl) .nil rfl <| O5 (ox0 .tmp) (.one rfl) .nil rfl <| O5 (ox_call (c_plan_at hv11) (.cons .tmp .nil)) (.app (.one rfl) .nil) .nil rfl <| O5 (ox_ix s25 .tmp .tmp hb12.1 hb12.2) (.app (.one rfl) (.one rfl)) .nil rfl <| O5 (ox_load_elem t3) (.one rfl) .nil rfl <| O5 (ox1 .tmp) (.one rfl) .nil rfl <| O1 <| Q0 (σ' := ⟨[(0, _), (3, _), (5, _), (6, _), (7, _), (8, .val (ix a0 v11))], [(3, _), (5, _)]⟩) (j6 rfl rfl rfl rfl rfl rfl) (j2 rfl rfl) ?_
     refine Q2 ?_
     refine Q2 (Q1 ?_)
     refine O5 (ox3 Call_Kind f33_0) (.one rfl) .nil rfl <| O5 (ox2 t3) (.one rfl) (.one rfl) rfl <| O1 <| Q0 (σ' := ⟨[(0, _), (3, _), (5, _), (6, _), (7, _), (8, _), (72, .val (a1.Kind))], [(3, _), (5, _)]⟩) (j7 rfl rfl rfl rfl rfl rfl rfl) (j2 rfl rfl) ?_
     refine PT.block ?_
     refine Q2 (Q1 ?_)
     refine O5 (ox_eql .tmp .int) (.app (.one rfl) .nil) .nil rfl <| O5 (ox1 .tmp) (.one rfl) .nil rfl <| O1 <| Q0 (σ' := ⟨[(0, _), (3, _), (5, _), (6, _), (7, _), (8, _), (72, _), (73, .val (decide (a1.Kind = (1 : Int))))], [(3, _), (5, _)]⟩) (j8 rfl rfl rfl rfl rfl rfl rfl rfl) (j2 rfl rfl) ?_
     refine Q3 _ rfl (fun hc13 => ?_) (fun hc13 => ?_)
     ·replace hφ := if_then hφ hc13
      refine Q0 (σ' := ⟨[(3, _), (5, _), (6, _), (8, _)], [(3, _), (5, _)]⟩) (j4 rfl rfl rfl rfl) (j2 rfl rfl) ?_
      refine Q2 ?_
      obtain ⟨v14, hv14, hφ⟩ := B_some hφ
      refine Q8 hMixed (
        .cons (S5 (ox0 .tmp)) ⟨.one rfl, .nil⟩ (by kernel_rfl) rfl <|
        .cons (S5 (ox_call (c_plan_at hv14) (.cons .tmp .nil))) ⟨(.app (.one rfl) .nil), .nil⟩ (by kernel_rfl) rfl <|
        .cons (S5 (ox3 Call_N f33_3)) ⟨.one rfl, .nil⟩ (by kernel_rfl) rfl <|
        .cons (S5 (ox2 t3)) ⟨.one rfl, .one rfl⟩ (by kernel_rfl) rfl <|
        .cons (S5 (oxa z52 u52 rfl (.cons Write_At f52_0 .tmp (.cons Write_N f52_1 .tmp Bld.nil)))) ⟨(.app (.one rfl) (.app (.one rfl) .nil)), .nil⟩ (by kernel_rfl) rfl <|
        .cons (S5 (ox_buildSlice_val s26 z52 (.cons .tmp Parts.nil) rfl (by decide))) ⟨(.app (.one rfl) .nil), .nil⟩ (by kernel_rfl) rfl <|
        .cons (S5 (ox0 .tmp)) ⟨.one rfl, .nil⟩ (by kernel_rfl) rfl <|
        .cons (S5 (oxa z38 u38 rfl (.cons Reply_N f38_1 .tmp Bld.nil))) ⟨(.app (.one rfl) .nil), .nil⟩ (by kernel_rfl) rfl <|
        .cons (S5 (ox1 .tmp)) ⟨.one rfl, .nil⟩ (by kernel_rfl) rfl <|
        .cons (S4 rfl rfl (ox5 t38 .tmp)) ⟨(.cons rfl (.one rfl)), .one rfl⟩ (by kernel_rfl) rfl <|
        .nil) _ [[], [0], [], [2], [0, 1, 2, 3], [0, 1, 2, 3, 4], [], [6], [0, 1, 2, 3, 4, 5], [0, 1, 2, 3, 4, 5, 6, 7, 8]] rfl (by kernel_rfl) (by kernel_rfl) ?_
      refine Q0 (σ' := ⟨[(4, .val ([({ At := v14, N := a1.N } : Mk.Write)] : List Mk.Write)), (5, _)], [(5, .var ({ Err := (0 : Int), N := (ix a0 v11) } : Mk.Reply) [])]⟩) (j2 rfl rfl) (j1 rfl) ?_
      refine Q5 ?_
      obtain rfl := Option.some.inj hφ
      exact Q6 hw0 rfl (.tmp rfl rfl (.cell t38 rfl rfl .nil)) rfl
     ·replace hφ := if_else hφ hc13
      refine Q0 (σ' := ⟨[(0, _), (3, _), (5, _), (6, _), (7, _), (8, _), (72, _)], [(3, _), (5, _)]⟩) (j7 rfl rfl rfl rfl rfl rfl rfl) (j2 rfl rfl) ?_
      refine Q2 (Q1 ?_)
      refine O5 (ox_eql .tmp .int) (.app (.one rfl) .nil) .nil rfl <| O5 (ox1 .tmp) (.one rfl) .nil rfl <| O1 <| Q0 (σ' := ⟨[(0, _), (3, _), (5, _), (6, _), (7, _), (8, _), (72, _), (83, .val (decide (a1.Kind = (3 : Int))))], [(3, _), (5, _)]⟩) (j8 rfl rfl rfl rfl rfl rfl rfl rfl) (j2 rfl rfl) ?_
      refine Q3 _ rfl (fun hc15 => ?_) (fun hc15 => ?_)
      ·replace hφ := if_then hφ hc15
       refine Q0 (σ' := ⟨[(0, _), (5, _), (6, _), (7, _), (8, _)], [(5, _)]⟩) (j5 rfl rfl rfl rfl rfl) (j1 rfl) ?_
       refine Q2 ?_
       obtain ⟨hb16, hφ⟩ := G_some hφ
       refine Q1 ?_
       refine O5 (ox0 .tmp) (.one rfl) .nil rfl <| O5 (ox_sub .tmp .int hb16) (.app (.one rfl) .nil) .nil rfl <| O5 (oxa z52 u52 rfl (.cons Write_At f52_0 .int (.cons Write_N f52_1 .tmp Bld.nil))) (.app .nil (.app (.one rfl) .nil)) .nil rfl <| O5 (ox_buildSlice_val s26 z52 (.cons .tmp Parts.nil) rfl (by decide)) (.app (.one rfl) .nil) .nil rfl <| O5 (ox1 .tmp) (.one rfl) .nil rfl <| O1 <| Q0 (σ' := ⟨[(0, _), (5, _), (6, _), (7, _), (8, _), (9, .val (([({ At := (0 : Int), N := ((ix a0 (0 : Int)) - (1 : Int)) } : Mk.Write)] : List Mk.Write)))], [(5, _)]⟩) (j6 rfl rfl rfl rfl rfl rfl) (j1 rfl) ?_
       obtain ⟨k17, hk17, hφ⟩ := J_some hφ
       refine PT.cut (ι := Int × (List Mk.Write) × Mk.Reply) (fun p => ⟨[(5, .ptr 5 (Lens.id (α := Mk.Reply))), (8, .val (p.1)), (9, .val (p.2.1))], [(5, .var (p.2.2) [])]⟩) (fun p => k17 (p.1) (p.2.1) (p.2.2) = some r) ?_ ?_
       ·skip
        refine Q2 ?_
        obtain ⟨hb18, hφ⟩ := G_some hφ
        refine Q1 ?_
        refine O5 (ox0 .tmp) (.one rfl) .nil rfl <| O5 (ox0 .tmp) (.one rfl) .nil rfl <| O5 (ox_sub .tmp .int hb18) (.app (.one rfl) .nil) .nil rfl <| O5 (ox_lss .tmp .tmp) (.app (.one rfl) (.one rfl)) .nil rfl <| O1 <| Q0 (σ' := ⟨[(0, _), (5, _), (6, _), (7, _), (8, _), (9, _), (92, .val ((decide (v1 < ((ix a0 (0 : Int)) - (1 : Int))))))], [(5, _)]⟩) (j7 rfl rfl rfl rfl rfl rfl rfl) (j1 rfl) ?_
        refine Q3 _ rfl (fun hc19 => ?_) (fun hc19 => ?_)
        ·replace hφ := if_then hφ hc19
         refine Q0 (σ' := ⟨[(0, _), (5, _), (6, _), (7, _), (8, _)], [(5, _)]⟩) (j5 rfl rfl rfl rfl rfl) (j1 rfl) ?_
         obtain ⟨v20, hv20, hφ⟩ := B_some hφ
         obtain ⟨hb21, hφ⟩ := G_some hφ
         obtain ⟨hb22, hφ⟩ := G_some hφ
         obtain ⟨v23, hv23, hφ⟩ := B_some hφ
         obtain ⟨hb24, hφ⟩ := G_some hφ
         obtain ⟨hb25, hφ⟩ := G_some hφ
         obtain ⟨v26, hv26, hφ⟩ := B_some hφ
         obtain ⟨hb27, hφ⟩ := G_some hφ
         obtain ⟨v28, hv28, hφ⟩ := B_some hφ
         obtain ⟨hb29, hφ⟩ := G_some hφ
         obtain ⟨hb30, hφ⟩ := G_some hφ
         refine Q8 hMixed (
           .cons (S5 (ox0 .tmp)) ⟨.one rfl, .nil⟩ (by kernel_rfl) rfl <|
           .cons (S5 (ox_call (c_plan_at hv20) (.cons .tmp .nil))) ⟨(.app (.one rfl) .nil), .nil⟩ (by kernel_rfl) rfl <|
           .cons (S5 (ox_sub .tmp .int hb21)) ⟨(.app (.one rfl) .nil), .nil⟩ (by kernel_rfl) rfl <|
           .cons (S5 (ox0 .tmp)) ⟨.one rfl, .nil⟩ (by kernel_rfl) rfl <|
           .cons (S5 (ox0 .tmp)) ⟨.one rfl, .nil⟩ (by kernel_rfl) rfl <|
           .cons (S5 (ox_sub .tmp .int hb22)) ⟨(.app (.one rfl) .nil), .nil⟩ (by kernel_rfl) rfl <|
           .cons (S5 (ox_call (c_plan_at hv23) (.cons .tmp .nil))) ⟨(.app (.one rfl) .nil), .nil⟩ (by kernel_rfl) rfl <|
           .cons (S5 (ox_sub .tmp .int hb24)) ⟨(.app (.one rfl) .nil), .nil⟩ (by kernel_rfl) rfl <|
           .cons (S5 (ox_ix s25 .tmp .tmp hb25.1 hb25.2)) ⟨(.app (.one rfl) (.one rfl)), .nil⟩ (by kernel_rfl) rfl <|
           .cons (S5 (ox_load_elem t3)) ⟨.one rfl, .nil⟩ (by kernel_rfl) rfl <|
           .cons (S5 (oxa z52 u52 rfl (.cons Write_At f52_0 .tmp (.cons Write_N f52_1 .tmp Bld.nil)))) ⟨(.app (.one rfl) (.app (.one rfl) .nil)), .nil⟩ (by kernel_rfl) rfl <|
           .cons (S5 (ox0 .tmp)) ⟨.one rfl, .nil⟩ (by kernel_rfl) rfl <|
           .cons (S5 (ox_call (c_plan_at hv26) (.cons .tmp .nil))) ⟨(.app (.one rfl) .nil), .nil⟩ (by kernel_rfl) rfl <|
           .cons (S5 (ox0 .tmp)) ⟨.one rfl, .nil⟩ (by kernel_rfl) rfl <|
           .cons (S5 (ox0 .tmp)) ⟨.one rfl, .nil⟩ (by kernel_rfl) rfl <|
           .cons (S5 (ox_sub .tmp .int hb27)) ⟨(.app (.one rfl) .nil), .nil⟩ (by kernel_rfl) rfl <|
           .cons (S5 (ox_call (c_plan_at hv28) (.cons .tmp .nil))) ⟨(.app (.one rfl) .nil), .nil⟩ (by kernel_rfl) rfl <|
           .cons (S5 (ox_ix s25 .tmp .tmp hb29.1 hb29.2)) ⟨(.app (.one rfl) (.one rfl)), .nil⟩ (by kernel_rfl) rfl <|
           .cons (S5 (ox_load_elem t3)) ⟨.one rfl, .nil⟩ (by kernel_rfl) rfl <|
           .cons (S5 (oxa z52 u52 rfl (.cons Write_At f52_0 .tmp (.cons Write_N f52_1 .tmp Bld.nil)))) ⟨(.app (.one rfl) (.app (.one rfl) .nil)), .nil⟩ (by kernel_rfl) rfl <|
           .cons (S5 (ox0 .tmp)) ⟨.one rfl, .nil⟩ (by kernel_rfl) rfl <|
           .cons (S5 (ox_sub .tmp .int hb30)) ⟨(.app (.one rfl) .nil), .nil⟩ (by kernel_rfl) rfl <|
           .cons (S5 (oxa z52 u52 rfl (.cons Write_At f52_0 .int (.cons Write_N f52_1 .tmp Bld.nil)))) ⟨(.app .nil (.app (.one rfl) .nil)), .nil⟩ (by kernel_rfl) rfl <|
           .cons (S5 (ox_buildSlice_val s26 z52 (.cons .tmp (.cons .tmp (.cons .tmp Parts.nil))) rfl (by decide))) ⟨(.app (.one rfl) (.app (.one rfl) (.app (.one rfl) .nil))), .nil⟩ (by kernel_rfl) rfl <|
           .cons (S5 (ox1 .tmp)) ⟨.one rfl, .nil⟩ (by kernel_rfl) rfl <|
           .nil) _ [[], [0], [0, 1], [], [], [4], [0, 1, 4, 5], [0, 1, 4, 5, 6], [0, 1, 3, 4, 5, 6, 7], [0, 1, 3, 4, 5, 6, 7, 8], [0, 1, 2, 3, 4, 5, 6, 7, 8, 9], [], [0, 1, 4, 5, 6, 11], [], [], [14], [0, 1, 4, 5, 6, 11, 12, 14, 15], [0, 1, 4, 5, 6, 11, 12, 13, 14, 15, 16], [0, 1, 4, 5, 6, 11, 12, 13, 14, 15, 16, 17], [0, 1, 4, 5, 6, 11, 12, 13, 14, 15, 16, 17, 18], [], [20], [20, 21], [0, 1, 2, 3, 4, 5, 6, 7, 8, 9, 10, 11, 12, 13, 14, 15, 16, 17, 18, 19, 20, 21, 22], [0, 1, 2, 3, 4, 5, 6, 7, 8, 9, 10, 11, 12, 13, 14, 15, 16, 17, 18, 19, 20, 21, 22, 23]] rfl (by kernel_rfl) (by kernel_rfl) ?_
         refine Q0 (σ' := ⟨[(5, _), (8, _), (9, .val (([({ At := (v20 - (1 : Int)), N := (ix a0 (v23 - (1 : Int))) } : Mk.Write), ({ At := v26, N := (ix a0 v28) } : Mk.Write), ({ At := (0 : Int), N := ((ix a0 (0 : Int)) - (1 : Int)) } : Mk.Write)] : List Mk.Write)))], [(5, _)]⟩) (j3 rfl rfl rfl) (j1 rfl) ?_
         exact PT.meet ((ix a0 v11), ([({ At := (v20 - (1 : Int)), N := (ix a0 (v23 - (1 : Int))) } : Mk.Write), ({ At := v26, N := (ix a0 v28) } : Mk.Write), ({ At := (0 : Int), N := ((ix a0 (0 : Int)) - (1 : Int)) } : Mk.Write)] : List Mk.Write), zRe) hφ (j3 rfl rfl rfl) (j1 rfl)
        ·replace hφ := if_else hφ hc19
         refine Q0 (σ' := ⟨[(5, _), (8, _), (9, _)], [(5, _)]⟩) (j3 rfl rfl rfl) (j1 rfl) ?_
         refine Q4 ?_
         exact PT.meet ((ix a0 v11), ([({ At := (0 : Int), N := ((ix a0 (0 : Int)) - (1 : Int)) } : Mk.Write)] : List Mk.Write), zRe) hφ (j3 rfl rfl rfl) (j1 rfl)
       ·rintro ⟨x8_k17, x9_k17, y5_k17⟩ hφ
        subst hk17
        refine Q0 (σ' := ⟨[(5, .ptr 5 (Lens.id (α := Mk.Reply))), (8, .val (x8_k17)), (9, .val (x9_k17))], [(5, .var (y5_k17) [])]⟩) (j3 rfl rfl rfl) (j1 rfl) ?_
        refine Q2 (Q1 ?_)
        refine O5 (ox0 .tmp) (.one rfl) .nil rfl <| O5 (ox0 .tmp) (.one rfl) .nil rfl <| O5 (oxa z38 u38 rfl (.cons Reply_N f38_1 .tmp Bld.nil)) (.app (.one rfl) .nil) .nil rfl <| O5 (ox1 .tmp) (.one rfl) .nil rfl <| O2 rfl rfl (ox5 t38 .tmp) (.cons rfl (.one rfl)) (.one rfl) <| O1 <| Q0 (σ' := ⟨[(4, .val (x9_k17)), (5, _)], [(5, .var ({ Err := (0 : Int), N := x8_k17 } : Mk.Reply) [])]⟩) (j2 rfl rfl) (j1 rfl) ?_
        refine Q5 ?_
        obtain rfl := Option.some.inj hφ
        exact Q6 hw0 rfl (.tmp rfl rfl (.cell t38 rfl rfl .nil)) rfl
      ·replace hφ := if_else hφ hc15
       refine Q0 (σ' := ⟨[(0, _), (3, _), (5, _), (6, _), (8, _), (72, _)], [(3, _), (5, _)]⟩) (j6 rfl rfl rfl rfl rfl rfl) (j2 rfl rfl) ?_
       refine Q2 (Q1 ?_)
       refine O5 (ox_eql .tmp .int) (.app (.one rfl) .nil) .nil rfl <| O5 (ox1 .tmp) (.one rfl) .nil rfl <| O1 <| Q0 (σ' := ⟨[(0, _), (3, _), (5, _), (6, _), (8, _), (72, _), (120, .val (decide (a1.Kind = (4 : Int))))], [(3, _), (5, _)]⟩) (j7 rfl rfl rfl rfl rfl rfl rfl) (j2 rfl rfl) ?_
       refine Q3 _ rfl (fun hc31 => ?_) (fun hc31 => ?_)
       ·replace hφ := if_then hφ hc31
        refine Q0 (σ' := ⟨[(3, _), (5, _), (6, _), (8, _)], [(3, _), (5, _)]⟩) (j4 rfl rfl rfl rfl) (j2 rfl rfl) ?_
        refine Q2 (Q2 ?_)
        obtain ⟨hb32, hφ⟩ := G_some hφ
        refine Q1 ?_
        refine O5 (ox0 .tmp) (.one rfl) .nil rfl <| O5 (ox3 Call_N f33_3) (.one rfl) .nil rfl <| O5 (ox2 t3) (.one rfl) (.one rfl) rfl <| O5 (ox_add .tmp .tmp hb32) (.app (.one rfl) (.one rfl)) .nil rfl <| O5 (ox1 .tmp) (.one rfl) .nil rfl <| O1 <| Q0 (σ' := ⟨[(5, _), (6, _), (10, .val ((ix a0 v11) + a1.N))], [(5, _)]⟩) (j3 rfl rfl rfl) (j1 rfl) ?_
        refine Q2 (Q1 ?_)
        refine O5 (ox0 .tmp) (.one rfl) .nil rfl <| O5 (ox_geq .tmp .int) (.app (.one rfl) .nil) .nil rfl <| O5 (ox0 .tmp) (.one rfl) .nil rfl <| O4 rfl rfl rfl rfl (.plain .nil) (fun hG => (ox0 .tmp)) (j1 rfl) .nil rfl <| O4 rfl rfl rfl rfl (.cond (fun h => h) .nil) (fun hG => (ox_leq .tmp .int)) (j1 rfl) .nil rfl <| O5 ox8 (j2 rfl rfl) .nil rfl <| O1 <| Q0 (σ' := ⟨[(5, _), (6, _), (10, _), (131, .val (((decide ((-1073741824 : Int) ≤ ((ix a0 v11) + a1.N))) && (decide (((ix a0 v11) + a1.N) ≤ (1073741824 : Int))))))], [(5, _)]⟩) (j4 rfl rfl rfl rfl) (j1 rfl) ?_
        refine Q3 _ rfl (fun hc33 => ?_) (fun hc33 => ?_)
        ·replace hφ := if_then hφ hc33
         refine Q0 (σ' := ⟨[(5, _), (6, _), (10, _)], [(5, _)]⟩) (j3 rfl rfl rfl) (j1 rfl) ?_
         refine Q2 ?_
         obtain ⟨v34, hv34, hφ⟩ := B_some hφ
         refine Q1 ?_
         refine O5 (ox0 .tmp) (.one rfl) .nil rfl <| O5 (ox_call (c_plan_at hv34) (.cons .tmp .nil)) (.app (.one rfl) .nil) .nil rfl <| O5 (ox0 .tmp) (.one rfl) .nil rfl <| O5 (oxa z52 u52 rfl (.cons Write_At f52_0 .tmp (.cons Write_N f52_1 .tmp Bld.nil))) (.app (.one rfl) (.app (.one rfl) .nil)) .nil rfl <| O5 (ox_buildSlice_val s26 z52 (.cons .tmp Parts.nil) rfl (by decide)) (.app (.one rfl) .nil) .nil rfl <| O5 (ox0 .tmp) (.one rfl) .nil rfl ?_
         refine O5 (oxa z38 u38 rfl (.cons Reply_N f38_1 .tmp Bld.nil)) (.app (.one rfl) .nil) .nil rfl <| O5 (ox1 .tmp) (.one rfl) .nil rfl <| O2 rfl rfl (ox5 t38 .tmp) (.cons rfl (.one rfl)) (.one rfl) <| O1 <| Q0 (σ' := ⟨[(4, .val ([({ At := v34, N := ((ix a0 v11) + a1.N) } : Mk.Write)] : List Mk.Write)), (5, _)], [(5, .var ({ Err := (0 : Int), N := ((ix a0 v11) + a1.N) } : Mk.Reply) [])]⟩) (j2 rfl rfl) (j1 rfl) ?_
         refine Q5 ?_
         obtain rfl := Option.some.inj hφ
         exact Q6 hw0 rfl (.tmp rfl rfl (.cell t38 rfl rfl .nil)) rfl
        ·replace hφ := if_else hφ hc33
         refine Q0 (σ' := ⟨[(5, _)], [(5, _)]⟩) (j1 rfl) (j1 rfl) ?_
         refine Q4 ?_
         refine Q2 (Q1 ?_)
         refine O5 (oxa z38 u38 rfl (.cons Reply_Err f38_0 .int Bld.nil)) (.app .nil .nil) .nil rfl <| O5 (ox1 .nilS) .nil .nil rfl <| O2 rfl rfl (ox5 t38 .tmp) (.cons rfl (.one rfl)) (.one rfl) <| O1 <| Q0 (σ' := ⟨[(4, .nilS), (5, _)], [(5, .var ({ Err := (3 : Int), N := (0 : Int) } : Mk.Reply) [])]⟩) (j2 rfl rfl) (j1 rfl) ?_
         refine Q5 ?_
         refine PT.asNil 4 (Mk.Write) rfl ?_
         obtain rfl := Option.some.inj hφ
         exact Q6 hw0 rfl (.tmp rfl rfl (.cell t38 rfl rfl .nil)) rfl
       ·replace hφ := if_else hφ hc31
        refine Q0 (σ' := ⟨[(0, _), (3, _), (5, _), (6, _), (8, _), (72, _)], [(3, _), (5, _)]⟩) (j6 rfl rfl rfl rfl rfl rfl) (j2 rfl rfl) ?_
        refine Q2 (Q1 ?_)
        refine O5 (ox_eql .tmp .int) (.app (.one rfl) .nil) .nil rfl <| O5 (ox1 .tmp) (.one rfl) .nil rfl <| O1 <| Q0 (σ' := ⟨[(0, _), (3, _), (5, _), (6, _), (8, _), (140, .val (decide (a1.Kind = (6 : Int))))], [(3, _), (5, _)]⟩) (j6 rfl rfl rfl rfl rfl rfl) (j2 rfl rfl) ?_
        refine Q3 _ rfl (fun hc35 => ?_) (fun hc35 => ?_)
        ·replace hφ := if_then hφ hc35
         refine Q0 (σ' := ⟨[(0, _), (3, _), (5, _), (6, _), (8, _)], [(3, _), (5, _)]⟩) (j5 rfl rfl rfl rfl rfl) (j2 rfl rfl) ?_
         refine Q2 ?_
         obtain ⟨v36, hv36, hφ⟩ := B_some hφ
         refine Q1 ?_
         refine O5 (ox0 .tmp) (.one rfl) .nil rfl <| O5 (ox3 Call_Other f33_2) (.one rfl) .nil rfl <| O5 (ox2 t3) (.one rfl) (.one rfl) rfl <| O5 (ox_call (c_cell_Find hv36) (.cons .tmp (.cons .tmp .nil))) (.app (.one rfl) (.app (.one rfl) .nil)) .nil rfl <| O5 (ox1 .tmp) (.one rfl) .nil rfl <| O1 <| Q0 (σ' := ⟨[(0, _), (5, _), (6, _), (8, _), (11, .val (v36))], [(5, _)]⟩) (j5 rfl rfl rfl rfl rfl) (j1 rfl) ?_
         refine Q2 ?_
         refine Q2 (Q1 ?_)
         refine O5 (ox0 .tmp) (.one rfl) .nil rfl <| O5 (ox_lss .tmp .int) (.app (.one rfl) .nil) .nil rfl <| O1 <| Q0 (σ' := ⟨[(0, _), (5, _), (6, _), (8, _), (11, _), (147, .val (decide (v36 < (0 : Int))))], [(5, _)]⟩) (j6 rfl rfl rfl rfl rfl rfl) (j1 rfl) ?_
         refine Q3 _ rfl (fun hc37 => ?_) (fun hc37 => ?_)
         ·replace hφ := if_then hφ hc37
          refine Q0 (σ' := ⟨[(5, _)], [(5, _)]⟩) (j1 rfl) (j1 rfl) ?_
          refine Q2 (Q1 ?_)
          refine O5 (oxa z38 u38 rfl (.cons Reply_Err f38_0 .int Bld.nil)) (.app .nil .nil) .nil rfl <| O5 (ox1 .nilS) .nil .nil rfl <| O2 rfl rfl (ox5 t38 .tmp) (.cons rfl (.one rfl)) (.one rfl) <| O1 <| Q0 (σ' := ⟨[(4, .nilS), (5, _)], [(5, .var ({ Err := (6 : Int), N := (0 : Int) } : Mk.Reply) [])]⟩) (j2 rfl rfl) (j1 rfl) ?_
          refine Q5 ?_
          refine PT.asNil 4 (Mk.Write) rfl ?_
          obtain rfl := Option.some.inj hφ
          exact Q6 hw0 rfl (.tmp rfl rfl (.cell t38 rfl rfl .nil)) rfl
         ·replace hφ := if_else hφ hc37
          refine Q0 (σ' := ⟨[(0, _), (5, _), (6, _), (8, _), (11, _)], [(5, _)]⟩) (j5 rfl rfl rfl rfl rfl) (j1 rfl) ?_
          refine Q4 ?_
          refine Q2 ?_
          obtain ⟨v38, hv38, hφ⟩ := B_some hφ
          obtain ⟨v39, hv39, hφ⟩ := B_some hφ
          obtain ⟨hb40, hφ⟩ := G_some hφ
          obtain ⟨v41, hv41, hφ⟩ := B_some hφ
          obtain ⟨v42, hv42, hφ⟩ := B_some hφ
          obtain ⟨hb43, hφ⟩ := G_some hφ
          refine Q8 hMixed (
            .cons (S5 (ox0 .tmp)) ⟨.one rfl, .nil⟩ (by kernel_rfl) rfl <|
            .cons (S5 (ox_call (c_plan_at hv38) (.cons .tmp .nil))) ⟨(.app (.one rfl) .nil), .nil⟩ (by kernel_rfl) rfl <|
            .cons (S5 (ox0 .tmp)) ⟨.one rfl, .nil⟩ (by kernel_rfl) rfl <|
            .cons (S5 (ox0 .tmp)) ⟨.one rfl, .nil⟩ (by kernel_rfl) rfl <|
            .cons (S5 (ox_call (c_plan_at hv39) (.cons .tmp .nil))) ⟨(.app (.one rfl) .nil), .nil⟩ (by kernel_rfl) rfl <|
            .cons (S5 (ox_ix s25 .tmp .tmp hb40.1 hb40.2)) ⟨(.app (.one rfl) (.one rfl)), .nil⟩ (by kernel_rfl) rfl <|
            .cons (S5 (ox_load_elem t3)) ⟨.one rfl, .nil⟩ (by kernel_rfl) rfl <|
            .cons (S5 (oxa z52 u52 rfl (.cons Write_At f52_0 .tmp (.cons Write_N f52_1 .tmp Bld.nil)))) ⟨(.app (.one rfl) (.app (.one rfl) .nil)), .nil⟩ (by kernel_rfl) rfl <|
            .cons (S5 (ox0 .tmp)) ⟨.one rfl, .nil⟩ (by kernel_rfl) rfl <|
            .cons (S5 (ox_call (c_plan_at hv41) (.cons .tmp .nil))) ⟨(.app (.one rfl) .nil), .nil⟩ (by kernel_rfl) rfl <|
            .cons (S5 (ox0 .tmp)) ⟨.one rfl, .nil⟩ (by kernel_rfl) rfl <|
            .cons (S5 (oxa z52 u52 rfl (.cons Write_At f52_0 .tmp (.cons Write_N f52_1 .tmp Bld.nil)))) ⟨(.app (.one rfl) (.app (.one rfl) .nil)), .nil⟩ (by kernel_rfl) rfl <|
            .cons (S5 (ox_buildSlice_val s26 z52 (.cons .tmp (.cons .tmp Parts.nil)) rfl (by decide))) ⟨(.app (.one rfl) (.app (.one rfl) .nil)), .nil⟩ (by kernel_rfl) rfl <|
            .cons (S5 (ox0 .tmp)) ⟨.one rfl, .nil⟩ (by kernel_rfl) rfl <|
            .cons (S5 (ox0 .tmp)) ⟨.one rfl, .nil⟩ (by kernel_rfl) rfl <|
            .cons (S5 (ox_call (c_plan_at hv42) (.cons .tmp .nil))) ⟨(.app (.one rfl) .nil), .nil⟩ (by kernel_rfl) rfl <|
            .cons (S5 (ox_ix s25 .tmp .tmp hb43.1 hb43.2)) ⟨(.app (.one rfl) (.one rfl)), .nil⟩ (by kernel_rfl) rfl <|
            .cons (S5 (ox_load_elem t3)) ⟨.one rfl, .nil⟩ (by kernel_rfl) rfl <|
            .cons (S5 (oxa z38 u38 rfl (.cons Reply_N f38_1 .tmp Bld.nil))) ⟨(.app (.one rfl) .nil), .nil⟩ (by kernel_rfl) rfl <|
            .cons (S5 (ox1 .tmp)) ⟨.one rfl, .nil⟩ (by kernel_rfl) rfl <|
            .cons (S4 rfl rfl (ox5 t38 .tmp)) ⟨(.cons rfl (.one rfl)), .one rfl⟩ (by kernel_rfl) rfl <|
            .nil) _ [[], [0], [], [], [0, 1, 3], [0, 1, 2, 3, 4], [0, 1, 2, 3, 4, 5], [0, 1, 2, 3, 4, 5, 6], [], [0, 1, 3, 4, 8], [], [0, 1, 3, 4, 8, 9, 10], [0, 1, 2, 3, 4, 5, 6, 7, 8, 9, 10, 11], [], [], [0, 1, 3, 4, 8, 9, 14], [0, 1, 3, 4, 8, 9, 13, 14, 15], [0, 1, 3, 4, 8, 9, 13, 14, 15, 16], [0, 1, 3, 4, 8, 9, 13, 14, 15, 16, 17], [0, 1, 2, 3, 4, 5, 6, 7, 8, 9, 10, 11, 12, 14, 15], [0, 1, 2, 3, 4, 5, 6, 7, 8, 9, 10, 11, 12, 13, 14, 15, 16, 17, 18, 19]] rfl (by kernel_rfl) (by kernel_rfl) ?_
          refine Q0 (σ' := ⟨[(4, .val ([({ At := v38, N := (ix a0 v39) } : Mk.Write), ({ At := v41, N := (ix a0 v11) } : Mk.Write)] : List Mk.Write)), (5, _)], [(5, .var ({ Err := (0 : Int), N := (ix a0 v42) } : Mk.Reply) [])]⟩) (j2 rfl rfl) (j1 rfl) ?_
          refine Q5 ?_
          obtain rfl := Option.some.inj hφ
          exact Q6 hw0 rfl (.tmp rfl rfl (.cell t38 rfl rfl .nil)) rfl
        ·replace hφ := if_else hφ hc35
         refine Q0 (σ' := ⟨[(5, _), (8, _)], [(5, _)]⟩) (j2 rfl rfl) (j1 rfl) ?_
         refine Q4 ?_
         refine Q2 (Q1 ?_)
         refine O5 (ox0 .tmp) (.one rfl) .nil rfl <| O5 (oxa z38 u38 rfl (.cons Reply_N f38_1 .tmp Bld.nil)) (.app (.one rfl) .nil) .nil rfl <| O5 (ox1 .nilS) .nil .nil rfl <| O2 rfl rfl (ox5 t38 .tmp) (.cons rfl (.one rfl)) (.one rfl) <| O1 <| Q0 (σ' := ⟨[(4, .nilS), (5, _)], [(5, .var ({ Err := (0 : Int), N := (ix a0 v11) } : Mk.Reply) [])]⟩) (j2 rfl rfl) (j1 rfl) ?_
         refine Q5 ?_
         refine PT.asNil 4 (Mk.Write) rfl ?_
         obtain rfl := Option.some.inj hφ
         exact Q6 hw0 rfl (.tmp rfl rfl (.cell t38 rfl rfl .nil)) rfl
end Go.Gx
end
