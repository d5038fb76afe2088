/- WHAT THE STATEMENTS OF THIS GROUP NEED, part 5: laid together by prune.py out of own texts. -/
import Derived.Test.YtjclefplnjicgaaGreatDoorZTpB4
set_option linter.unusedVariables false
set_option linter.unusedSimpArgs false
set_option maxRecDepth 20000
set_option maxHeartbeats 4000000
section
namespace Sp
theorem cloneI_eq (l : List Int) (h : l.length * 8 ≤ 140737488355328) : slices_Clone___int_int_ l = some l := by
 unfold slices_Clone___int_int_
 rw [G_on (by simp; omega)]; simp
theorem cloneW_eq (l : List Mk.Write) (h : l.length * 16 ≤ 140737488355328) : slices_Clone___api_Write_api_Write_ l = some l := by
 unfold slices_Clone___api_Write_api_Write_
 rw [G_on (by simp; omega)]; simp
def wcl (c : List Int) : Nat → Nat → Int
 | 0, _ => 0
 | m + 1, i => if ¬ (1 ≤ cat c i ∧ cat c i ≤ 255 ∧ -1073741824 ≤ cnum c i ∧ cnum c i ≤ 1073741824) then 3 else if cat c i ∈ (List.range i).map (cat c) then 7 else wcl c m (i + 1)
def wcells (c : List Int) : Int := if c.length ≠ 11 then 5 else if ix c 0 < 0 ∨ 5 < ix c 0 then 3 else wcl c (ix c 0).toNat 0
theorem up_wr (c : List Int) (w : Mk.Write) (h : 0 ≤ w.At ∧ w.At < c.length) : up c w.At w.N = wr c w := by
 unfold wr up; rw [if_pos h]
theorem cset_loop (l : List Mk.Write) (hl : l.length ≤ 9223372036854775807) (k : List Int → Option (List Int)) : ∀ (m i : Nat), i + m = l.length → ∀ f : Nat, m < f → ∀ c : List Int,
  cell_Set_l1 k f l (l.length : Int) (i : Int) c = k (wrs c (l.drop i)) := by
 intro m
 induction m with
 | zero =>
  intro i hi f hf c
  obtain ⟨f, rfl⟩ : ∃ g, f = g + 1 := ⟨f - 1, by omega⟩
  rw [cell_Set_l1, dF (by omega), cF, List.drop_of_length_le (by omega)]; rfl
 | succ m ih =>
  intro i hi f hf c
  obtain ⟨f, rfl⟩ : ∃ g, f = g + 1 := ⟨f - 1, by omega⟩
  rw [cell_Set_l1, dT (by omega), cT]
  simp only [J]
  rw [G_on (by omega), ix_drop l i (by omega), wrs_cons]
  by_cases h : 0 ≤ (ix l (i : Int)).At ∧ (ix l (i : Int)).At < c.length
  ·rw [dT h.1, dT h.2, Bool.and_self, cT, G_on h, up_wr c _ h, G_on (by unfold I; omega), show ((i : Int) + 1) = ((i + 1 : Nat) : Int) from by omega, ih (i + 1) (by omega) f (by omega)]
  ·have hb : (decide (0 ≤ (ix l (i : Int)).At) && decide ((ix l (i : Int)).At < (c.length : Int))) = false := by
    simp only [Bool.and_eq_false_iff, decide_eq_false_iff_not]; omega
   have hw : wr c (ix l (i : Int)) = c := by unfold wr; rw [if_neg h]
   rw [hb, cF, hw, G_on (by unfold I; omega), show ((i : Int) + 1) = ((i + 1 : Nat) : Int) from by omega, ih (i + 1) (by omega) f (by omega)]
theorem cset_eq (c : List Int) (hc : c.length * 8 ≤ 140737488355328) (l : List Mk.Write) (hl : l.length ≤ 9223372036854775807) : cell_Set c l = some (wrs c l) := by
 unfold cell_Set
 simp only [J]
 rw [cloneI_eq c hc, obs]
 have := cset_loop l hl (fun y => some y) l.length 0 (by omega) (((l.length : Int) - 0).toNat + 1) (by omega) c
 rw [show ((0 : Nat) : Int) = 0 from rfl] at this
 rw [this]; simp
theorem up_len {α : Type} (l : List α) (i : Int) (y : α) : (up l i y).length = l.length := by simp [up]
theorem ix_up {α : Type} [Inhabited α] (l : List α) (i j : Int) (y : α) (hi : 0 ≤ i ∧ i < l.length) (hj : 0 ≤ j) : ix (up l i y) j = if i = j then y else ix l j := by
 have h1 : i.toNat < l.length := by omega
 by_cases e : i = j
 ·subst e; simp [ix, up, h1]
 ·have : i.toNat ≠ j.toNat := by omega
  simp [ix, up, List.getElem?_set, this, e]
theorem rev_loop : ∀ (f : Nat) (i j : Int) (y : List Mk.Write), 0 ≤ i → i ≤ j + 1 → j < y.length → y.length ≤ 9223372036854775807 → (j - i).toNat < f → -1 ≤ j →
  ∃ z, slices_Reverse___api_Write_api_Write__l1 f i j y = some z ∧ z.length = y.length ∧ ∀ k : Int, 0 ≤ k → k < y.length → ix z k = if i ≤ k ∧ k ≤ j then ix y (i + j - k) else ix y k := by
 intro f
 induction f with
 | zero => intro i j y h1 h2 h3 h4 h5; omega
 | succ f ih =>
  intro i j y h1 h2 h3 h4 h5 h6
  rw [slices_Reverse___api_Write_api_Write__l1]
  by_cases h : i < j
  ·rw [dT h, cT, G_on (by omega), G_on (by omega), G_on (by omega), G_on (by rw [up_len]; omega), G_on (by unfold I; omega), G_on (by unfold I; omega)]
   have hl : (up (up y i (ix y j)) j (ix y i)).length = y.length := by rw [up_len, up_len]
   obtain ⟨z, e1, e2, e3⟩ := ih (i + 1) (j - 1) (up (up y i (ix y j)) j (ix y i)) (by omega) (by omega) (by omega) (by omega) (by omega) (by omega)
   refine ⟨z, e1, by omega, fun k hk1 hk2 => ?_⟩
   rw [e3 k hk1 (by omega)]
   have hx : ∀ q : Int, 0 ≤ q → q < y.length → ix (up (up y i (ix y j)) j (ix y i)) q = if j = q then ix y i else if i = q then ix y j else ix y q := fun q hq1 hq2 => by
    rw [ix_up _ _ _ _ (by rw [up_len]; omega) hq1, ix_up _ _ _ _ (by omega) hq1]
   by_cases c1 : i + 1 ≤ k ∧ k ≤ j - 1
   ·rw [if_pos c1, if_pos (by omega), show i + 1 + (j - 1) - k = i + j - k from by omega, hx _ (by omega) (by omega), if_neg (by omega), if_neg (by omega)]
   ·rw [if_neg c1, hx k hk1 (by omega)]
    by_cases c2 : j = k
    ·subst c2; rw [if_pos rfl, if_pos (by omega), show i + j - j = i from by omega]
    ·rw [if_neg c2]
     by_cases c3 : i = k
     ·subst c3; rw [if_pos rfl, if_pos (by omega), show i + j - i = j from by omega]
     ·rw [if_neg c3, if_neg (by omega)]
  ·rw [dF h, cF]
   refine ⟨y, rfl, rfl, fun k hk1 hk2 => ?_⟩
   by_cases c : i ≤ k ∧ k ≤ j
   ·rw [if_pos c, show i + j - k = k from by omega]
   ·rw [if_neg c]
theorem reverse_eq (l : List Mk.Write) (hl : l.length ≤ 9223372036854775807) : slices_Reverse___api_Write_api_Write_ l = some l.reverse := by
 unfold slices_Reverse___api_Write_api_Write_
 rw [G_on (by unfold I; omega)]
 obtain ⟨z, h1, h2, h3⟩ := rev_loop ((((l.length : Int) - 1) - 0).toNat + 1) 0 ((l.length : Int) - 1) l (by omega) (by omega) (by omega) hl (by omega) (by omega)
 rw [h1]
 congr 1
 apply List.ext_getElem
 ·rw [h2]; simp
 ·intro i h4 h5
  have h6 : i < l.length := by omega
  have := h3 i (by omega) (by omega)
  rw [if_pos (by omega), ix_nat z i h4, show (0 + ((l.length : Int) - 1) - (i : Int)) = ((l.length - 1 - i : Nat) : Int) from by omega, ix_nat l _ (by omega)] at this
  rw [this, List.getElem_reverse]
def fwd : List Int → List Mk.Write → List Mk.Write
 | _, [] => []
 | c, w :: l => if 0 ≤ w.At ∧ w.At < c.length then ⟨w.At, ix c w.At⟩ :: fwd (wr c w) l else fwd c l
theorem fwd_len (c : List Int) (l : List Mk.Write) : (fwd c l).length ≤ l.length := by
 induction l generalizing c with
 | nil => simp [fwd]
 | cons w l ih =>
  unfold fwd
  split
  ·have := ih (wr c w); simp; omega
  ·have := ih c; simp; omega
theorem cundo_loop (l : List Mk.Write) (hl : l.length * 16 ≤ 140737488355328) (k : List Mk.Write → Option (List Mk.Write)) : ∀ (m i : Nat), i + m = l.length → ∀ f : Nat, m < f → ∀ (c : List Int) (acc : List Mk.Write), acc.length ≤ i →
  cell_Undo_l1 k f l (l.length : Int) (i : Int) c acc = k (acc ++ fwd c (l.drop i)) := by
 intro m
 induction m with
 | zero =>
  intro i hi f hf c acc ha
  obtain ⟨f, rfl⟩ : ∃ g, f = g + 1 := ⟨f - 1, by omega⟩
  rw [cell_Undo_l1, dF (by omega), cF, List.drop_of_length_le (by omega)]; simp [fwd]
 | succ m ih =>
  intro i hi f hf c acc ha
  obtain ⟨f, rfl⟩ : ∃ g, f = g + 1 := ⟨f - 1, by omega⟩
  rw [cell_Undo_l1, dT (by omega), cT]
  simp only [J]
  rw [G_on (by omega), ix_drop l i (by omega), fwd]
  by_cases h : 0 ≤ (ix l (i : Int)).At ∧ (ix l (i : Int)).At < c.length
  ·have hb : (decide ((ix l (i : Int)).At < 0) || decide ((c.length : Int) ≤ (ix l (i : Int)).At)) = false := by
    simp only [Bool.or_eq_false_iff, decide_eq_false_iff_not]; omega
   rw [hb, cF, if_pos h, G_on h, G_on (by simp; omega), G_on h, up_wr c _ h, G_on (by unfold I; omega), show ((i : Int) + 1) = ((i + 1 : Nat) : Int) from by omega, ih (i + 1) (by omega) f (by omega) _ _ (by simp; omega)]
   simp
  ·have hb : (decide ((ix l (i : Int)).At < 0) || decide ((c.length : Int) ≤ (ix l (i : Int)).At)) = true := by
    simp only [Bool.or_eq_true, decide_eq_true_eq]; omega
   rw [hb, cT, if_neg h, G_on (by unfold I; omega), show ((i : Int) + 1) = ((i + 1 : Nat) : Int) from by omega, ih (i + 1) (by omega) f (by omega) _ _ (by omega)]
theorem cundo_eq (c : List Int) (hc : c.length * 8 ≤ 140737488355328) (l : List Mk.Write) (hl : l.length * 16 ≤ 140737488355328) : cell_Undo c l = some (fwd c l).reverse := by
 unfold cell_Undo
 simp only [J]
 rw [cloneI_eq c hc, obs]
 have := cundo_loop l hl (fun y => (slices_Reverse___api_Write_api_Write_ y).bind fun v => some v) l.length 0 (by omega) (((l.length : Int) - 0).toNat + 1) (by omega) c [] (by simp)
 rw [show ((0 : Nat) : Int) = 0 from rfl] at this
 have hfl := fwd_len c l
 rw [this]
 simp only [List.drop_zero, List.nil_append]
 rw [reverse_eq _ (by omega), obs]
theorem fwd_snoc (c : List Int) (l : List Mk.Write) (w : Mk.Write) : fwd c (l ++ [w]) = fwd c l ++ (if 0 ≤ w.At ∧ w.At < c.length then [⟨w.At, ix (wrs c l) w.At⟩] else []) := by
 induction l generalizing c with
 | nil => simp [fwd, wrs]
 | cons v l ih =>
  rw [List.cons_append, fwd, fwd]
  split
  ·rename_i h
   rw [ih, wr_len]; rfl
  ·rename_i h
   rw [ih]
   have : wrs c (v :: l) = wrs c l := by rw [wrs_cons]; unfold wr; rw [if_neg h]
   rw [this]
theorem wrs_back (c : List Int) (l : List Mk.Write) : wrs (wrs c l) (fwd c l).reverse = c := by
 induction l generalizing c with
 | nil => rfl
 | cons w l ih =>
  rw [wrs_cons, fwd]
  split
  ·rename_i h
   rw [List.reverse_cons, wrs_append, ih]
   apply ix_ext
   ·rw [wrs_len, wr_len]
   ·intro i hi
    rw [wrs_len, wr_len] at hi
    show ix (wr (wr c w) ⟨w.At, ix c w.At⟩) i = _
    rw [ix_wr _ _ _ (by rw [wr_len]; omega), ix_wr _ _ _ (by omega)]
    show (if w.At = (i : Int) then ix c w.At else _) = _
    split
    ·rename_i e; rw [e]
    ·rfl
  ·rename_i h
   have : wr c w = c := by unfold wr; rw [if_neg h]
   rw [this, ih]
end Sp
end
section
namespace Sp
def wwho (c t : Int) : Int := if c < 0 ∨ 3 ≤ c ∨ t < 0 ∨ 8 ≤ t then 3 else 0
def wreq (r : Mk.Request) : Int := if wwho r.Client r.Token ≠ 0 then 3 else wcall r.Call
def wans (a : Mk.Answer) : Int := if wwho a.Client a.Token ≠ 0 ∨ a.Reply.Err < 0 ∨ 12 < a.Reply.Err ∨ a.Reply.N < -1073741824 ∨ 1073741824 < a.Reply.N ∨ (a.Reply.Err ≠ 0 ∧ a.Reply.N ≠ 0) then 3 else 0
theorem model_Wrong_eq (c : Mk.Call) : model_Wrong c = some (wcall c) := by
 unfold model_Wrong wcall model_Wrong_1
 simp only [J, obs, Bool.cond_eq_ite, Bool.or_eq_true, Bool.and_eq_true, Bool.not_eq_true', decide_eq_true_eq, decide_eq_false_iff_not, Bool.not_eq_eq_eq_not, Bool.decide_eq_true, nT]
 by_cases k : c.Kind < 1 ∨ 6 < c.Kind
 ·simp [k]
 simp only [k, if_false]
 by_cases k5 : c.Kind = 5
 ·by_cases hn : c.Name = 0
  ·by_cases ho : c.Other = 0
   ·simp [k5, hn, ho]; try grind
   ·simp [k5, hn, ho]; try grind
  ·simp [k5, hn]; try grind
 ·by_cases k6 : c.Kind = 6
  ·simp [k6]; grind
  ·simp [k5, k6]; grind
theorem wwho_eq (c t : Int) : wire_who c t = some (wwho c t) := by
 unfold wire_who wwho
 simp only [Bool.cond_eq_ite, Bool.or_eq_true, decide_eq_true_eq]
 grind
theorem rwho_eq (c t : Int) : mkref1_who c t = some (decide (wwho c t = 0)) := by
 unfold mkref1_who wwho
 congr 1
 rw [Bool.eq_iff_iff]
 simp only [Bool.and_eq_true, decide_eq_true_eq]
 constructor
 ·intro h; rw [if_neg (by omega)]
 ·intro h; split at h <;> omega
theorem wreq_eq (r : Mk.Request) : wire_WrongRequest r = some (wreq r) := by
 unfold wire_WrongRequest wreq
 rw [wwho_eq, obs, model_Wrong_eq, obs]
 unfold wwho
 grind
theorem rwreq_eq (r : Mk.Request) : mkref1_WrongRequest r = some (wreq r) := by
 unfold mkref1_WrongRequest wreq
 rw [rwho_eq, obs, wrongCall_eq, obs]
 grind
theorem wans_eq (a : Mk.Answer) : wire_WrongAnswer a = some (wans a) := by
 unfold wire_WrongAnswer wans
 rw [wwho_eq, obs]
 unfold wwho
 grind
theorem rwans_eq (a : Mk.Answer) : mkref1_WrongAnswer a = some (wans a) := by
 unfold mkref1_WrongAnswer wans
 rw [rwho_eq, obs]
 grind
def nb (n : Int) : List UInt8 := [u8 (n / 16777216), u8 (n / 65536), u8 (n / 256), u8 n]
def reqB (r : Mk.Request) : List UInt8 := [UInt8.ofNat 113, u8 r.Client, u8 r.Token, u8 r.Call.Kind, u8 r.Call.Name, u8 r.Call.Other] ++ nb r.Call.N
def ansB (a : Mk.Answer) : List UInt8 := [UInt8.ofNat 97, u8 a.Client, u8 a.Token, u8 a.Reply.Err] ++ nb a.Reply.N
theorem num_eq (l : List UInt8) (n : Int) (h : l.length ≤ 1000) : wire_num l n = some (l ++ nb n) := by
 unfold wire_num
 rw [G_on (by simp; omega)]
 rfl
theorem request_eq (r : Mk.Request) : wire_Request r = some (reqB r) := by
 unfold wire_Request
 rw [num_eq _ _ (by simp)]; rfl
theorem answer_eq (a : Mk.Answer) : wire_Answer a = some (ansB a) := by
 unfold wire_Answer
 rw [num_eq _ _ (by simp)]; rfl
theorem u8_congr {x y : Int} (h : x % 256 = y % 256) : u8 x = u8 y := by unfold u8; rw [h]
theorem four_eq (n : Int) : mkref1_four n = some (bts (nb n)) := by
 unfold mkref1_four nb
 have h0 : 0 ≤ n % 4294967296 := by omega
 have e1 : Int.tdiv (n % 4294967296) 16777216 = n % 4294967296 / 16777216 := Int.tdiv_eq_ediv_of_nonneg h0
 have e2 : Int.tdiv (n % 4294967296) 65536 = n % 4294967296 / 65536 := Int.tdiv_eq_ediv_of_nonneg h0
 have e3 : Int.tdiv (n % 4294967296) 256 = n % 4294967296 / 256 := Int.tdiv_eq_ediv_of_nonneg h0
 have e4 : Int.tmod (n % 4294967296 / 65536 % 4294967296) 256 = n % 4294967296 / 65536 % 4294967296 % 256 := Int.tmod_eq_emod_of_nonneg (by omega)
 have e5 : Int.tmod (n % 4294967296 / 256 % 4294967296) 256 = n % 4294967296 / 256 % 4294967296 % 256 := Int.tmod_eq_emod_of_nonneg (by omega)
 have e6 : Int.tmod (n % 4294967296) 256 = n % 4294967296 % 256 := Int.tmod_eq_emod_of_nonneg h0
 simp only [u32, e1, e2, e3, e4, e5, e6]
 rw [u8_congr (x := n % 4294967296 / 16777216 % 4294967296) (y := n / 16777216) (by omega), u8_congr (x := n % 4294967296 / 65536 % 4294967296 % 256) (y := n / 65536) (by omega), u8_congr (x := n % 4294967296 / 256 % 4294967296 % 256) (y := n / 256) (by omega), u8_congr (x := n % 4294967296 % 256) (y := n) (by omega)]
theorem stb_append (a b : ByteArray) : stb (a ++ b) = stb a ++ stb b := by unfold stb; simp
theorem stb_bts (l : List UInt8) : stb (bts l) = l := by simp [stb, bts]
theorem bts_inj {a b : List UInt8} : bts a = bts b ↔ a = b := by
 constructor
 ·intro h; rw [← stb_bts a, h, stb_bts]
 ·intro h; rw [h]
theorem bts_size (l : List UInt8) : (bts l).size = l.length := by simp [bts, ByteArray.size]
theorem requestBytes_eq (r : Mk.Request) : mkref1_RequestBytes r = some (reqB r) := by
 unfold mkref1_RequestBytes
 rw [G_on (by rw [bts_size]; simp [ByteArray.size]), four_eq, obs, G_on (by rw [ByteArray.size_append, bts_size, bts_size]; simp [ByteArray.size, nb])]
 rw [stb_append, stb_append, stb_bts, stb_bts]
 rfl
theorem answerBytes_eq (a : Mk.Answer) : mkref1_AnswerBytes a = some (ansB a) := by
 unfold mkref1_AnswerBytes
 rw [G_on (by rw [bts_size]; simp [ByteArray.size]), four_eq, obs, G_on (by rw [ByteArray.size_append, bts_size, bts_size]; simp [ByteArray.size, nb])]
 rw [stb_append, stb_append, stb_bts, stb_bts]
 rfl
def bn (a b c d : UInt8) : Int := ((a.toNat : Int) * 16777216 + (b.toNat : Int) * 65536 + (c.toNat : Int) * 256 + (d.toNat : Int) + 2147483648) % 4294967296 - 2147483648
theorem orU_add (k : Nat) (hk : k ≤ 32) (x y : Int) (hx : 0 ≤ x ∧ x * 2 ^ k < 4294967296) (hy : 0 ≤ y ∧ y < 2 ^ k) : orU ⟨x * 2 ^ k⟩ ⟨y⟩ = ⟨x * 2 ^ k + y⟩ := by
 obtain ⟨a, rfl⟩ := Int.eq_ofNat_of_zero_le hx.1
 obtain ⟨b, rfl⟩ := Int.eq_ofNat_of_zero_le hy.1
 have hb : b < 2 ^ k := by
  have := hy.2
  have e : ((2 : Int) ^ k) = ((2 ^ k : Nat) : Int) := by norm_cast
  rw [e] at this; exact_mod_cast this
 have ha : a * 2 ^ k < 4294967296 := by
  have := hx.2
  have e : ((a : Int) * 2 ^ k) = ((a * 2 ^ k : Nat) : Int) := by rw [Int.natCast_mul, Int.natCast_pow]; rfl
  rw [e] at this
  revert this
  generalize a * 2 ^ k = m
  intro this; omega
 have hb3 : 2 ^ k ≤ 2 ^ 32 := Nat.pow_le_pow_right (by decide) hk
 have hb2 : b < 4294967296 := by omega
 unfold orU
 congr 1
 have e1 : BitVec.ofInt 32 ((a : Int) * 2 ^ k) = BitVec.ofNat 32 (a * 2 ^ k) := by
  rw [show ((a : Int) * 2 ^ k) = ((a * 2 ^ k : Nat) : Int) by norm_cast]; exact BitVec.ofInt_natCast 32 _
 have e2 : BitVec.ofInt 32 ((b : Int)) = BitVec.ofNat 32 b := BitVec.ofInt_natCast 32 _
 rw [e1, e2, BitVec.toNat_or, BitVec.toNat_ofNat, BitVec.toNat_ofNat, Nat.mod_eq_of_lt ha, Nat.mod_eq_of_lt hb2]
 have := Nat.two_pow_add_eq_or_of_lt hb a
 rw [Nat.mul_comm a, ← this]
 norm_cast
 rw [Nat.mul_comm]
theorem get_eq4 (l : List UInt8) (h : l.length = 4) : wire_get l = some (bn (ix l 0) (ix l 1) (ix l 2) (ix l 3)) := by
 unfold wire_get
 rw [G_on (by omega), G_on (by omega), G_on (by omega), G_on (by omega)]
 have h0 := (ix l 0).toNat_lt
 have h1 := (ix l 1).toNat_lt
 have h2 := (ix l 2).toNat_lt
 have h3 := (ix l 3).toNat_lt
 refine congrArg some ?_
 simp only [shlU]
 show (i32 (orU (orU (orU (u32 (((ix l 0).toNat : Int) * 2 ^ 24)) (u32 (((ix l 1).toNat : Int) * 2 ^ 16))) (u32 (((ix l 2).toNat : Int) * 2 ^ 8))) ⟨((ix l 3).toNat : Int)⟩).n).n = _
 have e0 : u32 (((ix l 0).toNat : Int) * 2 ^ 24) = ⟨((ix l 0).toNat : Int) * 2 ^ 24⟩ := by unfold u32; congr 1; omega
 have e1 : u32 (((ix l 1).toNat : Int) * 2 ^ 16) = ⟨((ix l 1).toNat : Int) * 2 ^ 16⟩ := by unfold u32; congr 1; omega
 have e2 : u32 (((ix l 2).toNat : Int) * 2 ^ 8) = ⟨((ix l 2).toNat : Int) * 2 ^ 8⟩ := by unfold u32; congr 1; omega
 rw [e0, e1, e2, orU_add 24 (by decide) _ _ (by omega) (by omega)]
 rw [show (((ix l 0).toNat : Int) * 2 ^ 24 + ((ix l 1).toNat : Int) * 2 ^ 16) = (((ix l 0).toNat : Int) * 256 + ((ix l 1).toNat : Int)) * 2 ^ 16 from by omega, orU_add 16 (by decide) _ _ (by omega) (by omega)]
 rw [show ((((ix l 0).toNat : Int) * 256 + ((ix l 1).toNat : Int)) * 2 ^ 16 + ((ix l 2).toNat : Int) * 2 ^ 8) = ((((ix l 0).toNat : Int) * 256 + ((ix l 1).toNat : Int)) * 256 + ((ix l 2).toNat : Int)) * 2 ^ 8 from by omega, orU_add 8 (by decide) _ _ (by omega) (by omega)]
 unfold i32 bn
 show (_ + 2147483648) % 4294967296 - 2147483648 = _
 simp only
 congr 2
 omega
theorem num_eq4 (l : List UInt8) (h : l.length = 4) : mkref1_num l = some (bn (ix l 0) (ix l 1) (ix l 2) (ix l 3)) := by
 unfold mkref1_num
 simp only [J]
 have h0 := (ix l 0).toNat_lt
 have h1 := (ix l 1).toNat_lt
 have h2 := (ix l 2).toNat_lt
 have h3 := (ix l 3).toNat_lt
 show mkref1_num_l1 _ 5 l ⟨0⟩ 0 = _
 rw [mkref1_num_l1, dT (by decide), cT, G_on (by omega), G_on (by decide)]
 show mkref1_num_l1 _ 4 l _ 1 = _
 rw [mkref1_num_l1, dT (by decide), cT, G_on (by omega), G_on (by decide)]
 show mkref1_num_l1 _ 3 l _ 2 = _
 rw [mkref1_num_l1, dT (by decide), cT, G_on (by omega), G_on (by decide)]
 show mkref1_num_l1 _ 2 l _ 3 = _
 rw [mkref1_num_l1, dT (by decide), cT, G_on (by omega), G_on (by decide)]
 show mkref1_num_l1 _ 1 l _ 4 = _
 rw [mkref1_num_l1, dF (by decide), cF]
 refine congrArg some ?_
 unfold i32 bn u32
 show (_ + 2147483648) % 4294967296 - 2147483648 = _
 simp only
 congr 2
 omega
def toReq (b : List UInt8) : Mk.Request := ⟨((ix b 1).toNat : Int), ((ix b 2).toNat : Int), ⟨((ix b 3).toNat : Int), ((ix b 4).toNat : Int), ((ix b 5).toNat : Int), bn (ix b 6) (ix b 7) (ix b 8) (ix b 9)⟩⟩
def toAns (b : List UInt8) : Mk.Answer := ⟨((ix b 1).toNat : Int), ((ix b 2).toNat : Int), ⟨((ix b 3).toNat : Int), bn (ix b 4) (ix b 5) (ix b 6) (ix b 7)⟩⟩
def req0 : Mk.Request := ⟨0, 0, ⟨0, 0, 0, 0⟩⟩
def ans0 : Mk.Answer := ⟨0, 0, ⟨0, 0⟩⟩
def readReq (b : List UInt8) : Mk.Request × Int := if b.length ≠ 10 ∨ ix b 0 ≠ UInt8.ofNat 113 then (req0, 2) else if wreq (toReq b) ≠ 0 then (req0, wreq (toReq b)) else (toReq b, 0)
def readAns (b : List UInt8) : Mk.Answer × Int := if b.length ≠ 8 ∨ ix b 0 ≠ UInt8.ofNat 97 then (ans0, 2) else if wans (toAns b) ≠ 0 then (ans0, wans (toAns b)) else (toAns b, 0)
theorem ix_sub {α : Type} [Inhabited α] (l : List α) (i : Int) (k : Int) (hi : 0 ≤ i ∧ i ≤ l.length) (hk : 0 ≤ k ∧ k < l.length - i) : ix (sub l i l.length) k = ix l (i + k) := by
 have h1 : i.toNat + k.toNat < l.length := by omega
 have h2 : k.toNat < (l.length : Int).toNat - i.toNat := by omega
 have h3 : (i + k).toNat = i.toNat + k.toNat := by omega
 simp only [ix, sub, h3, List.getD_eq_getElem?_getD, List.getElem?_take, List.getElem?_drop]
 rw [if_pos h2]
theorem sub_len {α : Type} (l : List α) (i : Int) (hi : 0 ≤ i ∧ i ≤ l.length) : ((sub l i l.length).length : Int) = l.length - i := by
 simp [sub]; omega
theorem readRequest_eq (b : List UInt8) : wire_ReadRequest b = some (readReq b) := by
 unfold wire_ReadRequest readReq
 by_cases hl : b.length = 10
 ·rw [G_on (fun _ => by omega), dT (by omega)]
  simp only [nT, Bool.false_or]
  by_cases h0 : ix b 0 = UInt8.ofNat 113
  ·rw [dT h0, nT, cF, G_on (by omega), G_on (by omega), G_on (by omega), G_on (by omega), G_on (by omega), G_on (by omega), get_eq4 _ (by have := sub_len b 6 (by omega); omega), obs,
    ix_sub b 6 0 (by omega) (by omega), ix_sub b 6 1 (by omega) (by omega), ix_sub b 6 2 (by omega) (by omega), ix_sub b 6 3 (by omega) (by omega), wreq_eq, obs, if_neg (by simp [hl, h0])]
   by_cases hw : wreq (toReq b) = 0
   ·rw [if_neg (by simpa using hw)]
    have hw' : wreq (⟨((ix b 1).toNat : Int), ((ix b 2).toNat : Int), ⟨((ix b 3).toNat : Int), ((ix b 4).toNat : Int), ((ix b 5).toNat : Int), bn (ix b (6 + 0)) (ix b (6 + 1)) (ix b (6 + 2)) (ix b (6 + 3))⟩⟩) = 0 := hw
    rw [hw']; rfl
   ·rw [if_pos hw]
    have hw' : wreq (⟨((ix b 1).toNat : Int), ((ix b 2).toNat : Int), ⟨((ix b 3).toNat : Int), ((ix b 4).toNat : Int), ((ix b 5).toNat : Int), bn (ix b (6 + 0)) (ix b (6 + 1)) (ix b (6 + 2)) (ix b (6 + 3))⟩⟩) = wreq (toReq b) := rfl
    rw [hw', dF hw]; rfl
  ·rw [dF h0, if_pos (.inr h0)]; rfl
 ·rw [G_on (by intro h; simp at h; omega), dF (by omega), if_pos (.inl hl)]; rfl
theorem rreadRequest_eq (b : List UInt8) : mkref1_ReadRequest b = some (readReq b) := by
 unfold mkref1_ReadRequest readReq
 by_cases hl : b.length = 10
 ·rw [G_on (fun _ => by omega), dT (by omega)]
  simp only [nT, Bool.false_or]
  by_cases h0 : ix b 0 = UInt8.ofNat 113
  ·rw [dT h0, nT, cF, G_on (by omega), G_on (by omega), G_on (by omega), G_on (by omega), G_on (by omega), G_on (by omega), num_eq4 _ (by have := sub_len b 6 (by omega); omega), obs,
    ix_sub b 6 0 (by omega) (by omega), ix_sub b 6 1 (by omega) (by omega), ix_sub b 6 2 (by omega) (by omega), ix_sub b 6 3 (by omega) (by omega), rwreq_eq, obs, if_neg (by simp [hl, h0])]
   by_cases hw : wreq (toReq b) = 0
   ·rw [if_neg (by simpa using hw)]
    have hw' : wreq (⟨((ix b 1).toNat : Int), ((ix b 2).toNat : Int), ⟨((ix b 3).toNat : Int), ((ix b 4).toNat : Int), ((ix b 5).toNat : Int), bn (ix b (6 + 0)) (ix b (6 + 1)) (ix b (6 + 2)) (ix b (6 + 3))⟩⟩) = 0 := hw
    rw [hw']; rfl
   ·rw [if_pos hw]
    have hw' : wreq (⟨((ix b 1).toNat : Int), ((ix b 2).toNat : Int), ⟨((ix b 3).toNat : Int), ((ix b 4).toNat : Int), ((ix b 5).toNat : Int), bn (ix b (6 + 0)) (ix b (6 + 1)) (ix b (6 + 2)) (ix b (6 + 3))⟩⟩) = wreq (toReq b) := rfl
    rw [hw', dF hw]; rfl
  ·rw [dF h0, if_pos (.inr h0)]; rfl
 ·rw [G_on (by intro h; simp at h; omega), dF (by omega), if_pos (.inl hl)]; rfl
theorem readAnswer_eq (b : List UInt8) : wire_ReadAnswer b = some (readAns b) := by
 unfold wire_ReadAnswer readAns
 by_cases hl : b.length = 8
 ·rw [G_on (fun _ => by omega), dT (by omega)]
  simp only [nT, Bool.false_or]
  by_cases h0 : ix b 0 = UInt8.ofNat 97
  ·rw [dT h0, nT, cF, G_on (by omega), G_on (by omega), G_on (by omega), G_on (by omega), get_eq4 _ (by have := sub_len b 4 (by omega); omega), obs,
    ix_sub b 4 0 (by omega) (by omega), ix_sub b 4 1 (by omega) (by omega), ix_sub b 4 2 (by omega) (by omega), ix_sub b 4 3 (by omega) (by omega), wans_eq, obs, if_neg (by simp [hl, h0])]
   by_cases hw : wans (toAns b) = 0
   ·rw [if_neg (by simpa using hw)]
    have hw' : wans (⟨((ix b 1).toNat : Int), ((ix b 2).toNat : Int), ⟨((ix b 3).toNat : Int), bn (ix b (4 + 0)) (ix b (4 + 1)) (ix b (4 + 2)) (ix b (4 + 3))⟩⟩) = 0 := hw
    rw [hw']; rfl
   ·rw [if_pos hw]
    have hw' : wans (⟨((ix b 1).toNat : Int), ((ix b 2).toNat : Int), ⟨((ix b 3).toNat : Int), bn (ix b (4 + 0)) (ix b (4 + 1)) (ix b (4 + 2)) (ix b (4 + 3))⟩⟩) = wans (toAns b) := rfl
    rw [hw', dF hw]; rfl
  ·rw [dF h0, if_pos (.inr h0)]; rfl
 ·rw [G_on (by intro h; simp at h; omega), dF (by omega), if_pos (.inl hl)]; rfl
theorem rreadAnswer_eq (b : List UInt8) : mkref1_ReadAnswer b = some (readAns b) := by
 unfold mkref1_ReadAnswer readAns
 by_cases hl : b.length = 8
 ·rw [G_on (fun _ => by omega), dT (by omega)]
  simp only [nT, Bool.false_or]
  by_cases h0 : ix b 0 = UInt8.ofNat 97
  ·rw [dT h0, nT, cF, G_on (by omega), G_on (by omega), G_on (by omega), G_on (by omega), num_eq4 _ (by have := sub_len b 4 (by omega); omega), obs,
    ix_sub b 4 0 (by omega) (by omega), ix_sub b 4 1 (by omega) (by omega), ix_sub b 4 2 (by omega) (by omega), ix_sub b 4 3 (by omega) (by omega), rwans_eq, obs, if_neg (by simp [hl, h0])]
   by_cases hw : wans (toAns b) = 0
   ·rw [if_neg (by simpa using hw)]
    have hw' : wans (⟨((ix b 1).toNat : Int), ((ix b 2).toNat : Int), ⟨((ix b 3).toNat : Int), bn (ix b (4 + 0)) (ix b (4 + 1)) (ix b (4 + 2)) (ix b (4 + 3))⟩⟩) = 0 := hw
    rw [hw']; rfl
   ·rw [if_pos hw]
    have hw' : wans (⟨((ix b 1).toNat : Int), ((ix b 2).toNat : Int), ⟨((ix b 3).toNat : Int), bn (ix b (4 + 0)) (ix b (4 + 1)) (ix b (4 + 2)) (ix b (4 + 3))⟩⟩) = wans (toAns b) := rfl
    rw [hw', dF hw]; rfl
  ·rw [dF h0, if_pos (.inr h0)]; rfl
 ·rw [G_on (by intro h; simp at h; omega), dF (by omega), if_pos (.inl hl)]; rfl
theorem u8_nat (x : Int) (h : 0 ≤ x ∧ x ≤ 255) : ((u8 x).toNat : Int) = x := by
 have : (u8 x).toNat = (x % 256).toNat := Nat.mod_eq_of_lt (by omega)
 rw [this]; omega
theorem u8_nat' (x : Int) : ((u8 x).toNat : Int) = x % 256 := by
 have : (u8 x).toNat = (x % 256).toNat := Nat.mod_eq_of_lt (by omega)
 rw [this]; omega
theorem bn_nb (n : Int) (h : -2147483648 ≤ n ∧ n < 2147483648) : bn (u8 (n / 16777216)) (u8 (n / 65536)) (u8 (n / 256)) (u8 n) = n := by
 unfold bn
 rw [u8_nat', u8_nat', u8_nat', u8_nat']
 omega
theorem wreq_ok {r : Mk.Request} (h : wreq r = 0) : (0 ≤ r.Client ∧ r.Client < 3) ∧ (0 ≤ r.Token ∧ r.Token < 8) ∧ CallOk r.Call := by
 unfold wreq at h
 split at h
 ·cases h
 ·rename_i hw
  have hw : wwho r.Client r.Token = 0 := by simpa using hw
  unfold wwho at hw
  split at hw
  ·simp at hw
  ·exact ⟨by omega, by omega, (wcall_ok _).1 h⟩
theorem wans_ok {a : Mk.Answer} (h : wans a = 0) : (0 ≤ a.Client ∧ a.Client < 3) ∧ (0 ≤ a.Token ∧ a.Token < 8) ∧ (0 ≤ a.Reply.Err ∧ a.Reply.Err ≤ 12) ∧ (-1073741824 ≤ a.Reply.N ∧ a.Reply.N ≤ 1073741824) ∧ (a.Reply.Err ≠ 0 → a.Reply.N = 0) := by
 unfold wans at h
 split at h
 ·cases h
 ·rename_i hw
  simp only [not_or, not_and, ne_eq, Decidable.not_not] at hw
  obtain ⟨hw0, hw⟩ := hw
  unfold wwho at hw0
  split at hw0
  ·simp at hw0
  ·exact ⟨by omega, by omega, by omega, by omega, by omega⟩
theorem readReq_reqB {r : Mk.Request} (h : wreq r = 0) : readReq (reqB r) = (r, 0) := by
 obtain ⟨h1, h2, h3⟩ := wreq_ok h
 have hk := h3.kind
 have hn := h3.name
 have ho := h3.other
 have hm := h3.num
 have e : toReq (reqB r) = r := by
  obtain ⟨cl, tk, k, nm, ot, n⟩ := r
  simp only at h1 h2 hk hn ho hm
  show (⟨((u8 cl).toNat : Int), ((u8 tk).toNat : Int), ⟨((u8 k).toNat : Int), ((u8 nm).toNat : Int), ((u8 ot).toNat : Int), bn (u8 (n / 16777216)) (u8 (n / 65536)) (u8 (n / 256)) (u8 n)⟩⟩ : Mk.Request) = _
  rw [u8_nat cl (by omega), u8_nat tk (by omega), u8_nat k (by omega), u8_nat nm (by omega), u8_nat ot (by omega), bn_nb n (by omega)]
 unfold readReq
 rw [e, if_neg (by simp [reqB, nb, ix]), if_neg (by simpa using h)]
theorem readAns_ansB {a : Mk.Answer} (h : wans a = 0) : readAns (ansB a) = (a, 0) := by
 obtain ⟨h1, h2, h3, h4, h5⟩ := wans_ok h
 have e : toAns (ansB a) = a := by
  obtain ⟨cl, tk, er, n⟩ := a
  simp only at h1 h2 h3 h4 h5
  show (⟨((u8 cl).toNat : Int), ((u8 tk).toNat : Int), ⟨((u8 er).toNat : Int), bn (u8 (n / 16777216)) (u8 (n / 65536)) (u8 (n / 256)) (u8 n)⟩⟩ : Mk.Answer) = _
  rw [u8_nat cl (by omega), u8_nat tk (by omega), u8_nat er (by omega), bn_nb n (by omega)]
 unfold readAns
 rw [e, if_neg (by simp [ansB, nb, ix]), if_neg (by simpa using h)]
end Sp
end
section
namespace Sp
structure Sz (s : Mk.Store) : Prop where
 c : s.Cells.length ≤ 1000000
 u : s.Undo.length ≤ 1000000
 a : s.Answers.length ≤ 1000000
 p : s.Past.length ≤ 1000000
def okA (l : List Mk.Answer) : Nat → Nat → Bool
 | 0, _ => true
 | m + 1, i => decide (wans (ix l (i : Int)) = 0) && (l.take i).all (fun b => decide ((ix l (i : Int)).Client ≠ b.Client)) && okA l m (i + 1)
structure RS (s : Mk.Store) : Prop where
 len : s.Cells.length = 11
 wc : wcells (wrs s.Cells s.Undo) = 0
 u : s.Undo.length ≤ 100
 a : s.Answers.length ≤ 3
 p : s.Past.length ≤ 100
 ok : okA s.Answers s.Answers.length 0 = true
 at1 : ∀ w ∈ s.Undo, 0 ≤ w.At ∧ w.At ≤ 10
theorem RS.sz {s : Mk.Store} (h : RS s) : Sz s := by
 have h1 := h.len; have h2 := h.u; have h3 := h.a; have h4 := h.p
 exact ⟨by omega, by omega, by omega, by omega⟩
def last (s : Mk.Store) (c : Int) : Mk.Answer × Bool := match s.Answers.find? (fun a => decide (a.Client = c)) with | some a => (a, true) | none => (ans0, false)
theorem slast_loop (c : Int) (l : List Mk.Answer) (hl : l.length ≤ 1000000) (k : Mk.Answer → Option (Mk.Answer × Bool)) (y : Mk.Answer) (hk : k y = some (ans0, false)) : ∀ (m i : Nat), i + m = l.length → ∀ f : Nat, m < f →
  store_Last_l1 k f c l (l.length : Int) (i : Int) y = some (match (l.drop i).find? (fun a => decide (a.Client = c)) with | some a => (a, true) | none => (ans0, false)) := by
 intro m
 induction m with
 | zero =>
  intro i hi f hf
  obtain ⟨f, rfl⟩ : ∃ g, f = g + 1 := ⟨f - 1, by omega⟩
  rw [store_Last_l1, dF (by omega), cF, hk, List.drop_of_length_le (by omega)]; rfl
 | succ m ih =>
  intro i hi f hf
  obtain ⟨f, rfl⟩ : ∃ g, f = g + 1 := ⟨f - 1, by omega⟩
  rw [store_Last_l1, dT (by omega), cT, G_on (by omega), ix_drop l i (by omega), List.find?_cons]
  by_cases h : (ix l (i : Int)).Client = c
  ·rw [dT h, cT]
  ·rw [dF h, cF, G_on (by unfold I; omega), show ((i : Int) + 1) = ((i + 1 : Nat) : Int) from by omega, ih (i + 1) (by omega) f (by omega)]
theorem slast_eq (s : Mk.Store) (c : Int) (hl : s.Answers.length ≤ 1000000) : store_Last s c = some (last s c) := by
 unfold store_Last last
 simp only [J]
 have := slast_loop c s.Answers hl (fun _ => some (ans0, false)) ans0 rfl s.Answers.length 0 (by omega) (((s.Answers.length : Int) - 0).toNat + 1) (by omega)
 rw [show ((0 : Nat) : Int) = 0 from rfl, List.drop_zero] at this
 exact this
theorem rlast_loop (c : Int) (s : Mk.Store) (hl : s.Answers.length ≤ 1000000) (k : Mk.Answer → Option (Mk.Answer × Bool)) (y : Mk.Answer) (hk : k y = some (ans0, false)) : ∀ (m i : Nat), i + m = s.Answers.length → ∀ f : Nat, m < f →
  mkref1_Last_l1 k f c (s.Answers.length : Int) (i : Int) s y = some (match (s.Answers.drop i).find? (fun a => decide (a.Client = c)) with | some a => (a, true) | none => (ans0, false)) := by
 intro m
 induction m with
 | zero =>
  intro i hi f hf
  obtain ⟨f, rfl⟩ : ∃ g, f = g + 1 := ⟨f - 1, by omega⟩
  rw [mkref1_Last_l1, dF (by omega), cF, hk, List.drop_of_length_le (by omega)]; rfl
 | succ m ih =>
  intro i hi f hf
  obtain ⟨f, rfl⟩ : ∃ g, f = g + 1 := ⟨f - 1, by omega⟩
  rw [mkref1_Last_l1, dT (by omega), cT, G_on (by omega), ix_drop s.Answers i (by omega), List.find?_cons]
  by_cases h : (ix s.Answers (i : Int)).Client = c
  ·rw [dT h, cT, G_on (by omega)]
  ·rw [dF h, cF, G_on (by unfold I; omega), show ((i : Int) + 1) = ((i + 1 : Nat) : Int) from by omega, ih (i + 1) (by omega) f (by omega)]
theorem rlast_eq (s : Mk.Store) (c : Int) (hl : s.Answers.length ≤ 1000000) : mkref1_Last s c = some (last s c) := by
 unfold mkref1_Last last
 simp only [J]
 have := rlast_loop c s hl (fun _ => some (ans0, false)) ans0 rfl s.Answers.length 0 (by omega) (((s.Answers.length : Int) - 0).toNat + 1) (by omega)
 rw [show ((0 : Nat) : Int) = 0 from rfl, List.drop_zero] at this
 exact this
theorem cloneA_eq (l : List Mk.Answer) (h : l.length ≤ 1000000) : slices_Clone___api_Answer_api_Answer_ l = some l := by
 unfold slices_Clone___api_Answer_api_Answer_
 rw [G_on (by simp; omega)]; simp
theorem cloneR_eq (l : List Mk.Request) (h : l.length ≤ 1000000) : slices_Clone___api_Request_api_Request_ l = some l := by
 unfold slices_Clone___api_Request_api_Request_
 rw [G_on (by simp; omega)]; simp
theorem own_eq {s : Mk.Store} (h : Sz s) : store_Own s = some s := by
 have hc := h.c; have hu := h.u; have ha := h.a; have hp := h.p
 unfold store_Own
 rw [cloneI_eq _ (by omega), obs, cloneW_eq _ (by omega), obs, cloneA_eq _ ha, obs, cloneR_eq _ hp, obs]
def wrS (s : Mk.Store) (w : Mk.Write) : Mk.Store := if 0 ≤ w.At ∧ w.At < s.Cells.length then { s with Cells := wr s.Cells w, Undo := ⟨w.At, ix s.Cells w.At⟩ :: s.Undo } else s
theorem swrite_eq {s : Mk.Store} (h : Sz s) (w : Mk.Write) : store_Write s w = some (wrS s w) := by
 have hc := h.c; have hu := h.u; have ha := h.a; have hp := h.p
 unfold store_Write
 have e : fwd s.Cells [w] = if 0 ≤ w.At ∧ w.At < s.Cells.length then [⟨w.At, ix s.Cells w.At⟩] else [] := by simp [fwd]
 rw [own_eq h, obs, cundo_eq _ (by omega) _ (by simp), obs, e, cset_eq _ (by simpa using by omega) _ (by simp)]
 unfold wrS
 by_cases hw : 0 ≤ w.At ∧ w.At < s.Cells.length
 ·rw [if_pos hw, if_pos hw, G_on (by simp; omega)]
  simp [wrs]
 ·have e2 : wr s.Cells w = s.Cells := by unfold wr; rw [if_neg hw]
  rw [if_neg hw, if_neg hw, G_on (by simp; omega)]
  simp [wrs, e2]
theorem rwrite_eq {s : Mk.Store} (h : Sz s) (w : Mk.Write) : mkref1_Write s w = some (wrS s w) := by
 have hc := h.c; have hu := h.u; have ha := h.a; have hp := h.p
 unfold mkref1_Write wrS
 simp only [J]
 by_cases hw : 0 ≤ w.At ∧ w.At < s.Cells.length
 ·rw [dT hw.1, dT hw.2, Bool.and_self, cT, G_on hw, G_on (by simp; omega), rset_eq _ (by simpa using by omega) _ (by simp), obs, if_pos hw]
  simp [wrs]
 ·have hb : (decide (0 ≤ w.At) && decide (w.At < (s.Cells.length : Int))) = false := by
   simp only [Bool.and_eq_false_iff, decide_eq_false_iff_not]; omega
  rw [hb, cF, if_neg hw]
def ansPut : List Mk.Answer → Mk.Answer → List Mk.Answer
 | [], a => [a]
 | x :: l, a => if x.Client = a.Client then a :: l else x :: ansPut l a
theorem ansPut_len (l : List Mk.Answer) (a : Mk.Answer) : (ansPut l a).length ≤ l.length + 1 := by
 induction l with
 | nil => simp [ansPut]
 | cons x l ih => unfold ansPut; split <;> simp <;> omega
theorem find_ansPut (l : List Mk.Answer) (a : Mk.Answer) (c : Int) (h : c ≠ a.Client) : (ansPut l a).find? (fun x => decide (x.Client = c)) = l.find? (fun x => decide (x.Client = c)) := by
 induction l with
 | nil => simp [ansPut, Ne.symm h]
 | cons x l ih =>
  unfold ansPut
  split
  ·rename_i e
   rw [List.find?_cons, List.find?_cons, dF (by omega), dF (by omega)]
  ·rw [List.find?_cons, List.find?_cons, ih]
theorem find_ansPut_same (l : List Mk.Answer) (a : Mk.Answer) : (ansPut l a).find? (fun x => decide (x.Client = a.Client)) = some a := by
 induction l with
 | nil => simp [ansPut]
 | cons x l ih =>
  unfold ansPut
  split
  ·simp
  ·rename_i e
   rw [List.find?_cons, dF e, ih]
def commit (s : Mk.Store) (r : Mk.Request) (says : Mk.Reply) : Mk.Store := ⟨s.Cells, [], ansPut s.Answers ⟨r.Client, r.Token, says⟩, s.Past ++ [r]⟩
theorem scommit_loop (r : Mk.Request) (a : Mk.Answer) (ha : a.Client = r.Client) (y6 y7 : Mk.Store) (P : List Mk.Request) (l : List Mk.Answer) (hl : l.length ≤ 1000000) (k : Mk.Store → Mk.Store → Mk.Answer → List Mk.Answer → List Mk.Request → Option Mk.Store)
  (hk : k y6 y7 a l P = some { y7 with Answers := l ++ [a], Past := P }) : ∀ (m i : Nat), i + m = l.length → ∀ f : Nat, m < f →
  store_Commit_l1 k f (l.length : Int) (i : Int) r y6 y7 a l P = some { y7 with Answers := l.take i ++ ansPut (l.drop i) a, Past := P } := by
 intro m
 induction m with
 | zero =>
  intro i hi f hf
  obtain ⟨f, rfl⟩ : ∃ g, f = g + 1 := ⟨f - 1, by omega⟩
  rw [store_Commit_l1, dF (by omega), cF, hk, List.drop_of_length_le (by omega), List.take_of_length_le (by omega), ansPut]
 | succ m ih =>
  intro i hi f hf
  obtain ⟨f, rfl⟩ : ∃ g, f = g + 1 := ⟨f - 1, by omega⟩
  have hix : ix l (i : Int) = l[i]'(by omega) := ix_nat l i (by omega)
  rw [store_Commit_l1, dT (by omega), cT, G_on (by omega), ix_drop l i (by omega), ansPut, ha]
  by_cases h : (ix l (i : Int)).Client = r.Client
  ·rw [dT h, cT, G_on (by omega), if_pos h]
   have : up l (i : Int) a = l.take i ++ a :: l.drop (i + 1) := by
    unfold up; rw [Int.toNat_natCast, List.set_eq_take_append_cons_drop, if_pos (by omega)]
   rw [this]
  ·rw [dF h, cF, G_on (by unfold I; omega), show ((i : Int) + 1) = ((i + 1 : Nat) : Int) from by omega, ih (i + 1) (by omega) f (by omega), if_neg h, hix]
   have : l.take (i + 1) = l.take i ++ [l[i]'(by omega)] := by simp
   rw [this, List.append_assoc]; rfl
theorem scommit_eq {s : Mk.Store} (h : Sz s) (r : Mk.Request) (says : Mk.Reply) : store_Commit s r says = some (commit s r says) := by
 have hc := h.c; have hu := h.u; have ha := h.a; have hp := h.p
 unfold store_Commit
 simp only [J]
 rw [own_eq h, obs, G_on (by simp; omega)]
 have := fun y6 k hk => scommit_loop r ⟨r.Client, r.Token, says⟩ rfl y6 ⟨s.Cells, [], [], []⟩ (s.Past ++ [r]) s.Answers ha k hk s.Answers.length 0 (by omega) (((s.Answers.length : Int) - 0).toNat + 1) (by omega)
 rw [show ((0 : Nat) : Int) = 0 from rfl] at this
 rw [this _ _ (by rw [G_on (by simp; omega)])]
 simp [commit]
theorem rcommit_done (s : Mk.Store) (r : Mk.Request) (a : Mk.Answer) (y6 : Mk.Store) (l : List Mk.Answer) (hl : l.length ≤ 1000000) (k : Bool → Mk.Store → Mk.Request → Mk.Store → Mk.Answer → List Mk.Answer → Option Mk.Store) : ∀ (m i : Nat), i + m = l.length → ∀ f : Nat, m < f → ∀ acc : List Mk.Answer, acc.length ≤ i →
  mkref1_Commit_l1 k f true l (l.length : Int) (i : Int) s r y6 a acc = k true s r y6 a (acc ++ l.drop i) := by
 intro m
 induction m with
 | zero =>
  intro i hi f hf acc hacc
  obtain ⟨f, rfl⟩ : ∃ g, f = g + 1 := ⟨f - 1, by omega⟩
  rw [mkref1_Commit_l1, dF (by omega), cF, List.drop_of_length_le (by omega), List.append_nil]
 | succ m ih =>
  intro i hi f hf acc hacc
  obtain ⟨f, rfl⟩ : ∃ g, f = g + 1 := ⟨f - 1, by omega⟩
  rw [mkref1_Commit_l1, dT (by omega), cT]
  simp only [J]
  rw [G_on (by omega), nT, Bool.and_false, cF, G_on (by simp; omega), G_on (by unfold I; omega), show ((i : Int) + 1) = ((i + 1 : Nat) : Int) from by omega, ih (i + 1) (by omega) f (by omega) _ (by simp; omega), ix_drop l i (by omega)]
  simp
theorem rcommit_loop (s : Mk.Store) (r : Mk.Request) (a : Mk.Answer) (ha : a.Client = r.Client) (y6 : Mk.Store) (l : List Mk.Answer) (hl : l.length ≤ 1000000) (k : Bool → Mk.Store → Mk.Request → Mk.Store → Mk.Answer → List Mk.Answer → Option Mk.Store) (F : List Mk.Answer → Option Mk.Store)
  (hk1 : ∀ y, y.length ≤ 2000000 → k true s r y6 a y = F y) (hk0 : ∀ y, y.length ≤ 2000000 → k false s r y6 a y = F (y ++ [a])) : ∀ (m i : Nat), i + m = l.length → ∀ f : Nat, m < f → ∀ acc : List Mk.Answer, acc.length ≤ i →
  mkref1_Commit_l1 k f false l (l.length : Int) (i : Int) s r y6 a acc = F (acc ++ ansPut (l.drop i) a) := by
 intro m
 induction m with
 | zero =>
  intro i hi f hf acc hacc
  obtain ⟨f, rfl⟩ : ∃ g, f = g + 1 := ⟨f - 1, by omega⟩
  rw [mkref1_Commit_l1, dF (by omega), cF, List.drop_of_length_le (by omega), ansPut, hk0 _ (by omega)]
 | succ m ih =>
  intro i hi f hf acc hacc
  obtain ⟨f, rfl⟩ : ∃ g, f = g + 1 := ⟨f - 1, by omega⟩
  rw [mkref1_Commit_l1, dT (by omega), cT]
  simp only [J]
  rw [G_on (by omega), ix_drop l i (by omega), ansPut, ha]
  by_cases h : (ix l (i : Int)).Client = r.Client
  ·rw [dT h, nF, Bool.and_true, cT, G_on (by simp; omega), G_on (by unfold I; omega), show ((i : Int) + 1) = ((i + 1 : Nat) : Int) from by omega, rcommit_done s r a y6 l hl k m (i + 1) (by omega) f (by omega) _ (by simp; omega), if_pos h, hk1 _ (by simp; omega)]
   simp
  ·rw [dF h, Bool.false_and, cF, G_on (by simp; omega), G_on (by unfold I; omega), show ((i : Int) + 1) = ((i + 1 : Nat) : Int) from by omega, ih (i + 1) (by omega) f (by omega) _ (by simp; omega), if_neg h]
   simp
theorem rcommit_eq {s : Mk.Store} (h : Sz s) (r : Mk.Request) (says : Mk.Reply) : mkref1_Commit s r says = some (commit s r says) := by
 have hc := h.c; have hu := h.u; have ha := h.a; have hp := h.p
 unfold mkref1_Commit
 simp only [J]
 have := fun y6 k hk1 hk0 => rcommit_loop s r ⟨r.Client, r.Token, says⟩ rfl y6 s.Answers ha k (fun y => some ⟨s.Cells, [], y, s.Past ++ [r]⟩) hk1 hk0 s.Answers.length 0 (by omega) (((s.Answers.length : Int) - 0).toNat + 1) (by omega) [] (by simp)
 rw [show ((0 : Nat) : Int) = 0 from rfl] at this
 rw [this]
 ·simp [commit]
 ·intro y hy
  rw [nT, cF, G_on (by simp; omega), G_on (by simp; omega)]; simp
 ·intro y hy
  rw [nF, cT, G_on (by simp; omega), G_on (by simp; omega), G_on (by simp; omega)]; simp
def back (s : Mk.Store) : Mk.Store := { s with Cells := wrs s.Cells s.Undo, Undo := [] }
theorem sback_eq {s : Mk.Store} (h : Sz s) : store_Back s = some (back s) := by
 have hc := h.c; have hu := h.u; have ha := h.a; have hp := h.p
 unfold store_Back
 rw [own_eq h, obs, cset_eq _ (by omega) _ (by omega), obs]; rfl
theorem rback_eq {s : Mk.Store} (h : Sz s) : mkref1_Back s = some (back s) := by
 have hc := h.c; have hu := h.u; have ha := h.a; have hp := h.p
 unfold mkref1_Back
 rw [rset2_eq _ (by omega) _ (by omega), obs]; rfl
theorem snew_eq : store_New = some ⟨List.replicate 11 0, [], [], []⟩ := by
 unfold store_New cell_New
 rw [G_on (by decide), obs]; rfl
end Sp
end
section
namespace Sp
def rep0 : Mk.Reply := ⟨0, 0⟩
def srv0 (g : Int) : Mk.Server := ⟨g, [], false, req0, [], rep0⟩
def hear (c : Mk.Client) (b : List UInt8) (box : List (List UInt8)) (me : Int) : Mk.Client :=
 if (readAns b).2 = 0 ∧ (readAns b).1.Client = me ∧ (readAns b).1.Token = c.At ∧ c.Sent = true then ⟨c.Calls, c.At + 1, false, c.Gen, box, c.Got ++ [(readAns b).1.Reply]⟩ else { c with Box := box }
def cGo (c : Mk.Client) (me gen : Int) (up : Bool) : Mk.Client × List UInt8 × Int :=
 match c.Box with
 | b :: box => (hear c b box me, [], 0)
 | [] => if (c.Calls.length : Int) ≤ c.At then (c, [], 11) else if up = false then (c, [], 10) else if c.Sent = true ∧ c.Gen = gen then (c, [], 12)
  else ({ c with Sent := true, Gen := gen }, reqB ⟨me, c.At, ix c.Calls c.At⟩, 0)
def cCome (c : Mk.Client) (b : List UInt8) : Mk.Client := if c.Box.length < 3 then { c with Box := c.Box ++ [b] } else c
def sCome (v : Mk.Server) (b : List UInt8) : Mk.Server × Int := if 3 ≤ v.Box.length then (v, 9) else ({ v with Box := v.Box ++ [b] }, 0)
def take1 (s : Mk.Store) (v : Mk.Server) (b : List UInt8) (box : List (List UInt8)) : Mk.Server × List UInt8 :=
 if (readReq b).2 ≠ 0 then ({ v with Box := box }, [])
 else if (last s (readReq b).1.Client).2 = true ∧ (readReq b).1.Token ≤ (last s (readReq b).1.Client).1.Token then
  (if (last s (readReq b).1.Client).1.Token = (readReq b).1.Token then ({ v with Box := box }, ansB (last s (readReq b).1.Client).1) else ({ v with Box := box }, []))
 else (⟨v.Gen, box, true, (readReq b).1, (planR (entries s.Cells) (readReq b).1.Call).1, (planR (entries s.Cells) (readReq b).1.Call).2⟩, [])
def serve (s : Mk.Store) (v : Mk.Server) : Mk.Store × Mk.Server × List UInt8 × Int :=
 if v.Busy = true then
  match v.Plan with
  | w :: p => (wrS s w, { v with Plan := p }, [], 0)
  | [] => (commit s v.Now v.Says, ⟨v.Gen, v.Box, false, req0, [], rep0⟩, ansB ⟨v.Now.Client, v.Now.Token, v.Says⟩, 0)
 else
  match v.Box with
  | [] => (s, v, [], 12)
  | b :: box => (s, (take1 s v b box).1, (take1 s v b box).2, 0)
def pauseOf (n : Int) : Int := if n ≤ 1 then 1 else if n = 2 then 2 else 3
def fall (m : Mk.Machine) : Mk.Machine × Int :=
 if m.Up = false then (m, 11) else if 5 < m.Falls then (m, 5) else (⟨m.Store, srv0 m.Server.Gen, false, pauseOf (m.Falls + 1), m.Falls + 1, m.Clients⟩, 0)
def tick (m : Mk.Machine) : Mk.Machine :=
 if m.Up = true then m else if 1 < m.Pause then { m with Pause := m.Pause - 1 } else ⟨back m.Store, srv0 (m.Server.Gen + 1), true, 0, m.Falls, m.Clients⟩
def withC (m : Mk.Machine) (n : Int) (c : Mk.Client) : Mk.Machine := { m with Clients := up m.Clients n c }
def doC (m : Mk.Machine) (n : Int) : Mk.Machine × Int :=
 if n < 0 ∨ (m.Clients.length : Int) ≤ n then (m, 6)
 else if (cGo (ix m.Clients n) n m.Server.Gen m.Up).2.2 ≠ 0 then (m, (cGo (ix m.Clients n) n m.Server.Gen m.Up).2.2)
 else if (cGo (ix m.Clients n) n m.Server.Gen m.Up).2.1 = [] then (withC m n (cGo (ix m.Clients n) n m.Server.Gen m.Up).1, 0)
 else if (sCome m.Server (cGo (ix m.Clients n) n m.Server.Gen m.Up).2.1).2 ≠ 0 then (m, (sCome m.Server (cGo (ix m.Clients n) n m.Server.Gen m.Up).2.1).2)
 else (withC { m with Server := (sCome m.Server (cGo (ix m.Clients n) n m.Server.Gen m.Up).2.1).1 } n (cGo (ix m.Clients n) n m.Server.Gen m.Up).1, 0)
def toC (m : Mk.Machine) (b : List UInt8) : Mk.Machine :=
 if b = [] then m else if ((ix b 1).toNat : Int) < m.Clients.length then withC m ((ix b 1).toNat : Int) (cCome (ix m.Clients ((ix b 1).toNat : Int)) b) else m
def doS (m : Mk.Machine) : Mk.Machine × Int :=
 if m.Up = false then (m, 10)
 else if (serve m.Store m.Server).2.2.2 ≠ 0 then (m, (serve m.Store m.Server).2.2.2)
 else (toC { m with Store := (serve m.Store m.Server).1, Server := (serve m.Store m.Server).2.1 } (serve m.Store m.Server).2.2.1, 0)
def doM (m : Mk.Machine) (s : Mk.Step) : Mk.Machine × Int :=
 if s.Kind = 1 then doC m s.N else if s.Kind = 2 then doS m else if s.Kind = 3 then fall m else if s.Kind = 4 then (tick m, 0) else (m, 1)
def runM : Mk.Machine → List Mk.Step → Mk.Machine
 | m, [] => m
 | m, s :: l => runM (doM m s).1 l
def runE : Mk.Machine → List Mk.Step → List Int
 | _, [] => []
 | m, s :: l => (doM m s).2 :: runE (doM m s).1 l
theorem rgo_eq (c : Mk.Client) (me gen : Int) (up : Bool) (hb : c.Box.length ≤ 1000) (hg : c.Got.length ≤ 1000) (hat : 0 ≤ c.At ∧ c.At ≤ 1000) : mkref6_ClientGo c me gen up = some (cGo c me gen up) := by
 obtain ⟨K, A, S, g, B, R⟩ := c
 simp only at hb hg hat
 unfold mkref6_ClientGo cGo
 cases B with
 | cons b box =>
  have e1 : ix (b :: box) 0 = b := rfl
  have e2 : sub (b :: box) 1 ((b :: box).length : Int) = box := by simp [sub]
  have e3 : (([] : List Mk.Reply) ++ R) = R := rfl
  simp only [J, e1, e2, e3]
  rw [dT (by simp <;> omega), cT, G_on (by simp <;> omega), rreadAnswer_eq, obs, G_on (by simp <;> omega)]
  unfold hear
  by_cases h : (readAns b).2 = 0 ∧ (readAns b).1.Client = me ∧ (readAns b).1.Token = A ∧ S = true
  ·obtain ⟨h1, h2, h3, h4⟩ := h
   simp only [h1, h2, h3, h4, decide_true, Bool.and_self, cT, and_self, if_true]
   rw [G_on (by simp <;> omega), G_on (by simp <;> omega), G_on (by unfold I; omega)]
  ·have hf : (((decide ((readAns b).2 = 0) && decide ((readAns b).1.Client = me)) && decide ((readAns b).1.Token = A)) && S) = false := by
    cases S <;> simp_all
   rw [hf, cF, if_neg h]
 | nil =>
  simp only [List.length_nil]
  rw [dF (by decide), cF]
  by_cases h1 : (K.length : Int) ≤ A
  ·rw [dT h1, cT, if_pos h1]
  ·rw [dF h1, cF, if_neg h1]
   cases up with
   | false => rfl
   | true =>
    simp only [nT, cF]
    by_cases h2 : S = true ∧ g = gen
    ·simp [h2.1, h2.2]
    ·have hf : (S && decide (g = gen)) = false := by cases S <;> simp_all
     rw [hf, cF, G_on (by omega), requestBytes_eq, obs]
     simp only [Bool.true_eq_false, if_false, if_neg h2]
theorem rccome_eq (c : Mk.Client) (b : List UInt8) (hb : c.Box.length ≤ 1000) : mkref6_ClientCome c b = some (cCome c b) := by
 unfold mkref6_ClientCome cCome
 simp only [J]
 by_cases h : c.Box.length < 3
 ·rw [dT (by omega), cT, G_on (by simp <;> omega), G_on (by simp <;> omega), if_pos h]; rfl
 ·rw [dF (by omega), cF, if_neg h]
theorem rscome_eq (v : Mk.Server) (b : List UInt8) (hb : v.Box.length ≤ 1000) : mkref6_ServerCome v b = some (sCome v b) := by
 unfold mkref6_ServerCome sCome
 by_cases h : 3 ≤ v.Box.length
 ·rw [dT (by omega), cT, if_pos h]
 ·rw [dF (by omega), cF, G_on (by simp <;> omega), G_on (by simp <;> omega), if_neg h]; rfl
theorem rwith_eq (m : Mk.Machine) (n : Int) (c : Mk.Client) (hl : m.Clients.length ≤ 1000) (hn : 0 ≤ n ∧ n < m.Clients.length) : mkref6_with m n c = some (withC m n c) := by
 unfold mkref6_with withC
 rw [G_on (by simp <;> omega), G_on (by simpa using hn)]; rfl
theorem rserve_eq {s : Mk.Store} {v : Mk.Server} (hs : Sz s) (hr : v.Busy = false → Rt s.Cells (entries s.Cells)) : mkref6_Serve s v = some (serve s v) := by
 obtain ⟨g, B, bz, nw, P, sy⟩ := v
 simp only at hr
 unfold mkref6_Serve serve
 cases bz with
 | true =>
  cases P with
  | cons w p =>
   have e1 : ix (w :: p) 0 = w := rfl
   have e2 : sub (w :: p) 1 ((w :: p).length : Int) = p := by simp [sub]
   simp only [e1, e2, Bool.true_and, if_true]
   rw [dT (by simp <;> omega), cT, G_on (by simp <;> omega), rwrite_eq hs, obs, G_on (by simp <;> omega)]
  | nil =>
   simp only [List.length_nil, Bool.true_and, if_true]
   rw [dF (by decide), cF, cT, answerBytes_eq, obs, rcommit_eq hs, obs]; rfl
 | false =>
  simp only [Bool.false_and, cF, Bool.false_eq_true, if_false]
  cases B with
  | nil =>
   simp only [List.length_nil]
   rw [dT (by decide), cT]
  | cons b box =>
   have hR := hr rfl
   have e1 : ix (b :: box) 0 = b := rfl
   have e2 : sub (b :: box) 1 ((b :: box).length : Int) = box := by simp [sub]
   simp only [e1, e2]
   rw [dF (by simp <;> omega), cF, G_on (by simp <;> omega), rreadRequest_eq, obs, G_on (by simp <;> omega)]
   unfold take1
   by_cases h1 : (readReq b).2 = 0
   ·rw [dT h1, nT, cF, rlast_eq _ _ hs.a, obs]
    simp only [h1, ne_eq, not_true, if_false]
    by_cases h2 : (last s (readReq b).1.Client).2 = true ∧ (readReq b).1.Token ≤ (last s (readReq b).1.Client).1.Token
    ·rw [h2.1, dT h2.2, Bool.and_self, cT]
     simp only [h2.2, and_self, if_true]
     by_cases h3 : (last s (readReq b).1.Client).1.Token = (readReq b).1.Token
     ·rw [dT h3, cT, answerBytes_eq, obs, if_pos h3]
     ·rw [dF h3, cF, if_neg h3]
    ·have hf : ((last s (readReq b).1.Client).2 && decide ((readReq b).1.Token ≤ (last s (readReq b).1.Client).1.Token)) = false := by
      cases h4 : (last s (readReq b).1.Client).2 with
      | false => rfl
      | true => simp [h4] at h2; simp; omega
     have hc : CallOk (readReq b).1.Call := by
      unfold readReq at h1 ⊢
      split at h1
      ·cases h1
      ·split at h1
       ·rename_i h5 h6; exact (h6 h1).elim
       ·rename_i h5 h6
        rw [if_neg h5, if_neg h6]
        exact (wreq_ok (Classical.not_not.1 h6)).2.2
     rw [hf, cF, rplan_eq hR hc, obs, if_neg h2]
   ·rw [dF h1, nF, cT]
    simp only [ne_eq, h1, not_false_eq_true, if_true]
theorem rfall_eq (m : Mk.Machine) (hf : 0 ≤ m.Falls ∧ m.Falls ≤ 6) : mkref6_Fall m = some (fall m) := by
 obtain ⟨s, v, u, p, f, cl⟩ := m
 simp only at hf
 unfold mkref6_Fall fall
 cases u with
 | false => rfl
 | true =>
  simp only [nT, cF, Bool.true_eq_false, if_false]
  by_cases h : 5 < f
  ·rw [dT h, cT, if_pos h]
  ·rw [dF h, cF, G_on (by unfold I; omega), G_on (by simp <;> omega), if_neg h]
   have : f = 0 ∨ f = 1 ∨ f = 2 ∨ f = 3 ∨ f = 4 ∨ f = 5 := by omega
   rcases this with rfl | rfl | rfl | rfl | rfl | rfl <;> rfl
theorem rtick_eq (m : Mk.Machine) (hs : Sz m.Store) (hp : 0 ≤ m.Pause ∧ m.Pause ≤ 1000) (hg : 0 ≤ m.Server.Gen ∧ m.Server.Gen ≤ 1000) : mkref6_Tick m = some (tick m) := by
 obtain ⟨s, v, u, p, f, cl⟩ := m
 simp only at hs hp hg
 unfold mkref6_Tick tick
 simp only [J]
 cases u with
 | true => rfl
 | false =>
  simp only [cF, Bool.false_eq_true, if_false]
  by_cases h : 1 < p
  ·rw [dT h, cT, G_on (by unfold I; omega), if_pos h]
  ·rw [dF h, cF, rback_eq hs, obs, G_on (by unfold I; omega), if_neg h]; rfl
end Sp
end
section
namespace Sp
structure CsOk (cs : List (List Mk.Call)) : Prop where
 n : cs.length ≤ 3
 l : ∀ x ∈ cs, x.length ≤ 8 ∧ ∀ c ∈ x, CallOk c
def call (cs : List (List Mk.Call)) (c t : Int) : Mk.Call := ix (ix cs c) t
theorem CsOk.len {cs : List (List Mk.Call)} (h : CsOk cs) {c : Int} (hc : 0 ≤ c ∧ c < cs.length) : (ix cs c).length ≤ 8 := (h.l _ (ix_mem cs c hc)).1
theorem CsOk.call {cs : List (List Mk.Call)} (h : CsOk cs) {c t : Int} (hc : 0 ≤ c ∧ c < cs.length) (ht : 0 ≤ t ∧ t < (ix cs c).length) : CallOk (call cs c t) := (h.l _ (ix_mem cs c hc)).2 _ (ix_mem _ t ht)
def cnt (p : List Mk.Request) (c : Int) : Nat := (p.filter fun r => decide (r.Client = c)).length
def heardF : List Mk.Write → List Mk.Request → Int → List Mk.Reply
 | _, [], _ => []
 | l, r :: rs, c => if r.Client = c then (doP l r.Call).2 :: heardF (doP l r.Call).1 rs c else heardF (doP l r.Call).1 rs c
def ansF : List Mk.Answer → List Mk.Write → List Mk.Request → List Mk.Answer
 | a, _, [] => a
 | a, l, r :: rs => ansF (ansPut a ⟨r.Client, r.Token, (doP l r.Call).2⟩) (doP l r.Call).1 rs
theorem cnt_snoc (p : List Mk.Request) (r : Mk.Request) (c : Int) : cnt (p ++ [r]) c = cnt p c + if r.Client = c then 1 else 0 := by
 unfold cnt
 rw [List.filter_append, List.length_append]
 by_cases h : r.Client = c <;> simp [h]
theorem heardF_len (l : List Mk.Write) (p : List Mk.Request) (c : Int) : (heardF l p c).length = cnt p c := by
 induction p generalizing l with
 | nil => rfl
 | cons r p ih =>
  unfold heardF cnt
  by_cases h : r.Client = c
  ·simp [h, ih, cnt]
  ·simp [h, ih, cnt]
theorem allN_snoc (l : List Mk.Write) (p : List Mk.Request) (r : Mk.Request) : allN l (p ++ [r]) = (doP (allN l p) r.Call).1 := by
 induction p generalizing l with
 | nil => rfl
 | cons x p ih => exact ih _
theorem allR_snoc (l : List Mk.Write) (p : List Mk.Request) (r : Mk.Request) : allR l (p ++ [r]) = allR l p ++ [(doP (allN l p) r.Call).2] := by
 induction p generalizing l with
 | nil => rfl
 | cons x p ih => simp [allR, allN, ih]
theorem heardF_snoc (l : List Mk.Write) (p : List Mk.Request) (r : Mk.Request) (c : Int) : heardF l (p ++ [r]) c = heardF l p c ++ if r.Client = c then [(doP (allN l p) r.Call).2] else [] := by
 induction p generalizing l with
 | nil => simp [heardF, allN]
 | cons x p ih =>
  rw [List.cons_append, heardF, heardF, ih, allN]
  by_cases h : x.Client = c <;> simp [h]
theorem ansF_snoc (a : List Mk.Answer) (l : List Mk.Write) (p : List Mk.Request) (r : Mk.Request) : ansF a l (p ++ [r]) = ansPut (ansF a l p) ⟨r.Client, r.Token, (doP (allN l p) r.Call).2⟩ := by
 induction p generalizing a l with
 | nil => rfl
 | cons x p ih => exact ih _ _
theorem ix_last {α : Type} [Inhabited α] (l : List α) (x : α) (i : Int) (h : i = l.length) : ix (l ++ [x]) i = x := by subst h; simp [ix]
inductive Lawful (cs : List (List Mk.Call)) : List Mk.Request → Prop
 | nil : Lawful cs []
 | snoc {p : List Mk.Request} {r : Mk.Request} (h : Lawful cs p) (hc : 0 ≤ r.Client ∧ r.Client < cs.length) (ht : r.Token = cnt p r.Client) (hl : (cnt p r.Client : Int) < (ix cs r.Client).length) (hk : r.Call = call cs r.Client r.Token) : Lawful cs (p ++ [r])
theorem Lawful.req {cs : List (List Mk.Call)} (hcs : CsOk cs) {p : List Mk.Request} (h : Lawful cs p) : ∀ r ∈ p, (0 ≤ r.Client ∧ r.Client < cs.length) ∧ (0 ≤ r.Token ∧ r.Token < (ix cs r.Client).length) ∧ r.Call = call cs r.Client r.Token ∧ CallOk r.Call := by
 induction h with
 | nil => simp
 | snoc h hc ht hl hk ih =>
  intro x hx
  rcases List.mem_append.1 hx with hx | hx
  ·exact ih x hx
  ·simp only [List.mem_singleton] at hx
   subst hx
   have h1 : 0 ≤ x.Token ∧ x.Token < (ix cs x.Client).length := by omega
   exact ⟨hc, h1, hk, by rw [hk]; exact hcs.call hc h1⟩
theorem Lawful.cnt_le {cs : List (List Mk.Call)} {p : List Mk.Request} (h : Lawful cs p) (c : Int) (hc : 0 ≤ c ∧ c < cs.length) : cnt p c ≤ (ix cs c).length := by
 induction h with
 | nil => simp [cnt]
 | @snoc p r h hc' ht hl hk ih =>
  rw [cnt_snoc]
  split
  ·rename_i e; subst e; omega
  ·exact ih
theorem cnt_out {cs : List (List Mk.Call)} {p : List Mk.Request} (h : Lawful cs p) (c : Int) (hc : ¬ (0 ≤ c ∧ c < cs.length)) : cnt p c = 0 := by
 induction h with
 | nil => simp [cnt]
 | @snoc p r h hc' ht hl hk ih =>
  rw [cnt_snoc, ih, if_neg]
  intro e; subst e; exact hc hc'
theorem Lawful.mine {cs : List (List Mk.Call)} {p : List Mk.Request} (h : Lawful cs p) (c : Int) : p.filter (fun r => decide (r.Client = c)) = (List.range (cnt p c)).map fun (t : Nat) => ⟨c, (t : Int), call cs c (t : Int)⟩ := by
 induction h with
 | nil => simp [cnt]
 | @snoc p r h hc ht hl hk ih =>
  rw [cnt_snoc, List.filter_append, ih]
  by_cases e : r.Client = c
  ·subst e
   rw [if_pos rfl, List.range_succ, List.map_append]
   have : r = ⟨r.Client, (cnt p r.Client : Int), call cs r.Client (cnt p r.Client : Int)⟩ := by
    rw [← ht, ← hk]
   simp only [List.filter_cons, decide_true, if_true, List.filter_nil, List.map_cons, List.map_nil]
   rw [← this]
  ·rw [if_neg e]; simp [e]
theorem Lawful.nm {cs : List (List Mk.Call)} (hcs : CsOk cs) {p : List Mk.Request} (h : Lawful cs p) : Nm (allN [] p) := nm_allN nm_nil fun r hr => (h.req hcs r hr).2.2.2
theorem len_cnt (p : List Mk.Request) (h : ∀ r ∈ p, 0 ≤ r.Client ∧ r.Client < 3) : p.length = cnt p 0 + cnt p 1 + cnt p 2 := by
 induction p with
 | nil => simp [cnt]
 | cons r p ih =>
  have h1 := h r (by simp)
  have h2 := ih fun x hx => h x (by simp [hx])
  have e : r.Client = 0 ∨ r.Client = 1 ∨ r.Client = 2 := by omega
  unfold cnt at h2 ⊢
  rcases e with e | e | e <;> simp [e] <;> omega
theorem Lawful.len {cs : List (List Mk.Call)} (hcs : CsOk cs) {p : List Mk.Request} (h : Lawful cs p) : p.length ≤ 24 := by
 have hn := hcs.n
 rw [len_cnt p fun r hr => by have := (h.req hcs r hr).1; omega]
 have one : ∀ c : Int, cnt p c ≤ 8 := fun c => by
  by_cases hc : 0 ≤ c ∧ c < cs.length
  ·have h1 := h.cnt_le c hc
   have h2 := hcs.len hc
   omega
  ·rw [cnt_out h c hc]; omega
 have h0 := one 0
 have h1 := one 1
 have h2 := one 2
 omega
theorem ansPut_mem (l : List Mk.Answer) (a b : Mk.Answer) (h : b ∈ ansPut l a) : b = a ∨ b ∈ l := by
 induction l with
 | nil => simp [ansPut] at h; exact .inl h
 | cons x l ih =>
  unfold ansPut at h
  split at h
  ·rcases List.mem_cons.1 h with h | h
   ·exact .inl h
   ·exact .inr (by simp [h])
  ·rcases List.mem_cons.1 h with h | h
   ·exact .inr (by simp [h])
   ·rcases ih h with h | h
    ·exact .inl h
    ·exact .inr (by simp [h])
theorem ansPut_keys (l : List Mk.Answer) (a : Mk.Answer) : (ansPut l a).map (·.Client) = if a.Client ∈ l.map (·.Client) then l.map (·.Client) else l.map (·.Client) ++ [a.Client] := by
 induction l with
 | nil => simp [ansPut]
 | cons x l ih =>
  unfold ansPut
  by_cases h : x.Client = a.Client
  ·simp [h]
  ·rw [if_neg h, List.map_cons, ih]
   by_cases h2 : a.Client ∈ l.map (·.Client)
   ·rw [if_pos h2, if_pos (by rw [List.map_cons]; exact List.mem_cons_of_mem _ h2)]; rfl
   ·rw [if_neg h2, if_neg (by rw [List.map_cons]; intro h3; exact (List.mem_cons.1 h3).elim (fun e => h e.symm) h2)]; rfl
theorem Lawful.find {cs : List (List Mk.Call)} {p : List Mk.Request} (h : Lawful cs p) (c : Int) : (ansF [] [] p).find? (fun x => decide (x.Client = c)) = if cnt p c = 0 then none else some ⟨c, (cnt p c : Int) - 1, ix (heardF [] p c) ((cnt p c : Int) - 1)⟩ := by
 induction h with
 | nil => simp [cnt, ansF]
 | @snoc p r h hc ht hl hk ih =>
  rw [ansF_snoc, cnt_snoc, heardF_snoc]
  by_cases e : r.Client = c
  ·subst e
   rw [if_pos rfl, if_pos rfl, if_neg (by omega)]
   have := find_ansPut_same (ansF [] [] p) ⟨r.Client, r.Token, (doP (allN [] p) r.Call).2⟩
   rw [this, ix_last _ _ _ (by rw [heardF_len]; omega)]
   have e2 : ((cnt p r.Client + 1 : Nat) : Int) - 1 = r.Token := by omega
   rw [e2]
  ·rw [if_neg e, if_neg e, find_ansPut _ _ _ (by simpa using Ne.symm e), ih]
   simp
structure RepOk (r : Mk.Reply) : Prop where
 e : 0 ≤ r.Err ∧ r.Err ≤ 12
 n : -1073741824 ≤ r.N ∧ r.N ≤ 1073741824
 z : r.Err ≠ 0 → r.N = 0
theorem doP_rep {l : List Mk.Write} {c : Mk.Call} (h : Nm l) (hc : CallOk c) : RepOk (doP l c).2 := by
 have hle := h.le
 have hr := pos_range l c.Name
 have ho := pos_range l c.Other
 have hz : ∀ x : Int, -1073741824 ≤ x ∧ x ≤ 1073741824 → RepOk ⟨0, x⟩ := fun x hx => ⟨⟨(show (0 : Int) ≤ 0 by decide), (show (0 : Int) ≤ 12 by decide)⟩, hx, fun h => (h rfl).elim⟩
 have he : ∀ x : Int, 0 ≤ x ∧ x ≤ 12 → RepOk ⟨x, 0⟩ := fun x hx => ⟨hx, ⟨(show (-1073741824 : Int) ≤ 0 by decide), (show (0 : Int) ≤ 1073741824 by decide)⟩, fun _ => rfl⟩
 unfold doP
 repeat' split
 all_goals first
  | exact he _ (by decide)
  | exact hz _ (by omega)
  | exact hz _ (h.call (by omega))
theorem wans_of {c t : Int} {r : Mk.Reply} (hc : 0 ≤ c ∧ c < 3) (ht : 0 ≤ t ∧ t < 8) (hr : RepOk r) : wans ⟨c, t, r⟩ = 0 := by
 have h1 := hr.e; have h2 := hr.n; have h3 := hr.z
 have hw : wwho c t = 0 := by unfold wwho; rw [if_neg (by omega)]
 unfold wans
 rw [if_neg]
 simp only [hw]
 omega
theorem wreq_of {c t : Int} {k : Mk.Call} (hc : 0 ≤ c ∧ c < 3) (ht : 0 ≤ t ∧ t < 8) (hk : CallOk k) : wreq ⟨c, t, k⟩ = 0 := by
 have hw : wwho c t = 0 := by unfold wwho; rw [if_neg (by omega)]
 unfold wreq
 rw [if_neg (by simp [hw])]
 exact (wcall_ok k).2 hk
theorem Lawful.heard_ok {cs : List (List Mk.Call)} (hcs : CsOk cs) {p : List Mk.Request} (h : Lawful cs p) (c : Int) : ∀ r ∈ heardF [] p c, RepOk r := by
 induction h with
 | nil => simp [heardF]
 | @snoc p r h hc ht hl hk ih =>
  rw [heardF_snoc]
  intro x hx
  rcases List.mem_append.1 hx with hx | hx
  ·exact ih x hx
  ·split at hx
   ·simp only [List.mem_singleton] at hx
    subst hx
    exact doP_rep (h.nm hcs) (by rw [hk]; exact hcs.call hc (by omega))
   ·cases hx
theorem Lawful.ans {cs : List (List Mk.Call)} (hcs : CsOk cs) {p : List Mk.Request} (h : Lawful cs p) : (∀ a ∈ ansF [] [] p, wans a = 0) ∧ ((ansF [] [] p).map (·.Client)).Nodup := by
 induction h with
 | nil => simp [ansF]
 | @snoc p r h hc ht hl hk ih =>
  have hn := hcs.n
  have h8 := hcs.len hc
  rw [ansF_snoc, ansPut_keys]
  refine ⟨fun a ha => ?_, ?_⟩
  ·rcases ansPut_mem _ _ _ ha with rfl | ha
   ·exact wans_of (by omega) (by omega) (doP_rep (h.nm hcs) (by rw [hk]; exact hcs.call hc (by omega)))
   ·exact ih.1 a ha
  ·split
   ·exact ih.2
   ·rename_i h2
    rw [List.nodup_append]
    refine ⟨ih.2, by simp, fun x hx y hy => ?_⟩
    simp only [List.mem_singleton] at hy
    subst hy
    intro e; subst e; exact h2 hx
theorem nodup3 (l : List Int) (h : l.Nodup) (h3 : ∀ x ∈ l, 0 ≤ x ∧ x < 3) : l.length ≤ 3 := by
 match l, h, h3 with
 | [], _, _ => simp
 | [_], _, _ => simp
 | [_, _], _, _ => simp
 | [_, _, _], _, _ => simp
 | a :: b :: c :: d :: l, h, h3 =>
  exfalso
  have ha := h3 a (by simp)
  have hb := h3 b (by simp)
  have hc := h3 c (by simp)
  have hd := h3 d (by simp)
  simp only [List.nodup_cons, List.mem_cons, not_or] at h
  omega
theorem Lawful.ans_len {cs : List (List Mk.Call)} (hcs : CsOk cs) {p : List Mk.Request} (h : Lawful cs p) : (ansF [] [] p).length ≤ 3 := by
 obtain ⟨h1, h2⟩ := h.ans hcs
 rw [← List.length_map (f := (·.Client))]
 refine nodup3 _ h2 fun x hx => ?_
 obtain ⟨a, ha, rfl⟩ := List.mem_map.1 hx
 exact (wans_ok (h1 a ha)).1
end Sp
end
section
namespace Sp
def QOk (cs : List (List Mk.Call)) (cl : List Mk.Client) (b : List UInt8) : Prop :=
 ∃ c t : Int, (0 ≤ c ∧ c < cs.length) ∧ (0 ≤ t ∧ t < (ix cs c).length) ∧ b = reqB ⟨c, t, call cs c t⟩ ∧ t ≤ (ix cl c).At ∧ (t = (ix cl c).At → (ix cl c).Sent = true)
def AOk (p : List Mk.Request) (c : Int) (b : List UInt8) : Prop := ∃ t : Int, (0 ≤ t ∧ t < cnt p c) ∧ b = ansB ⟨c, t, ix (heardF [] p c) t⟩
structure ClOk (cs : List (List Mk.Call)) (p : List Mk.Request) (g : Int) (c : Int) (x : Mk.Client) : Prop where
 calls : x.Calls = ix cs c
 at0 : 0 ≤ x.At
 at1 : x.At ≤ cnt p c
 at2 : (cnt p c : Int) ≤ x.At + 1
 sent : (cnt p c : Int) = x.At + 1 → x.Sent = true
 got : x.Got = (heardF [] p c).take x.At.toNat
 box : x.Box.length ≤ 3
 ans : ∀ b ∈ x.Box, AOk p c b
 gen : 0 ≤ x.Gen ∧ x.Gen ≤ g
 more : x.Sent = true → x.At < x.Calls.length
structure Inv (cs : List (List Mk.Call)) (m : Mk.Machine) : Prop where
 law : Lawful cs m.Store.Past
 ans : m.Store.Answers = ansF [] [] m.Store.Past
 nk : m.Clients.length = cs.length
 cl : ∀ c : Int, 0 ≤ c ∧ c < cs.length → ClOk cs m.Store.Past m.Server.Gen c (ix m.Clients c)
 falls : 0 ≤ m.Falls ∧ m.Falls ≤ 6
 gen : 0 ≤ m.Server.Gen
 up : m.Up = true → m.Pause = 0 ∧ m.Server.Gen = m.Falls
 down : m.Up = false → m.Server = srv0 m.Server.Gen ∧ 1 ≤ m.Pause ∧ m.Pause ≤ 3 ∧ m.Server.Gen + 1 = m.Falls
 box : m.Server.Box.length ≤ 3
 q : ∀ b ∈ m.Server.Box, QOk cs m.Clients b
 st : ∃ (b0 : List Int) (done : List Mk.Write), Rt b0 (allN [] m.Store.Past) ∧ m.Store.Cells = wrs b0 done ∧ m.Store.Undo = (fwd b0 done).reverse ∧ (∃ (k : Mk.Call) (rest : List Mk.Write), CallOk k ∧ (planR (allN [] m.Store.Past) k).1 = done ++ rest) ∧
  (m.Up = true → m.Server.Busy = false → done = []) ∧ (m.Server.Busy = true → planR (allN [] m.Store.Past) m.Server.Now.Call = (done ++ m.Server.Plan, m.Server.Says))
 now : m.Server.Busy = true → ∃ c : Int, (0 ≤ c ∧ c < cs.length) ∧ m.Server.Now = ⟨c, cnt m.Store.Past c, call cs c (cnt m.Store.Past c)⟩ ∧ (cnt m.Store.Past c : Int) < (ix cs c).length ∧ (ix m.Clients c).At = cnt m.Store.Past c ∧ (ix m.Clients c).Sent = true
 idle : m.Server.Busy = false → m.Server = ⟨m.Server.Gen, m.Server.Box, false, req0, [], rep0⟩
section
variable {cs : List (List Mk.Call)} {m : Mk.Machine}
theorem plan_part {l : List Mk.Write} {k : Mk.Call} {done rest : List Mk.Write} (h : (planR l k).1 = done ++ rest) : done.length ≤ 3 := by
 have := planR_len l k
 rw [h, List.length_append] at this
 omega
theorem no_plan (l : List Mk.Write) : ∃ (k : Mk.Call) (rest : List Mk.Write), CallOk k ∧ (planR l k).1 = [] ++ rest :=
 ⟨⟨5, 0, 0, 0⟩, [], (wcall_ok _).1 (by decide), by simp [planR]⟩
theorem Inv.gen6 (h : Inv cs m) : m.Server.Gen ≤ 6 := by
 have h1 := h.falls; have h2 := h.up; have h3 := h.down
 cases hu : m.Up with
 | true => have := (h2 hu).2; omega
 | false => have := (h3 hu).2.2.2; omega
theorem Inv.sz (hcs : CsOk cs) (h : Inv cs m) : Sz m.Store := by
 obtain ⟨b0, done, hR, hc, hu, ⟨k, rest, _, hd⟩, _⟩ := h.st
 have hd := plan_part hd
 have h1 := hR.len
 have h2 := fwd_len b0 done
 have h3 := h.law.len hcs
 have h4 := h.law.ans_len hcs
 exact ⟨by rw [hc, wrs_len]; omega, by rw [hu, List.length_reverse]; omega, by rw [h.ans]; omega, by omega⟩
theorem Inv.back (h : Inv cs m) : ∃ b0, Rt b0 (allN [] m.Store.Past) ∧ wrs m.Store.Cells m.Store.Undo = b0 := by
 obtain ⟨b0, done, hR, hc, hu, hd, _⟩ := h.st
 exact ⟨b0, hR, by rw [hc, hu, wrs_back]⟩
theorem Inv.rest (h : Inv cs m) (hu : m.Up = true) (hb : m.Server.Busy = false) : Rt m.Store.Cells (allN [] m.Store.Past) ∧ m.Store.Undo = [] := by
 obtain ⟨b0, done, hR, hc, hun, hd, he, _⟩ := h.st
 have := he hu hb
 subst this
 rw [hc, hun]
 exact ⟨hR, rfl⟩
theorem ClOk.le8 (hcs : CsOk cs) {p : List Mk.Request} {g c : Int} {x : Mk.Client} (hl : Lawful cs p) (hc : 0 ≤ c ∧ c < cs.length) (h : ClOk cs p g c x) : x.At ≤ 8 ∧ x.Got.length ≤ 8 ∧ x.Calls.length ≤ 8 := by
 have h1 := hl.cnt_le c hc
 have h2 := hcs.len hc
 have h3 := h.at1
 have h4 := h.got
 have h5 := heardF_len [] p c
 have h6 := h.calls
 refine ⟨by omega, ?_, by rw [h6]; omega⟩
 rw [h4, List.length_take]; omega
theorem ClOk.got_len {p : List Mk.Request} {g c : Int} {x : Mk.Client} (h : ClOk cs p g c x) : (x.Got.length : Int) = x.At := by
 have h1 := h.at0; have h2 := h.at1
 rw [h.got, List.length_take, heardF_len]; omega
theorem ClOk.mono {p : List Mk.Request} {g g' c : Int} {x : Mk.Client} (h : ClOk cs p g c x) (hg : g ≤ g') : ClOk cs p g' c x :=
 ⟨h.calls, h.at0, h.at1, h.at2, h.sent, h.got, h.box, h.ans, ⟨h.gen.1, by have := h.gen.2; omega⟩, h.more⟩
theorem ix_take' {α : Type} [Inhabited α] (l : List α) (n : Nat) (j : Int) (hj : 0 ≤ j ∧ j < n) : ix (l.take n) j = ix l j := by
 have : j.toNat < n := by omega
 simp [ix, List.getElem?_take, this]
theorem AOk.snoc {p : List Mk.Request} {r : Mk.Request} {c : Int} {b : List UInt8} (h : AOk p c b) : AOk (p ++ [r]) c b := by
 obtain ⟨t, ht, rfl⟩ := h
 refine ⟨t, ⟨ht.1, by rw [cnt_snoc]; split <;> omega⟩, ?_⟩
 rw [heardF_snoc, ix_app _ _ _ (by rw [heardF_len]; exact ht)]
theorem QOk.up {cl : List Mk.Client} {n : Int} {x : Mk.Client} (hn : 0 ≤ n ∧ n < cl.length) (h1 : (ix cl n).At ≤ x.At) (h2 : x.At = (ix cl n).At → (ix cl n).Sent = true → x.Sent = true) {b : List UInt8} (h : QOk cs cl b) : QOk cs (up cl n x) b := by
 obtain ⟨c, t, hc, ht, hb, h3, h4⟩ := h
 refine ⟨c, t, hc, ht, hb, ?_⟩
 rw [ix_up _ _ _ _ hn hc.1]
 split
 ·rename_i e
  subst e
  exact ⟨by omega, fun e => h2 (by omega) (h4 (by omega))⟩
 ·exact ⟨h3, h4⟩
theorem Inv.withC (h : Inv cs m) {n : Int} (hn : 0 ≤ n ∧ n < cs.length) {x : Mk.Client} (hx : ClOk cs m.Store.Past m.Server.Gen n x) (h1 : (ix m.Clients n).At ≤ x.At) (h2 : x.At = (ix m.Clients n).At → (ix m.Clients n).Sent = true → x.Sent = true) : Inv cs (withC m n x) := by
 have hk := h.nk
 have hn2 : 0 ≤ n ∧ n < m.Clients.length := by omega
 refine ⟨h.law, h.ans, ?_, fun c hc => ?_, h.falls, h.gen, h.up, h.down, h.box, fun b hb => (h.q b hb).up hn2 h1 h2, h.st, fun hb => ?_, h.idle⟩
 ·show (Sp.up m.Clients n x).length = _
  rw [up_len, hk]
 ·show ClOk cs m.Store.Past m.Server.Gen c (ix (Sp.up m.Clients n x) c)
  rw [ix_up _ _ _ _ hn2 hc.1]
  split
  ·rename_i e; subst e; exact hx
  ·exact h.cl c hc
 ·obtain ⟨c, hc, e1, e2, e3, e4⟩ := h.now hb
  refine ⟨c, hc, e1, e2, ?_⟩
  show (ix (Sp.up m.Clients n x) c).At = cnt m.Store.Past c ∧ (ix (Sp.up m.Clients n x) c).Sent = true
  rw [ix_up _ _ _ _ hn2 hc.1]
  split
  ·rename_i e
   subst e
   have := hx.at1
   exact ⟨by omega, h2 (by omega) e4⟩
  ·exact ⟨e3, e4⟩
theorem inv_fall (h : Inv cs m) : Inv cs (fall m).1 := by
 unfold fall
 split
 ·exact h
 ·split
  ·exact h
  ·rename_i h1 h2
   have hu : m.Up = true := by cases hu : m.Up <;> simp_all
   have h3 := (h.up hu).2
   have h4 := h.falls
   refine ⟨h.law, h.ans, h.nk, h.cl, ⟨by simp only; omega, by simp only; omega⟩, h.gen, fun e => (by cases e), fun _ => ⟨rfl, ?_, ?_, ?_⟩, by simp [srv0], by simp [srv0], ?_, fun e => (by cases e), fun _ => rfl⟩
   ·unfold pauseOf; simp only; split <;> (try split) <;> omega
   ·unfold pauseOf; simp only; split <;> (try split) <;> omega
   ·show m.Server.Gen + 1 = m.Falls + 1; omega
   ·obtain ⟨b0, done, e1, e2, e3, e4, _⟩ := h.st
    exact ⟨b0, done, e1, e2, e3, e4, fun e => (by cases e), fun e => (by cases e)⟩
theorem inv_tick (h : Inv cs m) : Inv cs (tick m) := by
 unfold tick
 split
 ·exact h
 ·rename_i h1
  have hu : m.Up = false := by cases hu : m.Up <;> simp_all
  obtain ⟨d1, d2, d3, d4⟩ := h.down hu
  split
  ·rename_i h2
   refine ⟨h.law, h.ans, h.nk, h.cl, h.falls, h.gen, fun e => (by simp [hu] at e), fun _ => ⟨d1, by simp only; omega, by simp only; omega, d4⟩, h.box, h.q, h.st, h.now, h.idle⟩
  ·obtain ⟨b0, hR, hb⟩ := h.back
   have hg := h.gen
   refine ⟨h.law, h.ans, h.nk, fun c hc => (h.cl c hc).mono (by show m.Server.Gen ≤ m.Server.Gen + 1; omega), h.falls, by show 0 ≤ m.Server.Gen + 1; omega, fun _ => ⟨rfl, d4⟩, fun e => (by cases e), by simp [srv0], by simp [srv0], ?_, fun e => (by cases e), fun _ => rfl⟩
   exact ⟨b0, [], hR, hb, rfl, no_plan _, fun _ _ => rfl, fun e => (by cases e)⟩
theorem hear_ok (hcs : CsOk cs) {p : List Mk.Request} (hl : Lawful cs p) {g c : Int} (hc : 0 ≤ c ∧ c < cs.length) {x : Mk.Client} (h : ClOk cs p g c x) {b : List UInt8} {box : List (List UInt8)} (hb : x.Box = b :: box) :
  ClOk cs p g c (hear x b box c) ∧ x.At ≤ (hear x b box c).At ∧ ((hear x b box c).At = x.At → x.Sent = true → (hear x b box c).Sent = true) := by
 have h8 := h.le8 hcs hl hc
 have hbox : box.length ≤ 3 := by have := h.box; rw [hb] at this; simp at this; omega
 have hans : ∀ b' ∈ box, AOk p c b' := fun b' hb' => h.ans b' (by rw [hb]; simp [hb'])
 obtain ⟨t, ht, hbt⟩ := h.ans b (by rw [hb]; simp)
 have hn := hcs.n
 have h8' := hcs.len hc
 have hcl := hl.cnt_le c hc
 have hok : RepOk (ix (heardF [] p c) t) := hl.heard_ok hcs c _ (ix_mem _ t (by rw [heardF_len]; exact ht))
 have hread : readAns b = (⟨c, t, ix (heardF [] p c) t⟩, 0) := by rw [hbt]; exact readAns_ansB (wans_of (by omega) (by omega) hok)
 unfold hear
 rw [hread]
 simp only [true_and]
 by_cases hh : t = x.At ∧ x.Sent = true
 ·rw [if_pos hh]
  have h1 := h.at0; have h2 := h.at1; have h3 := h.at2
  refine ⟨⟨h.calls, by simp only; omega, by simp only; omega, by simp only; omega, fun e => (by simp only at e; omega), ?_, hbox, hans, h.gen, fun e => (by cases e)⟩, by simp only; omega, fun e => (by simp only at e; omega)⟩
  show x.Got ++ [ix (heardF [] p c) t] = (heardF [] p c).take (x.At + 1).toNat
  have e1 : (x.At + 1).toNat = x.At.toNat + 1 := by omega
  have e2 : x.At.toNat < (heardF [] p c).length := by rw [heardF_len]; omega
  have e3 : ix (heardF [] p c) t = (heardF [] p c)[x.At.toNat] := by rw [hh.1]; simp [ix, e2]
  rw [e1, h.got, e3]; simp
 ·rw [if_neg hh]
  exact ⟨⟨h.calls, h.at0, h.at1, h.at2, h.sent, h.got, hbox, hans, h.gen, h.more⟩, by simp only; omega, fun _ e => e⟩
theorem ccome_ok {p : List Mk.Request} {g c : Int} {x : Mk.Client} (h : ClOk cs p g c x) {b : List UInt8} (hb : AOk p c b) : ClOk cs p g c (cCome x b) ∧ (cCome x b).At = x.At ∧ (cCome x b).Sent = x.Sent := by
 unfold cCome
 split
 ·refine ⟨⟨h.calls, h.at0, h.at1, h.at2, h.sent, h.got, by simp; omega, fun b' hb' => ?_, h.gen, h.more⟩, rfl, rfl⟩
  rcases List.mem_append.1 hb' with hb' | hb'
  ·exact h.ans b' hb'
  ·simp only [List.mem_singleton] at hb'; subst hb'; exact hb
 ·exact ⟨h, rfl, rfl⟩
theorem doC_eq (hcs : CsOk cs) (h : Inv cs m) (n k : Int) : mkref6_Do m ⟨1, n⟩ = some (doC m n) ∧ Inv cs (doC m n).1 := by
 have hk := h.nk
 have hn3 := hcs.n
 have hbx := h.box
 unfold mkref6_Do doC
 simp only [J, decide_true, cT]
 by_cases hn : 0 ≤ n ∧ n < cs.length
 ·have hx := h.cl n hn
  have h8 := hx.le8 hcs h.law hn
  have hcb := hx.box
  have hf : (decide (n < 0) || decide ((m.Clients.length : Int) ≤ n)) = false := by
   simp only [Bool.or_eq_false_iff, decide_eq_false_iff_not]; omega
  rw [hf, cF, G_on (by omega), rgo_eq _ _ _ _ (by omega) (by omega) ⟨hx.at0, by omega⟩, obs, if_neg (show ¬ (n < 0 ∨ (m.Clients.length : Int) ≤ n) from by omega)]
  cases hB : (ix m.Clients n).Box with
  | cons b box =>
   have e : cGo (ix m.Clients n) n m.Server.Gen m.Up = (hear (ix m.Clients n) b box n, [], 0) := by unfold cGo; rw [hB]
   obtain ⟨o1, o2, o3⟩ := hear_ok hcs h.law hn hx hB
   rw [e]
   simp only [decide_true, nT, cF, ne_eq, not_true, if_false, if_true, List.length_nil]
   rw [show decide ((0 : Int) < ((0 : Nat) : Int)) = false from by decide, cF, rwith_eq _ _ _ (by omega) (by omega), obs]
   exact ⟨rfl, h.withC hn o1 o2 o3⟩
  | nil =>
   by_cases c1 : ((ix m.Clients n).Calls.length : Int) ≤ (ix m.Clients n).At
   ·have e : cGo (ix m.Clients n) n m.Server.Gen m.Up = (ix m.Clients n, [], 11) := by unfold cGo; rw [hB]; simp [c1]
    rw [e]
    simp only [show decide ((11 : Int) = 0) = false from by decide, nF, cT, show ((11 : Int) ≠ 0) = True from by simp, if_true]
    exact ⟨by first | rfl | trivial, h⟩
   ·rcases Bool.eq_false_or_eq_true m.Up with hu | hu
    rotate_left
    ·have e : cGo (ix m.Clients n) n m.Server.Gen m.Up = (ix m.Clients n, [], 10) := by unfold cGo; rw [hB]; simp [c1, hu]
     rw [e]
     simp only [show decide ((10 : Int) = 0) = false from by decide, nF, cT, show ((10 : Int) ≠ 0) = True from by simp, if_true]
     exact ⟨by first | rfl | trivial, h⟩
    ·by_cases c2 : (ix m.Clients n).Sent = true ∧ (ix m.Clients n).Gen = m.Server.Gen
     ·have e : cGo (ix m.Clients n) n m.Server.Gen m.Up = (ix m.Clients n, [], 12) := by unfold cGo; rw [hB]; simp [c1, c2, hu, hB]
      rw [e]
      simp only [show decide ((12 : Int) = 0) = false from by decide, nF, cT, show ((12 : Int) ≠ 0) = True from by simp, if_true]
      exact ⟨by first | rfl | trivial, h⟩
     ·have e : cGo (ix m.Clients n) n m.Server.Gen m.Up = ({ (ix m.Clients n) with Sent := true, Gen := m.Server.Gen }, reqB ⟨n, (ix m.Clients n).At, ix (ix m.Clients n).Calls (ix m.Clients n).At⟩, 0) := by unfold cGo; rw [hB]; simp [c1, c2, hu, hB]
      have hne : reqB ⟨n, (ix m.Clients n).At, ix (ix m.Clients n).Calls (ix m.Clients n).At⟩ ≠ [] := by unfold reqB; simp
      have hlen : (0 : Int) < ((reqB ⟨n, (ix m.Clients n).At, ix (ix m.Clients n).Calls (ix m.Clients n).At⟩).length : Int) := by
       have := List.length_pos_iff.2 hne; omega
      rw [e]
      simp only [decide_true, nT, cF, ne_eq, not_true, if_false, hne, dT hlen, cT]
      rw [rscome_eq _ _ (by omega), obs]
      by_cases c3 : 3 ≤ m.Server.Box.length
      ·have e2 : sCome m.Server (reqB ⟨n, (ix m.Clients n).At, ix (ix m.Clients n).Calls (ix m.Clients n).At⟩) = (m.Server, 9) := by unfold sCome; rw [if_pos c3]
       rw [e2]
       simp only [show decide ((9 : Int) = 0) = false from by decide, nF, cT, show ¬ ((9 : Int) = 0) from by decide, not_false_eq_true, if_true]
       exact ⟨by first | rfl | trivial, h⟩
      ·have e2 : sCome m.Server (reqB ⟨n, (ix m.Clients n).At, ix (ix m.Clients n).Calls (ix m.Clients n).At⟩) = ({ m.Server with Box := m.Server.Box ++ [reqB ⟨n, (ix m.Clients n).At, ix (ix m.Clients n).Calls (ix m.Clients n).At⟩] }, 0) := by unfold sCome; rw [if_neg c3]
       rw [e2]
       simp only [decide_true, nT, cF, not_true, if_false]
       rw [rwith_eq _ _ _ (by show m.Clients.length ≤ 1000; omega) (by show 0 ≤ n ∧ n < (m.Clients.length : Int); omega), obs]
       refine ⟨rfl, ?_⟩
       have hm : Inv cs (withC m n { (ix m.Clients n) with Sent := true, Gen := m.Server.Gen }) := by
        refine h.withC hn ⟨hx.calls, hx.at0, hx.at1, hx.at2, fun _ => rfl, hx.got, hx.box, hx.ans, ⟨h.gen, by simp only; omega⟩, fun _ => ?_⟩ (by simp only; omega) (fun _ _ => rfl)
        show (ix m.Clients n).At < ((ix m.Clients n).Calls.length : Int)
        omega
       refine ⟨hm.law, hm.ans, hm.nk, hm.cl, hm.falls, hm.gen, hm.up, fun e => ?_, ?_, fun b hb => ?_, hm.st, hm.now, fun e => ?_⟩
       ·have e' : m.Up = false := e
        rw [hu] at e'
        cases e'
       ·show (m.Server.Box ++ [_]).length ≤ 3
        simp; omega
       ·rcases List.mem_append.1 hb with hb | hb
        ·exact hm.q b hb
        ·simp only [List.mem_singleton] at hb
         subst hb
         have hcal := hx.calls
         refine ⟨n, (ix m.Clients n).At, hn, ⟨hx.at0, by rw [← hcal]; omega⟩, by rw [hcal]; rfl, ?_⟩
         show (ix m.Clients n).At ≤ (ix (up m.Clients n _) n).At ∧ ((ix m.Clients n).At = (ix (up m.Clients n _) n).At → (ix (up m.Clients n _) n).Sent = true)
         rw [ix_up _ _ _ _ (by omega) hn.1, if_pos rfl]
         exact ⟨Int.le_refl _, fun _ => rfl⟩
       ·have := h.idle e
        show (⟨m.Server.Gen, m.Server.Box ++ [_], m.Server.Busy, m.Server.Now, m.Server.Plan, m.Server.Says⟩ : Mk.Server) = _
        rw [this]; rfl
 ·have hf : (decide (n < 0) || decide ((m.Clients.length : Int) ≤ n)) = true := by
   simp only [Bool.or_eq_true, decide_eq_true_eq]; omega
  rw [hf, cT, if_pos (by omega)]
  exact ⟨rfl, h⟩
end
end Sp
end
section
namespace Sp
section
variable {cs : List (List Mk.Call)} {m : Mk.Machine}
theorem ansB_at (a : Mk.Answer) (h : 0 ≤ a.Client ∧ a.Client < 3) : ((ix (ansB a) 1).toNat : Int) = a.Client := by
 show ((u8 a.Client).toNat : Int) = a.Client
 exact u8_nat _ (by omega)
theorem ansB_ne (a : Mk.Answer) : ansB a ≠ [] := by unfold ansB; simp
theorem toC_ans (a : Mk.Answer) (hc : 0 ≤ a.Client ∧ a.Client < m.Clients.length) (h3 : m.Clients.length ≤ 3) : toC m (ansB a) = withC m a.Client (cCome (ix m.Clients a.Client) (ansB a)) := by
 unfold toC
 rw [if_neg (ansB_ne a), ansB_at a (by omega), if_pos hc.2]
theorem Inv.toC (h : Inv cs m) {c : Int} (hc : 0 ≤ c ∧ c < cs.length) (hn : cs.length ≤ 3) {t : Int} (ht : 0 ≤ t ∧ t < cnt m.Store.Past c) : Inv cs (Sp.toC m (ansB ⟨c, t, ix (heardF [] m.Store.Past c) t⟩)) := by
 have hk := h.nk
 rw [toC_ans _ (by simp only; omega) (by omega)]
 obtain ⟨o1, o2, o3⟩ := ccome_ok (h.cl c hc) (b := ansB ⟨c, t, ix (heardF [] m.Store.Past c) t⟩) ⟨t, ht, rfl⟩
 exact h.withC hc o1 (by simp only [o2]; omega) (fun _ e => by simp only [o3]; exact e)
theorem Inv.served (hcs : CsOk cs) (h : Inv cs m) (hu : m.Up = true) : Inv cs { m with Store := (serve m.Store m.Server).1, Server := (serve m.Store m.Server).2.1 } ∧
  ((serve m.Store m.Server).2.2.2 = 0 → (serve m.Store m.Server).2.2.1 = [] ∨ ∃ c t : Int, (0 ≤ c ∧ c < cs.length) ∧ (0 ≤ t ∧ t < cnt (serve m.Store m.Server).1.Past c) ∧ (serve m.Store m.Server).2.2.1 = ansB ⟨c, t, ix (heardF [] (serve m.Store m.Server).1.Past c) t⟩) := by
 obtain ⟨b0, done, hR, hC, hU, hd, he, hp⟩ := h.st
 have hn3 := hcs.n
 have hbx := h.box
 cases hb : m.Server.Busy with
 | true =>
  have hplan := hp hb
  obtain ⟨c, hc, n1, n2, n3, n4⟩ := h.now hb
  cases hP : m.Server.Plan with
  | cons w p =>
   have e : serve m.Store m.Server = (wrS m.Store w, { m.Server with Plan := p }, [], 0) := by unfold serve; rw [if_pos hb, hP]
   rw [e]
   refine ⟨?_, fun _ => .inl rfl⟩
   have hlen := planR_len (allN [] m.Store.Past) m.Server.Now.Call
   rw [hplan, hP] at hlen
   simp only [List.length_append, List.length_cons] at hlen
   have e1 : (wrS m.Store w).Past = m.Store.Past := by unfold wrS; split <;> rfl
   have e2 : (wrS m.Store w).Answers = m.Store.Answers := by unfold wrS; split <;> rfl
   have e3 : (wrS m.Store w).Cells = wrs b0 (done ++ [w]) := by
    rw [wrs_append, ← hC]
    unfold wrS
    show _ = wr m.Store.Cells w
    split
    ·rfl
    ·rename_i h1; unfold wr; rw [if_neg h1]
   have e4 : (wrS m.Store w).Undo = (fwd b0 (done ++ [w])).reverse := by
    have hl : m.Store.Cells.length = b0.length := by rw [hC, wrs_len]
    rw [fwd_snoc, List.reverse_append, ← hU, ← hC, ← hl]
    unfold wrS
    split <;> simp
   refine ⟨by rw [e1]; exact h.law, by rw [e1, e2]; exact h.ans, h.nk, fun c hc => by rw [e1]; exact h.cl c hc, h.falls, h.gen, h.up, fun e => (by rw [hu] at e; cases e), h.box, h.q, ?_, fun _ => ?_, fun e => (by rw [hb] at e; cases e)⟩
   ·refine ⟨b0, done ++ [w], by rw [e1]; exact hR, e3, e4, ⟨m.Server.Now.Call, p, by rw [n1]; exact hcs.call hc (by omega), by rw [e1]; show (planR (allN [] m.Store.Past) m.Server.Now.Call).1 = _; rw [hplan, hP]; simp⟩, fun _ e => (by rw [hb] at e; cases e), fun _ => ?_⟩
    rw [e1]
    show planR (allN [] m.Store.Past) m.Server.Now.Call = (done ++ [w] ++ p, m.Server.Says)
    rw [hplan, hP]; simp
   ·refine ⟨c, hc, ?_⟩
    rw [e1]; exact ⟨n1, n2, n3, n4⟩
  | nil =>
   have e : serve m.Store m.Server = (commit m.Store m.Server.Now m.Server.Says, ⟨m.Server.Gen, m.Server.Box, false, req0, [], rep0⟩, ansB ⟨m.Server.Now.Client, m.Server.Now.Token, m.Server.Says⟩, 0) := by unfold serve; rw [hb, hP]; rfl
   rw [e]
   rw [hP, List.append_nil] at hplan
   have hcal : CallOk m.Server.Now.Call := by rw [n1]; exact hcs.call hc (by omega)
   obtain ⟨r1, r2⟩ := plan_rt hR hcal
   have hsay : m.Server.Says = (doP (allN [] m.Store.Past) m.Server.Now.Call).2 := by rw [← r2, hplan]
   rw [hplan, ← hC] at r1
   have hlaw : Lawful cs (m.Store.Past ++ [m.Server.Now]) := by
    rw [n1] at *
    exact .snoc h.law hc rfl n2 rfl
   have ecl : m.Server.Now.Client = c := by rw [n1]
   have etk : m.Server.Now.Token = cnt m.Store.Past c := by rw [n1]
   have ecnt : cnt (m.Store.Past ++ [m.Server.Now]) c = cnt m.Store.Past c + 1 := by rw [cnt_snoc, if_pos ecl]
   have ehd : heardF [] (m.Store.Past ++ [m.Server.Now]) c = heardF [] m.Store.Past c ++ [m.Server.Says] := by rw [heardF_snoc, if_pos ecl, hsay]
   refine ⟨⟨hlaw, ?_, h.nk, fun d hd' => ?_, h.falls, h.gen, h.up, fun e => (by rw [hu] at e; cases e), h.box, h.q, ?_, fun e => (by cases e), fun _ => rfl⟩, fun _ => .inr ⟨c, (cnt m.Store.Past c : Int), hc, ?_, ?_⟩⟩
   ·show ansPut m.Store.Answers ⟨m.Server.Now.Client, m.Server.Now.Token, m.Server.Says⟩ = ansF [] [] (m.Store.Past ++ [m.Server.Now])
    rw [ansF_snoc, h.ans, hsay]
   ·have hx := h.cl d hd'
    show ClOk cs (m.Store.Past ++ [m.Server.Now]) m.Server.Gen d (ix m.Clients d)
    have hat1 := hx.at1
    have hat2 := hx.at2
    have hmon : cnt (m.Store.Past ++ [m.Server.Now]) d = cnt m.Store.Past d + if m.Server.Now.Client = d then 1 else 0 := cnt_snoc _ _ _
    refine ⟨hx.calls, hx.at0, by omega, ?_, ?_, ?_, hx.box, fun b hb' => (hx.ans b hb').snoc, hx.gen, hx.more⟩
    ·by_cases ed : m.Server.Now.Client = d
     ·rw [if_pos ed] at hmon
      have : c = d := by rw [← ecl, ed]
      subst this
      omega
     ·rw [if_neg ed] at hmon; omega
    ·by_cases ed : m.Server.Now.Client = d
     ·have : c = d := by rw [← ecl, ed]
      subst this
      exact fun _ => n4
     ·rw [if_neg ed] at hmon
      intro e; exact hx.sent (by omega)
    ·rw [heardF_snoc, List.take_append_of_le_length (by rw [heardF_len]; have := hx.at0; omega)]
     exact hx.got
   ·refine ⟨m.Store.Cells, [], ?_, rfl, rfl, no_plan _, fun _ _ => rfl, fun e => (by cases e)⟩
    show Rt m.Store.Cells (allN [] (m.Store.Past ++ [m.Server.Now]))
    rw [allN_snoc]; exact r1
   ·show 0 ≤ (cnt m.Store.Past c : Int) ∧ (cnt m.Store.Past c : Int) < (cnt (m.Store.Past ++ [m.Server.Now]) c : Int)
    rw [ecnt]; omega
   ·show ansB ⟨m.Server.Now.Client, m.Server.Now.Token, m.Server.Says⟩ = ansB ⟨c, (cnt m.Store.Past c : Int), ix (heardF [] (m.Store.Past ++ [m.Server.Now]) c) (cnt m.Store.Past c : Int)⟩
    rw [ehd, ix_last _ _ _ (by rw [heardF_len]), ecl, etk]
 | false =>
  have hdn := he hu hb
  subst hdn
  have hid := h.idle hb
  have hC' : m.Store.Cells = b0 := hC
  cases hB : m.Server.Box with
  | nil =>
   have e : serve m.Store m.Server = (m.Store, m.Server, [], 12) := by
    unfold serve
    rw [hb, hB]; rfl
   rw [e]
   exact ⟨h, fun e => by cases e⟩
  | cons b box =>
   have e : serve m.Store m.Server = (m.Store, (take1 m.Store m.Server b box).1, (take1 m.Store m.Server b box).2, 0) := by
    unfold serve
    rw [hb, hB]; rfl
   rw [e]
   obtain ⟨c, t, hc, ht, hbt, q1, q2⟩ := h.q b (by rw [hB]; simp)
   have hx := h.cl c hc
   have h8 := hcs.len hc
   have hread : readReq b = (⟨c, t, call cs c t⟩, 0) := by rw [hbt]; exact readReq_reqB (wreq_of (by omega) (by omega) (hcs.call hc ht))
   have hlast : last m.Store c = if cnt m.Store.Past c = 0 then (ans0, false) else (⟨c, (cnt m.Store.Past c : Int) - 1, ix (heardF [] m.Store.Past c) ((cnt m.Store.Past c : Int) - 1)⟩, true) := by
    unfold last
    rw [h.ans, h.law.find c]
    by_cases h0 : cnt m.Store.Past c = 0
    ·rw [if_pos h0, if_pos h0]
    ·rw [if_neg h0, if_neg h0]
   have hbx2 : box.length ≤ 3 := by rw [hB] at hbx; simp at hbx; omega
   have hq : ∀ b' ∈ box, QOk cs m.Clients b' := fun b' hb' => h.q b' (by rw [hB]; simp [hb'])
   have keep : Inv cs { m with Server := { m.Server with Box := box } } :=
    ⟨h.law, h.ans, h.nk, h.cl, h.falls, h.gen, h.up, fun e => (by rw [hu] at e; cases e), hbx2, hq, ⟨b0, [], hR, hC, hU, no_plan _, fun _ _ => rfl, fun e => (by rw [hb] at e; cases e)⟩, fun e => (by rw [hb] at e; cases e), fun _ => (by
     show (⟨m.Server.Gen, box, m.Server.Busy, m.Server.Now, m.Server.Plan, m.Server.Says⟩ : Mk.Server) = _
     rw [hid])⟩
   unfold take1
   rw [hread]
   simp only [ne_eq, not_true, if_false]
   by_cases h1 : (last m.Store c).2 = true ∧ t ≤ (last m.Store c).1.Token
   ·rw [if_pos h1]
    have h0 : cnt m.Store.Past c ≠ 0 := by
     intro h0
     rw [hlast, if_pos h0] at h1
     exact absurd h1.1 (by simp)
    rw [hlast, if_neg h0] at h1 ⊢
    simp only at h1 ⊢
    by_cases h2 : (cnt m.Store.Past c : Int) - 1 = t
    ·rw [if_pos h2]
     refine ⟨keep, fun _ => .inr ⟨c, (cnt m.Store.Past c : Int) - 1, hc, by omega, rfl⟩⟩
    ·rw [if_neg h2]
     exact ⟨keep, fun _ => .inl rfl⟩
   ·rw [if_neg h1]
    have htc : t = cnt m.Store.Past c := by
     have := hx.at1
     rw [hlast] at h1
     by_cases h0 : cnt m.Store.Past c = 0
     ·omega
     ·rw [if_neg h0] at h1
      simp only [true_and] at h1
      omega
    have hat := hx.at1
    refine ⟨?_, fun _ => .inl rfl⟩
    have hent : entries m.Store.Cells = allN [] m.Store.Past := entries_of (by rw [hC']; exact hR)
    refine ⟨h.law, h.ans, h.nk, h.cl, h.falls, h.gen, h.up, fun e => (by rw [hu] at e; cases e), hbx2, hq, ⟨b0, [], hR, hC, hU, no_plan _, fun _ _ => rfl, fun _ => ?_⟩, fun _ => ⟨c, hc, ?_, (by show (cnt m.Store.Past c : Int) < ((ix cs c).length : Int); omega), (by show (ix m.Clients c).At = (cnt m.Store.Past c : Int); omega), q2 (by omega)⟩, fun e => (by cases e)⟩
    ·show planR (allN [] m.Store.Past) (call cs c t) = ([] ++ (planR (entries m.Store.Cells) (call cs c t)).1, (planR (entries m.Store.Cells) (call cs c t)).2)
     rw [hent]; rfl
    ·show (⟨c, t, call cs c t⟩ : Mk.Request) = ⟨c, cnt m.Store.Past c, call cs c (cnt m.Store.Past c)⟩
     rw [htc]
theorem doS_eq (hcs : CsOk cs) (h : Inv cs m) (k : Int) : mkref6_Do m ⟨2, k⟩ = some (doS m) ∧ Inv cs (doS m).1 := by
 have hk := h.nk
 have hn3 := hcs.n
 have hs := h.sz hcs
 unfold mkref6_Do doS
 simp only [J, show decide ((2 : Int) = 1) = false from by decide, cF, decide_true, cT]
 rcases Bool.eq_false_or_eq_true m.Up with hu | hu
 rotate_left
 ·rw [if_pos hu]
  refine ⟨?_, h⟩
  rw [hu]; rfl
 ·rw [if_neg (by rw [hu]; simp)]
  have hr : m.Server.Busy = false → Rt m.Store.Cells (entries m.Store.Cells) := fun hb => by
   have := (h.rest hu hb).1
   rw [entries_of this]; exact this
  obtain ⟨i1, i2⟩ := h.served hcs hu
  rw [hu] at i1 ⊢
  rw [nT, cF, rserve_eq hs hr, obs]
  by_cases h0 : (serve m.Store m.Server).2.2.2 = 0
  ·rw [dT h0, nT, cF, if_neg (by simp [h0])]
   rcases i2 h0 with e | ⟨c, t, hc, ht, e⟩
   ·rw [e]
    exact ⟨rfl, by unfold Sp.toC; rw [if_pos rfl]; exact i1⟩
   ·have hl : (0 : Int) < ((serve m.Store m.Server).2.2.1.length : Int) := by
     rw [e]; unfold ansB nb; simp <;> omega
    have hl2 : (1 : Int) < ((serve m.Store m.Server).2.2.1.length : Int) := by
     rw [e]; unfold ansB nb; simp <;> omega
    have hat : ((ix (serve m.Store m.Server).2.2.1 1).toNat : Int) = c := by rw [e]; exact ansB_at _ (by simp only; omega)
    have hx := (i1.cl c hc).box
    rw [dT hl, cT, G_on ⟨by decide, hl2⟩, hat, dT (by omega), cT, G_on (by omega), rccome_eq _ _ (by simp only at hx; omega), obs, rwith_eq _ _ _ (by show m.Clients.length ≤ 1000; omega) (by show 0 ≤ c ∧ c < (m.Clients.length : Int); omega), obs]
    have ht2 : Inv cs (Sp.toC { m with Store := (serve m.Store m.Server).1, Server := (serve m.Store m.Server).2.1, Up := true } (serve m.Store m.Server).2.2.1) := by
     rw [e]; exact i1.toC hc hn3 ht
    refine ⟨?_, ht2⟩
    unfold Sp.toC
    rw [if_neg (by rw [e]; exact ansB_ne _), hat, if_pos (by show c < (m.Clients.length : Int); omega)]
  ·rw [dF h0, nF, cT, if_pos (by simpa using h0)]
   exact ⟨rfl, h⟩
theorem do_step (hcs : CsOk cs) (h : Inv cs m) (s : Mk.Step) : mkref6_Do m s = some (doM m s) ∧ Inv cs (doM m s).1 := by
 obtain ⟨k, n⟩ := s
 unfold doM
 by_cases h1 : k = 1
 ·subst h1; simpa using doC_eq hcs h n 0
 ·by_cases h2 : k = 2
  ·subst h2; simpa using doS_eq hcs h n
  ·by_cases h3 : k = 3
   ·subst h3
    refine ⟨?_, by simpa using inv_fall h⟩
    unfold mkref6_Do
    simp only [J, show decide ((3 : Int) = 1) = false from by decide, show decide ((3 : Int) = 2) = false from by decide, cF, decide_true, cT]
    rw [rfall_eq m h.falls, obs]; rfl
   ·by_cases h4 : k = 4
    ·subst h4
     refine ⟨?_, by simpa using inv_tick h⟩
     unfold mkref6_Do
     simp only [J, show decide ((4 : Int) = 1) = false from by decide, show decide ((4 : Int) = 2) = false from by decide, show decide ((4 : Int) = 3) = false from by decide, cF, decide_true, cT]
     have hp : 0 ≤ m.Pause ∧ m.Pause ≤ 1000 := by
      rcases Bool.eq_false_or_eq_true m.Up with hu | hu
      ·have := (h.up hu).1; omega
      ·have := h.down hu; omega
     rw [rtick_eq m (h.sz hcs) hp ⟨h.gen, by have := h.gen6; omega⟩, obs]; rfl
    ·simp only [h1, h2, h3, h4, if_false]
     refine ⟨?_, h⟩
     unfold mkref6_Do
     rw [dF h1, cF, dF h2, cF, dF h3, cF, dF h4, cF]
end
end Sp
end
section
namespace Sp
def sto0 : Mk.Store := ⟨[], [], [], []⟩
def mach0 : Mk.Machine := ⟨sto0, srv0 0, false, 0, 0, []⟩
def badC : List Mk.Call → Int
 | [] => 0
 | c :: l => if wcall c ≠ 0 then wcall c else badC l
def badL : List (List Mk.Call) → Int
 | [] => 0
 | x :: l => if 8 < x.length then 4 else if badC x ≠ 0 then badC x else badL l
def cl0 (x : List Mk.Call) : Mk.Client := ⟨x, 0, false, 0, [], []⟩
def newM (l : List (List Mk.Call)) : Mk.Machine × Int :=
 if 3 < l.length then (mach0, 5) else if badL l ≠ 0 then (mach0, badL l) else (⟨⟨List.replicate 11 0, [], [], []⟩, srv0 0, true, 0, 0, l.map cl0⟩, 0)
theorem badC_ok (l : List Mk.Call) (h : badC l = 0) : ∀ c ∈ l, CallOk c := by
 induction l with
 | nil => simp
 | cons c l ih =>
  unfold badC at h
  split at h
  ·rename_i h1; exact (h1 h).elim
  ·rename_i h1
   intro x hx
   rcases List.mem_cons.1 hx with rfl | hx
   ·exact (wcall_ok _).1 (Classical.not_not.1 h1)
   ·exact ih h x hx
theorem badL_ok (l : List (List Mk.Call)) (h : badL l = 0) : ∀ x ∈ l, x.length ≤ 8 ∧ ∀ c ∈ x, CallOk c := by
 induction l with
 | nil => simp
 | cons x l ih =>
  unfold badL at h
  split at h
  ·cases h
  ·split at h
   ·rename_i h1; exact (h1 h).elim
   ·rename_i h1 h2
    intro y hy
    rcases List.mem_cons.1 hy with rfl | hy
    ·exact ⟨by omega, badC_ok _ (Classical.not_not.1 h2)⟩
    ·exact ih h y hy
theorem rt_zero : Rt (List.replicate 11 0) [] := by
 refine ⟨by simp, rfl, by simp, fun i hi => by simp at hi, by simp, by simp⟩
theorem newM_inv {l : List (List Mk.Call)} (h : (newM l).2 = 0) : CsOk l ∧ Inv l (newM l).1 ∧ (newM l).1 = ⟨⟨List.replicate 11 0, [], [], []⟩, srv0 0, true, 0, 0, l.map cl0⟩ := by
 unfold newM at h ⊢
 split at h
 ·cases h
 ·split at h
  ·rename_i h1 h2; exact (h2 h).elim
  ·rename_i h1 h2
   rw [if_neg h1, if_neg h2]
   have hcs : CsOk l := ⟨by omega, badL_ok l (Classical.not_not.1 h2)⟩
   refine ⟨hcs, ⟨.nil, rfl, by simp, fun c hc => ?_, ⟨(show (0 : Int) ≤ 0 by decide), (show (0 : Int) ≤ 6 by decide)⟩, (show (0 : Int) ≤ 0 by decide), fun _ => ⟨rfl, rfl⟩, fun e => (by cases e), by simp [srv0], by simp [srv0], ⟨List.replicate 11 0, [], rt_zero, rfl, rfl, no_plan _, fun _ _ => rfl, fun e => (by cases e)⟩, fun e => (by cases e), fun _ => rfl⟩, rfl⟩
   have e : ix (l.map cl0) c = cl0 (ix l c) := by
    have : c.toNat < l.length := by omega
    simp [ix, this]
   show ClOk l [] 0 c (ix (l.map cl0) c)
   rw [e]
   exact ⟨rfl, by simp [cl0], by simp [cl0], by simp [cl0, cnt], fun h => (by simp [cl0, cnt] at h), rfl, by simp [cl0], by simp [cl0], by simp [cl0], fun h => (by cases h)⟩
theorem inv_run {cs : List (List Mk.Call)} (hcs : CsOk cs) {M : Mk.Machine} (h : Inv cs M) (l : List Mk.Step) : Inv cs (runM M l) := by
 induction l generalizing M with
 | nil => exact h
 | cons s l ih => exact ih (do_step hcs h s).2
theorem play_inv {cs : List (List Mk.Call)} (h0 : (newM cs).2 = 0) (steps : List Mk.Step) : CsOk cs ∧ Inv cs (runM (newM cs).1 (steps.take 400)) := by
 obtain ⟨hcs, hM, _⟩ := newM_inv h0
 exact ⟨hcs, inv_run hcs hM _⟩
end Sp
end
section
namespace Sp
theorem cloneBx_eq (l : List (List UInt8)) (h : l.length ≤ 1000000) : slices_Clone_____byte___byte_ l = some l := by
 unfold slices_Clone_____byte___byte_
 rw [G_on (by simp; omega)]; simp
theorem cloneBy_eq (l : List UInt8) (h : l.length ≤ 140737488355328) : slices_Clone___byte_byte_ l = some l := by
 unfold slices_Clone___byte_byte_
 rw [G_on (by simp; omega)]; simp
theorem cloneRe_eq (l : List Mk.Reply) (h : l.length ≤ 1000000) : slices_Clone___api_Reply_api_Reply_ l = some l := by
 unfold slices_Clone___api_Reply_api_Reply_
 rw [G_on (by simp; omega)]; simp
theorem ccome_eq (c : Mk.Client) (b : List UInt8) (hb : b.length ≤ 140737488355328) : client_Come c b = some (cCome c b) := by
 unfold client_Come cCome
 simp only [J]
 by_cases h : c.Box.length < 3
 ·rw [dT (by omega), cT, cloneBx_eq _ (by omega), obs, cloneBy_eq _ hb, obs, G_on (by simp; omega), if_pos h]
 ·rw [dF (by omega), cF, if_neg h]
theorem chear_eq (c : Mk.Client) (b : List UInt8) (box : List (List UInt8)) (hB : c.Box = b :: box) (me : Int) (hb : c.Box.length ≤ 1000) (hg : c.Got.length ≤ 1000) (hat : 0 ≤ c.At ∧ c.At ≤ 1000) : client_hear c me = some (hear c b box me) := by
 obtain ⟨K, A, S, g, B, R⟩ := c
 simp only at hB hb hg hat
 subst hB
 have e1 : ix (b :: box) 0 = b := rfl
 have e2 : sub (b :: box) 1 ((b :: box).length : Int) = box := by simp [sub]
 have hbx : box.length ≤ 1000 := by simp at hb; omega
 unfold client_hear hear
 simp only [J, e1, e2]
 rw [G_on (by simp <;> omega), readAnswer_eq, obs, G_on (by simp <;> omega), cloneBx_eq _ (by omega), obs]
 by_cases h : (readAns b).2 = 0 ∧ (readAns b).1.Client = me ∧ (readAns b).1.Token = A ∧ S = true
 ·obtain ⟨h1, h2, h3, h4⟩ := h
  simp only [h1, h2, h3, h4, decide_true, Bool.and_self, cT, and_self, if_true]
  rw [cloneRe_eq _ (by omega), obs, G_on (by simp <;> omega), G_on (by unfold I; omega)]
 ·have hf : (((decide ((readAns b).2 = 0) && decide ((readAns b).1.Client = me)) && decide ((readAns b).1.Token = A)) && S) = false := by
   cases S <;> simp_all
  rw [hf, cF, if_neg h]
theorem reqB_ne (r : Mk.Request) : reqB r ≠ [] := by unfold reqB; simp
theorem cgo_eq (c : Mk.Client) (me gen : Int) (up : Bool) (hb : c.Box.length ≤ 1000) (hg : c.Got.length ≤ 1000) (hat : 0 ≤ c.At ∧ c.At ≤ 1000) : client_Go c me gen up = some (cGo c me gen up) := by
 unfold client_Go cGo
 cases hB : c.Box with
 | cons b box =>
  rw [dT (by simp <;> omega), cT, chear_eq c b box hB me hb hg hat, obs]
 | nil =>
  simp only [List.length_nil]
  rw [dF (by decide), cF]
  by_cases h1 : (c.Calls.length : Int) ≤ c.At
  ·rw [dT h1, cT, if_pos h1]
  ·rw [dF h1, cF, if_neg h1]
   cases up with
   | false => rfl
   | true =>
    simp only [nT, cF]
    by_cases h2 : c.Sent = true ∧ c.Gen = gen
    ·simp [h2.1, h2.2]
    ·have hf : (c.Sent && decide (c.Gen = gen)) = false := by cases hS : c.Sent <;> simp_all
     rw [hf, cF, G_on (by omega), request_eq, obs, G_on (reqB_ne _)]
     simp only [Bool.true_eq_false, if_false, if_neg h2]
structure Szc (c : Mk.Client) : Prop where
 k : c.Calls.length ≤ 1000000
 b : c.Box.length ≤ 1000000
 g : c.Got.length ≤ 1000000
theorem ClOk.sz {cs : List (List Mk.Call)} (hcs : CsOk cs) {p : List Mk.Request} {g c : Int} {x : Mk.Client} (hl : Lawful cs p) (hc : 0 ≤ c ∧ c < cs.length) (h : ClOk cs p g c x) : Szc x := by
 have h1 := h.le8 hcs hl hc
 have h2 := h.box
 exact ⟨by omega, by omega, by omega⟩
end Sp
end
section
namespace Sp
structure Smb (l : List (List UInt8)) : Prop where
 n : l.length ≤ 1000
 b : ∀ x ∈ l, x.length ≤ 140737488355328
structure Smk (c : Mk.Client) : Prop where
 k : c.Calls.length ≤ 1000
 b : Smb c.Box
 g : c.Got.length ≤ 1000
structure Smm (m : Mk.Machine) : Prop where
 s : Sz m.Store
 b : Smb m.Server.Box
 p : m.Server.Plan.length ≤ 1000
 n : m.Clients.length ≤ 1000
 c : ∀ x ∈ m.Clients, Smk x
theorem reqB_len (r : Mk.Request) : (reqB r).length = 10 := by unfold reqB nb; simp
theorem ansB_len (a : Mk.Answer) : (ansB a).length = 8 := by unfold ansB nb; simp
theorem Inv.smm {cs : List (List Mk.Call)} {m : Mk.Machine} (hcs : CsOk cs) (h : Inv cs m) : Smm m := by
 have hn := hcs.n
 have hk := h.nk
 refine ⟨h.sz hcs, ⟨by have := h.box; omega, fun x hx => ?_⟩, ?_, by omega, fun x hx => ?_⟩
 ·obtain ⟨c, t, _, _, rfl, _⟩ := h.q x hx
  rw [reqB_len]; decide
 ·cases hb : m.Server.Busy with
  | true =>
   obtain ⟨b0, done, _, _, _, _, _, hp⟩ := h.st
   have := planR_len (allN [] m.Store.Past) m.Server.Now.Call
   rw [hp hb, List.length_append] at this
   omega
  | false => rw [h.idle hb]; simp
 ·obtain ⟨i, hi, e⟩ := List.mem_iff_getElem.1 hx
  have hc := h.cl (i : Int) (by omega)
  rw [ix_nat _ i hi, e] at hc
  have h8 := hc.le8 hcs h.law (by omega)
  refine ⟨by omega, ⟨by have := hc.box; omega, fun b hb => ?_⟩, by omega⟩
  obtain ⟨t, _, rfl⟩ := hc.ans b hb
  rw [ansB_len]; decide
theorem Smk.sz {c : Mk.Client} (h : Smk c) : Szc c := by
 have h1 := h.k; have h2 := h.g; have h3 := h.b.n
 exact ⟨by omega, by omega, by omega⟩
theorem cloneCa_eq (l : List Mk.Call) (h : l.length ≤ 1000000) : slices_Clone___api_Call_api_Call_ l = some l := by
 unfold slices_Clone___api_Call_api_Call_
 rw [G_on (by simp; omega)]; simp
theorem vown_loop (l : List (List UInt8)) (hl : Smb l) (k : Mk.Server → Mk.Server → Mk.Server → List (List UInt8) → Option Mk.Server) (y1 y2 y3 : Mk.Server) : ∀ (m i : Nat), i + m = l.length → ∀ f : Nat, m < f → ∀ acc : List (List UInt8), acc.length ≤ i →
  serve_Own_l1 k f l (l.length : Int) (i : Int) y1 y2 y3 acc = k y1 y2 y3 (acc ++ l.drop i) := by
 have hn := hl.n
 intro m
 induction m with
 | zero =>
  intro i hi f hf acc ha
  obtain ⟨f, rfl⟩ : ∃ g, f = g + 1 := ⟨f - 1, by omega⟩
  rw [serve_Own_l1, dF (by omega), cF, List.drop_of_length_le (by omega), List.append_nil]
 | succ m ih =>
  intro i hi f hf acc ha
  obtain ⟨f, rfl⟩ : ∃ g, f = g + 1 := ⟨f - 1, by omega⟩
  have hb := hl.b _ (ix_mem l (i : Int) (by omega))
  rw [serve_Own_l1, dT (by omega), cT, G_on (by omega), cloneBy_eq _ (by omega), obs, G_on (by simp; omega), G_on (by unfold I; omega), show ((i : Int) + 1) = ((i + 1 : Nat) : Int) from by omega, ih (i + 1) (by omega) f (by omega) _ (by simp; omega), ix_drop l i (by omega), List.append_assoc]; rfl
theorem vown_eq (v : Mk.Server) (hb : Smb v.Box) (hp : v.Plan.length ≤ 1000) : serve_Own v = some v := by
 unfold serve_Own
 simp only [J]
 have := fun k y1 y2 y3 => vown_loop v.Box hb k y1 y2 y3 v.Box.length 0 (by omega) (((v.Box.length : Int) - 0).toNat + 1) (by omega) [] (by simp)
 rw [show ((0 : Nat) : Int) = 0 from rfl] at this
 rw [this, cloneW_eq _ (by omega), obs]; rfl
theorem gclient_loop (l : List (List UInt8)) (hl : Smb l) (k : Mk.Client → Mk.Client → List (List UInt8) → Option Mk.Client) (y2 y3 : Mk.Client) : ∀ (m i : Nat), i + m = l.length → ∀ f : Nat, m < f → ∀ acc : List (List UInt8), acc.length ≤ i →
  guard_client_l1 k f l (l.length : Int) (i : Int) y2 y3 acc = k y2 y3 (acc ++ l.drop i) := by
 have hn := hl.n
 intro m
 induction m with
 | zero =>
  intro i hi f hf acc ha
  obtain ⟨f, rfl⟩ : ∃ g, f = g + 1 := ⟨f - 1, by omega⟩
  rw [guard_client_l1, dF (by omega), cF, List.drop_of_length_le (by omega), List.append_nil]
 | succ m ih =>
  intro i hi f hf acc ha
  obtain ⟨f, rfl⟩ : ∃ g, f = g + 1 := ⟨f - 1, by omega⟩
  have hb := hl.b _ (ix_mem l (i : Int) (by omega))
  rw [guard_client_l1, dT (by omega), cT, G_on (by omega), cloneBy_eq _ (by omega), obs, G_on (by simp; omega), G_on (by unfold I; omega), show ((i : Int) + 1) = ((i + 1 : Nat) : Int) from by omega, ih (i + 1) (by omega) f (by omega) _ (by simp; omega), ix_drop l i (by omega), List.append_assoc]; rfl
theorem gclient_eq (c : Mk.Client) (h : Smk c) : guard_client c = some c := by
 have h1 := h.k; have h2 := h.g
 unfold guard_client
 simp only [J]
 have := fun k y2 y3 => gclient_loop c.Box h.b k y2 y3 c.Box.length 0 (by omega) (((c.Box.length : Int) - 0).toNat + 1) (by omega) [] (by simp)
 rw [show ((0 : Nat) : Int) = 0 from rfl] at this
 rw [cloneCa_eq _ (by omega), obs, cloneRe_eq _ (by omega), obs, this]; rfl
theorem gown_loop (l : List Mk.Client) (hn : l.length ≤ 1000) (hl : ∀ x ∈ l, Smk x) (k : Mk.Machine → Mk.Machine → List Mk.Client → Option Mk.Machine) (y2 y3 : Mk.Machine) : ∀ (m i : Nat), i + m = l.length → ∀ f : Nat, m < f → ∀ acc : List Mk.Client, acc.length ≤ i →
  guard_Own_l1 k f l (l.length : Int) (i : Int) y2 y3 acc = k y2 y3 (acc ++ l.drop i) := by
 intro m
 induction m with
 | zero =>
  intro i hi f hf acc ha
  obtain ⟨f, rfl⟩ : ∃ g, f = g + 1 := ⟨f - 1, by omega⟩
  rw [guard_Own_l1, dF (by omega), cF, List.drop_of_length_le (by omega), List.append_nil]
 | succ m ih =>
  intro i hi f hf acc ha
  obtain ⟨f, rfl⟩ : ∃ g, f = g + 1 := ⟨f - 1, by omega⟩
  have hb := hl _ (ix_mem l (i : Int) (by omega))
  rw [guard_Own_l1, dT (by omega), cT, G_on (by omega), gclient_eq _ hb, obs, G_on (by simp; omega), G_on (by unfold I; omega), show ((i : Int) + 1) = ((i + 1 : Nat) : Int) from by omega, ih (i + 1) (by omega) f (by omega) _ (by simp; omega), ix_drop l i (by omega), List.append_assoc]; rfl
theorem gown_eq (m : Mk.Machine) (h : Smm m) : guard_Own m = some m := by
 unfold guard_Own
 simp only [J]
 have := fun k y2 y3 => gown_loop m.Clients h.n h.c k y2 y3 m.Clients.length 0 (by omega) (((m.Clients.length : Int) - 0).toNat + 1) (by omega) [] (by simp)
 rw [show ((0 : Nat) : Int) = 0 from rfl] at this
 rw [own_eq h.s, obs, vown_eq _ h.b h.p, obs, this]; rfl
def pauseG (n : Int) : Int := if 3 < (if n < 1 then 1 else n) then 3 else (if n < 1 then 1 else n)
theorem gpause_eq (n : Int) : guard_Pause n = some (pauseG n) := rfl
theorem pauseG_of (n : Int) : pauseG n = pauseOf n := by
 unfold pauseG pauseOf
 repeat' split
 all_goals omega
theorem gfall_eq (m : Mk.Machine) (h : Smm m) (hf : 0 ≤ m.Falls ∧ m.Falls ≤ 6) : guard_Fall m = some (fall m) := by
 unfold guard_Fall
 rw [gown_eq m h, obs]
 obtain ⟨s, v, u, p, f, cl⟩ := m
 simp only at hf
 unfold fall
 cases u with
 | false => rfl
 | true =>
  simp only [nT, cF, Bool.true_eq_false, if_false]
  by_cases h : 5 < f
  ·rw [dT (show (6 : Int) ≤ f from by omega), cT, if_pos h]
  ·rw [dF (by omega), cF, G_on (by unfold I; omega), gpause_eq, obs, if_neg h, pauseG_of]; rfl
theorem gtick_eq (m : Mk.Machine) (h : Smm m) (hp : 0 ≤ m.Pause ∧ m.Pause ≤ 1000) (hg : 0 ≤ m.Server.Gen ∧ m.Server.Gen ≤ 1000) : guard_Tick m = some (tick m) := by
 have hs := h.s
 unfold guard_Tick
 rw [gown_eq m h, obs]
 obtain ⟨s, v, u, p, f, cl⟩ := m
 simp only at hs hp hg
 unfold tick
 simp only [J]
 cases u with
 | true => rfl
 | false =>
  simp only [cF, Bool.false_eq_true, if_false]
  rw [G_on (by unfold I; omega)]
  by_cases h : 1 < p
  ·rw [dF (by omega), cF, if_pos h]
  ·rw [dT (by omega), cT, sback_eq hs, obs, G_on (by unfold I; omega), if_neg h]; rfl
end Sp
end
section
namespace Sp
section
variable {cs : List (List Mk.Call)} {m : Mk.Machine}
theorem Inv.pause (h : Inv cs m) : 0 ≤ m.Pause ∧ m.Pause ≤ 1000 := by
 rcases Bool.eq_false_or_eq_true m.Up with hu | hu
 ·have := (h.up hu).1; omega
 ·have := h.down hu; omega
theorem Inv.gtick (hcs : CsOk cs) (h : Inv cs m) : guard_Tick m = some (tick m) := gtick_eq m (h.smm hcs) h.pause ⟨h.gen, by have := h.gen6; omega⟩
end
end Sp
end
section
namespace Sp
structure RtW (c : List Int) (l : List Mk.Write) : Prop where
 len : c.length = 11
 n : ix c 0 = l.length
 le : l.length ≤ 5
 ats : ∀ i : Nat, i < l.length → ix c (1 + 2 * (i : Int)) = (ix l i).At ∧ ix c (2 + 2 * (i : Int)) = (ix l i).N
 at1 : ∀ w ∈ l, 1 ≤ w.At ∧ w.At ≤ 255 ∧ -1073741824 ≤ w.N ∧ w.N ≤ 1073741824
theorem Rt.w {c : List Int} {l : List Mk.Write} (h : Rt c l) : RtW c l := ⟨h.len, h.n, h.le, h.ats, h.at1⟩
theorem RtW.ixb {c : List Int} {l : List Mk.Write} (h : RtW c l) (i : Int) (hi : 0 ≤ i ∧ i < l.length) : 1 ≤ (ix l i).At ∧ (ix l i).At ≤ 255 ∧ -1073741824 ≤ (ix l i).N ∧ (ix l i).N ≤ 1073741824 := h.at1 _ (ix_mem l i hi)
theorem RtW.call {c : List Int} {l : List Mk.Write} (h : RtW c l) {x : Int} (hk : 0 ≤ pos l x) : -1073741824 ≤ (ix l (pos l x)).N ∧ (ix l (pos l x)).N ≤ 1073741824 := by
 have := h.ixb (pos l x) ⟨hk, (pos_range l x).2⟩; omega
theorem find_loopW {c : List Int} {l : List Mk.Write} (h : RtW c l) (k : Unit → Option Int) (hk : k () = some (-1)) (x : Int) : ∀ (m i : Nat), i + m = l.length →
  cell_Find_l1 k (m + 1) c x (l.length : Int) (i : Int) = some (if pos (l.drop i) x < 0 then -1 else pos (l.drop i) x + i) := by
 intro m
 induction m with
 | zero =>
  intro i hi
  rw [cell_Find_l1, List.drop_of_length_le (by omega)]
  simp [pos, hk, show ¬ ((i : Int) < l.length) from by omega]
 | succ m ih =>
  intro i hi
  have hle := h.le
  have hlen := h.len
  have hat := (h.ats i (by omega)).1
  rw [cell_Find_l1, dT (show (i : Int) < l.length from by omega), cT, G_on (by unfold I; omega), G_on (by unfold I; omega), G_on (by omega), hat, ix_drop l i (by omega)]
  by_cases e : (ix l i).At = x
  ·simp [e, pos]
  ·rw [dF e, cF, G_on (by unfold I; omega)]
   have := ih (i + 1) (by omega)
   rw [show ((i : Int) + 1) = ((i + 1 : Nat) : Int) from by omega, this]
   simp only [pos, e, if_false]
   by_cases h2 : pos (l.drop (i + 1)) x < 0
   ·simp [h2]
   ·have := (pos_range (l.drop (i + 1)) x)
    rw [if_neg h2, if_neg h2, if_neg (by omega)]
    congr 1; omega
theorem find_eqW {c : List Int} {l : List Mk.Write} (h : RtW c l) (x : Int) : cell_Find c x = some (pos l x) := by
 unfold cell_Find
 simp only [J]
 have hlen := h.len
 have hp := pos_range l x
 rw [G_on (by omega), h.n, show ((l.length : Int) - 0).toNat + 1 = l.length + 1 from by omega]
 have := find_loopW h (fun _ => some (-1)) rfl x l.length 0 (by omega)
 rw [show ((0 : Int)) = ((0 : Nat) : Int) from rfl, this, List.drop_zero]
 congr 1
 split <;> omega
theorem RtW.at (c : List Int) (l : List Mk.Write) (h : RtW c l) (k : Int) (hk : 0 ≤ k ∧ k < l.length) : ix c (1 + 2 * k) = (ix l k).At ∧ ix c (2 + 2 * k) = (ix l k).N := by
 have := h.ats k.toNat (by omega)
 rwa [show ((k.toNat : Nat) : Int) = k from by omega] at this
theorem make_eqW {c : List Int} {l : List Mk.Write} {call : Mk.Call} (h : RtW c l) (hc : CallOk call) : plan_Make c call = some (planR l call) := by
 have hle := h.le
 have hlen := h.len
 have hn := h.n
 have hr := pos_range l call.Name
 have ho := pos_range l call.Other
 have hnum := hc.num
 have hk := hc.kind
 have h1 : 0 ≤ pos l call.Name → ix c (2 + 2 * pos l call.Name) = (ix l (pos l call.Name)).N := fun hp => (h.at c l _ ⟨hp, hr.2⟩).2
 have h2 : 0 ≤ pos l call.Other → ix c (2 + 2 * pos l call.Other) = (ix l (pos l call.Other)).N := fun hp => (h.at c l _ ⟨hp, ho.2⟩).2
 have h3 : 0 ≤ pos l call.Name → ix c (2 + 2 * ((l.length : Int) - 1)) = (ix l ((l.length : Int) - 1)).N := fun hp => (h.at c l _ ⟨by omega, by omega⟩).2
 have h4 : 0 ≤ pos l call.Name → ix c (1 + 2 * ((l.length : Int) - 1)) = (ix l ((l.length : Int) - 1)).At := fun hp => (h.at c l _ ⟨by omega, by omega⟩).1
 have hb : 0 ≤ pos l call.Name → -1073741824 ≤ (ix l (pos l call.Name)).N ∧ (ix l (pos l call.Name)).N ≤ 1073741824 := fun hp => h.call hp
 unfold plan_Make planR
 rw [find_eqW h, find_eqW h]
 have e1 : (2 + 2 * pos l call.Name - 1) = 1 + 2 * pos l call.Name := by omega
 have e2 : (2 + 2 * ((l.length : Int) - 1) - 1) = 1 + 2 * ((l.length : Int) - 1) := by omega
 have e3 : (2 + 2 * (l.length : Int) - 1) = 1 + 2 * (l.length : Int) := by omega
 have kk : call.Kind = 1 ∨ call.Kind = 2 ∨ call.Kind = 3 ∨ call.Kind = 4 ∨ call.Kind = 5 ∨ call.Kind = 6 := by omega
 by_cases hp : pos l call.Name < 0
 ·by_cases h5 : 5 ≤ (l.length : Int)
  all_goals
   rcases kk with k | k | k | k | k | k <;> simp (disch := first | omega | (unfold I; omega)) [k, hp, h5, plan_at, ↓G_on, ↓Bool.cond_eq_ite, ↓reduceIte, J, hn, e3]
 ·have hp0 : 0 ≤ pos l call.Name := by omega
  have hb := hb hp0
  rcases kk with k | k | k | k | k | k
  ·simp (disch := first | omega | (unfold I; omega)) [k, hp, plan_at, ↓G_on, ↓Bool.cond_eq_ite, ↓reduceIte, J, hn, h1 hp0]
  ·simp (disch := first | omega | (unfold I; omega)) [k, hp, plan_at, ↓G_on, ↓Bool.cond_eq_ite, ↓reduceIte, J, hn, h1 hp0]
  ·by_cases hl : pos l call.Name < (l.length : Int) - 1 <;>
   simp (disch := first | omega | (unfold I; omega)) [k, hp, plan_at, ↓G_on, ↓Bool.cond_eq_ite, ↓reduceIte, J, hn, h1 hp0, hl, h3 hp0, h4 hp0, e1, e2]
  ·generalize hx : (ix l (pos l call.Name)).N + call.N = x
   by_cases l1 : -1073741824 ≤ x
   ·by_cases l2 : x ≤ 1073741824
    ·have l3 : ¬ 1073741824 < x := by omega
     have l4 : ¬ x < -1073741824 := by omega
     simp (disch := first | omega | (unfold I; omega)) [k, hp, plan_at, ↓G_on, ↓Bool.cond_eq_ite, ↓reduceIte, J, hn, h1 hp0, hx, l1, l2, l3, l4]
    ·have l3 : 1073741824 < x := by omega
     simp (disch := first | omega | (unfold I; omega)) [k, hp, plan_at, ↓G_on, ↓Bool.cond_eq_ite, ↓reduceIte, J, hn, h1 hp0, hx, l1, l2, l3]
   ·have l4 : x < -1073741824 := by omega
    simp (disch := first | omega | (unfold I; omega)) [k, hp, plan_at, ↓G_on, ↓Bool.cond_eq_ite, ↓reduceIte, J, hn, h1 hp0, hx, l1, l4]
  ·simp (disch := first | omega | (unfold I; omega)) [k, hp, plan_at, ↓G_on, ↓Bool.cond_eq_ite, ↓reduceIte, J, hn, h1 hp0]
  ·by_cases hl : pos l call.Other < 0
   ·simp (disch := first | omega | (unfold I; omega)) [k, hp, plan_at, ↓G_on, ↓Bool.cond_eq_ite, ↓reduceIte, J, hn, h1 hp0, hl, find_eqW h]
   ·simp (disch := first | omega | (unfold I; omega)) [k, hp, plan_at, ↓G_on, ↓Bool.cond_eq_ite, ↓reduceIte, J, hn, h1 hp0, hl, find_eqW h, h2 (by omega)]
theorem entries_ofW {c : List Int} {l : List Mk.Write} (h : RtW c l) : entries c = l := by
 unfold entries
 rw [h.n]
 apply List.ext_getElem
 ·simp
 ·intro i h1 h2
  simp only [Int.toNat_natCast, List.length_map, List.length_range] at h1
  have := h.ats i h1
  simp only [Int.toNat_natCast, List.getElem_map, List.getElem_range, cat, cnum, this, ix_nat l i h1]
end Sp
end
section
namespace Sp
def StepsW : List Int → List Mk.Write → Prop
 | c, [] => ∃ l, RtW c l
 | c, w :: p => (∃ l, RtW c l) ∧ StepsW (wr c w) p
theorem StepsW.here {c : List Int} {p : List Mk.Write} (h : StepsW c p) : ∃ l, RtW c l := by
 cases p with
 | nil => exact h
 | cons w p => exact h.1
theorem StepsW.part {c : List Int} (d p : List Mk.Write) (h : StepsW c (d ++ p)) : StepsW (wrs c d) p := by
 induction d generalizing c with
 | nil => exact h
 | cons w d ih => exact ih h.2
theorem RtW.mem {l : List Mk.Write} (h1 : ∀ i : Nat, i < l.length → 1 ≤ (ix l (i : Int)).At ∧ (ix l (i : Int)).At ≤ 255 ∧ -1073741824 ≤ (ix l (i : Int)).N ∧ (ix l (i : Int)).N ≤ 1073741824) : ∀ w ∈ l, 1 ≤ w.At ∧ w.At ≤ 255 ∧ -1073741824 ≤ w.N ∧ w.N ≤ 1073741824 := fun w hw => by
 obtain ⟨i, hi, rfl⟩ := mem_ix hw
 exact h1 i hi
theorem rtW_wr1 {c : List Int} {l : List Mk.Write} (h : RtW c l) (k : Int) (hk : 0 ≤ k ∧ k < l.length) (x : Int) (hx : 1 ≤ x ∧ x ≤ 255) : RtW (wr c ⟨1 + 2 * k, x⟩) (l.set k.toNat ⟨x, (ix l k).N⟩) := by
 have hle := h.le
 have hlen := h.len
 refine ⟨by rw [wr_len]; exact hlen, ?_, by simpa using hle, fun i hi => ?_, RtW.mem fun i hi => ?_⟩
 ·rw [ix_wr _ _ _ (by omega), if_neg (by show ¬ (1 + 2 * k = 0); omega), h.n]; simp
 ·simp only [List.length_set] at hi
  have := h.ats i hi
  rw [ix_wr _ _ _ (by omega), ix_wr _ _ _ (by omega), ix_set _ _ _ hk (by omega)]
  show (if 1 + 2 * k = 1 + 2 * (i : Int) then x else _) = _ ∧ (if 1 + 2 * k = 2 + 2 * (i : Int) then x else _) = _
  rw [if_neg (by omega : ¬ (1 + 2 * k = 2 + 2 * (i : Int)))]
  by_cases e : k = i
  ·rw [if_pos (by omega), if_pos e, this.2, e]; exact ⟨rfl, rfl⟩
  ·rw [if_neg (by omega), if_neg e, this.1, this.2]; exact ⟨rfl, rfl⟩
 ·simp only [List.length_set] at hi
  rw [ix_set _ _ _ hk (by omega)]
  split
  ·have := h.ixb k hk; exact ⟨hx.1, hx.2, this.2.2⟩
  ·exact h.ixb _ (by omega)
theorem rtW_wr2 {c : List Int} {l : List Mk.Write} (h : RtW c l) (k : Int) (hk : 0 ≤ k ∧ k < l.length) (x : Int) (hx : -1073741824 ≤ x ∧ x ≤ 1073741824) : RtW (wr c ⟨2 + 2 * k, x⟩) (l.set k.toNat ⟨(ix l k).At, x⟩) := by
 have hle := h.le
 have hlen := h.len
 refine ⟨by rw [wr_len]; exact hlen, ?_, by simpa using hle, fun i hi => ?_, RtW.mem fun i hi => ?_⟩
 ·rw [ix_wr _ _ _ (by omega), if_neg (by show ¬ (2 + 2 * k = 0); omega), h.n]; simp
 ·simp only [List.length_set] at hi
  have := h.ats i hi
  rw [ix_wr _ _ _ (by omega), ix_wr _ _ _ (by omega), ix_set _ _ _ hk (by omega)]
  show (if 2 + 2 * k = 1 + 2 * (i : Int) then x else _) = _ ∧ (if 2 + 2 * k = 2 + 2 * (i : Int) then x else _) = _
  rw [if_neg (by omega : ¬ (2 + 2 * k = 1 + 2 * (i : Int)))]
  by_cases e : k = i
  ·rw [if_pos e, if_pos (by omega : 2 + 2 * k = 2 + 2 * (i : Int)), this.1, e]; exact ⟨rfl, rfl⟩
  ·rw [if_neg e, if_neg (by omega : ¬ (2 + 2 * k = 2 + 2 * (i : Int))), this.1, this.2]; exact ⟨rfl, rfl⟩
 ·simp only [List.length_set] at hi
  rw [ix_set _ _ _ hk (by omega)]
  split
  ·have := h.ixb k hk; exact ⟨this.1, this.2.1, hx⟩
  ·exact h.ixb _ (by omega)
theorem rtW_wrB {c : List Int} {l : List Mk.Write} (h : RtW c l) (w : Mk.Write) (hw : 1 + 2 * (l.length : Int) ≤ w.At) : RtW (wr c w) l := by
 have hle := h.le
 have hlen := h.len
 refine ⟨by rw [wr_len]; exact hlen, ?_, hle, fun i hi => ?_, h.at1⟩
 ·rw [ix_wr _ _ _ (by omega), if_neg (by omega), h.n]
 ·rw [ix_wr _ _ _ (by omega), ix_wr _ _ _ (by omega), if_neg (by omega), if_neg (by omega)]
  exact h.ats i hi
theorem rtW_less {c : List Int} {l : List Mk.Write} (h : RtW c l) (h0 : 0 < l.length) : RtW (wr c ⟨0, (l.length : Int) - 1⟩) (l.take (l.length - 1)) := by
 have hle := h.le
 have hlen := h.len
 refine ⟨by rw [wr_len]; exact hlen, ?_, by simp; omega, fun i hi => ?_, fun w hw => h.at1 w (List.mem_of_mem_take hw)⟩
 ·rw [ix_wr _ _ _ (by omega), if_pos rfl]; simp; omega
 ·simp only [List.length_take] at hi
  rw [ix_wr _ _ _ (by omega), ix_wr _ _ _ (by omega), if_neg (by show ¬ (0 = 1 + 2 * (i : Int)); omega), if_neg (by show ¬ (0 = 2 + 2 * (i : Int)); omega), ix_take' _ _ _ (by omega)]
  exact h.ats i (by omega)
theorem rtW_more {c : List Int} {l : List Mk.Write} (h : RtW c l) (h5 : l.length < 5) {x n : Int} (h1 : ix c (1 + 2 * (l.length : Int)) = x) (h2 : ix c (2 + 2 * (l.length : Int)) = n) (hx : 1 ≤ x ∧ x ≤ 255) (hn : -1073741824 ≤ n ∧ n ≤ 1073741824) : RtW (wr c ⟨0, (l.length : Int) + 1⟩) (l ++ [⟨x, n⟩]) := by
 have hle := h.le
 have hlen := h.len
 refine ⟨by rw [wr_len]; exact hlen, ?_, by simp; omega, fun i hi => ?_, fun w hw => ?_⟩
 ·rw [ix_wr _ _ _ (by omega), if_pos rfl]; simp
 ·simp only [List.length_append, List.length_cons, List.length_nil] at hi
  rw [ix_wr _ _ _ (by omega), ix_wr _ _ _ (by omega), if_neg (by show ¬ (0 = 1 + 2 * (i : Int)); omega), if_neg (by show ¬ (0 = 2 + 2 * (i : Int)); omega), ix_snoc _ _ (by omega)]
  by_cases e : (i : Int) = l.length
  ·rw [if_pos e, e, h1, h2]; exact ⟨rfl, rfl⟩
  ·rw [if_neg e]; exact h.ats i (by omega)
 ·rcases List.mem_append.1 hw with hw | hw
  ·exact h.at1 w hw
  ·simp only [List.mem_singleton] at hw; subst hw; exact ⟨hx.1, hx.2, hn⟩
theorem steps_plan {c : List Int} {l : List Mk.Write} {call : Mk.Call} (h : RtW c l) (hc : CallOk call) : StepsW c (planR l call).1 := by
 have hle := h.le
 have hlen := h.len
 have hr := pos_range l call.Name
 have ho := pos_range l call.Other
 have hnum := hc.num
 have hnm := hc.name
 have nop : StepsW c [] := ⟨l, h⟩
 unfold planR
 split
 ·exact nop
 ·split
  ·rename_i k5 hp
   split
   ·split
    ·exact nop
    ·rename_i k1 h5
     have a1 := rtW_wrB h ⟨1 + 2 * (l.length : Int), call.Name⟩ (by simp only; omega)
     have a2 := rtW_wrB a1 ⟨2 + 2 * (l.length : Int), call.N⟩ (by simp only; omega)
     have b1 : ix (wr (wr c ⟨1 + 2 * (l.length : Int), call.Name⟩) ⟨2 + 2 * (l.length : Int), call.N⟩) (1 + 2 * (l.length : Int)) = call.Name := by
      rw [ix_wr _ _ _ (by rw [wr_len]; omega), if_neg (by show ¬ (2 + 2 * (l.length : Int) = _); omega), ix_wr _ _ _ (by omega), if_pos rfl]
     have b2 : ix (wr (wr c ⟨1 + 2 * (l.length : Int), call.Name⟩) ⟨2 + 2 * (l.length : Int), call.N⟩) (2 + 2 * (l.length : Int)) = call.N := by
      rw [ix_wr _ _ _ (by rw [wr_len]; omega), if_pos rfl]
     exact ⟨⟨l, h⟩, ⟨l, a1⟩, ⟨l, a2⟩, _, rtW_more a2 (by omega) b1 b2 (by omega) ⟨hnum.1, hnum.2.1⟩⟩
   ·exact nop
  ·rename_i k5 hp
   have hp0 : 0 ≤ pos l call.Name ∧ pos l call.Name < l.length := by omega
   split
   ·exact ⟨⟨l, h⟩, _, rtW_wr2 h _ hp0 _ ⟨hnum.1, hnum.2.1⟩⟩
   ·split
    ·have hlast := h.ixb ((l.length : Int) - 1) (by omega)
     split
     ·have a1 := rtW_wr1 h _ hp0 _ ⟨hlast.1, hlast.2.1⟩
      have a2 := rtW_wr2 a1 _ (by simp; omega) _ hlast.2.2
      have a3 := rtW_less a2 (by simp; omega)
      simp only [List.length_set] at a3
      exact ⟨⟨_, h⟩, ⟨_, a1⟩, ⟨_, a2⟩, _, a3⟩
     ·exact ⟨⟨l, h⟩, _, rtW_less h (by omega)⟩
    ·split
     ·split
      ·exact nop
      ·exact ⟨⟨l, h⟩, _, rtW_wr2 h _ hp0 _ (by omega)⟩
     ·split
      ·split
       ·exact nop
       ·have ho0 : 0 ≤ pos l call.Other ∧ pos l call.Other < l.length := by omega
        have a1 := rtW_wr2 h _ hp0 _ (h.call (x := call.Other) ho0.1)
        have a2 := rtW_wr2 a1 (pos l call.Other) (by simp; omega) _ (h.call (x := call.Name) hp0.1)
        exact ⟨⟨_, h⟩, ⟨_, a1⟩, _, a2⟩
      ·exact nop
end Sp
end
section
namespace Sp
structure WInv (s : Mk.Store) (v : Mk.Server) (n : Nat) : Prop where
 u : s.Undo.length ≤ n
 a : s.Answers.length ≤ n
 p : s.Past.length ≤ n
 b : Smb v.Box
 pl : v.Plan.length ≤ 1000
 st : StepsW s.Cells (if v.Busy = true then v.Plan else [])
theorem WInv.sz {s : Mk.Store} {v : Mk.Server} {n : Nat} (h : WInv s v n) (hn : n ≤ 1000) : Sz s := by
 obtain ⟨l, hl⟩ := h.st.here
 have h1 := hl.len; have h2 := h.u; have h3 := h.a; have h4 := h.p
 exact ⟨by omega, by omega, by omega, by omega⟩
theorem scome_eq (v : Mk.Server) (hb : Smb v.Box) (hp : v.Plan.length ≤ 1000) (b : List UInt8) (hl : b.length ≤ 140737488355328) : serve_Come v b = some (sCome v b) := by
 have hn := hb.n
 unfold serve_Come sCome
 rw [vown_eq v hb hp, obs]
 by_cases h : 3 ≤ v.Box.length
 ·rw [dT (by omega), cT, if_pos h]
 ·rw [dF (by omega), cF, cloneBy_eq _ hl, obs, G_on (by simp; omega), if_neg h]
theorem readReq_call {b : List UInt8} (h : (readReq b).2 = 0) : CallOk (readReq b).1.Call := by
 unfold readReq at h ⊢
 split at h
 ·cases h
 ·split at h
  ·rename_i h5 h6; exact (h6 h).elim
  ·rename_i h5 h6
   rw [if_neg h5, if_neg h6]
   exact (wreq_ok (Classical.not_not.1 h6)).2.2
theorem stake_eq {s : Mk.Store} {v : Mk.Server} {b : List UInt8} {box : List (List UInt8)} (hB : v.Box = b :: box) (hs : Sz s) (hc : ∃ l, RtW s.Cells l) : serve_take s v = some (take1 s v b box) := by
 obtain ⟨l, hl⟩ := hc
 obtain ⟨g, B, bz, nw, P, sy⟩ := v
 simp only at hB
 subst hB
 have e1 : ix (b :: box) 0 = b := rfl
 have e2 : sub (b :: box) 1 ((b :: box).length : Int) = box := by simp [sub]
 unfold serve_take take1
 simp only [e1, e2]
 rw [G_on (by simp <;> omega), readRequest_eq, obs, G_on (by simp <;> omega)]
 by_cases h1 : (readReq b).2 = 0
 ·rw [dT h1, nT, cF, slast_eq _ _ hs.a, obs]
  simp only [h1, ne_eq, not_true, if_false]
  rw [entries_ofW hl, make_eqW hl (readReq_call h1)]
  cases hq : (last s (readReq b).1.Client).2 with
  | false => simp
  | true =>
   by_cases h3 : (last s (readReq b).1.Client).1.Token = (readReq b).1.Token
   ·have h4 : (readReq b).1.Token ≤ (last s (readReq b).1.Client).1.Token := by omega
    rw [dT h3, Bool.and_self, cT, answer_eq, obs, G_on (ansB_ne _), if_pos ⟨rfl, h4⟩, if_pos h3]
   ·rw [dF h3, Bool.and_false, cF]
    by_cases h4 : (readReq b).1.Token ≤ (last s (readReq b).1.Client).1.Token
    ·rw [dT (by omega), Bool.and_self, cT, if_pos ⟨rfl, h4⟩, if_neg h3]
    ·rw [dF (by omega), Bool.and_false, cF, obs, if_neg (by simp; omega)]
 ·rw [dF h1, nF, cT]
  simp only [ne_eq, h1, not_false_eq_true, if_true]
theorem sgo_eq {s : Mk.Store} {v : Mk.Server} {n : Nat} (h : WInv s v n) (hn : n ≤ 1000) : serve_Go s v = some (serve s v) := by
 have hs := h.sz hn
 have hc := h.st.here
 unfold serve_Go
 rw [vown_eq v h.b h.pl, obs]
 unfold serve
 cases hbz : v.Busy with
 | true =>
  simp only [nT, Bool.false_and, cF, if_true]
  cases hP : v.Plan with
  | cons w p =>
   have e1 : ix (w :: p) 0 = w := rfl
   have e2 : sub (w :: p) 1 ((w :: p).length : Int) = p := by simp [sub]
   rw [dT (by simp <;> omega), cT, G_on (by simp <;> omega), G_on (by simp <;> omega), e1, e2, swrite_eq hs, obs]
  | nil =>
   simp only [List.length_nil]
   rw [dF (by decide), cF, answer_eq, obs, scommit_eq hs, obs, G_on (ansB_ne _)]; rfl
 | false =>
  simp only [nF, Bool.true_and, cT, Bool.false_eq_true, if_false]
  cases hB : v.Box with
  | nil =>
   simp only [List.length_nil]
   rw [dT (by decide), cT, own_eq hs, obs]
  | cons b box =>
   rw [dF (by simp <;> omega), cF, stake_eq hB hs hc, obs, own_eq hs, obs]
theorem wr_wrS (s : Mk.Store) (w : Mk.Write) : (wrS s w).Cells = wr s.Cells w ∧ (wrS s w).Undo.length ≤ s.Undo.length + 1 ∧ (wrS s w).Answers = s.Answers ∧ (wrS s w).Past = s.Past := by
 unfold wrS
 split
 ·exact ⟨rfl, by simp, rfl, rfl⟩
 ·rename_i h
  refine ⟨?_, by omega, rfl, rfl⟩
  unfold wr; rw [if_neg h]
theorem WInv.step {s : Mk.Store} {v : Mk.Server} {n : Nat} (h : WInv s v n) : WInv (serve s v).1 (serve s v).2.1 (n + 1) := by
 have h1 := h.u; have h2 := h.a; have h3 := h.p; have h4 := h.pl
 have hst := h.st
 have hb := h.b
 unfold serve
 cases hbz : v.Busy with
 | true =>
  rw [if_pos rfl]
  rw [hbz, if_pos rfl] at hst
  cases hP : v.Plan with
  | cons w p =>
   rw [hP] at hst h4
   obtain ⟨e1, e2, e3, e4⟩ := wr_wrS s w
   exact ⟨by simp only; omega, by simp only [e3]; omega, by simp only [e4]; omega, hb, by simp at h4 ⊢; omega, by simp only [hbz, if_true, e1]; exact hst.2⟩
  | nil =>
   have := ansPut_len s.Answers ⟨v.Now.Client, v.Now.Token, v.Says⟩
   exact ⟨by simp [commit], by simp only [commit]; omega, by simp [commit]; omega, hb, by simp, by simpa using ⟨_, hst.here.choose_spec⟩⟩
 | false =>
  rw [if_neg (by simp)]
  rw [hbz, if_neg (by simp)] at hst
  cases hB : v.Box with
  | nil => exact ⟨by simp only; omega, by simp only; omega, by simp only; omega, hb, by simp only; omega, by simp only [hbz]; simpa using hst⟩
  | cons b box =>
   have hb2 : Smb box := ⟨by have := hb.n; rw [hB] at this; simp at this; omega, fun x hx => hb.b x (by rw [hB]; simp [hx])⟩
   obtain ⟨l, hl⟩ := hst
   show WInv s (take1 s v b box).1 (n + 1)
   unfold take1
   have keep : WInv s { v with Box := box } (n + 1) := ⟨by omega, by omega, by omega, hb2, h4, by simp only [hbz]; exact ⟨l, hl⟩⟩
   split
   ·exact keep
   ·rename_i hr
    split
    ·split
     ·exact keep
     ·exact keep
    ·have hc := readReq_call (Classical.not_not.1 hr)
     refine ⟨by omega, by omega, by omega, hb2, ?_, ?_⟩
     ·have := planR_len (entries s.Cells) (readReq b).1.Call
      simp only; omega
     ·simp only [if_true]
      rw [entries_ofW hl]
      exact steps_plan hl hc
theorem Inv.winv {cs : List (List Mk.Call)} {m : Mk.Machine} (hcs : CsOk cs) (h : Inv cs m) : WInv m.Store m.Server 24 := by
 have hsm := h.smm hcs
 obtain ⟨b0, done, hR, hC, hU, ⟨k, rest, hk, hd⟩, _, hp⟩ := h.st
 have h1 := fwd_len b0 done
 have h2 := plan_part hd
 have h3 := h.law.len hcs
 have h4 := h.law.ans_len hcs
 refine ⟨by rw [hU, List.length_reverse]; omega, by rw [h.ans]; omega, h3, hsm.b, hsm.p, ?_⟩
 cases hb : m.Server.Busy with
 | true =>
  rw [if_pos rfl, hC]
  obtain ⟨c, hc, n1, n2, _⟩ := h.now hb
  have hcal : CallOk m.Server.Now.Call := by rw [n1]; exact hcs.call hc (by omega)
  have := steps_plan hR.w hcal
  rw [hp hb] at this
  exact this.part _ _
 | false =>
  rw [if_neg (by simp), hC]
  have := steps_plan hR.w hk
  rw [hd] at this
  exact (this.part _ _).here
end Sp
end
section
namespace Sp
theorem mnew_loop2 (k : List Mk.Call → List (List Mk.Call) → Int → Int → Mk.Machine → Mk.Machine → List Mk.Client → Option (Mk.Machine × Int)) (K : List Mk.Call) (hK : K.length ≤ 1000) (cs : List (List Mk.Call)) (n i : Int) (y2 y4 : Mk.Machine) (acc : List Mk.Client) : ∀ (m j : Nat), j + m = K.length → ∀ f : Nat, m < f →
  machine_New_l2 k f K cs n i K (K.length : Int) (j : Int) y2 y4 acc = if badC (K.drop j) ≠ 0 then some (mach0, badC (K.drop j)) else k K cs n i y2 y4 acc := by
 intro m
 induction m with
 | zero =>
  intro j hj f hf
  obtain ⟨f, rfl⟩ : ∃ g, f = g + 1 := ⟨f - 1, by omega⟩
  rw [machine_New_l2, dF (by omega), cF, List.drop_of_length_le (by omega)]; rfl
 | succ m ih =>
  intro j hj f hf
  obtain ⟨f, rfl⟩ : ∃ g, f = g + 1 := ⟨f - 1, by omega⟩
  rw [machine_New_l2, dT (by omega), cT, G_on (by omega), model_Wrong_eq, obs, ix_drop K j (by omega), badC]
  by_cases h : wcall (ix K (j : Int)) = 0
  ·rw [dT h, nT, cF, G_on (by unfold I; omega), show ((j : Int) + 1) = ((j + 1 : Nat) : Int) from by omega, ih (j + 1) (by omega) f (by omega)]
   simp [h]
  ·rw [dF h, nF, cT, if_pos (by rw [if_pos h]; exact h), if_pos h]; rfl
theorem mnew_loop1 (cs : List (List Mk.Call)) (hn : cs.length ≤ 3) (k : Mk.Machine → Mk.Machine → List Mk.Client → Option (Mk.Machine × Int)) (y2 y4 : Mk.Machine) : ∀ (m i : Nat), i + m = cs.length → ∀ f : Nat, m < f → ∀ acc : List Mk.Client, acc.length ≤ i →
  machine_New_l1 k f cs (cs.length : Int) (i : Int) y2 y4 acc = if badL (cs.drop i) ≠ 0 then some (mach0, badL (cs.drop i)) else k y2 y4 (acc ++ (cs.drop i).map cl0) := by
 intro m
 induction m with
 | zero =>
  intro i hi f hf acc ha
  obtain ⟨f, rfl⟩ : ∃ g, f = g + 1 := ⟨f - 1, by omega⟩
  rw [machine_New_l1, dF (by omega), cF, List.drop_of_length_le (by omega)]; simp [badL]
 | succ m ih =>
  intro i hi f hf acc ha
  obtain ⟨f, rfl⟩ : ∃ g, f = g + 1 := ⟨f - 1, by omega⟩
  rw [machine_New_l1, dT (by omega), cT, G_on (by omega), ix_drop cs i (by omega), badL]
  by_cases h8 : 8 < (ix cs (i : Int)).length
  ·rw [dT (by omega), cT, if_pos (by rw [if_pos h8]; decide), if_pos h8]; rfl
  ·rw [dF (by omega), cF]
   simp only [J]
   have h2 := fun k => mnew_loop2 k (ix cs (i : Int)) (by omega) cs (cs.length : Int) (i : Int) y2 y4 acc (ix cs (i : Int)).length 0 (by omega) ((((ix cs (i : Int)).length : Int) - 0).toNat + 1) (by omega)
   rw [show ((0 : Nat) : Int) = 0 from rfl] at h2
   rw [h2, List.drop_zero, if_neg h8]
   by_cases hb : badC (ix cs (i : Int)) = 0
   ·rw [if_neg (by simpa using hb), if_neg (show ¬ badC (ix cs (i : Int)) ≠ 0 from by simpa using hb), cloneCa_eq _ (by omega), obs, G_on (by simp; omega), G_on (by unfold I; omega), show ((i : Int) + 1) = ((i + 1 : Nat) : Int) from by omega, ih (i + 1) (by omega) f (by omega) _ (by simp; omega)]
    rw [List.map_cons, List.append_assoc]; rfl
   ·rw [if_pos hb, if_pos hb, if_pos hb]
theorem mnew_eq (l : List (List Mk.Call)) : machine_New l = some (newM l) := by
 unfold machine_New newM
 by_cases h : 3 < l.length
 ·rw [dT (by omega), cT, if_pos h]; rfl
 ·rw [dF (by omega), cF, snew_eq, obs, if_neg h]
  simp only [J]
  have h1 := fun k y2 y4 => mnew_loop1 l (by omega) k y2 y4 l.length 0 (by omega) (((l.length : Int) - 0).toNat + 1) (by omega) [] (by simp)
  rw [show ((0 : Nat) : Int) = 0 from rfl] at h1
  rw [h1, List.drop_zero]
  by_cases hb : badL l = 0
  ·rw [if_neg (by simpa using hb), if_neg (by simpa using hb)]; rfl
  ·rw [if_pos hb, if_pos hb]
section
variable {cs : List (List Mk.Call)} {m : Mk.Machine}
theorem cl_eta (m : Mk.Machine) : ({ ({ m with Clients := ([] : List Mk.Client) }) with Clients := m.Clients } : Mk.Machine) = m := rfl
theorem reqB_isEmpty (r : Mk.Request) : (reqB r).isEmpty = false := by unfold reqB; rfl
theorem ansB_isEmpty (a : Mk.Answer) : (ansB a).isEmpty = false := by unfold ansB; rfl
theorem mgoes_eq (hcs : CsOk cs) (h : Inv cs m) (n : Int) : machine_goes m n = some (doC m n) := by
 have hk := h.nk
 have hn3 := hcs.n
 have hbx := h.box
 have hsm := h.smm hcs
 unfold machine_goes doC
 simp only [J]
 by_cases hn : 0 ≤ n ∧ n < cs.length
 ·have hx := h.cl n hn
  have h8 := hx.le8 hcs h.law hn
  have hcb := hx.box
  have hf : (decide (n < 0) || decide ((m.Clients.length : Int) ≤ n)) = false := by
   simp only [Bool.or_eq_false_iff, decide_eq_false_iff_not]; omega
  rw [hf, cF, G_on (by omega), cgo_eq _ _ _ _ (by omega) (by omega) ⟨hx.at0, by omega⟩, obs, if_neg (show ¬ (n < 0 ∨ (m.Clients.length : Int) ≤ n) from by omega)]
  cases hB : (ix m.Clients n).Box with
  | cons b box =>
   have e : cGo (ix m.Clients n) n m.Server.Gen m.Up = (hear (ix m.Clients n) b box n, [], 0) := by unfold cGo; rw [hB]
   rw [e]
   dsimp only
   rw [dT (p := (0 : Int) = 0) rfl, nT, cF, List.isEmpty_nil, nT, cF, G_on (by omega), if_neg (by simp), if_pos rfl]; rfl
  | nil =>
   by_cases c1 : ((ix m.Clients n).Calls.length : Int) ≤ (ix m.Clients n).At
   ·have e : cGo (ix m.Clients n) n m.Server.Gen m.Up = (ix m.Clients n, [], 11) := by unfold cGo; rw [hB]; simp [c1]
    rw [e]; rfl
   ·rcases Bool.eq_false_or_eq_true m.Up with hu | hu
    rotate_left
    ·have e : cGo (ix m.Clients n) n m.Server.Gen m.Up = (ix m.Clients n, [], 10) := by unfold cGo; rw [hB]; simp [c1, hu]
     rw [e]; rfl
    ·by_cases c2 : (ix m.Clients n).Sent = true ∧ (ix m.Clients n).Gen = m.Server.Gen
     ·have e : cGo (ix m.Clients n) n m.Server.Gen m.Up = (ix m.Clients n, [], 12) := by unfold cGo; rw [hB]; simp [c1, c2, hu]
      rw [e]; rfl
     ·have e : cGo (ix m.Clients n) n m.Server.Gen m.Up = ({ (ix m.Clients n) with Sent := true, Gen := m.Server.Gen }, reqB ⟨n, (ix m.Clients n).At, ix (ix m.Clients n).Calls (ix m.Clients n).At⟩, 0) := by unfold cGo; rw [hB]; simp [c1, c2, hu, hB]
      rw [e]
      dsimp only
      rw [dT (p := (0 : Int) = 0) rfl, nT, cF, reqB_isEmpty, nF, cT, scome_eq _ hsm.b hsm.p _ (by rw [reqB_len]; decide), obs, if_neg (by simp), if_neg (reqB_ne _)]
      by_cases c3 : 3 ≤ m.Server.Box.length
      ·have e2 : sCome m.Server (reqB ⟨n, (ix m.Clients n).At, ix (ix m.Clients n).Calls (ix m.Clients n).At⟩) = (m.Server, 9) := by unfold sCome; rw [if_pos c3]
       rw [e2]; rfl
      ·have e2 : sCome m.Server (reqB ⟨n, (ix m.Clients n).At, ix (ix m.Clients n).Calls (ix m.Clients n).At⟩) = ({ m.Server with Box := m.Server.Box ++ [reqB ⟨n, (ix m.Clients n).At, ix (ix m.Clients n).Calls (ix m.Clients n).At⟩] }, 0) := by unfold sCome; rw [if_neg c3]
       rw [e2]
       dsimp only
       rw [dT (p := (0 : Int) = 0) rfl, nT, cF, G_on (by omega), if_neg (by simp)]; rfl
 ·have hf : (decide (n < 0) || decide ((m.Clients.length : Int) ≤ n)) = true := by
   simp only [Bool.or_eq_true, decide_eq_true_eq]; omega
  rw [hf, cT, if_pos (by omega)]
theorem mserves_eq (hcs : CsOk cs) (h : Inv cs m) (n : Int) : machine_serves m n = some (doS m) := by
 have hk := h.nk
 have hn3 := hcs.n
 have hw := h.winv hcs
 unfold machine_serves doS
 simp only [J]
 rcases Bool.eq_false_or_eq_true m.Up with hu | hu
 rotate_left
 ·rw [if_pos hu, hu]; simp only [nF, cT]; rw [← hu]
 ·rw [if_neg (by rw [hu]; simp), hu, nT, cF, sgo_eq hw (by omega), obs]
  obtain ⟨i1, i2⟩ := h.served hcs hu
  by_cases h0 : (serve m.Store m.Server).2.2.2 = 0
  ·rw [dT h0, nT, cF, if_neg (by simp [h0])]
   rcases i2 h0 with e | ⟨c, t, hc, ht, e⟩
   ·rw [e]
    simp only [List.isEmpty_nil, cT]
    unfold Sp.toC
    rw [if_pos rfl]
   ·have hok : RepOk (ix (heardF [] (serve m.Store m.Server).1.Past c) t) := i1.law.heard_ok hcs c _ (ix_mem _ t (by rw [heardF_len]; exact ht))
    have h8 := hcs.len hc
    have hcl := i1.law.cnt_le c hc
    simp only at hcl
    have hread : readAns (serve m.Store m.Server).2.2.1 = (⟨c, t, ix (heardF [] (serve m.Store m.Server).1.Past c) t⟩, 0) := by rw [e]; exact readAns_ansB (wans_of (by omega) (by omega) hok)
    have hat : ((ix (serve m.Store m.Server).2.2.1 1).toNat : Int) = c := by rw [e]; exact ansB_at _ (by simp only; omega)
    rw [show (serve m.Store m.Server).2.2.1.isEmpty = false from by rw [e]; exact ansB_isEmpty _, cF, readAnswer_eq, obs, hread]
    dsimp only
    rw [dT (p := (0 : Int) = 0) rfl, dT (show c < (m.Clients.length : Int) from by omega), Bool.and_self, cT, G_on (by omega), ccome_eq _ _ (by rw [e, ansB_len]; decide), obs, G_on (by omega)]
    unfold Sp.toC
    rw [if_neg (by rw [e]; exact ansB_ne _), hat, if_pos (by show c < (m.Clients.length : Int); omega)]
    rw [← hu]; rfl
  ·rw [dF h0, nF, cT, if_pos (by simpa using h0), ← hu]
theorem mdo_eq (hcs : CsOk cs) (h : Inv cs m) (s : Mk.Step) : machine_Do m s = some (doM m s) := by
 have hsm := h.smm hcs
 unfold machine_Do doM
 rw [gown_eq m hsm, obs]
 by_cases h1 : s.Kind = 1
 ·rw [dT h1, cT, if_pos h1, cl_eta, mgoes_eq hcs h, obs]
 ·rw [dF h1, cF, if_neg h1]
  by_cases h2 : s.Kind = 2
  ·rw [dT h2, cT, if_pos h2, cl_eta, mserves_eq hcs h, obs]
  ·rw [dF h2, cF, if_neg h2]
   by_cases h3 : s.Kind = 3
   ·rw [dT h3, cT, if_pos h3, cl_eta]
    unfold machine_falls
    rw [cl_eta, gfall_eq m hsm h.falls]; rfl
   ·rw [dF h3, cF, if_neg h3]
    by_cases h4 : s.Kind = 4
    ·rw [dT h4, cT, if_pos h4, cl_eta]
     unfold machine_ticks
     rw [cl_eta, h.gtick hcs]; rfl
    ·rw [dF h4, cF, if_neg h4]
end
end Sp
end
section
namespace Sp
structure Mono (m m' : Mk.Machine) : Prop where
 past : ∃ e, m'.Store.Past = m.Store.Past ++ e
 len : m'.Clients.length = m.Clients.length
 at1 : ∀ c : Int, 0 ≤ c → (ix m.Clients c).At ≤ (ix m'.Clients c).At
theorem Mono.trans {a b c : Mk.Machine} (h1 : Mono a b) (h2 : Mono b c) : Mono a c := by
 obtain ⟨e1, p1⟩ := h1.past
 obtain ⟨e2, p2⟩ := h2.past
 exact ⟨⟨e1 ++ e2, by rw [p2, p1, List.append_assoc]⟩, h2.len.trans h1.len, fun x hx => Int.le_trans (h1.at1 x hx) (h2.at1 x hx)⟩
def pick (n : Int) : List Mk.Request → List Mk.Reply → List Mk.Reply
 | r :: rs, y :: ys => if r.Client = n then y :: pick n rs ys else pick n rs ys
 | _, _ => []
theorem ClOk.got_take {cs : List (List Mk.Call)} {p : List Mk.Request} {g c : Int} {x : Mk.Client} (h : ClOk cs p g c x) : x.Got = (heardF [] p c).take x.Got.length ∧ x.Got.length ≤ cnt p c := by
 have h1 := h.got_len
 have h2 := h.at1
 have e : x.At.toNat = x.Got.length := by omega
 exact ⟨by rw [← e]; exact h.got, by omega⟩
theorem heardF_append (l : List Mk.Write) (p e : List Mk.Request) (c : Int) : heardF l (p ++ e) c = heardF l p c ++ heardF (allN l p) e c := by
 induction p generalizing l with
 | nil => rfl
 | cons r p ih =>
  rw [List.cons_append, heardF, heardF, ih]
  split <;> rfl
theorem Mono.got {cs : List (List Mk.Call)} {m x : Mk.Machine} (h : Inv cs m) (hx : Inv cs x) (hm : Mono m x) (c : Int) (hc : 0 ≤ c ∧ c < cs.length) : (ix m.Clients c).Got.length ≤ (ix x.Clients c).Got.length ∧ (ix x.Clients c).Got.take (ix m.Clients c).Got.length = (ix m.Clients c).Got := by
 obtain ⟨e, he⟩ := hm.past
 have a := h.cl c hc
 have b := hx.cl c hc
 have ga := a.got_len
 have gb := b.got_len
 have hat := hm.at1 c hc.1
 obtain ⟨ta, la⟩ := a.got_take
 obtain ⟨tb, lb⟩ := b.got_take
 have hh := heardF_len [] m.Store.Past c
 refine ⟨by omega, ?_⟩
 rw [he, heardF_append] at tb
 rw [tb, List.take_take, Nat.min_eq_left (by omega), List.take_append_of_le_length (by omega), ← ta]
end Sp
end
section
namespace Sp
theorem mof_loop {c : List Int} {l : List Mk.Write} (h : Rt c l) (k : List Mk.Write → Option (List Mk.Write)) : ∀ (m i : Nat), i + m = l.length → ∀ (f : Nat), m < f → ∀ acc : List Mk.Write, acc.length = i →
  model_Of_l1 k f c (l.length : Int) (i : Int) acc = k (acc ++ l.drop i) := by
 intro m
 induction m with
 | zero =>
  intro i hi f hf acc ha
  obtain ⟨f, rfl⟩ : ∃ g, f = g + 1 := ⟨f - 1, by omega⟩
  rw [model_Of_l1, dF (by omega), cF, List.drop_of_length_le (by omega), List.append_nil]
 | succ m ih =>
  intro i hi f hf acc ha
  have hle := h.le
  have hlen := h.len
  obtain ⟨hat, hnn⟩ := h.ats i (by omega)
  obtain ⟨f, rfl⟩ : ∃ g, f = g + 1 := ⟨f - 1, by omega⟩
  rw [model_Of_l1, dT (by omega), cT, G_on (by unfold I; omega), G_on (by unfold I; omega), G_on (by omega), G_on (by unfold I; omega), G_on (by unfold I; omega), G_on (by omega), G_on (by simp; omega), G_on (by unfold I; omega), hat, hnn,
   show ((i : Int) + 1) = ((i + 1 : Nat) : Int) from by omega, ih (i + 1) (by omega) f (by omega) _ (by simp [ha]), ix_drop l i (by omega)]
  simp
theorem mof_eq {c : List Int} {l : List Mk.Write} (h : Rt c l) : model_Of c = some l := by
 unfold model_Of
 simp only [J]
 have hn := h.n
 have hlen := h.len
 have := mof_loop h (fun y => some y) l.length 0 (by omega) (((l.length : Int) - 0).toNat + 1) (by omega) [] rfl
 rw [show ((0 : Nat) : Int) = 0 from rfl] at this
 rw [G_on (by omega), hn, this]; simp
end Sp
end
section
namespace Sp
def mine (p : List Mk.Request) (n : Int) : List Mk.Request := p.filter (fun r => decide (r.Client = n))
def idle (l : List Mk.Client) : Bool := l.all fun c => decide ((c.Calls.length : Int) ≤ c.At)
theorem lidle_loop (l : List Mk.Client) (hl : l.length ≤ 1000) (k : Unit → Option Bool) (hk : k () = some true) : ∀ (m i : Nat), i + m = l.length → ∀ f : Nat, m < f →
  look_Idle_l1 k f l (l.length : Int) (i : Int) = some (idle (l.drop i)) := by
 intro m
 induction m with
 | zero =>
  intro i hi f hf
  obtain ⟨f, rfl⟩ : ∃ g, f = g + 1 := ⟨f - 1, by omega⟩
  rw [look_Idle_l1, dF (by omega), cF, hk, List.drop_of_length_le (by omega)]; rfl
 | succ m ih =>
  intro i hi f hf
  obtain ⟨f, rfl⟩ : ∃ g, f = g + 1 := ⟨f - 1, by omega⟩
  rw [look_Idle_l1, dT (by omega), cT, G_on (by omega), ix_drop l i (by omega)]
  unfold idle
  rw [List.all_cons]
  by_cases h : (ix l (i : Int)).At < ((ix l (i : Int)).Calls.length : Int)
  ·rw [dT h, cT, dF (by omega), Bool.false_and]
  ·rw [dF h, cF, dT (by omega), Bool.true_and, G_on (by unfold I; omega), show ((i : Int) + 1) = ((i + 1 : Nat) : Int) from by omega, ih (i + 1) (by omega) f (by omega)]; rfl
theorem lidle_eq (m : Mk.Machine) (hl : m.Clients.length ≤ 1000) : look_Idle m = some (idle m.Clients) := by
 unfold look_Idle
 simp only [J]
 have := lidle_loop m.Clients hl (fun _ => some true) rfl m.Clients.length 0 (by omega) (((m.Clients.length : Int) - 0).toNat + 1) (by omega)
 rw [show ((0 : Nat) : Int) = 0 from rfl, List.drop_zero] at this
 exact this
theorem lnow_eq {cs : List (List Mk.Call)} {m : Mk.Machine} (hcs : CsOk cs) (h : Inv cs m) : look_Now m = some (allN [] m.Store.Past) := by
 obtain ⟨b0, hR, hb⟩ := h.back
 unfold look_Now
 rw [sback_eq (h.sz hcs), obs, mof_eq (l := allN [] m.Store.Past) (by show Rt (wrs m.Store.Cells m.Store.Undo) _; rw [hb]; exact hR), obs]
end Sp
end
section
namespace Sp
def csteps : Nat → Nat → List Mk.Step
 | 0, _ => []
 | m + 1, i => ⟨1, (i : Int)⟩ :: csteps m (i + 1)
def roundM (M : Mk.Machine) : Mk.Machine := (doM (runM (tick M) (csteps M.Clients.length 0)) ⟨2, 0⟩).1
def settle : Nat → Mk.Machine → Mk.Machine
 | 0, M => M
 | m + 1, M => if idle M.Clients = true then M else settle m (roundM M)
def rounds : Nat → Mk.Machine → Nat
 | 0, _ => 0
 | m + 1, M => if idle M.Clients = true then 0 else rounds m (roundM M) + 1
section
variable {cs : List (List Mk.Call)} {M : Mk.Machine}
theorem doM_tick (M : Mk.Machine) : doM M ⟨4, 0⟩ = (tick M, 0) := by simp [doM]
theorem tick_clients (M : Mk.Machine) : (tick M).Clients = M.Clients := by unfold tick; split <;> (try rfl); split <;> rfl
theorem fround_loop (hcs : CsOk cs) (k : Mk.Machine → Mk.Machine → Option Mk.Machine) (n : Nat) (hn : n ≤ 1000) (y : Mk.Machine) : ∀ (m i : Nat), i + m = n → ∀ f : Nat, m < f → ∀ M : Mk.Machine, Inv cs M →
  fair_Round_l1 k f (n : Int) (i : Int) y M = k y (runM M (csteps m i)) := by
 intro m
 induction m with
 | zero =>
  intro i hi f hf M hM
  obtain ⟨f, rfl⟩ : ∃ g, f = g + 1 := ⟨f - 1, by omega⟩
  rw [fair_Round_l1, dF (by omega), cF]; rfl
 | succ m ih =>
  intro i hi f hf M hM
  obtain ⟨f, rfl⟩ : ∃ g, f = g + 1 := ⟨f - 1, by omega⟩
  rw [fair_Round_l1, dT (by omega), cT, mdo_eq hcs hM, obs, G_on (by unfold I; omega), show ((i : Int) + 1) = ((i + 1 : Nat) : Int) from by omega, ih (i + 1) (by omega) f (by omega) _ (do_step hcs hM _).2]; rfl
theorem inv_round (hcs : CsOk cs) (hM : Inv cs M) : Inv cs (roundM M) := by
 unfold roundM
 exact (do_step hcs (inv_run hcs (inv_tick hM) _) _).2
theorem fround_eq (hcs : CsOk cs) (hM : Inv cs M) : fair_Round M = some (roundM M) := by
 have hn := hM.nk
 have hn3 := hcs.n
 have hT := inv_tick hM
 unfold fair_Round roundM
 rw [mdo_eq hcs hM, obs, doM_tick]
 simp only [J]
 rw [tick_clients]
 have h1 := fun k y => fround_loop hcs k M.Clients.length (by omega) y M.Clients.length 0 (by omega) (((M.Clients.length : Int) - 0).toNat + 1) (by omega) _ hT
 rw [show ((0 : Nat) : Int) = 0 from rfl] at h1
 rw [h1, mdo_eq hcs (inv_run hcs hT _), obs]
theorem fsettle_loop (hcs : CsOk cs) (k : Int → Mk.Machine → Mk.Machine → Option (Mk.Machine × Int)) (y : Mk.Machine) : ∀ (m i : Nat), i + m = 300 → ∀ f : Nat, m < f → ∀ M : Mk.Machine, Inv cs M →
  fair_Settle_l1 k f (i : Int) y M = k ((i + rounds m M : Nat) : Int) y (settle m M) := by
 intro m
 induction m with
 | zero =>
  intro i hi f hf M hM
  obtain ⟨f, rfl⟩ : ∃ g, f = g + 1 := ⟨f - 1, by omega⟩
  rw [fair_Settle_l1, dF (by omega), Cn_no (by simp), obs, Bool.false_and, cF]; rfl
 | succ m ih =>
  intro i hi f hf M hM
  have hn := hM.nk
  have hn3 := hcs.n
  obtain ⟨f, rfl⟩ : ∃ g, f = g + 1 := ⟨f - 1, by omega⟩
  rw [fair_Settle_l1, dT (by omega), Cn_yes rfl, lidle_eq M (by omega), obs, Bool.true_and, settle, rounds]
  cases hid : idle M.Clients with
  | true => rfl
  | false =>
   rw [nF, cT, fround_eq hcs hM, obs, G_on (by unfold I; omega), show ((i : Int) + 1) = ((i + 1 : Nat) : Int) from by omega, ih (i + 1) (by omega) f (by omega) _ (inv_round hcs hM)]
   simp only [Bool.false_eq_true, if_false]
   rw [show i + 1 + rounds m (roundM M) = i + (rounds m (roundM M) + 1) from by omega]
theorem fsettle_eq (hcs : CsOk cs) (hM : Inv cs M) : fair_Settle M = some (settle 300 M, ((rounds 300 M : Nat) : Int)) := by
 unfold fair_Settle
 rw [gown_eq M (hM.smm hcs), obs]
 simp only [J]
 have h1 := fun k y => fsettle_loop hcs k y 300 0 (by omega) (((300 : Int) - 0).toNat + 1) (by omega) _ hM
 rw [show ((0 : Nat) : Int) = 0 from rfl, Nat.zero_add] at h1
 rw [h1]
theorem inv_settle (hcs : CsOk cs) (m : Nat) (hM : Inv cs M) : Inv cs (settle m M) := by
 induction m generalizing M with
 | zero => exact hM
 | succ m ih =>
  unfold settle
  split
  ·exact hM
  ·exact ih (inv_round hcs hM)
theorem fplay_loop (hcs : CsOk cs) (steps : List Mk.Step) (hs : steps.length ≤ 400) (k : Mk.Machine → Mk.Machine → List Int → Option (Mk.Machine × List Int × Int)) (y : Mk.Machine) : ∀ (m i : Nat), i + m = steps.length → ∀ f : Nat, m < f → ∀ (M : Mk.Machine) (es : List Int), es.length ≤ i → Inv cs M →
  fair_Play_l1 k f steps (steps.length : Int) (i : Int) y M es = k y (runM M (steps.drop i)) (es ++ runE M (steps.drop i)) := by
 intro m
 induction m with
 | zero =>
  intro i hi f hf M es he hM
  obtain ⟨f, rfl⟩ : ∃ g, f = g + 1 := ⟨f - 1, by omega⟩
  rw [fair_Play_l1, dF (by omega), cF, List.drop_of_length_le (by omega)]; simp [runM, runE]
 | succ m ih =>
  intro i hi f hf M es he hM
  obtain ⟨f, rfl⟩ : ∃ g, f = g + 1 := ⟨f - 1, by omega⟩
  rw [fair_Play_l1, dT (by omega), cT, G_on (by omega), mdo_eq hcs hM, obs, G_on (by simp; omega), G_on (by unfold I; omega), show ((i : Int) + 1) = ((i + 1 : Nat) : Int) from by omega,
   ih (i + 1) (by omega) f (by omega) _ _ (by simp; omega) (do_step hcs hM _).2, ix_drop steps i (by omega)]
  simp [runM, runE]
end
def fplay (l : List (List Mk.Call)) (steps : List Mk.Step) : Mk.Machine × List Int × Int :=
 if (newM l).2 ≠ 0 then (mach0, [], (newM l).2) else if 400 < steps.length then (mach0, [], 5) else (runM (newM l).1 steps, runE (newM l).1 steps, 0)
theorem fplay_eq (l : List (List Mk.Call)) (steps : List Mk.Step) : fair_Play l steps = some (fplay l steps) := by
 unfold fair_Play fplay
 rw [mnew_eq, obs]
 by_cases h0 : (newM l).2 = 0
 ·rw [dT h0, nT, cF, if_neg (by simpa using h0)]
  by_cases h4 : 400 < steps.length
  ·rw [dT (by omega), cT, if_pos h4]; rfl
  ·rw [dF (by omega), cF, if_neg h4]
   obtain ⟨hcs, hM, _⟩ := newM_inv h0
   simp only [J]
   have h1 := fun k y => fplay_loop hcs steps (by omega) k y steps.length 0 (by omega) (((steps.length : Int) - 0).toNat + 1) (by omega) (newM l).1 [] (by simp) hM
   rw [show ((0 : Nat) : Int) = 0 from rfl, List.drop_zero] at h1
   rw [h1]; rfl
 ·rw [dF h0, nF, cT, if_pos h0]; rfl
end Sp
end
section
namespace Sp
def own (b : List UInt8) : Int := ((ix b 1).toNat : Int)
theorem own_req {cs : List (List Mk.Call)} (hcs : CsOk cs) {c t : Int} {k : Mk.Call} (hc : 0 ≤ c ∧ c < cs.length) : own (reqB ⟨c, t, k⟩) = c := by
 have := hcs.n
 show ((u8 c).toNat : Int) = c
 exact u8_nat _ (by omega)
def lst (m : Mk.Machine) : List Int := m.Server.Box.map own
structure Wait (cs : List (List Mk.Call)) (m : Mk.Machine) (c : Int) : Prop where
 r : 0 ≤ c ∧ c < cs.length
 b : (ix m.Clients c).Box = []
 s : (ix m.Clients c).Sent = true
 g : (ix m.Clients c).Gen = m.Server.Gen
structure Inv2 (cs : List (List Mk.Call)) (m : Mk.Machine) : Prop where
 nd : (lst m).Nodup
 q : ∀ b ∈ m.Server.Box, ∃ c : Int, Wait cs m c ∧ b = reqB ⟨c, (ix m.Clients c).At, call cs c (ix m.Clients c).At⟩ ∧ (ix m.Clients c).At < (ix cs c).length
 b : m.Server.Busy = true → Wait cs m m.Server.Now.Client ∧ m.Server.Now.Client ∉ lst m
 a : ∀ c : Int, 0 ≤ c ∧ c < cs.length → (ix m.Clients c).Box ≠ [] → (ix m.Clients c).Sent = true ∧ (ix m.Clients c).At < cnt m.Store.Past c ∧ (ix m.Clients c).Box = [ansB ⟨c, (ix m.Clients c).At, ix (heardF [] m.Store.Past c) (ix m.Clients c).At⟩]
 s : m.Up = true → ∀ c : Int, 0 ≤ c ∧ c < cs.length → (ix m.Clients c).Sent = true → (ix m.Clients c).Gen = m.Server.Gen → (ix m.Clients c).Box = [] → c ∈ lst m ∨ (m.Server.Busy = true ∧ m.Server.Now.Client = c)
def todo (m : Mk.Machine) : Prop := m.Server.Busy = true ∨ m.Server.Box ≠ []
def wt (x : Mk.Client) : Int := 6 * ((x.Calls.length : Int) - x.At) - (if x.Box = [] then 0 else 5)
def sumw : List Mk.Client → Int
 | [] => 0
 | x :: l => wt x + sumw l
def pot (m : Mk.Machine) : Int := m.Pause + sumw m.Clients - (if m.Server.Busy = true then 4 - (m.Server.Plan.length : Int) else 0)
theorem sumw_up (l : List Mk.Client) (n : Nat) (x : Mk.Client) (h : n < l.length) : sumw (l.set n x) = sumw l - wt (ix l (n : Int)) + wt x := by
 induction l generalizing n with
 | nil => simp at h
 | cons y l ih =>
  cases n with
  | zero => simp [sumw, ix]; omega
  | succ n =>
   have := ih n (by simpa using h)
   have e : ix (y :: l) ((n + 1 : Nat) : Int) = ix l (n : Int) := by simp [ix]
   rw [List.set_cons_succ, sumw, sumw, this, e]; omega
theorem sumw_up' (l : List Mk.Client) (n : Int) (x : Mk.Client) (h : 0 ≤ n ∧ n < l.length) : sumw (up l n x) = sumw l - wt (ix l n) + wt x := by
 obtain ⟨k, rfl⟩ : ∃ k : Nat, n = k := ⟨n.toNat, by omega⟩
 exact sumw_up l k x (by omega)
theorem pot_withC {m : Mk.Machine} {n : Int} {x : Mk.Client} (h : 0 ≤ n ∧ n < m.Clients.length) : pot (withC m n x) = pot m - wt (ix m.Clients n) + wt x := by
 show m.Pause + sumw (up m.Clients n x) - (if m.Server.Busy = true then 4 - (m.Server.Plan.length : Int) else 0) = _
 rw [sumw_up' _ _ _ h]
 unfold pot
 omega
section
variable {cs : List (List Mk.Call)} {m : Mk.Machine}
theorem Inv2.own_q (hcs : CsOk cs) (h : Inv2 cs m) {c : Int} (hc : c ∈ lst m) : Wait cs m c := by
 obtain ⟨b, hb, rfl⟩ := List.mem_map.1 hc
 obtain ⟨c, w, rfl, _⟩ := h.q b hb
 rw [own_req hcs w.r]; exact w
theorem Inv2.withC (hcs : CsOk cs) (h : Inv2 cs m) (hk : m.Clients.length = cs.length) {n : Int} (hn : 0 ≤ n ∧ n < cs.length) {x : Mk.Client} (hq : n ∉ lst m) (hb : m.Server.Busy = true → m.Server.Now.Client ≠ n)
  (ha : x.Box ≠ [] → x.Sent = true ∧ x.At < cnt m.Store.Past n ∧ x.Box = [ansB ⟨n, x.At, ix (heardF [] m.Store.Past n) x.At⟩])
  (hs : m.Up = true → x.Sent = true → x.Gen = m.Server.Gen → x.Box = [] → False) : Inv2 cs (withC m n x) := by
 have hn2 : 0 ≤ n ∧ n < m.Clients.length := by omega
 have hix : ∀ c : Int, 0 ≤ c → ix (Sp.withC m n x).Clients c = if n = c then x else ix m.Clients c := fun c hc => ix_up _ _ _ _ hn2 hc
 have hw : ∀ c, c ≠ n → Wait cs m c → Wait cs (Sp.withC m n x) c := fun c hc w => by
  have e := hix c w.r.1
  rw [if_neg (fun e => hc e.symm)] at e
  exact ⟨w.r, by rw [e]; exact w.b, by rw [e]; exact w.s, by rw [e]; exact w.g⟩
 refine ⟨h.nd, fun b hb' => ?_, fun hb' => ?_, fun c hc => ?_, fun hu c hc => ?_⟩
 ·obtain ⟨c, w, e1, e2⟩ := h.q b hb'
  have hne : c ≠ n := by
   intro e; subst e
   refine hq (List.mem_map.2 ⟨b, hb', ?_⟩)
   rw [e1]; exact own_req hcs w.r
  have e := hix c w.r.1
  rw [if_neg (fun e => hne e.symm)] at e
  exact ⟨c, hw c hne w, by rw [e]; exact e1, by rw [e]; exact e2⟩
 ·obtain ⟨w, hl⟩ := h.b hb'
  exact ⟨hw _ (hb hb') w, hl⟩
 ·rw [hix c hc.1]
  split
  ·rename_i e; subst e; exact ha
  ·exact h.a c hc
 ·rw [hix c hc.1]
  split
  ·rename_i e; subst e; exact fun a b c => (hs hu a b c).elim
  ·exact h.s hu c hc
theorem inv2_fall (h2 : Inv2 cs m) : Inv2 cs (fall m).1 := by
 unfold fall
 split
 ·exact h2
 ·split
  ·exact h2
  ·exact ⟨by simp [lst, srv0], by simp [srv0], fun e => (by cases e), h2.a, fun e => (by cases e)⟩
theorem inv2_tick (h : Inv cs m) (h2 : Inv2 cs m) : Inv2 cs (tick m) := by
 unfold tick
 split
 ·exact h2
 ·rename_i h1
  split
  ·exact ⟨h2.nd, fun b hb => (by obtain ⟨c, w, e⟩ := h2.q b hb; exact ⟨c, ⟨w.r, w.b, w.s, w.g⟩, e⟩), fun e => (by obtain ⟨w, e⟩ := h2.b e; exact ⟨⟨w.r, w.b, w.s, w.g⟩, e⟩), h2.a, fun e => absurd e h1⟩
  ·refine ⟨by simp [lst, srv0], by simp [srv0], fun e => (by cases e), h2.a, fun _ c hc hs hg => ?_⟩
   have := (h.cl c hc).gen.2
   have hg' : (ix m.Clients c).Gen = m.Server.Gen + 1 := hg
   omega
theorem inv2_doC (hcs : CsOk cs) (h : Inv cs m) (h2 : Inv2 cs m) (n : Int) : Inv2 cs (doC m n).1 ∧ pot (doC m n).1 ≤ pot m ∧ (todo m → todo (doC m n).1) ∧ (∀ c : Int, 0 ≤ c → c ≠ n → ix (doC m n).1.Clients c = ix m.Clients c) ∧
  (0 ≤ n ∧ n < cs.length → m.Up = true → (ix m.Clients n).At < (ix m.Clients n).Calls.length → pot (doC m n).1 < pot m ∨ todo (doC m n).1) := by
 have hk := h.nk
 have hn3 := hcs.n
 unfold doC
 by_cases hn : 0 ≤ n ∧ n < cs.length
 ·have hn2 : 0 ≤ n ∧ n < m.Clients.length := by omega
  have hx := h.cl n hn
  rw [if_neg (show ¬ (n < 0 ∨ (m.Clients.length : Int) ≤ n) from by omega)]
  cases hB : (ix m.Clients n).Box with
  | cons b box =>
   have e : cGo (ix m.Clients n) n m.Server.Gen m.Up = (hear (ix m.Clients n) b box n, [], 0) := by unfold cGo; rw [hB]
   rw [e]
   simp only [ne_eq, not_true, if_false, if_true]
   obtain ⟨a1, a2, a3⟩ := h2.a n hn (by rw [hB]; simp)
   rw [hB] at a3
   obtain ⟨rfl, rfl⟩ : b = ansB ⟨n, (ix m.Clients n).At, ix (heardF [] m.Store.Past n) (ix m.Clients n).At⟩ ∧ box = [] := by simpa using a3
   have h8' := hcs.len hn
   have hcl := h.law.cnt_le n hn
   have h0 := hx.at0
   have hok : RepOk (ix (heardF [] m.Store.Past n) (ix m.Clients n).At) := h.law.heard_ok hcs n _ (ix_mem _ _ (by rw [heardF_len]; omega))
   have hread : readAns (ansB ⟨n, (ix m.Clients n).At, ix (heardF [] m.Store.Past n) (ix m.Clients n).At⟩) = (⟨n, (ix m.Clients n).At, ix (heardF [] m.Store.Past n) (ix m.Clients n).At⟩, 0) := readAns_ansB (wans_of (by omega) (by omega) hok)
   have eh : hear (ix m.Clients n) (ansB ⟨n, (ix m.Clients n).At, ix (heardF [] m.Store.Past n) (ix m.Clients n).At⟩) [] n = ⟨(ix m.Clients n).Calls, (ix m.Clients n).At + 1, false, (ix m.Clients n).Gen, [], (ix m.Clients n).Got ++ [ix (heardF [] m.Store.Past n) (ix m.Clients n).At]⟩ := by
    unfold hear; rw [hread]; simp [a1]
   rw [eh]
   have hpot : pot (withC m n ⟨(ix m.Clients n).Calls, (ix m.Clients n).At + 1, false, (ix m.Clients n).Gen, [], (ix m.Clients n).Got ++ [ix (heardF [] m.Store.Past n) (ix m.Clients n).At]⟩) = pot m - 1 := by
    rw [pot_withC hn2]
    have w1 : wt (ix m.Clients n) = 6 * (((ix m.Clients n).Calls.length : Int) - (ix m.Clients n).At) - 5 := by unfold wt; rw [hB]; simp
    have w2 : wt ⟨(ix m.Clients n).Calls, (ix m.Clients n).At + 1, false, (ix m.Clients n).Gen, [], (ix m.Clients n).Got ++ [ix (heardF [] m.Store.Past n) (ix m.Clients n).At]⟩ = 6 * (((ix m.Clients n).Calls.length : Int) - ((ix m.Clients n).At + 1)) := by unfold wt; simp
    rw [w1, w2]
    omega
   refine ⟨h2.withC hcs hk hn (fun hl => ?_) (fun hb e => ?_) (fun hne => (hne rfl).elim) (fun _ hs => by cases hs), by omega, fun ht => ht, fun c hc hne => ?_, fun _ _ _ => .inl (by omega)⟩
   ·have := (h2.own_q hcs hl).b; rw [hB] at this; cases this
   ·have := (h2.b hb).1.b; rw [e, hB] at this; cases this
   ·show ix (up m.Clients n _) c = _
    rw [ix_up _ _ _ _ hn2 hc, if_neg (fun e => hne e.symm)]
  | nil =>
   by_cases c1 : ((ix m.Clients n).Calls.length : Int) ≤ (ix m.Clients n).At
   ·have e : cGo (ix m.Clients n) n m.Server.Gen m.Up = (ix m.Clients n, [], 11) := by unfold cGo; rw [hB]; simp [c1]
    rw [e]
    rw [if_pos (show ((11 : Int) ≠ 0) from by decide)]
    exact ⟨h2, Int.le_refl _, fun t => t, fun _ _ _ => rfl, fun _ _ hl => by omega⟩
   ·rcases Bool.eq_false_or_eq_true m.Up with hu | hu
    rotate_left
    ·have e : cGo (ix m.Clients n) n m.Server.Gen m.Up = (ix m.Clients n, [], 10) := by unfold cGo; rw [hB]; simp [c1, hu]
     rw [e]
     rw [if_pos (show ((10 : Int) ≠ 0) from by decide)]
     exact ⟨h2, Int.le_refl _, fun t => t, fun _ _ _ => rfl, fun _ hu' => by rw [hu] at hu'; cases hu'⟩
    ·by_cases c2 : (ix m.Clients n).Sent = true ∧ (ix m.Clients n).Gen = m.Server.Gen
     ·have e : cGo (ix m.Clients n) n m.Server.Gen m.Up = (ix m.Clients n, [], 12) := by unfold cGo; rw [hB]; simp [c1, c2, hu, hB]
      rw [e]
      rw [if_pos (show ((12 : Int) ≠ 0) from by decide)]
      refine ⟨h2, Int.le_refl _, fun t => t, fun _ _ _ => rfl, fun _ _ _ => .inr ?_⟩
      rcases h2.s hu n hn c2.1 c2.2 hB with hl | hl
      ·exact .inr (by intro e; unfold lst at hl; rw [e] at hl; simp at hl)
      ·exact .inl hl.1
     ·have e : cGo (ix m.Clients n) n m.Server.Gen m.Up = ({ (ix m.Clients n) with Sent := true, Gen := m.Server.Gen }, reqB ⟨n, (ix m.Clients n).At, ix (ix m.Clients n).Calls (ix m.Clients n).At⟩, 0) := by unfold cGo; rw [hB]; simp [c1, c2, hu, hB]
      have hne : reqB ⟨n, (ix m.Clients n).At, ix (ix m.Clients n).Calls (ix m.Clients n).At⟩ ≠ [] := by unfold reqB; simp
      rw [e]
      simp only [ne_eq, not_true, if_false, hne]
      by_cases c3 : 3 ≤ m.Server.Box.length
      ·have e2 : sCome m.Server (reqB ⟨n, (ix m.Clients n).At, ix (ix m.Clients n).Calls (ix m.Clients n).At⟩) = (m.Server, 9) := by unfold sCome; rw [if_pos c3]
       rw [e2]
       rw [if_pos (show ¬ ((9 : Int) = 0) from by decide)]
       exact ⟨h2, Int.le_refl _, fun t => t, fun _ _ _ => rfl, fun _ _ _ => .inr (.inr (by intro e; rw [e] at c3; simp at c3))⟩
      ·have e2 : sCome m.Server (reqB ⟨n, (ix m.Clients n).At, ix (ix m.Clients n).Calls (ix m.Clients n).At⟩) = ({ m.Server with Box := m.Server.Box ++ [reqB ⟨n, (ix m.Clients n).At, ix (ix m.Clients n).Calls (ix m.Clients n).At⟩] }, 0) := by unfold sCome; rw [if_neg c3]
       rw [e2]
       simp only [not_true, if_false]
       have hcal := hx.calls
       have hq : n ∉ lst m := fun hl => c2 ⟨(h2.own_q hcs hl).s, (h2.own_q hcs hl).g⟩
       have hbn : m.Server.Busy = true → m.Server.Now.Client ≠ n := fun hb e => c2 (by have w := (h2.b hb).1; rw [e] at w; exact ⟨w.s, w.g⟩)
       have hreq : reqB ⟨n, (ix m.Clients n).At, ix (ix m.Clients n).Calls (ix m.Clients n).At⟩ = reqB ⟨n, (ix m.Clients n).At, call cs n (ix m.Clients n).At⟩ := by rw [hcal]; rfl
       rw [hreq]
       have htd : todo (withC { m with Server := { m.Server with Box := m.Server.Box ++ [reqB ⟨n, (ix m.Clients n).At, call cs n (ix m.Clients n).At⟩] } } n { (ix m.Clients n) with Sent := true, Gen := m.Server.Gen }) := .inr (by show m.Server.Box ++ [_] ≠ []; simp)
       have hix : ∀ c : Int, 0 ≤ c → ix (up m.Clients n { (ix m.Clients n) with Sent := true, Gen := m.Server.Gen }) c = if n = c then { (ix m.Clients n) with Sent := true, Gen := m.Server.Gen } else ix m.Clients c := fun c hc => ix_up _ _ _ _ hn2 hc
       have hlst : lst (withC { m with Server := { m.Server with Box := m.Server.Box ++ [reqB ⟨n, (ix m.Clients n).At, call cs n (ix m.Clients n).At⟩] } } n { (ix m.Clients n) with Sent := true, Gen := m.Server.Gen }) = lst m ++ [n] := by
        show (m.Server.Box ++ [_]).map own = _
        rw [List.map_append, List.map_singleton, own_req hcs hn]; rfl
       have hw : ∀ c, Wait cs m c → Wait cs (withC { m with Server := { m.Server with Box := m.Server.Box ++ [reqB ⟨n, (ix m.Clients n).At, call cs n (ix m.Clients n).At⟩] } } n { (ix m.Clients n) with Sent := true, Gen := m.Server.Gen }) c ∧ ix (up m.Clients n { (ix m.Clients n) with Sent := true, Gen := m.Server.Gen }) c = ix m.Clients c := fun c w => by
        have hne2 : n ≠ c := by intro e; subst e; exact c2 ⟨w.s, w.g⟩
        have e := hix c w.r.1
        rw [if_neg hne2] at e
        exact ⟨⟨w.r, by show (ix (up m.Clients n _) c).Box = []; rw [e]; exact w.b, by show (ix (up m.Clients n _) c).Sent = true; rw [e]; exact w.s, by show (ix (up m.Clients n _) c).Gen = _; rw [e]; exact w.g⟩, e⟩
       have hself := hix n hn.1
       rw [if_pos rfl] at hself
       refine ⟨⟨?_, fun b hb => ?_, fun hb => ?_, fun c hc => ?_, fun _ c hc => ?_⟩, ?_, fun _ => htd, fun c hc hne => ?_, fun _ _ _ => .inr htd⟩
       ·rw [hlst]
        exact List.nodup_append.2 ⟨h2.nd, by simp, fun a ha b hb e => hq (by simp at hb; rw [← hb, ← e]; exact ha)⟩
       ·rcases List.mem_append.1 hb with hb | hb
        ·obtain ⟨c, w, e1, e2⟩ := h2.q b hb
         obtain ⟨w2, e3⟩ := hw c w
         refine ⟨c, w2, ?_, ?_⟩
         ·show b = reqB ⟨c, (ix (up m.Clients n _) c).At, call cs c (ix (up m.Clients n _) c).At⟩
          rw [e3]; exact e1
         ·show (ix (up m.Clients n _) c).At < _
          rw [e3]; exact e2
        ·simp only [List.mem_singleton] at hb
         subst hb
         refine ⟨n, ⟨hn, ?_, ?_, ?_⟩, ?_, ?_⟩
         ·show (ix (up m.Clients n _) n).Box = []
          rw [hself]; exact hB
         ·show (ix (up m.Clients n _) n).Sent = true
          rw [hself]
         ·show (ix (up m.Clients n _) n).Gen = _
          rw [hself]; rfl
         ·show _ = reqB ⟨n, (ix (up m.Clients n _) n).At, call cs n (ix (up m.Clients n _) n).At⟩
          rw [hself]
         ·show (ix (up m.Clients n _) n).At < _
          rw [hself, ← hcal]
          show (ix m.Clients n).At < _
          omega
       ·obtain ⟨w, hl⟩ := h2.b hb
        refine ⟨(hw _ w).1, ?_⟩
        rw [hlst]
        intro hm
        rcases List.mem_append.1 hm with hm | hm
        ·exact hl hm
        ·simp only [List.mem_singleton] at hm; exact hbn hb hm
       ·show (ix (up m.Clients n _) c).Box ≠ [] → (ix (up m.Clients n _) c).Sent = true ∧ (ix (up m.Clients n _) c).At < cnt m.Store.Past c ∧ (ix (up m.Clients n _) c).Box = [ansB ⟨c, (ix (up m.Clients n _) c).At, ix (heardF [] m.Store.Past c) (ix (up m.Clients n _) c).At⟩]
        rw [hix c hc.1]
        split
        ·rename_i e; subst e
         intro hne; exact (hne hB).elim
        ·exact h2.a c hc
       ·rw [hlst]
        show (ix (up m.Clients n _) c).Sent = true → (ix (up m.Clients n _) c).Gen = m.Server.Gen → (ix (up m.Clients n _) c).Box = [] → _ ∨ (m.Server.Busy = true ∧ m.Server.Now.Client = c)
        rw [hix c hc.1]
        split
        ·rename_i e; subst e
         exact fun _ _ _ => .inl (by simp)
        ·intro a1 a2 a3
         rcases h2.s hu c hc a1 a2 a3 with hl | hl
         ·exact .inl (by simp [hl])
         ·exact .inr hl
       ·show m.Pause + sumw (up m.Clients n _) - (if m.Server.Busy = true then 4 - (m.Server.Plan.length : Int) else 0) ≤ _
        rw [sumw_up' _ _ _ hn2]
        have : wt { (ix m.Clients n) with Sent := true, Gen := m.Server.Gen } = wt (ix m.Clients n) := rfl
        rw [this]
        unfold pot
        omega
       ·show ix (up m.Clients n _) c = _
        rw [hix c hc, if_neg (fun e => hne e.symm)]
 ·rw [if_pos (show n < 0 ∨ (m.Clients.length : Int) ≤ n from by omega)]
  exact ⟨h2, Int.le_refl _, fun t => t, fun _ _ _ => rfl, fun hh => absurd hh hn⟩
end
end Sp
end
section
namespace Sp
section
variable {cs : List (List Mk.Call)} {m : Mk.Machine}
theorem ans_snoc {p : List Mk.Request} {r : Mk.Request} {c t : Int} {b : List UInt8} (h0 : 0 ≤ t) (ht : t < cnt p c) (h : b = ansB ⟨c, t, ix (heardF [] p c) t⟩) : t < cnt (p ++ [r]) c ∧ b = ansB ⟨c, t, ix (heardF [] (p ++ [r]) c) t⟩ := by
 refine ⟨by rw [cnt_snoc]; split <;> omega, ?_⟩
 rw [heardF_snoc, ix_app _ _ _ (by rw [heardF_len]; exact ⟨h0, ht⟩)]; exact h
theorem told (hcs : CsOk cs) (hk : m.Clients.length = cs.length) {c t : Int} (hc : 0 ≤ c ∧ c < cs.length) (hb : (ix m.Clients c).Box = []) (y : Mk.Reply) : Sp.toC m (ansB ⟨c, t, y⟩) = withC m c { (ix m.Clients c) with Box := [ansB ⟨c, t, y⟩] } := by
 have hn3 := hcs.n
 rw [toC_ans _ (by simp only; omega) (by omega)]
 congr 1
 unfold cCome
 rw [hb]; rfl
theorem wt_told {x : Mk.Client} (b : List UInt8) (hb : x.Box = []) : wt { x with Box := [b] } = wt x - 5 := by
 unfold wt; rw [hb]; simp
theorem pot_same {m : Mk.Machine} {S : Mk.Store} {v : Mk.Server} : pot { m with Store := S, Server := v } = m.Pause + sumw m.Clients - (if v.Busy = true then 4 - (v.Plan.length : Int) else 0) := rfl
theorem pot_withS {m : Mk.Machine} {S : Mk.Store} {v : Mk.Server} {n : Int} {x : Mk.Client} (h : 0 ≤ n ∧ n < m.Clients.length) : pot (withC { m with Store := S, Server := v } n x) = m.Pause + sumw m.Clients - (if v.Busy = true then 4 - (v.Plan.length : Int) else 0) - wt (ix m.Clients n) + wt x := by
 rw [pot_withC (m := { m with Store := S, Server := v }) h]; rfl
theorem Inv2.tail {b : List UInt8} {box : List (List UInt8)} (hB : m.Server.Box = b :: box) (h2 : Inv2 cs m) : (box.map own).Nodup ∧ own b ∉ box.map own := by
 have := h2.nd
 unfold lst at this
 rw [hB, List.map_cons, List.nodup_cons] at this
 exact ⟨this.2, this.1⟩
theorem inv2_doS (hcs : CsOk cs) (h : Inv cs m) (h2 : Inv2 cs m) : Inv2 cs (doS m).1 ∧ pot (doS m).1 ≤ pot m ∧ (m.Up = true → todo m → pot (doS m).1 < pot m) := by
 have hk := h.nk
 have hn3 := hcs.n
 unfold doS
 rcases Bool.eq_false_or_eq_true m.Up with hu | hu
 rotate_left
 ·rw [if_pos hu]
  exact ⟨h2, Int.le_refl _, fun e => (by rw [hu] at e; cases e)⟩
 rw [if_neg (by rw [hu]; simp)]
 cases hb : m.Server.Busy with
 | true =>
  obtain ⟨c, hc, n1, n2, n3, n4⟩ := h.now hb
  obtain ⟨w, hl⟩ := h2.b hb
  cases hP : m.Server.Plan with
  | cons wr p =>
   have e : serve m.Store m.Server = (wrS m.Store wr, { m.Server with Plan := p }, [], 0) := by unfold serve; rw [if_pos hb, hP]
   have e1 : (wrS m.Store wr).Past = m.Store.Past := by unfold wrS; split <;> rfl
   rw [e]
   simp only [ne_eq, not_true, if_false]
   have et : ∀ M : Mk.Machine, Sp.toC M [] = M := fun M => by unfold Sp.toC; rw [if_pos rfl]
   rw [et]
   have hp : pot { m with Store := wrS m.Store wr, Server := { m.Server with Plan := p } } = pot m - 1 := by
    rw [pot_same]
    unfold pot
    simp only [hb, if_true, hP, List.length_cons]
    omega
   have hlt : pot { m with Store := wrS m.Store wr, Server := { m.Server with Plan := p } } < pot m := by omega
   refine ⟨⟨h2.nd, fun b hb' => (by obtain ⟨c, w, e⟩ := h2.q b hb'; exact ⟨c, ⟨w.r, w.b, w.s, w.g⟩, e⟩), fun _ => ⟨⟨w.r, w.b, w.s, w.g⟩, hl⟩, fun c hc hne => ?_, h2.s⟩, Int.le_of_lt hlt, fun _ _ => hlt⟩
   show (ix m.Clients c).Sent = true ∧ (ix m.Clients c).At < cnt (wrS m.Store wr).Past c ∧ (ix m.Clients c).Box = [ansB ⟨c, (ix m.Clients c).At, ix (heardF [] (wrS m.Store wr).Past c) (ix m.Clients c).At⟩]
   rw [e1]; exact h2.a c hc hne
  | nil =>
   have e : serve m.Store m.Server = (commit m.Store m.Server.Now m.Server.Says, ⟨m.Server.Gen, m.Server.Box, false, req0, [], rep0⟩, ansB ⟨m.Server.Now.Client, m.Server.Now.Token, m.Server.Says⟩, 0) := by unfold serve; rw [hb, hP]; rfl
   rw [e]
   simp only [ne_eq, not_true, if_false]
   have ecl : m.Server.Now.Client = c := by rw [n1]
   have etk : m.Server.Now.Token = cnt m.Store.Past c := by rw [n1]
   rw [ecl] at w hl
   obtain ⟨b0, done, hR, hC, hU, hd, he, hpl⟩ := h.st
   have hplan := hpl hb
   rw [hP, List.append_nil] at hplan
   have hcal : CallOk m.Server.Now.Call := by rw [n1]; exact hcs.call hc (by omega)
   have hsay : m.Server.Says = (doP (allN [] m.Store.Past) m.Server.Now.Call).2 := by
    have := (plan_rt hR hcal).2
    rw [← this, hplan]
   have ehd : heardF [] (m.Store.Past ++ [m.Server.Now]) c = heardF [] m.Store.Past c ++ [m.Server.Says] := by rw [heardF_snoc, if_pos ecl, hsay]
   have ecnt : cnt (m.Store.Past ++ [m.Server.Now]) c = cnt m.Store.Past c + 1 := by rw [cnt_snoc, if_pos ecl]
   rw [ecl, etk]
   have ht := told (m := { m with Store := commit m.Store m.Server.Now m.Server.Says, Server := ⟨m.Server.Gen, m.Server.Box, false, req0, [], rep0⟩ }) hcs hk (t := (cnt m.Store.Past c : Int)) hc w.b m.Server.Says
   rw [ht]
   have hn2 : 0 ≤ c ∧ c < m.Clients.length := by omega
   have base : Inv2 cs { m with Store := commit m.Store m.Server.Now m.Server.Says, Server := ⟨m.Server.Gen, m.Server.Box, false, req0, [], rep0⟩, Clients := m.Clients, Up := false } := by
    refine ⟨h2.nd, fun b hb' => (by obtain ⟨c, w, e⟩ := h2.q b hb'; exact ⟨c, ⟨w.r, w.b, w.s, w.g⟩, e⟩), fun e => (by cases e), fun d hd' hne => ?_, fun e => (by cases e)⟩
    obtain ⟨q1, q2, q3⟩ := h2.a d hd' hne
    obtain ⟨q4, q5⟩ := ans_snoc (r := m.Server.Now) (h.cl d hd').at0 q2 rfl
    refine ⟨q1, q4, ?_⟩
    show (ix m.Clients d).Box = [ansB ⟨d, (ix m.Clients d).At, ix (heardF [] (m.Store.Past ++ [m.Server.Now]) d) (ix m.Clients d).At⟩]
    rw [← q5]; exact q3
   have hfin : Inv2 cs (withC { m with Store := commit m.Store m.Server.Now m.Server.Says, Server := ⟨m.Server.Gen, m.Server.Box, false, req0, [], rep0⟩, Clients := m.Clients, Up := false } c { (ix m.Clients c) with Box := [ansB ⟨c, (cnt m.Store.Past c : Int), m.Server.Says⟩] }) := by
    refine base.withC hcs hk hc hl (fun e => (by cases e)) (fun _ => ⟨w.s, ?_, ?_⟩) (fun e => (by cases e))
    ·show (ix m.Clients c).At < (cnt (m.Store.Past ++ [m.Server.Now]) c : Int)
     rw [ecnt, n3]; omega
    ·show [ansB ⟨c, (cnt m.Store.Past c : Int), m.Server.Says⟩] = [ansB ⟨c, (ix m.Clients c).At, ix (heardF [] (m.Store.Past ++ [m.Server.Now]) c) (ix m.Clients c).At⟩]
     rw [n3, ehd, ix_last _ _ _ (by rw [heardF_len])]
   have hp : pot (withC { m with Store := commit m.Store m.Server.Now m.Server.Says, Server := ⟨m.Server.Gen, m.Server.Box, false, req0, [], rep0⟩ } c { (ix m.Clients c) with Box := [ansB ⟨c, (cnt m.Store.Past c : Int), m.Server.Says⟩] }) < pot m := by
    rw [pot_withS hn2, wt_told _ w.b]
    unfold pot
    simp only [hb, if_true, hP, List.length_nil, Bool.false_eq_true, if_false]
    omega
   refine ⟨⟨hfin.nd, fun b hb' => (by obtain ⟨d, w, e⟩ := hfin.q b hb'; exact ⟨d, ⟨w.r, w.b, w.s, w.g⟩, e⟩), fun e => (by obtain ⟨w, e⟩ := hfin.b e; exact ⟨⟨w.r, w.b, w.s, w.g⟩, e⟩), hfin.a, fun _ d hd' => ?_⟩, Int.le_of_lt hp, fun _ _ => hp⟩
   show (ix (up m.Clients c { (ix m.Clients c) with Box := [ansB ⟨c, (cnt m.Store.Past c : Int), m.Server.Says⟩] }) d).Sent = true → (ix (up m.Clients c { (ix m.Clients c) with Box := [ansB ⟨c, (cnt m.Store.Past c : Int), m.Server.Says⟩] }) d).Gen = m.Server.Gen → (ix (up m.Clients c { (ix m.Clients c) with Box := [ansB ⟨c, (cnt m.Store.Past c : Int), m.Server.Says⟩] }) d).Box = [] → d ∈ lst m ∨ (false = true ∧ req0.Client = d)
   rw [ix_up _ _ _ _ hn2 hd'.1]
   split
   ·intro _ _ e3; cases e3
   ·rename_i hne
    intro a1 a2 a3
    rcases h2.s hu d hd' a1 a2 a3 with hq | hq
    ·exact .inl hq
    ·exact (hne (by rw [← ecl]; exact hq.2)).elim
 | false =>
  cases hB : m.Server.Box with
  | nil =>
   have e : serve m.Store m.Server = (m.Store, m.Server, [], 12) := by unfold serve; rw [hb, hB]; rfl
   rw [e, if_pos (show ((12 : Int) ≠ 0) from by decide)]
   exact ⟨h2, Int.le_refl _, fun _ t => by rcases t with t | t <;> simp_all⟩
  | cons b box =>
   have e : serve m.Store m.Server = (m.Store, (take1 m.Store m.Server b box).1, (take1 m.Store m.Server b box).2, 0) := by unfold serve; rw [hb, hB]; rfl
   rw [e]
   simp only [ne_eq, not_true, if_false]
   obtain ⟨c, w, hbt, hlt⟩ := h2.q b (by rw [hB]; simp)
   obtain ⟨nd, hni⟩ := h2.tail hB
   have hc := w.r
   have hn2 : 0 ≤ c ∧ c < m.Clients.length := by omega
   have hx := h.cl c hc
   have h8 := hcs.len hc
   have hat0 := hx.at0; have hat1 := hx.at1; have hat2 := hx.at2
   have hread : readReq b = (⟨c, (ix m.Clients c).At, call cs c (ix m.Clients c).At⟩, 0) := by rw [hbt]; exact readReq_reqB (wreq_of (by omega) (by omega) (hcs.call hc ⟨hat0, hlt⟩))
   have hob : own b = c := by rw [hbt]; exact own_req hcs hc
   rw [hob] at hni
   have hlast : last m.Store c = if cnt m.Store.Past c = 0 then (ans0, false) else (⟨c, (cnt m.Store.Past c : Int) - 1, ix (heardF [] m.Store.Past c) ((cnt m.Store.Past c : Int) - 1)⟩, true) := by
    unfold last
    rw [h.ans, h.law.find c]
    by_cases h0 : cnt m.Store.Past c = 0
    ·rw [if_pos h0, if_pos h0]
    ·rw [if_neg h0, if_neg h0]
   have hq : ∀ b' ∈ box, ∃ d : Int, Wait cs m d ∧ b' = reqB ⟨d, (ix m.Clients d).At, call cs d (ix m.Clients d).At⟩ ∧ (ix m.Clients d).At < (ix cs d).length := fun b' hb' => h2.q b' (by rw [hB]; simp [hb'])
   have hs : ∀ d : Int, 0 ≤ d ∧ d < cs.length → d ≠ c → (ix m.Clients d).Sent = true → (ix m.Clients d).Gen = m.Server.Gen → (ix m.Clients d).Box = [] → d ∈ box.map own := fun d hd hne a1 a2 a3 => by
    rcases h2.s hu d hd a1 a2 a3 with hm | hm
    ·unfold lst at hm
     rw [hB, List.map_cons, hob] at hm
     rcases List.mem_cons.1 hm with hm | hm
     ·exact (hne hm).elim
     ·exact hm
    ·rw [hb] at hm; cases hm.1
   unfold take1
   rw [hread]
   simp only [ne_eq, not_true, if_false]
   by_cases h1 : (last m.Store c).2 = true ∧ (ix m.Clients c).At ≤ (last m.Store c).1.Token
   ·rw [if_pos h1]
    have h0 : cnt m.Store.Past c ≠ 0 := by
     intro h0
     rw [hlast, if_pos h0] at h1
     exact absurd h1.1 (by simp)
    rw [hlast, if_neg h0] at h1 ⊢
    simp only at h1 ⊢
    have hat : (cnt m.Store.Past c : Int) - 1 = (ix m.Clients c).At := by omega
    rw [if_pos hat]
    have ht := told (m := { m with Store := m.Store, Server := { m.Server with Box := box } }) hcs hk (t := (cnt m.Store.Past c : Int) - 1) hc w.b (ix (heardF [] m.Store.Past c) ((cnt m.Store.Past c : Int) - 1))
    rw [ht]
    have base : Inv2 cs { m with Store := m.Store, Server := { m.Server with Box := box }, Clients := m.Clients, Up := false } :=
     ⟨nd, fun b' hb' => (by obtain ⟨d, w, e⟩ := hq b' hb'; exact ⟨d, ⟨w.r, w.b, w.s, w.g⟩, e⟩), fun e => (by have e' : m.Server.Busy = true := e; rw [hb] at e'; cases e'), h2.a, fun e => (by cases e)⟩
    have hfin : Inv2 cs (withC { m with Store := m.Store, Server := { m.Server with Box := box }, Clients := m.Clients, Up := false } c { (ix m.Clients c) with Box := [ansB ⟨c, (cnt m.Store.Past c : Int) - 1, ix (heardF [] m.Store.Past c) ((cnt m.Store.Past c : Int) - 1)⟩] }) := by
     refine base.withC hcs hk hc hni (fun e => (by have e' : m.Server.Busy = true := e; rw [hb] at e'; cases e')) (fun _ => ⟨w.s, ?_, ?_⟩) (fun e => (by cases e))
     ·show (ix m.Clients c).At < (cnt m.Store.Past c : Int)
      omega
     ·show [ansB ⟨c, (cnt m.Store.Past c : Int) - 1, ix (heardF [] m.Store.Past c) ((cnt m.Store.Past c : Int) - 1)⟩] = [ansB ⟨c, (ix m.Clients c).At, ix (heardF [] m.Store.Past c) (ix m.Clients c).At⟩]
      rw [hat]
    have hp : pot (withC { m with Store := m.Store, Server := { m.Server with Box := box } } c { (ix m.Clients c) with Box := [ansB ⟨c, (cnt m.Store.Past c : Int) - 1, ix (heardF [] m.Store.Past c) ((cnt m.Store.Past c : Int) - 1)⟩] }) < pot m := by
     rw [pot_withS hn2, wt_told _ w.b]
     unfold pot
     simp only [hb, Bool.false_eq_true, if_false]
     omega
    refine ⟨⟨hfin.nd, fun b hb' => (by obtain ⟨d, w, e⟩ := hfin.q b hb'; exact ⟨d, ⟨w.r, w.b, w.s, w.g⟩, e⟩), fun e => (by obtain ⟨w, e⟩ := hfin.b e; exact ⟨⟨w.r, w.b, w.s, w.g⟩, e⟩), hfin.a, fun _ d hd' => ?_⟩, Int.le_of_lt hp, fun _ _ => hp⟩
    show (ix (up m.Clients c _) d).Sent = true → (ix (up m.Clients c _) d).Gen = m.Server.Gen → (ix (up m.Clients c _) d).Box = [] → d ∈ box.map own ∨ _
    rw [ix_up _ _ _ _ hn2 hd'.1]
    split
    ·intro _ _ e3; cases e3
    ·rename_i hne
     exact fun a1 a2 a3 => .inl (hs d hd' (fun e => hne e.symm) a1 a2 a3)
   ·rw [if_neg h1]
    have et : ∀ M : Mk.Machine, Sp.toC M [] = M := fun M => by unfold Sp.toC; rw [if_pos rfl]
    rw [et]
    have hpl := planR_len (entries m.Store.Cells) (call cs c (ix m.Clients c).At)
    have hp : pot { m with Store := m.Store, Server := ⟨m.Server.Gen, box, true, ⟨c, (ix m.Clients c).At, call cs c (ix m.Clients c).At⟩, (planR (entries m.Store.Cells) (call cs c (ix m.Clients c).At)).1, (planR (entries m.Store.Cells) (call cs c (ix m.Clients c).At)).2⟩ } < pot m := by
     rw [pot_same]
     unfold pot
     simp only [hb, if_true, Bool.false_eq_true, if_false]
     omega
    refine ⟨⟨nd, fun b' hb' => (by obtain ⟨d, w, e⟩ := hq b' hb'; exact ⟨d, ⟨w.r, w.b, w.s, w.g⟩, e⟩), fun _ => ⟨⟨w.r, w.b, w.s, w.g⟩, hni⟩, h2.a, fun _ d hd' a1 a2 a3 => ?_⟩, Int.le_of_lt hp, fun _ _ => hp⟩
    by_cases hdc : d = c
    ·exact .inr ⟨rfl, hdc.symm⟩
    ·exact .inl (hs d hd' hdc a1 a2 a3)
theorem inv2_do (hcs : CsOk cs) (h : Inv cs m) (h2 : Inv2 cs m) (s : Mk.Step) : Inv2 cs (doM m s).1 := by
 unfold doM
 split
 ·exact (inv2_doC hcs h h2 _).1
 ·split
  ·exact (inv2_doS hcs h h2).1
  ·split
   ·exact inv2_fall h2
   ·split
    ·exact inv2_tick h h2
    ·exact h2
theorem inv2_run (hcs : CsOk cs) (l : List Mk.Step) (h : Inv cs m) (h2 : Inv2 cs m) : Inv2 cs (runM m l) := by
 induction l generalizing m with
 | nil => exact h2
 | cons s l ih => exact ih (do_step hcs h s).2 (inv2_do hcs h h2 s)
theorem doM_client (m : Mk.Machine) (n : Int) : doM m ⟨1, n⟩ = doC m n := by simp [doM]
theorem doM_server (m : Mk.Machine) (n : Int) : doM m ⟨2, n⟩ = doS m := by simp [doM]
theorem doC_up (m : Mk.Machine) (n : Int) : (doC m n).1.Up = m.Up := by
 unfold doC
 split
 ·rfl
 ·split
  ·rfl
  ·split
   ·rfl
   ·split <;> rfl
theorem clients_go (hcs : CsOk cs) (n i : Nat) (hi : i + n ≤ cs.length) (h : Inv cs m) (h2 : Inv2 cs m) : pot (runM m (csteps n i)) ≤ pot m ∧ (todo m → todo (runM m (csteps n i))) ∧ (runM m (csteps n i)).Up = m.Up ∧
  (m.Up = true → ∀ c : Nat, i ≤ c → c < i + n → (ix m.Clients (c : Int)).At < (ix m.Clients (c : Int)).Calls.length → pot (runM m (csteps n i)) < pot m ∨ todo (runM m (csteps n i))) := by
 induction n generalizing m i with
 | zero => exact ⟨Int.le_refl _, fun t => t, rfl, fun _ c h1 h2 => by omega⟩
 | succ n ih =>
  have hd := inv2_doC hcs h h2 (i : Int)
  obtain ⟨d1, d2, d3, d4, d5⟩ := hd
  have hI := (do_step hcs h ⟨1, (i : Int)⟩).2
  have hup := doC_up m (i : Int)
  rw [doM_client] at hI
  obtain ⟨i1, i2, i3, i4⟩ := ih (i + 1) (by omega) hI d1
  rw [csteps, runM, doM_client]
  refine ⟨by omega, fun t => i2 (d3 t), by rw [i3, hup], fun hu c h1 h2' hlt => ?_⟩
  by_cases hci : c = i
  ·subst hci
   rcases d5 ⟨by omega, by omega⟩ hu hlt with hh | hh
   ·exact .inl (by omega)
   ·exact .inr (i2 hh)
  ·have e := d4 (c : Int) (by omega) (by omega)
   rcases i4 (by rw [hup]; exact hu) c (by omega) (by omega) (by rw [e]; exact hlt) with hh | hh
   ·exact .inl (by omega)
   ·exact .inr hh
theorem pot_tick (h : Inv cs m) : pot (tick m) ≤ pot m ∧ (m.Up = false → pot (tick m) < pot m) ∧ (m.Up = true → tick m = m) := by
 unfold tick
 split
 ·rename_i hu
  exact ⟨Int.le_refl _, fun e => (by rw [hu] at e; cases e), fun _ => rfl⟩
 ·rename_i h1
  have hu : m.Up = false := by cases hu : m.Up <;> simp_all
  obtain ⟨d1, d2, d3, d4⟩ := h.down hu
  have hb : m.Server.Busy = false := by rw [d1]; rfl
  split
  ·have hp : pot { m with Pause := m.Pause - 1 } = pot m - 1 := by
    unfold pot; simp only; omega
   exact ⟨by omega, fun _ => by omega, fun e => (by rw [hu] at e; cases e)⟩
  ·have hp : pot ⟨back m.Store, srv0 (m.Server.Gen + 1), true, 0, m.Falls, m.Clients⟩ = pot m - m.Pause := by
    unfold pot
    simp only [hb, srv0, Bool.false_eq_true, if_false]; omega
   exact ⟨by omega, fun _ => by omega, fun e => (by rw [hu] at e; cases e)⟩
theorem not_idle {l : List Mk.Client} (h : idle l = false) : ∃ c : Nat, c < l.length ∧ (ix l (c : Int)).At < (ix l (c : Int)).Calls.length := by
 induction l with
 | nil => cases h
 | cons x l ih =>
  unfold idle at h
  rw [List.all_cons] at h
  by_cases hx : (x.Calls.length : Int) ≤ x.At
  ·rw [dT hx, Bool.true_and] at h
   obtain ⟨c, h1, h2⟩ := ih h
   refine ⟨c + 1, by simp; omega, ?_⟩
   have e : ix (x :: l) ((c + 1 : Nat) : Int) = ix l (c : Int) := by simp [ix]
   rw [e]; exact h2
  ·have e : ix (x :: l) ((0 : Nat) : Int) = x := rfl
   exact ⟨0, by simp, by rw [e]; omega⟩
theorem round_pot (hcs : CsOk cs) (h : Inv cs m) (h2 : Inv2 cs m) (hid : idle m.Clients = false) : Inv2 cs (roundM m) ∧ pot (roundM m) < pot m := by
 have hT := inv_tick h
 have hT2 := inv2_tick h h2
 obtain ⟨p1, p2, p3⟩ := pot_tick h
 have hn := h.nk
 obtain ⟨c1, c2, c3, c4⟩ := clients_go hcs m.Clients.length 0 (by omega) hT hT2
 have hC := inv_run hcs hT (csteps m.Clients.length 0)
 have hC2 := inv2_run hcs (csteps m.Clients.length 0) hT hT2
 obtain ⟨s1, s2, s3⟩ := inv2_doS hcs hC hC2
 unfold roundM
 rw [doM_server]
 refine ⟨s1, ?_⟩
 rcases Bool.eq_false_or_eq_true m.Up with hu | hu
 rotate_left
 ·have := p2 hu; omega
 ·have ht := p3 hu
  obtain ⟨c, hc, hlt⟩ := not_idle hid
  rw [ht] at c1 c2 c3 c4 s2 s3 ⊢
  rcases c4 hu c (by omega) (by omega) hlt with hh | hh
  ·omega
  ·have := s3 (by rw [c3, hu]) hh; omega
theorem sumw_low (l : List Mk.Client) (h : ∀ x ∈ l, -5 ≤ wt x ∧ wt x ≤ 48) : -5 * (l.length : Int) ≤ sumw l ∧ sumw l ≤ 48 * (l.length : Int) := by
 induction l with
 | nil => simp [sumw]
 | cons x l ih =>
  have h1 := ih (fun y hy => h y (by simp [hy]))
  have h2 := h x (by simp)
  rw [sumw, List.length_cons]; omega
theorem pot_range (hcs : CsOk cs) (h : Inv cs m) : -19 ≤ pot m ∧ pot m ≤ 147 := by
 have hn3 := hcs.n
 have hk := h.nk
 have hw : ∀ x ∈ m.Clients, -5 ≤ wt x ∧ wt x ≤ 48 := fun x hx => by
  obtain ⟨i, hi, e⟩ := List.mem_iff_getElem.1 hx
  have hc := h.cl (i : Int) (by omega)
  rw [ix_nat _ i hi, e] at hc
  have h8 := hc.le8 hcs h.law (by omega)
  have h1 := hc.at1
  have h2 := h.law.cnt_le (i : Int) (by omega)
  have h3 := hc.calls
  have h0 := hc.at0
  rw [← h3] at h2
  unfold wt
  split <;> omega
 have hs := sumw_low m.Clients hw
 have hp : 0 ≤ m.Pause ∧ m.Pause ≤ 3 := by
  rcases Bool.eq_false_or_eq_true m.Up with hu | hu
  ·have := (h.up hu).1; omega
  ·have := h.down hu; omega
 have hb : m.Server.Busy = true → m.Server.Plan.length ≤ 3 := fun hb => by
  obtain ⟨b0, done, _, _, _, _, _, hpl⟩ := h.st
  have := planR_len (allN [] m.Store.Past) m.Server.Now.Call
  rw [hpl hb, List.length_append] at this
  omega
 unfold pot
 split
 ·rename_i hh; have := hb hh; omega
 ·omega
theorem settle_idle (hcs : CsOk cs) (k : Nat) (h : Inv cs m) (h2 : Inv2 cs m) (hk : pot m + 20 ≤ (k : Int)) : idle (settle k m).Clients = true := by
 induction k generalizing m with
 | zero => have := (pot_range hcs h).1; omega
 | succ k ih =>
  unfold settle
  cases hid : idle m.Clients with
  | true => simp [hid]
  | false =>
   obtain ⟨r1, r2⟩ := round_pot hcs h h2 hid
   simp only [Bool.false_eq_true, if_false]
   exact ih (inv_round hcs h) r1 (by omega)
theorem inv2_new {l : List (List Mk.Call)} (h0 : (newM l).2 = 0) : Inv2 l (newM l).1 := by
 obtain ⟨_, hM, e⟩ := newM_inv h0
 rw [e]
 have hix : ∀ c : Int, 0 ≤ c ∧ c < l.length → ix (l.map cl0) c = cl0 (ix l c) := fun c hc => by
  have : c.toNat < l.length := by omega
  simp [ix, this]
 refine ⟨by simp [lst, srv0], by simp [srv0], fun e => (by cases e), fun c hc hne => ?_, fun _ c hc hs => ?_⟩
 ·have hne' : (ix (l.map cl0) c).Box ≠ [] := hne
  rw [hix c hc] at hne'; exact (hne' rfl).elim
 ·have hs' : (ix (l.map cl0) c).Sent = true := hs
  rw [hix c hc] at hs'; cases hs'
end
theorem settled {l : List (List Mk.Call)} (h0 : (newM l).2 = 0) (steps : List Mk.Step) : CsOk l ∧ Inv l (settle 300 (runM (newM l).1 (steps.take 400))) ∧ idle (settle 300 (runM (newM l).1 (steps.take 400))).Clients = true := by
 obtain ⟨hcs, hM0, _⟩ := newM_inv h0
 have hM := inv_run hcs hM0 (steps.take 400)
 have hM2 := inv2_run hcs (steps.take 400) hM0 (inv2_new h0)
 have hr := (pot_range hcs hM).2
 exact ⟨hcs, inv_settle hcs 300 hM, settle_idle hcs 300 hM hM2 (by omega)⟩
theorem idle_mem {l : List Mk.Client} (h : idle l = true) (i : Nat) (hi : i < l.length) : ((ix l (i : Int)).Calls.length : Int) ≤ (ix l (i : Int)).At := by
 unfold idle at h
 rw [List.all_eq_true] at h
 have := h (ix l (i : Int)) (ix_mem _ _ (by omega))
 simpa using this
end Sp
end
section
namespace Sp
theorem allN_calls (l : List Mk.Write) : ∀ (p q : List Mk.Request), p.map (fun r => r.Call) = q.map (fun r => r.Call) → allN l p = allN l q ∧ allR l p = allR l q := by
 intro p
 induction p generalizing l with
 | nil => intro q h; cases q with
  | nil => exact ⟨rfl, rfl⟩
  | cons r q => simp at h
 | cons r p ih =>
  intro q h
  cases q with
  | nil => simp at h
  | cons s q =>
   simp only [List.map_cons, List.cons.injEq] at h
   obtain ⟨h1, h2⟩ := h
   obtain ⟨i1, i2⟩ := ih (doP l r.Call).1 q h2
   rw [allN, allN, allR, allR, i1, i2, h1]
   exact ⟨rfl, rfl⟩
theorem heard_all (l : List Mk.Write) (p : List Mk.Request) (c : Int) (h : ∀ r ∈ p, r.Client = c) : heardF l p c = allR l p := by
 induction p generalizing l with
 | nil => rfl
 | cons r p ih =>
  rw [heardF, allR, if_pos (h r (by simp)), ih _ (fun r hr => h r (by simp [hr]))]
theorem range_ix (l : List Mk.Call) : (List.range l.length).map (fun (t : Nat) => ix l (t : Int)) = l := by
 apply List.ext_getElem
 ·simp
 ·intro i h1 h2
  simp [ix, h2]
end Sp
end
section
namespace Sp
def there (l : List Mk.Write) (x : Int) : Bool := decide (0 ≤ pos l x)
theorem pos_snoc (l : List Mk.Write) (w : Mk.Write) (x : Int) (h : pos l w.At < 0) : pos (l ++ [w]) x = if x = w.At then (l.length : Int) else pos l x := by
 induction l with
 | nil =>
  have e0 : pos ([] ++ [w]) x = if w.At = x then 0 else (if pos [] x < 0 then -1 else pos [] x + 1) := rfl
  rw [e0]
  by_cases e : w.At = x
  ·rw [if_pos e, if_pos e.symm]; rfl
  ·rw [if_neg e, if_pos (show pos [] x < 0 from by show (-1 : Int) < 0; decide), if_neg (show ¬ x = w.At from fun h => e h.symm)]; rfl
 | cons v l ih =>
  have h1 : v.At ≠ w.At ∧ pos l w.At < 0 := by
   unfold pos at h
   split at h
   ·omega
   ·rename_i hv
    refine ⟨hv, ?_⟩
    split at h
    ·assumption
    ·rename_i h2; omega
  have ih := ih h1.2
  rw [List.cons_append, pos, ih, pos]
  by_cases e : x = w.At
  ·subst e
   rw [if_neg h1.1, if_pos rfl, if_pos rfl]
   rw [if_neg (by omega)]; simp
  ·rw [if_neg e, if_neg e]
theorem pos_mem (l : List Mk.Write) (x : Int) : 0 ≤ pos l x ↔ x ∈ l.map (·.At) := by
 induction l with
 | nil => simp [pos]
 | cons w l ih =>
  have := (pos_range l x).1
  unfold pos
  by_cases e : w.At = x
  ·simp [e]
  ·rw [if_neg e]
   have : x ∈ (w :: l).map (·.At) ↔ x ∈ l.map (·.At) := by
    simp; exact fun h => (e h.symm).elim
   rw [this, ← ih]
   split <;> omega
def callN (k i : Int) : Mk.Call := ⟨1, 1 + 100 * k + i, 0, i⟩
structure Room (p : List Mk.Request) : Prop where
 len : (allN [] p).length = min p.length 5
 mem : ∀ w ∈ allN [] p, ∃ c t : Int, (0 ≤ c ∧ c < 2) ∧ (0 ≤ t ∧ t < cnt p c) ∧ w.At = 1 + 100 * c + t
 nd : ((allN [] p).map (·.At)).Nodup
 rep : ∀ c t : Int, 0 ≤ c ∧ c < 2 → 0 ≤ t ∧ t < cnt p c → (there (allN [] p) (1 + 100 * c + t) = true ∧ (ix (heardF [] p c) t).Err = 0) ∨ (there (allN [] p) (1 + 100 * c + t) = false ∧ (ix (heardF [] p c) t).Err = 9)
theorem room {cs : List (List Mk.Call)} (h2 : cs.length ≤ 2) (h8 : ∀ c : Int, 0 ≤ c ∧ c < cs.length → (ix cs c).length ≤ 8) (hcs : ∀ c t : Int, 0 ≤ c ∧ c < cs.length → 0 ≤ t ∧ t < (ix cs c).length → call cs c t = callN c t) {p : List Mk.Request} (h : Lawful cs p) : Room p := by
 induction h with
 | nil => exact ⟨rfl, fun w hw => by simp [allN] at hw, by simp [allN], fun c t hc ht => by simp [cnt] at ht; omega⟩
 | @snoc p r h hc ht hl hk ih =>
  have hcal : r.Call = callN r.Client (cnt p r.Client) := by rw [hk, ht]; exact hcs _ _ hc ⟨by omega, hl⟩
  have h8r := h8 _ hc
  have hnew : pos (allN [] p) (1 + 100 * r.Client + cnt p r.Client) < 0 := by
   rcases Int.lt_or_le (pos (allN [] p) (1 + 100 * r.Client + cnt p r.Client)) 0 with hh | hh
   ·exact hh
   ·obtain ⟨w, hw, e⟩ := List.mem_map.1 ((pos_mem _ _).1 hh)
    obtain ⟨c, t, h1, h2, h3⟩ := ih.mem w hw
    have hcl : cnt p c ≤ 8 := by
     by_cases hcc : c < cs.length
     ·have := h.cnt_le c ⟨h1.1, hcc⟩
      have := h8 c ⟨h1.1, hcc⟩
      omega
     ·rw [cnt_out h c (by omega)]; omega
    have : c = r.Client := by omega
    subst this
    omega
  have hcnt : ∀ c : Int, cnt (p ++ [r]) c = cnt p c + if r.Client = c then 1 else 0 := fun c => cnt_snoc p r c
  have hlen := ih.len
  have hrep : ∀ c t : Int, 0 ≤ t ∧ t < cnt p c → ix (heardF [] (p ++ [r]) c) t = ix (heardF [] p c) t := fun c t ht => by
   rw [heardF_snoc, ix_app _ _ _ (by rw [heardF_len]; exact ht)]
  have hrepn : ix (heardF [] (p ++ [r]) r.Client) (cnt p r.Client) = (doP (allN [] p) r.Call).2 := by
   rw [heardF_snoc, if_pos rfl, ix_last _ _ _ (by rw [heardF_len])]
  have hne : ∀ c t : Int, 0 ≤ c ∧ c < 2 → 0 ≤ t ∧ t < cnt p c → 1 + 100 * c + t ≠ 1 + 100 * r.Client + cnt p r.Client := fun c t h1 h2 e => by
   have hcl : cnt p c ≤ 8 := by
    by_cases hcc : c < cs.length
    ·have := h.cnt_le c ⟨h1.1, hcc⟩
     have := h8 c ⟨h1.1, hcc⟩
     omega
    ·rw [cnt_out h c (by omega)]; omega
   have : c = r.Client := by omega
   subst this
   omega
  by_cases h5 : 5 ≤ (allN [] p).length
  ·have hd : doP (allN [] p) r.Call = (allN [] p, ⟨9, 0⟩) := by
    rw [hcal]; unfold doP callN
    rw [if_neg (by simp), if_pos rfl, if_pos hnew, if_pos h5]
   refine ⟨?_, fun w hw => ?_, ?_, fun c t hc2 ht2 => ?_⟩
   ·rw [allN_snoc, hd]; simp; omega
   ·rw [allN_snoc, hd] at hw
    obtain ⟨c, t, h1, h2, h3⟩ := ih.mem w hw
    exact ⟨c, t, h1, ⟨h2.1, by rw [hcnt]; split <;> omega⟩, h3⟩
   ·rw [allN_snoc, hd]; exact ih.nd
   ·rw [allN_snoc, hd]
    by_cases hlt : t < cnt p c
    ·rw [hrep c t ⟨ht2.1, hlt⟩]
     exact ih.rep c t hc2 ⟨ht2.1, hlt⟩
    ·rw [hcnt] at ht2
     have hcc : r.Client = c := by
      rcases Decidable.em (r.Client = c) with e | e
      ·exact e
      ·rw [if_neg e] at ht2; omega
     rw [if_pos hcc] at ht2
     have ht3 : t = cnt p r.Client := by rw [hcc]; omega
     rw [ht3, ← hcc, hrepn, hd]
     exact .inr ⟨dF (show ¬ 0 ≤ pos (allN [] p) (1 + 100 * r.Client + cnt p r.Client) by omega), rfl⟩
  ·have hd : doP (allN [] p) r.Call = (allN [] p ++ [⟨1 + 100 * r.Client + cnt p r.Client, cnt p r.Client⟩], ⟨0, 0⟩) := by
    rw [hcal]; unfold doP callN
    rw [if_neg (by simp), if_pos rfl, if_pos hnew, if_neg h5]
   have hps := fun x => pos_snoc (allN [] p) ⟨1 + 100 * r.Client + cnt p r.Client, cnt p r.Client⟩ x hnew
   refine ⟨?_, fun w hw => ?_, ?_, fun c t hc2 ht2 => ?_⟩
   ·rw [allN_snoc, hd]; simp; omega
   ·rw [allN_snoc, hd] at hw
    rcases List.mem_append.1 hw with hw | hw
    ·obtain ⟨c, t, h1, h2, h3⟩ := ih.mem w hw
     exact ⟨c, t, h1, ⟨h2.1, by rw [hcnt]; split <;> omega⟩, h3⟩
    ·simp only [List.mem_singleton] at hw
     subst hw
     exact ⟨r.Client, cnt p r.Client, by omega, ⟨by omega, by rw [hcnt, if_pos rfl]; omega⟩, rfl⟩
   ·rw [allN_snoc, hd, List.map_append]
    refine List.nodup_append.2 ⟨ih.nd, by simp, fun a ha b hb e => ?_⟩
    simp at hb
    have := (pos_mem _ _).2 ha
    rw [e, hb] at this
    omega
   ·rw [allN_snoc, hd]
    by_cases hlt : t < cnt p c
    ·rw [hrep c t ⟨ht2.1, hlt⟩]
     have := ih.rep c t hc2 ⟨ht2.1, hlt⟩
     unfold there at this ⊢
     rw [hps, if_neg (hne c t hc2 ⟨ht2.1, hlt⟩)]
     exact this
    ·rw [hcnt] at ht2
     have hcc : r.Client = c := by
      rcases Decidable.em (r.Client = c) with e | e
      ·exact e
      ·rw [if_neg e] at ht2; omega
     rw [if_pos hcc] at ht2
     have ht3 : t = cnt p r.Client := by rw [hcc]; omega
     rw [ht3, ← hcc, hrepn, hd]
     refine .inl ⟨?_, rfl⟩
     unfold there
     rw [hps, if_pos rfl]
     exact dT (by omega)
end Sp
end
section
namespace Sp
def val (l : List Mk.Write) (x : Int) : Option Int := if pos l x < 0 then none else some (ix l (pos l x)).N
def valDo (v : Option Int) (c : Mk.Call) : Option Int × Mk.Reply :=
 match v with
 | none => if c.Kind = 1 then (some c.N, ⟨0, 0⟩) else (none, ⟨6, 0⟩)
 | some n => if c.Kind = 1 then (some c.N, ⟨0, n⟩) else if c.Kind = 2 then (some n, ⟨0, n⟩) else if c.Kind = 3 then (none, ⟨0, n⟩) else
  if 1073741824 < n + c.N ∨ n + c.N < -1073741824 then (some n, ⟨3, 0⟩) else (some (n + c.N), ⟨0, n + c.N⟩)
theorem pos_set {l : List Mk.Write} {k : Nat} {w : Mk.Write} (hk : k < l.length) (h : (l[k]).At = w.At) (x : Int) : pos (l.set k w) x = pos l x := by
 apply pos_map
 rw [List.map_set]
 apply List.ext_getElem
 ·simp
 ·intro i h1 h2
  rw [List.getElem_set]
  split
  ·rename_i e; subst e; simp [h]
  ·rfl
theorem val_set {l : List Mk.Write} (hn : (l.map (·.At)).Nodup) {x n : Int} (hp : 0 ≤ pos l x) (y : Int) : val (l.set (pos l x).toNat ⟨x, n⟩) y = if y = x then some n else val l y := by
 have hr := (pos_range l x).2
 have hk : (pos l x).toNat < l.length := by omega
 obtain ⟨s1, s2⟩ := pos_spec l x hp
 have e1 : ix l (pos l x) = l[(pos l x).toNat] := by simp [ix, hk]
 rw [e1] at s1
 have hps := pos_set (w := ⟨x, n⟩) hk s1 y
 unfold val
 rw [hps]
 by_cases e : y = x
 ·subst e
  rw [if_neg (by omega), if_pos rfl]
  simp [ix, hk]
 ·rw [if_neg e]
  split
  ·rfl
  ·rename_i hy
   have hy2 : 0 ≤ pos l y := by omega
   obtain ⟨t1, t2⟩ := pos_spec l y hy2
   have hne : (pos l x).toNat ≠ (pos l y).toNat := by
    intro e2
    have hk2 : (pos l y).toNat < l.length := by rw [← e2]; exact hk
    have e3 : ix l (pos l y) = l[(pos l y).toNat] := by simp [ix, hk2]
    rw [e3] at t1
    have : l[(pos l x).toNat] = l[(pos l y).toNat] := by simp [e2]
    rw [this] at s1
    exact e (t1.symm.trans s1)
   have : ix (l.set (pos l x).toNat ⟨x, n⟩) (pos l y) = ix l (pos l y) := by
    simp [ix, List.getElem?_set, hne]
   rw [this]
theorem val_snoc {l : List Mk.Write} {x n : Int} (hp : pos l x < 0) (y : Int) : val (l ++ [⟨x, n⟩]) y = if y = x then some n else val l y := by
 have hps := pos_snoc l ⟨x, n⟩ y hp
 unfold val
 rw [hps]
 by_cases e : y = x
 ·simp only at e ⊢
  rw [if_pos e, if_pos e, if_neg (by omega)]
  rw [ix_last _ _ _ rfl]
 ·simp only at e ⊢
  rw [if_neg e, if_neg e]
  split
  ·rfl
  ·rename_i hy
   have := (pos_range l y).2
   rw [ix_app _ _ _ (by omega)]
theorem val_mem {l : List Mk.Write} (hn : (l.map (·.At)).Nodup) (x n : Int) : val l x = some n ↔ (⟨x, n⟩ : Mk.Write) ∈ l := by
 induction l with
 | nil => simp [val, pos]
 | cons w l ih =>
  simp only [List.map_cons, List.nodup_cons] at hn
  have ih := ih hn.2
  have hr := (pos_range l x).1
  by_cases e : w.At = x
  ·have h0 : pos (w :: l) x = 0 := by rw [pos, if_pos e]
   have : val (w :: l) x = some w.N := by unfold val; rw [h0]; rfl
   rw [this]
   constructor
   ·intro h
    injection h with h
    obtain ⟨a, b⟩ := w
    simp only at e h
    subst e; subst h; simp
   ·intro h
    rcases List.mem_cons.1 h with h | h
    ·rw [← h]
    ·exact (hn.1 (by rw [e]; exact List.mem_map.2 ⟨_, h, rfl⟩)).elim
  ·have : val (w :: l) x = val l x := by
    unfold val
    rw [pos, if_neg e]
    by_cases h : pos l x < 0
    ·rw [if_pos h, if_pos h, if_pos (by omega)]
    ·rw [if_neg h, if_neg h, if_neg (by omega)]
     congr 2
     have e1 : (pos l x + 1).toNat = (pos l x).toNat + 1 := by omega
     unfold ix; rw [e1]; rfl
   rw [this, ih]
   constructor
   ·intro h; simp [h]
   ·intro h
    rcases List.mem_cons.1 h with h | h
    ·rw [← h] at e; exact (e rfl).elim
    ·exact h
theorem val_perm {l m : List Mk.Write} (hl : (l.map (·.At)).Nodup) (hm : (m.map (·.At)).Nodup) {x y : Int} (h : ∀ n, (⟨x, n⟩ : Mk.Write) ∈ l ↔ (⟨y, n⟩ : Mk.Write) ∈ m) : val l x = val m y := by
 cases hv : val l x with
 | some n => exact ((val_mem hm y n).2 ((h n).1 ((val_mem hl x n).1 hv))).symm
 | none =>
  cases hw : val m y with
  | none => rfl
  | some n =>
   have := (val_mem hl x n).2 ((h n).2 ((val_mem hm y n).1 hw))
   rw [hv] at this; cases this
theorem dp_mem {l : List Mk.Write} (hn : (l.map (·.At)).Nodup) {x : Int} (hp : 0 ≤ pos l x) (w : Mk.Write) : w ∈ (l.set (pos l x).toNat (ix l ((l.length : Int) - 1))).take (l.length - 1) ↔ w ∈ l ∧ w.At ≠ x := by
 have hr := (pos_range l x).2
 obtain ⟨s1, s2⟩ := pos_spec l x hp
 obtain ⟨k, hk⟩ : ∃ k : Nat, pos l x = k := ⟨(pos l x).toNat, by omega⟩
 rw [hk] at s1 hr ⊢
 have hkl : k < l.length := by omega
 have e1 : ix l ((k : Nat) : Int) = l[k] := by simp [ix, hkl]
 have e2 : ix l ((l.length : Int) - 1) = l[l.length - 1] := by
  have : ((l.length : Int) - 1).toNat = l.length - 1 := by omega
  have h2 : l.length - 1 < l.length := by omega
  unfold ix; rw [this]; simp [h2]
 rw [e1] at s1
 have inj : ∀ i j : Nat, (hi : i < l.length) → (hj : j < l.length) → (l[i]).At = (l[j]).At → i = j := fun i j hi hj e => by
  have h1 : i < (l.map (·.At)).length := by simpa using hi
  have h2 : j < (l.map (·.At)).length := by simpa using hj
  have hpw := List.pairwise_iff_getElem.1 hn
  rcases Nat.lt_trichotomy i j with h | h | h
  ·exact (hpw i j h1 h2 h (by simpa using e)).elim
  ·exact h
  ·exact (hpw j i h2 h1 h (by simpa using e.symm)).elim
 rw [e2, show ((k : Nat) : Int).toNat = k from by omega]
 constructor
 ·intro h
  obtain ⟨i, hi, e⟩ := List.mem_iff_getElem.1 h
  simp only [List.length_take, List.length_set] at hi
  rw [List.getElem_take, List.getElem_set] at e
  split at e
  ·rename_i hik
   subst e
   refine ⟨List.getElem_mem _, fun e3 => ?_⟩
   have := inj (l.length - 1) k (by omega) hkl (e3.trans s1.symm)
   omega
  ·rename_i hik
   subst e
   refine ⟨List.getElem_mem _, fun e3 => ?_⟩
   exact hik (inj i k (by omega) hkl (e3.trans s1.symm)).symm
 ·rintro ⟨h, hne⟩
  obtain ⟨i, hi, e⟩ := List.mem_iff_getElem.1 h
  have hik : i ≠ k := fun e3 => hne (by subst e3; rw [← e]; exact s1)
  by_cases hl : i = l.length - 1
  ·refine List.mem_iff_getElem.2 ⟨k, by simp; omega, ?_⟩
   rw [List.getElem_take, List.getElem_set, if_pos rfl, ← e]
   congr 1; exact hl.symm
  ·refine List.mem_iff_getElem.2 ⟨i, by simp; omega, ?_⟩
   rw [List.getElem_take, List.getElem_set, if_neg (fun e3 => hik e3.symm)]
   exact e
theorem doP_val {l : List Mk.Write} (h : Nm l) {c : Mk.Call} (hc : CallOk c) (hk : 1 ≤ c.Kind ∧ c.Kind ≤ 4) (hroom : val l c.Name = none → c.Kind = 1 → l.length < 5) :
  (doP l c).2 = (valDo (val l c.Name) c).2 ∧ ∀ x, val (doP l c).1 x = if x = c.Name then (valDo (val l c.Name) c).1 else val l x := by
 have hnd := h.nodup
 by_cases hp : pos l c.Name < 0
 ·have hv : val l c.Name = none := by unfold val; rw [if_pos hp]
  rw [hv]
  by_cases h1 : c.Kind = 1
  ·have hr := hroom hv h1
   have hd : doP l c = (l ++ [⟨c.Name, c.N⟩], ⟨0, 0⟩) := by
    unfold doP; rw [if_neg (by omega), if_pos h1, if_pos hp, if_neg (by omega)]
   rw [hd]
   simp only [valDo, h1, if_true, true_and]
   exact fun x => val_snoc hp x
  ·have hd : doP l c = (l, ⟨6, 0⟩) := by
    unfold doP; rw [if_neg (by omega), if_neg h1, if_pos hp]
   rw [hd]
   simp only [valDo, h1, if_false, true_and]
   intro x
   split
   ·rename_i e; rw [e, hv]
   ·rfl
 ·have hp' : 0 ≤ pos l c.Name := by omega
  have hv : val l c.Name = some (ix l (pos l c.Name)).N := by unfold val; rw [if_neg hp]
  rw [hv]
  by_cases h1 : c.Kind = 1
  ·have hd : doP l c = (l.set (pos l c.Name).toNat ⟨c.Name, c.N⟩, ⟨0, (ix l (pos l c.Name)).N⟩) := by
    unfold doP; rw [if_neg (by omega), if_pos h1, if_neg hp]
   rw [hd]
   simp only [valDo, h1, if_true, true_and]
   exact fun x => val_set hnd hp' x
  ·by_cases h2 : c.Kind = 2
   ·have hd : doP l c = (l, ⟨0, (ix l (pos l c.Name)).N⟩) := by
     unfold doP; rw [if_neg (by omega), if_neg h1, if_neg hp, if_pos h2]
    rw [hd]
    simp only [valDo, h1, h2, if_false, if_true, true_and, show ((2 : Int) = 1) = False from by simp]
    intro x
    split
    ·rename_i e; rw [e, hv]
    ·rfl
   ·by_cases h3 : c.Kind = 3
    ·have hd : doP l c = ((l.set (pos l c.Name).toNat (ix l ((l.length : Int) - 1))).take (l.length - 1), ⟨0, (ix l (pos l c.Name)).N⟩) := by
      unfold doP; rw [if_neg (by omega), if_neg h1, if_neg hp, if_neg h2, if_pos h3]
     have hnd2 := (nm_doP h hc).nodup
     rw [hd] at hnd2
     rw [hd]
     simp only [valDo, h1, h2, h3, if_false, if_true, true_and, show ((3 : Int) = 1) = False from by simp, show ((3 : Int) = 2) = False from by simp]
     intro x
     by_cases e : x = c.Name
     ·rw [if_pos e]
      cases hw : val ((l.set (pos l c.Name).toNat (ix l ((l.length : Int) - 1))).take (l.length - 1)) x with
      | none => rfl
      | some n =>
       have := (dp_mem hnd hp' ⟨x, n⟩).1 ((val_mem hnd2 x n).1 hw)
       exact (this.2 e).elim
     ·rw [if_neg e]
      exact val_perm hnd2 hnd fun n => by
       rw [dp_mem hnd hp' ⟨x, n⟩]
       exact ⟨fun h => h.1, fun h => ⟨h, e⟩⟩
    ·have h4 : c.Kind = 4 := by omega
     by_cases hb : 1073741824 < (ix l (pos l c.Name)).N + c.N ∨ (ix l (pos l c.Name)).N + c.N < -1073741824
     ·have hd : doP l c = (l, ⟨3, 0⟩) := by
       unfold doP; rw [if_neg (by omega), if_neg h1, if_neg hp, if_neg h2, if_neg h3, if_pos h4, if_pos hb]
      rw [hd]
      simp only [valDo, h1, h2, h3, if_false, hb, if_true, true_and]
      intro x
      split
      ·rename_i e; rw [e, hv]
      ·rfl
     ·have hd : doP l c = (l.set (pos l c.Name).toNat ⟨c.Name, (ix l (pos l c.Name)).N + c.N⟩, ⟨0, (ix l (pos l c.Name)).N + c.N⟩) := by
       unfold doP; rw [if_neg (by omega), if_neg h1, if_neg hp, if_neg h2, if_neg h3, if_pos h4, if_neg hb]
      rw [hd]
      simp only [valDo, h1, h2, h3, if_false, hb, true_and]
      exact fun x => val_set hnd hp' x
end Sp
end
section
namespace Sp
theorem nodup_le {α : Type} [DecidableEq α] : ∀ (l m : List α), l.Nodup → (∀ x ∈ l, x ∈ m) → l.length ≤ m.length := by
 intro l
 induction l with
 | nil => intro m _ _; simp
 | cons x l ih =>
  intro m hn hs
  rw [List.nodup_cons] at hn
  have h1 := hs x (by simp)
  have := ih (m.erase x) hn.2 (fun y hy => by
   have hne : y ≠ x := fun e => hn.1 (by rw [← e]; exact hy)
   exact (List.mem_erase_of_ne hne).2 (hs y (by simp [hy])))
  rw [List.length_erase_of_mem h1] at this
  have hpos : 0 < m.length := List.length_pos_of_mem h1
  simp only [List.length_cons]
  omega
def among (N : List Int) (l : List Mk.Write) : Prop := ∀ w ∈ l, w.At ∈ N
theorem among_room {N : List Int} (hN : N.length ≤ 5) {l : List Mk.Write} (hn : (l.map (·.At)).Nodup) (ha : among N l) {x : Int} (hx : x ∈ N) (hv : val l x = none) : l.length < 5 := by
 have hnot : x ∉ l.map (·.At) := fun h => by
  have := (pos_mem l x).2 h
  unfold val at hv
  rw [if_neg (by omega)] at hv
  cases hv
 have := nodup_le (l.map (·.At)) (N.erase x) hn (fun y hy => by
  have hne : y ≠ x := fun e => hnot (by rw [← e]; exact hy)
  obtain ⟨w, hw, rfl⟩ := List.mem_map.1 hy
  exact (List.mem_erase_of_ne hne).2 (ha w hw))
 rw [List.length_erase_of_mem hx, List.length_map] at this
 have hpos : 0 < N.length := List.length_pos_of_mem hx
 omega
theorem among_doP {N : List Int} {l : List Mk.Write} (h : Nm l) (ha : among N l) {c : Mk.Call} (hc : CallOk c) (hk : 1 ≤ c.Kind ∧ c.Kind ≤ 4) (hx : c.Name ∈ N) (hN : N.length ≤ 5) : among N (doP l c).1 := by
 obtain ⟨_, hv⟩ := doP_val h hc hk (fun hv _ => among_room hN h.nodup ha hx hv)
 have hnd := (nm_doP h hc).nodup
 intro w hw
 have hval := (val_mem hnd w.At w.N).2 hw
 rw [hv] at hval
 split at hval
 ·rename_i e; rw [e]; exact hx
 ·exact ha w ((val_mem h.nodup w.At w.N).1 hval)
structure Calls5 (N : List Int) (cs : List (List Mk.Call)) : Prop where
 n : N.length ≤ 5
 ok : ∀ l ∈ cs, ∀ c ∈ l, CallOk c ∧ (1 ≤ c.Kind ∧ c.Kind ≤ 4) ∧ c.Name ∈ N
 my : ∀ c d t u : Int, 0 ≤ c ∧ c < cs.length → 0 ≤ d ∧ d < cs.length → c ≠ d → 0 ≤ t ∧ t < (ix cs c).length → 0 ≤ u ∧ u < (ix cs d).length → (call cs c t).Name ≠ (call cs d u).Name
theorem mine_snoc (p : List Mk.Request) (r : Mk.Request) (c : Int) : mine (p ++ [r]) c = if r.Client = c then mine p c ++ [r] else mine p c := by
 unfold mine
 rw [List.filter_append]
 by_cases h : r.Client = c <;> simp [h]
theorem apart {N : List Int} {cs : List (List Mk.Call)} (h5 : Calls5 N cs) {p : List Mk.Request} (h : Lawful cs p) :
  Nm (allN [] p) ∧ among N (allN [] p) ∧ ∀ c : Int, 0 ≤ c ∧ c < cs.length → Nm (allN [] (mine p c)) ∧ among N (allN [] (mine p c)) ∧ heardF [] p c = allR [] (mine p c) ∧
   (∀ t : Int, 0 ≤ t ∧ t < (ix cs c).length → val (allN [] p) (call cs c t).Name = val (allN [] (mine p c)) (call cs c t).Name) := by
 induction h with
 | nil => exact ⟨nm_nil, fun w hw => by simp [allN] at hw, fun c hc => ⟨nm_nil, fun w hw => by simp [mine, allN] at hw, rfl, fun t ht => rfl⟩⟩
 | @snoc p r h hc ht hl hk ih =>
  obtain ⟨i1, i2, i3⟩ := ih
  have hcr : r.Call = call cs r.Client (cnt p r.Client) := by rw [hk, ht]
  obtain ⟨o1, o2, o3⟩ := h5.ok _ (ix_mem cs r.Client hc) r.Call (by rw [hcr]; exact ix_mem _ _ ⟨by omega, hl⟩)
  obtain ⟨d1, d2⟩ := doP_val i1 o1 o2 (fun hv _ => among_room h5.n i1.nodup i2 o3 hv)
  refine ⟨by rw [allN_snoc]; exact nm_doP i1 o1, by rw [allN_snoc]; exact among_doP i1 i2 o1 o2 o3 h5.n, fun c hc2 => ?_⟩
  obtain ⟨j1, j2, j3, j4⟩ := i3 c hc2
  rw [mine_snoc, allN_snoc]
  by_cases hcc : r.Client = c
  ·rw [if_pos hcc, allN_snoc]
   obtain ⟨e1, e2⟩ := doP_val j1 o1 o2 (fun hv _ => among_room h5.n j1.nodup j2 o3 hv)
   have hvv : val (allN [] p) r.Call.Name = val (allN [] (mine p c)) r.Call.Name := by
    rw [hcr, hcc]; exact j4 _ (by rw [← hcc]; exact ⟨by omega, hl⟩)
   refine ⟨nm_doP j1 o1, among_doP j1 j2 o1 o2 o3 h5.n, ?_, fun t ht2 => ?_⟩
   ·rw [heardF_snoc, if_pos hcc, allR_snoc, j3, d1, e1, hvv]
   ·rw [d2, e2, hvv, j4 t ht2]
  ·rw [if_neg hcc]
   refine ⟨j1, j2, ?_, fun t ht2 => ?_⟩
   ·rw [heardF_snoc, if_neg hcc, List.append_nil]; exact j3
   ·rw [d2, if_neg ?_]
    ·exact j4 t ht2
    ·rw [hcr]
     exact h5.my c r.Client t _ hc2 hc (fun e => hcc e.symm) ht2 ⟨by omega, hl⟩
end Sp
end
section
namespace Sp
open Go
def segs (c : UInt8) : List UInt8 → List (List UInt8)
 | [] => [[]]
 | x :: l => if x = c then [] :: segs c l else match segs c l with
  | [] => [[x]]
  | s :: ss => (x :: s) :: ss
theorem segs_ne (c : UInt8) (l : List UInt8) : segs c l ≠ [] := by
 cases l with
 | nil => simp [segs]
 | cons x l =>
  unfold segs
  split
  ·simp
  ·split <;> simp
theorem segs_none {c : UInt8} {l : List UInt8} (h : c ∉ l) : segs c l = [l] := by
 induction l with
 | nil => rfl
 | cons x l ih =>
  simp only [List.mem_cons, not_or] at h
  rw [segs, if_neg (fun e => h.1 e.symm), ih h.2]
theorem segs_some {c : UInt8} (a b : List UInt8) (h : c ∉ a) : segs c (a ++ c :: b) = a :: segs c b := by
 induction a with
 | nil => rw [List.nil_append, segs, if_pos rfl]
 | cons x a ih =>
  simp only [List.mem_cons, not_or] at h
  rw [List.cons_append, segs, if_neg (fun e => h.1 e.symm), ih h.2]
theorem index_cases (c : UInt8) (l : List UInt8) : (Lib.index l [c] = -1 ∧ c ∉ l) ∨ ∃ a b, l = a ++ c :: b ∧ c ∉ a ∧ Lib.index l [c] = (a.length : Int) := by
 induction l with
 | nil => exact .inl ⟨rfl, by simp⟩
 | cons x l ih =>
  by_cases hx : x = c
  ·refine .inr ⟨[], l, by rw [hx]; rfl, by simp, ?_⟩
   unfold Lib.index
   rw [if_pos (by simp [hx])]; rfl
  ·have hp : ([c].isPrefixOf (x :: l)) = false := by simp [List.isPrefixOf]; exact fun e => hx e.symm
   rcases ih with ⟨h1, h2⟩ | ⟨a, b, h1, h2, h3⟩
   ·refine .inl ⟨?_, by simp only [List.mem_cons, not_or]; exact ⟨fun e => hx e.symm, h2⟩⟩
    unfold Lib.index
    rw [hp, h1]; rfl
   ·refine .inr ⟨x :: a, b, by rw [h1]; rfl, by simp only [List.mem_cons, not_or]; exact ⟨fun e => hx e.symm, h2⟩, ?_⟩
    unfold Lib.index
    rw [hp, h3]
    have : ((a.length : Int) == -1) = false := by
     simp only [beq_eq_false_iff_ne, ne_eq]; omega
    rw [this]
    simp only [Bool.false_eq_true, if_false, List.length_cons]
    omega
theorem splitK_segs (c : UInt8) : ∀ (f : Nat) (s : List UInt8), s.length < f → Lib.splitK [c] 0 (Lib.countFrom [c] f s) s = segs c s := by
 intro f
 induction f with
 | zero => intro s h; omega
 | succ f ih =>
  intro s h
  rcases index_cases c s with ⟨h1, h2⟩ | ⟨a, b, h1, h2, h3⟩
  ·rw [Lib.countFrom, h1]
   show Lib.splitK [c] 0 0 s = _
   rw [segs_none h2]; rfl
  ·have hne : ((a.length : Int) == -1) = false := by simp only [beq_eq_false_iff_ne, ne_eq]; omega
   have hd : s.drop ((a.length : Int).toNat + [c].length) = b := by
    rw [h1]; simp
   have ht : s.take ((a.length : Int).toNat + 0) = a := by rw [h1]; simp
   have hl : b.length < f := by rw [h1] at h; simp at h; omega
   rw [Lib.countFrom, h3, hne]
   simp only [Bool.false_eq_true, if_false]
   rw [hd, Nat.add_comm 1, Lib.splitK, h3, hne]
   simp only [Bool.false_eq_true, if_false]
   rw [hd, ht, ih b hl, h1, segs_some a b h2]
theorem split_segs (s : List UInt8) (c : UInt8) : Lib.split s [c] = segs c s := splitK_segs c (s.length + 1) s (by omega)
theorem cut_segs (s : List UInt8) (c : UInt8) : (c ∉ s ∧ Lib.cut s [c] = (s, [], false)) ∨ ∃ a b, s = a ++ c :: b ∧ c ∉ a ∧ Lib.cut s [c] = (a, b, true) := by
 rcases index_cases c s with ⟨h1, h2⟩ | ⟨a, b, h1, h2, h3⟩
 ·refine .inl ⟨h2, ?_⟩
  unfold Lib.cut
  rw [h1]; rfl
 ·refine .inr ⟨a, b, h1, h2, ?_⟩
  unfold Lib.cut
  rw [h3, if_pos (by omega), h1]; simp
theorem parse_append (a : Nat) (l : List UInt8) (c : UInt8) : Lib.parseUint10 a (l ++ [c]) = match Lib.parseUint10 a l with
  | .ok v => Lib.parseUint10 v [c]
  | e => e := by
 induction l generalizing a with
 | nil => simp [Lib.parseUint10]
 | cons x l ih =>
  rw [List.cons_append, Lib.parseUint10]
  by_cases h1 : 48 ≤ x.toNat ∧ x.toNat ≤ 57
  ·by_cases h2 : 1844674407370955162 ≤ a
   ·simp [Lib.parseUint10, h1, h2]
   ·by_cases h3 : 18446744073709551616 ≤ a * 10 + (x.toNat - 48)
    ·simp [Lib.parseUint10, h1, h2, h3]
    ·rw [if_pos h1, if_neg h2, if_neg h3, ih]
     rw [Lib.parseUint10, if_pos h1, if_neg h2, if_neg h3]
  ·simp [Lib.parseUint10, h1]
theorem digit_nat (d : Nat) (h : d < 10) : (UInt8.ofNat (48 + d)).toNat = 48 + d := by
 simp only [UInt8.toNat_ofNat']; omega
theorem parse_digits (u : Nat) (h : u < 18446744073709551616) : Lib.parseUint10 0 (Lib.decDigits u) = .ok u ∧ ∀ b ∈ Lib.decDigits u, 48 ≤ b.toNat ∧ b.toNat ≤ 57 := by
 induction u using Nat.strongRecOn with
 | ind u ih =>
  rw [Lib.decDigits]
  by_cases h10 : u < 10
  ·rw [dif_pos h10]
   have e := digit_nat u h10
   refine ⟨?_, fun b hb => ?_⟩
   ·rw [Lib.parseUint10, e, if_pos (by omega), if_neg (by omega), if_neg (by omega), Lib.parseUint10]
    congr 1; omega
   ·simp only [List.mem_singleton] at hb; subst hb; rw [e]; omega
  ·rw [dif_neg h10]
   obtain ⟨i1, i2⟩ := ih (u / 10) (by omega) (by omega)
   have e := digit_nat (u % 10) (by omega)
   refine ⟨?_, fun b hb => ?_⟩
   ·rw [parse_append, i1]
    show Lib.parseUint10 (u / 10) [_] = _
    rw [Lib.parseUint10, e, if_pos (by omega), if_neg (by omega), if_neg (by omega), Lib.parseUint10]
    congr 1; omega
   ·rcases List.mem_append.1 hb with hb | hb
    ·exact i2 b hb
    ·simp only [List.mem_singleton] at hb; subst hb; rw [e]; omega
theorem digits_ne (u : Nat) : Lib.decDigits u ≠ [] := by
 rw [Lib.decDigits]; split <;> simp
theorem atoi_itoa (n : Int) (h : -1000000000000 ≤ n ∧ n ≤ 1000000000000) : Lib.atoiAll (Lib.itoa n) = .ok n := by
 unfold Lib.itoa
 split
 ·obtain ⟨p1, p2⟩ := parse_digits n.natAbs (by omega)
  unfold Lib.atoiAll
  simp only [show (45 : UInt8).toNat = 45 from rfl, or_true, if_true]
  unfold Lib.parseMag
  rw [if_neg (digits_ne _), p1]
  simp only [not_true, false_and, if_false, true_and, if_true]
  rw [if_neg (by omega)]
  congr 1; omega
 ·obtain ⟨p1, p2⟩ := parse_digits n.toNat (by omega)
  cases hd : Lib.decDigits n.toNat with
  | nil => exact absurd hd (digits_ne _)
  | cons c r =>
   have hc := p2 c (by rw [hd]; simp)
   unfold Lib.atoiAll
   simp only
   rw [if_neg (show ¬ (c.toNat = 43 ∨ c.toNat = 45) by omega), ← hd]
   unfold Lib.parseMag
   rw [if_neg (digits_ne _), p1]
   simp only [show (c.toNat = 45) = False from by simp; omega, not_false_eq_true, true_and, false_and, if_false]
   rw [if_neg (by omega)]
   congr 1; omega
theorem itoa_signs (n : Int) (h : -1000000000000 ≤ n ∧ n ≤ 1000000000000) : ∀ b ∈ Lib.itoa n, b = 45 ∨ (48 ≤ b.toNat ∧ b.toNat ≤ 57) := by
 unfold Lib.itoa
 split
 ·intro b hb
  rcases List.mem_cons.1 hb with hb | hb
  ·exact .inl hb
  ·exact .inr ((parse_digits n.natAbs (by omega)).2 b hb)
 ·intro b hb
  exact .inr ((parse_digits n.toNat (by omega)).2 b hb)
end Sp
end
section
namespace Sp
open Go
theorem bts_stb (s : ByteArray) : bts (stb s) = s := by simp [stb, bts]
theorem stb_len (s : ByteArray) : (stb s).length = s.size := Array.length_toList
abbrev z4 : Mk.Call := { Kind := (0 : Int), Name := (0 : Int), Other := (0 : Int), N := (0 : Int) }
abbrev wPut : ByteArray := ⟨#[112, 117, 116]⟩
abbrev wGet : ByteArray := ⟨#[103, 101, 116]⟩
abbrev wDrop : ByteArray := ⟨#[100, 114, 111, 112]⟩
abbrev wAdd : ByteArray := ⟨#[97, 100, 100]⟩
abbrev wCount : ByteArray := ⟨#[99, 111, 117, 110, 116]⟩
abbrev wSwap : ByteArray := ⟨#[115, 119, 97, 112]⟩
def kindB (w : ByteArray) : Int := if wSwap = w then 6 else if wCount = w then 5 else if wAdd = w then 4 else if wDrop = w then 3 else if wGet = w then 2 else if wPut = w then 1 else 0
def wordB (k : Int) : ByteArray := if k = 1 then wPut else if k = 2 then wGet else if k = 3 then wDrop else if k = 4 then wAdd else if k = 5 then wCount else wSwap
theorem kindB_cases (w : ByteArray) : (kindB w = 0) ∨ ((1 ≤ kindB w ∧ kindB w ≤ 6) ∧ wordB (kindB w) = w) := by
 unfold kindB
 repeat' split
 all_goals first | exact .inl rfl | (refine .inr ⟨by decide, ?_⟩; first | (rename_i h; subst h; rfl))
theorem kindB_word (k : Int) (h : 1 ≤ k ∧ k ≤ 6) : kindB (wordB k) = k := by
 have hk : k = 1 ∨ k = 2 ∨ k = 3 ∨ k = 4 ∨ k = 5 ∨ k = 6 := by omega
 rcases hk with rfl | rfl | rfl | rfl | rfl | rfl <;> rfl
def num (w : ByteArray) : Option Int := if (atoiOf (stb w)).2.bad = true ∨ bts (Lib.itoa (atoiOf (stb w)).1) ≠ w then none else some (atoiOf (stb w)).1
def fin (c : Mk.Call) : Mk.Call × Int := if wcall c ≠ 0 then (z4, wcall c) else (c, 0)
def parts (s : ByteArray) : List ByteArray := (segs 32 (stb s)).map bts
def nums : List ByteArray → Option (List Int)
 | [] => some []
 | w :: l => match num w with
  | none => none
  | some n => (nums l).map (n :: ·)
def kcnt (k : Int) : Nat := if k = 5 then 0 else if k = 2 ∨ k = 3 then 1 else 2
def made (k : Int) : List Int → Mk.Call
 | [] => { z4 with Kind := k }
 | [a] => { z4 with Kind := k, Name := a }
 | a :: b :: _ => if k = 6 then { z4 with Kind := k, Name := a, Other := b } else { z4 with Kind := k, Name := a, N := b }
def readP (l : List ByteArray) : Mk.Call × Int :=
 let k := kindB (ix l 0)
 if k = 0 then (z4, 1) else if l.length ≠ 1 + kcnt k then (z4, 2) else
 match nums l.tail with
 | none => (z4, 2)
 | some ns => fin (made k ns)
def readB (s : ByteArray) : Mk.Call × Int := readP (parts s)
theorem tl1_step {k2 : List ByteArray → Mk.Call → Mk.Call → Option (Mk.Call × Int)} {m : Nat} {x4 x16 : List ByteArray} {n i : Int} {y2 y5 : Mk.Call} (h0 : 0 ≤ i) (h1 : i < n) (hn : n = (x16.length : Int)) (h4 : 0 < x4.length) (hb : n ≤ 100) :
  text_ReadCall_l1 k2 (m + 1) x4 x16 n i y2 y5 = text_ReadCall_l1 k2 m x4 x16 n (i + 1) y2 (if ix x16 i = ix x4 0 then { y5 with Kind := i + 1 } else y5) := by
 rw [text_ReadCall_l1, dT h1, cT]
 simp only [J]
 rw [G_on (by omega), G_on (by omega)]
 by_cases h : ix x16 i = ix x4 0
 ·rw [dT h, cT, G_on (by unfold I; omega), G_on (by unfold I; omega), if_pos h]
 ·rw [dF h, cF, G_on (by unfold I; omega), if_neg h]
theorem tl1_at {k2 : List ByteArray → Mk.Call → Mk.Call → Option (Mk.Call × Int)} {m : Nat} {x4 x16 : List ByteArray} {n i : Int} {y2 : Mk.Call} {q : Int} (wd : ByteArray) (i' : Int) (h0 : 0 ≤ i) (h1 : i < n) (hn : n = (x16.length : Int)) (h4 : 0 < x4.length) (hb : n ≤ 100) (hw : ix x16 i = wd) (hi : i + 1 = i') :
  text_ReadCall_l1 k2 (m + 1) x4 x16 n i y2 { z4 with Kind := q } = text_ReadCall_l1 k2 m x4 x16 n i' y2 { z4 with Kind := if wd = ix x4 0 then i' else q } := by
 rw [tl1_step h0 h1 hn h4 hb, hw, hi]
 split <;> rfl
theorem tl1 (k2 : List ByteArray → Mk.Call → Mk.Call → Option (Mk.Call × Int)) (x4 : List ByteArray) (h4 : 0 < x4.length) :
  text_ReadCall_l1 k2 7 x4 [wPut, wGet, wDrop, wAdd, wCount, wSwap] 6 0 z4 z4 = k2 x4 z4 { z4 with Kind := kindB (ix x4 0) } := by
 refine (tl1_at (q := 0) wPut 1 (by decide) (by decide) rfl h4 (by decide) rfl rfl).trans ?_
 refine (tl1_at wGet 2 (by decide) (by decide) rfl h4 (by decide) rfl rfl).trans ?_
 refine (tl1_at wDrop 3 (by decide) (by decide) rfl h4 (by decide) rfl rfl).trans ?_
 refine (tl1_at wAdd 4 (by decide) (by decide) rfl h4 (by decide) rfl rfl).trans ?_
 refine (tl1_at wCount 5 (by decide) (by decide) rfl h4 (by decide) rfl rfl).trans ?_
 refine (tl1_at wSwap 6 (by decide) (by decide) rfl h4 (by decide) rfl rfl).trans ?_
 rw [text_ReadCall_l1, dF (by decide), cF]
 rfl
end Sp
end
section
namespace Sp
open Go
theorem atoi_on (w : ByteArray) (h : w.size ≤ 4294967280) : strconv_Atoi w = some (atoiOf (stb w)) := by
 unfold strconv_Atoi
 rw [G_on h]; rfl
theorem num_none {w : ByteArray} (h : num w = none) : ∃ v, Cn ((atoiOf (stb w)).2.bad = false) (strconv_Itoa (atoiOf (stb w)).1) = some v ∧ ((atoiOf (stb w)).2.bad || (!decide (v = w))) = true := by
 unfold num at h
 split at h
 ·rename_i hc
  cases hb : (atoiOf (stb w)).2.bad with
  | true => exact ⟨default, by unfold Cn; rw [if_neg (by simp)], by simp⟩
  | false =>
   rw [hb] at hc
   have hc' : bts (Lib.itoa (atoiOf (stb w)).1) ≠ w := by simpa using hc
   refine ⟨bts (Lib.itoa (atoiOf (stb w)).1), by unfold Cn; rw [if_pos rfl]; rfl, ?_⟩
   rw [dF hc']; rfl
 ·cases h
theorem num_some {w : ByteArray} {n : Int} (h : num w = some n) : (atoiOf (stb w)).1 = n ∧ bts (Lib.itoa n) = w ∧ ∃ v, Cn ((atoiOf (stb w)).2.bad = false) (strconv_Itoa (atoiOf (stb w)).1) = some v ∧ ((atoiOf (stb w)).2.bad || (!decide (v = w))) = false ∧ (atoiOf (stb w)).2.bad = false := by
 unfold num at h
 split at h
 ·cases h
 ·rename_i hc
  obtain rfl := Option.some.inj h
  simp only [not_or, Bool.not_eq_true, Decidable.not_not] at hc
  refine ⟨rfl, hc.2, bts (Lib.itoa (atoiOf (stb w)).1), by unfold Cn; rw [if_pos hc.1]; rfl, ?_, hc.1⟩
  rw [dT hc.2, hc.1]; rfl
theorem tl2_none {k : Mk.Call → Mk.Call → Option (Mk.Call × Int)} {m : Nat} {x4 : List ByteArray} {x44 : List Nat} {n i : Int} {y2 y5 : Mk.Call} (h0 : 0 ≤ i) (h1 : i < n) (hn : n = (x44.length : Int)) (h4 : 1 + i < (x4.length : Int)) (hb : n ≤ 100) {w : ByteArray} (hw : ix x4 (1 + i) = w) (hs : w.size ≤ 4294967280) (hnum : num w = none) :
  text_ReadCall_l2 k (m + 1) x4 x44 n i y2 y5 = some (z4, 2) := by
 obtain ⟨v, e1, e2⟩ := num_none hnum
 rw [text_ReadCall_l2, dT h1, cT, G_on (by omega), G_on (by unfold I; omega), G_on (by omega), hw, atoi_on w hs, obs, e1, obs, G_on (fun _ => by unfold I; omega), G_on (fun _ => by omega), e2, cT]
theorem tl2_some {k : Mk.Call → Mk.Call → Option (Mk.Call × Int)} {m : Nat} {x4 : List ByteArray} {x44 : List Nat} {n i : Int} {y2 y5 : Mk.Call} (h0 : 0 ≤ i) (h1 : i < n) (hn : n = (x44.length : Int)) (h4 : 1 + i < (x4.length : Int)) (hb : n ≤ 100) {w : ByteArray} (hw : ix x4 (1 + i) = w) (hs : w.size ≤ 4294967280) {v : Int} (hnum : num w = some v) {o : Nat} (ho : ix x44 i = o) (ho4 : o < 4) {i' : Int} (hi : i + 1 = i') :
  text_ReadCall_l2 k (m + 1) x4 x44 n i y2 y5 = text_ReadCall_l2 k m x4 x44 n i' y2 (cset y5 o v) := by
 obtain ⟨e0, -, u, e1, e2, e3⟩ := num_some hnum
 rw [text_ReadCall_l2, dT h1, cT, G_on (by omega), G_on (by unfold I; omega), G_on (by omega), hw, atoi_on w hs, obs, e1, obs, G_on (fun _ => by unfold I; omega), G_on (fun _ => by omega), e2, cF, ho, G_on ho4, G_on ho4, G_on (by unfold I; omega), e0, hi]
theorem tl2_end {k : Mk.Call → Mk.Call → Option (Mk.Call × Int)} {m : Nat} {x4 : List ByteArray} {x44 : List Nat} {n i : Int} {y2 y5 : Mk.Call} (h1 : ¬ i < n) : text_ReadCall_l2 k (m + 1) x4 x44 n i y2 y5 = k y2 y5 := by
 rw [text_ReadCall_l2, dF h1, cF]
def flds (k : Int) : List Nat := if k = 6 then [1, 2] else if k = 5 then [] else if k = 2 ∨ k = 3 then [1] else [1, 3]
theorem flds_len (k : Int) (h : 1 ≤ k ∧ k ≤ 6) : (flds k).length = kcnt k := by
 have hk : k = 1 ∨ k = 2 ∨ k = 3 ∨ k = 4 ∨ k = 5 ∨ k = 6 := by omega
 rcases hk with rfl | rfl | rfl | rfl | rfl | rfl <;> rfl
theorem tl2_run (kk : Mk.Call → Mk.Call → Option (Mk.Call × Int)) (x4 : List ByteArray) (k : Int) (hk : 1 ≤ k ∧ k ≤ 6) (hl : x4.length = 1 + kcnt k) (hs : ∀ x ∈ x4, x.size ≤ 4294967280) :
  text_ReadCall_l2 kk ((((flds k).length : Int) - (0 : Int)).toNat + 1) x4 (flds k) ((flds k).length : Int) 0 z4 { z4 with Kind := k } = match nums x4.tail with
   | none => some (z4, 2)
   | some ns => kk z4 (made k ns) := by
 have hk' : k = 1 ∨ k = 2 ∨ k = 3 ∨ k = 4 ∨ k = 5 ∨ k = 6 := by omega
 have two : ∀ (k : Int) (o : Nat), flds k = [1, o] → o < 4 → kcnt k = 2 → x4.length = 1 + kcnt k → (∀ a b, cset (cset { z4 with Kind := k } 1 a) o b = made k [a, b]) →
   text_ReadCall_l2 kk ((((flds k).length : Int) - (0 : Int)).toNat + 1) x4 (flds k) ((flds k).length : Int) 0 z4 { z4 with Kind := k } = match nums x4.tail with
   | none => some (z4, 2)
   | some ns => kk z4 (made k ns) := by
  intro k o hf ho hc hl hm
  rw [hc] at hl
  rw [hf]
  match x4, hl with
  | [w, a, b], _ =>
   have ha := hs a (by simp)
   have hb := hs b (by simp)
   show text_ReadCall_l2 kk 3 _ _ 2 0 _ _ = _
   cases na : num a with
   | none =>
    refine (tl2_none (n := 2) (i := 0) (by decide) (by decide) rfl (by simp only [List.length_cons, List.length_nil]; decide) (by decide) (w := a) rfl ha na).trans ?_
    simp [nums, na]
   | some v =>
    refine (tl2_some (n := 2) (i := 0) (by decide) (by decide) rfl (by simp only [List.length_cons, List.length_nil]; decide) (by decide) (w := a) rfl ha na (o := 1) rfl (by decide) (i' := 1) rfl).trans ?_
    cases nb : num b with
    | none =>
     refine (tl2_none (n := 2) (i := 1) (by decide) (by decide) rfl (by simp only [List.length_cons, List.length_nil]; decide) (by decide) (w := b) rfl hb nb).trans ?_
     simp [nums, na, nb]
    | some u =>
     refine (tl2_some (n := 2) (i := 1) (by decide) (by decide) rfl (by simp only [List.length_cons, List.length_nil]; decide) (by decide) (w := b) rfl hb nb (o := o) rfl ho (i' := 2) rfl).trans ?_
     rw [tl2_end (by decide)]
     rw [hm]
     simp [nums, na, nb]
 have one : ∀ (k : Int), flds k = [1] → kcnt k = 1 → x4.length = 1 + kcnt k → (∀ a, cset { z4 with Kind := k } 1 a = made k [a]) →
   text_ReadCall_l2 kk ((((flds k).length : Int) - (0 : Int)).toNat + 1) x4 (flds k) ((flds k).length : Int) 0 z4 { z4 with Kind := k } = match nums x4.tail with
   | none => some (z4, 2)
   | some ns => kk z4 (made k ns) := by
  intro k hf hc hl hm
  rw [hc] at hl
  rw [hf]
  match x4, hl with
  | [w, a], _ =>
   have ha := hs a (by simp)
   show text_ReadCall_l2 kk 2 _ _ 1 0 _ _ = _
   cases na : num a with
   | none =>
    refine (tl2_none (n := 1) (i := 0) (by decide) (by decide) rfl (by simp only [List.length_cons, List.length_nil]; decide) (by decide) (w := a) rfl ha na).trans ?_
    simp [nums, na]
   | some v =>
    refine (tl2_some (n := 1) (i := 0) (by decide) (by decide) rfl (by simp only [List.length_cons, List.length_nil]; decide) (by decide) (w := a) rfl ha na (o := 1) rfl (by decide) (i' := 1) rfl).trans ?_
    rw [tl2_end (by decide)]
    rw [hm]
    simp [nums, na]
 rcases hk' with rfl | rfl | rfl | rfl | rfl | rfl
 ·exact two 1 3 rfl (by decide) rfl hl (fun a b => rfl)
 ·exact one 2 rfl rfl hl (fun a => rfl)
 ·exact one 3 rfl rfl hl (fun a => rfl)
 ·exact two 4 3 rfl (by decide) rfl hl (fun a b => rfl)
 ·match x4, hl with
  | [w], _ =>
   show text_ReadCall_l2 kk 1 _ _ 0 0 _ _ = _
   rw [tl2_end (by decide)]; rfl
 ·exact two 6 2 rfl (by decide) rfl hl (fun a b => rfl)
theorem segs_len (c : UInt8) : ∀ (l : List UInt8), (∀ p ∈ segs c l, p.length ≤ l.length) ∧ (segs c l).length ≤ l.length + 1
 | [] => by simp [segs]
 | x :: l => by
  obtain ⟨h1, h2⟩ := segs_len c l
  unfold segs
  split
  ·refine ⟨fun p hp => ?_, by simp only [List.length_cons]; omega⟩
   rcases List.mem_cons.1 hp with rfl | hp
   ·simp
   ·have := h1 p hp; simp only [List.length_cons]; omega
  ·cases hs : segs c l with
   | nil => exact absurd hs (segs_ne c l)
   | cons s ss =>
    rw [hs] at h1 h2
    refine ⟨fun p hp => ?_, by simp only [List.length_cons] at h2 ⊢; omega⟩
    rcases List.mem_cons.1 hp with rfl | hp
    ·have := h1 s (by simp); simp only [List.length_cons]; omega
    ·have := h1 p (by simp [hp]); simp only [List.length_cons]; omega
theorem parts_ne (s : ByteArray) : 0 < (parts s).length := by
 unfold parts
 rw [List.length_map]
 exact List.length_pos_iff.2 (segs_ne 32 (stb s))
theorem parts_size {s : ByteArray} (h : s.size ≤ 4294967280) : ∀ x ∈ parts s, x.size ≤ 4294967280 := by
 intro x hx
 unfold parts at hx
 obtain ⟨p, hp, rfl⟩ := List.mem_map.1 hx
 have := (segs_len 32 (stb s)).1 p hp
 rw [stb_len] at this
 rw [bts_size]; omega
theorem split_parts (s : ByteArray) (h : s.size ≤ 4294967280) : strings_Split s ⟨#[32]⟩ = some (parts s) := by
 unfold strings_Split
 rw [G_on ⟨h, by decide⟩]
 congr 1
 have h1 := Lib.splitB_data ⟨#[32]⟩ 0 (Lib.countB s ⟨#[32]⟩) s
 have h2 := split_segs (stb s) 32
 have e : (Lib.splitB ⟨#[32]⟩ 0 (Lib.countB s ⟨#[32]⟩) s).map stb = segs 32 (stb s) := by
  rw [← h2]
  exact h1
 unfold parts
 rw [← e, List.map_map]
 conv => lhs; rw [← List.map_id (Lib.splitB _ _ _ _)]
 apply List.map_congr_left
 intro x _
 exact (bts_stb x).symm
theorem text_ReadCall_eq (s : ByteArray) (h : s.size ≤ 4294967280) : text_ReadCall s = some (readB s) := by
 unfold text_ReadCall
 rw [split_parts s h, obs]
 simp only [J, text_words, obs]
 have hp := parts_ne s
 have hz := parts_size h
 show text_ReadCall_l1 _ 7 _ _ 6 0 z4 z4 = _
 rw [tl1 _ _ hp]
 unfold readB readP
 simp only
 rcases kindB_cases (ix (parts s) 0) with hk | ⟨hk, -⟩
 ·rw [hk, dT rfl, cT, if_pos rfl]
 ·generalize hkk : kindB (ix (parts s) 0) = k at hk ⊢
  have hk0 : ¬ k = 0 := by omega
  rw [dF hk0, cF, if_neg hk0]
  have hf : text_fields k = some (flds k) := by unfold text_fields; rw [G_on hk]; rfl
  have hl := flds_len k hk
  have hc : kcnt k ≤ 2 := by unfold kcnt; split <;> (try split) <;> simp
  rw [hf, obs, G_on (by unfold I; omega)]
  by_cases hlen : (parts s).length = 1 + kcnt k
  ·rw [dT (by omega), nT, cF, if_neg (by omega), tl2_run _ _ k hk hlen hz]
   cases nums (parts s).tail with
   | none => rfl
   | some ns =>
    simp only [model_Wrong_eq, obs]
    unfold fin
    by_cases hw : wcall (made k ns) = 0
    ·rw [dT hw, nT, cF, if_neg (by simp [hw])]
    ·rw [dF hw, nF, cT, if_pos hw]
  ·rw [dF (by omega), nF, cT, if_pos hlen]
end Sp
end
section
namespace Sp
open Go
theorem J_def {κ β : Type} (k : κ) (f : κ → Option β) : J k f = f k := rfl
def finP (acc : List Mk.Call) : List Mk.Call × Int := if 8 < acc.length then ([], 5) else (acc, 0)
def parseQ : List Mk.Call → List (List UInt8) → List Mk.Call × Int
 | acc, [] => finP acc
 | acc, [p] => if p = [] then finP acc else ([], 8)
 | acc, p :: q :: ps => if (readB (bts p)).2 ≠ 0 then ([], (readB (bts p)).2) else parseQ (acc ++ [(readB (bts p)).1]) (q :: ps)
def parseB (s : ByteArray) : List Mk.Call × Int := parseQ [] (segs 10 (stb s))
theorem parseQ_cons (acc : List Mk.Call) (p : List UInt8) (qs : List (List UInt8)) (h : qs ≠ []) : parseQ acc (p :: qs) = if (readB (bts p)).2 ≠ 0 then ([], (readB (bts p)).2) else parseQ (acc ++ [(readB (bts p)).1]) qs := by
 cases qs with
 | nil => exact absurd rfl h
 | cons q qs => rfl
theorem bts_nil (l : List UInt8) : bts l = (⟨#[]⟩ : ByteArray) ↔ l = [] := by
 rw [show (⟨#[]⟩ : ByteArray) = bts [] from rfl]
 exact bts_inj
theorem finP_eq (acc : List Mk.Call) : (bif decide ((8 : Int) < (acc.length : Int)) then some (([] : List Mk.Call), (5 : Int)) else some (acc, (0 : Int))) = some (finP acc) := by
 unfold finP
 by_cases h : 8 < acc.length
 ·rw [dT (by omega), cT, if_pos h]
 ·rw [dF (by omega), cF, if_neg h]
theorem text_Parse_run : ∀ (f : Nat) (l : List UInt8) (acc : List Mk.Call), l.length < f → acc.length + l.length ≤ 4294967280 →
  text_Parse_l1 (fun y => bif decide ((8 : Int) < (y.length : Int)) then some (([] : List Mk.Call), (5 : Int)) else some (y, (0 : Int))) f (bts l) acc = some (parseQ acc (segs 10 l)) := by
 intro f
 induction f with
 | zero => intro l acc h; omega
 | succ f ih =>
  intro l acc hf hb
  rw [text_Parse_l1]
  by_cases hl : l = []
  ·subst hl
   have e0 : decide (bts [] = (⟨#[]⟩ : ByteArray)) = true := rfl
   rw [e0, nT, cF, finP_eq]; rfl
  ·rw [dF (fun e => hl ((bts_nil l).1 e)), nF, cT]
   unfold strings_Cut
   rw [G_on (by rw [bts_size]; omega), obs]
   have e : (bts l).data.toList = l := stb_bts l
   rw [e, show (⟨#[10]⟩ : ByteArray).data.toList = [10] from rfl]
   rcases cut_segs l 10 with ⟨h1, h2⟩ | ⟨a, b, h1, h2, h3⟩
   ·rw [h2]
    simp only [nF, cT]
    rw [segs_none h1]
    unfold parseQ
    rw [if_neg hl]
   ·rw [h3]
    simp only [nT, cF]
    have hla : a.length + 1 + b.length = l.length := by rw [h1]; simp; omega
    rw [show (⟨a.toArray⟩ : ByteArray) = bts a from rfl, show (⟨b.toArray⟩ : ByteArray) = bts b from rfl, text_ReadCall_eq _ (by rw [bts_size]; omega), obs, h1, segs_some a b h2, parseQ_cons _ _ _ (segs_ne 10 b)]
    by_cases hr : (readB (bts a)).2 = 0
    ·rw [dT hr, nT, cF, if_neg (by simp [hr]), G_on (by simp only [List.length_cons, List.length_nil]; omega)]
     exact ih b _ (by omega) (by simp only [List.length_append, List.length_cons, List.length_nil]; omega)
    ·rw [dF hr, nF, cT, if_pos hr]
theorem text_Parse_eq (s : ByteArray) (h : s.size ≤ 4294967280) : text_Parse s = some (parseB s) := by
 unfold text_Parse
 simp only [J]
 have := text_Parse_run (s.size + 1) (stb s) [] (by rw [stb_len]; omega) (by rw [stb_len]; simpa using h)
 rw [bts_stb] at this
 exact this
end Sp
end
section
namespace Sp
open Go
theorem bts_append (a b : List UInt8) : bts (a ++ b) = bts a ++ bts b := by
 rw [← bts_stb (bts a ++ bts b), stb_append, stb_bts, stb_bts]
def numsOf (c : Mk.Call) : List Int := (flds c.Kind).map (cget c)
def callL (c : Mk.Call) : List UInt8 := stb (wordB c.Kind) ++ (numsOf c).flatMap fun n => 32 :: Lib.itoa n
def printL (l : List Mk.Call) : List UInt8 := l.flatMap fun c => callL c ++ [10]
theorem flds_four (k : Int) : ∀ o ∈ flds k, o < 4 := by
 intro o ho
 unfold flds at ho
 repeat' split at ho
 all_goals simp at ho
 all_goals omega
theorem cget_range {c : Mk.Call} (h : CallOk c) (o : Nat) : -1073741824 ≤ cget c o ∧ cget c o ≤ 1073741824 := by
 have h1 := h.kind
 have h2 := h.name
 have h3 := h.other
 have h4 := h.num
 unfold cget
 split <;> by_cases h5 : c.Kind = 5 <;> by_cases h6 : c.Kind = 6 <;> omega
theorem itoa_size {n : Int} (h : -1073741824 ≤ n ∧ n ≤ 1073741824) : (bts (Lib.itoa n)).size ≤ 21 := by
 rw [bts_size]; exact Lib.itoa_length_le n (by omega) (by omega)
theorem wordB_size (k : Int) : (wordB k).size ≤ 5 := by
 unfold wordB
 repeat' split
 all_goals decide
theorem tc_run (k : ByteArray → Option ByteArray) (c : Mk.Call) (hc : CallOk c) (fl : List Nat) (hf : ∀ o ∈ fl, o < 4) (hn : fl.length ≤ 100) : ∀ (n i : Nat) (acc : ByteArray) (f : Nat), i + n = fl.length → n < f → acc.size ≤ 100 + 30 * i →
  text_Call_l1 k f acc fl (fl.length : Int) (i : Int) c = k (acc ++ bts ((fl.drop i).flatMap fun o => 32 :: Lib.itoa (cget c o))) := by
 intro n
 induction n with
 | zero =>
  intro i acc f hi hfu ha
  obtain ⟨f, rfl⟩ : ∃ g, f = g + 1 := ⟨f - 1, by omega⟩
  rw [text_Call_l1, dF (by omega), cF, List.drop_of_length_le (by omega)]
  congr 1
  rw [List.flatMap_nil, show acc = bts (stb acc) from (bts_stb acc).symm, ← bts_append, List.append_nil]
 | succ n ih =>
  intro i acc f hi hfu ha
  obtain ⟨f, rfl⟩ : ∃ g, f = g + 1 := ⟨f - 1, by omega⟩
  have hx := ix_drop fl i (by omega)
  have h4 : ix fl (i : Int) < 4 := hf _ (ix_mem fl i (by omega))
  have hs := itoa_size (cget_range hc (ix fl (i : Int)))
  rw [text_Call_l1, dT (by omega), cT, G_on (by omega), G_on h4, G_on h4]
  rw [show strconv_Itoa (cget c (ix fl (i : Int))) = some (bts (Lib.itoa (cget c (ix fl (i : Int))))) from rfl, obs]
  have e1 : (⟨#[32]⟩ : ByteArray).size = 1 := rfl
  rw [G_on (by rw [e1]; omega), G_on (by rw [ByteArray.size_append, e1]; omega), G_on (by unfold I; omega), show ((i : Int) + 1) = ((i + 1 : Nat) : Int) from by omega]
  rw [ih (i + 1) _ f (by omega) (by omega) (by rw [ByteArray.size_append, ByteArray.size_append, e1]; omega)]
  congr 1
  rw [hx, List.flatMap_cons, bts_append, show (⟨#[32]⟩ : ByteArray) = bts [32] from rfl, ← bts_append, ByteArray.append_assoc]
  rfl
theorem text_Call_eq (c : Mk.Call) (hc : CallOk c) : text_Call c = some (bts (callL c)) := by
 have hk := hc.kind
 have hk' : c.Kind = 1 ∨ c.Kind = 2 ∨ c.Kind = 3 ∨ c.Kind = 4 ∨ c.Kind = 5 ∨ c.Kind = 6 := by omega
 unfold text_Call
 rw [show text_words = some [wPut, wGet, wDrop, wAdd, wCount, wSwap] from rfl, obs, G_on (by unfold I; omega), G_on (by simp only [List.length_cons, List.length_nil]; omega), J_def]
 have hf : text_fields c.Kind = some (flds c.Kind) := by unfold text_fields; rw [G_on hk]; rfl
 have hw : ix [wPut, wGet, wDrop, wAdd, wCount, wSwap] (c.Kind - 1) = wordB c.Kind := by
  rcases hk' with h | h | h | h | h | h <;> rw [h] <;> rfl
 have hl : (flds c.Kind).length ≤ 100 := by
  have := flds_len c.Kind hk
  have : kcnt c.Kind ≤ 2 := by unfold kcnt; split <;> (try split) <;> simp
  omega
 rw [hf, obs, hw]
 have hr := tc_run (fun (x3_k4 : ByteArray) => some x3_k4) c hc (flds c.Kind) (flds_four c.Kind) hl (flds c.Kind).length 0 (wordB c.Kind) ((((flds c.Kind).length : Int) - (0 : Int)).toNat + 1) (by omega) (by omega) (by have := wordB_size c.Kind; omega)
 refine hr.trans ?_
 unfold callL numsOf
 rw [bts_append, bts_stb, List.drop_zero, List.flatMap_map]
theorem callL_size {c : Mk.Call} (hc : CallOk c) : (callL c).length ≤ 60 := by
 have hw := wordB_size c.Kind
 have h1 := itoa_size (cget_range hc 1)
 have h2 := itoa_size (cget_range hc 2)
 have h3 := itoa_size (cget_range hc 3)
 rw [bts_size] at h1 h2 h3
 unfold callL numsOf flds
 rw [List.length_append, stb_len]
 repeat' split
 all_goals simp only [List.map_cons, List.map_nil, List.flatMap_cons, List.flatMap_nil, List.length_append, List.length_cons, List.length_nil]
 all_goals omega
theorem tp_run (l : List Mk.Call) (hl : ∀ c ∈ l, CallOk c) (hn : l.length ≤ 100) : ∀ (n i : Nat) (acc : ByteArray) (f : Nat), i + n = l.length → n < f → acc.size ≤ 100 * i →
  text_Print_l1 (fun x => some x) f acc l (l.length : Int) (i : Int) = some (acc ++ bts (printL (l.drop i))) := by
 intro n
 induction n with
 | zero =>
  intro i acc f hi hf ha
  obtain ⟨f, rfl⟩ : ∃ g, f = g + 1 := ⟨f - 1, by omega⟩
  rw [text_Print_l1, dF (by omega), cF, List.drop_of_length_le (by omega)]
  congr 1
  rw [show printL [] = [] from rfl]
  conv => lhs; rw [← bts_stb acc]
  rw [show acc = bts (stb acc) from (bts_stb acc).symm, ← bts_append, List.append_nil, stb_bts]
 | succ n ih =>
  intro i acc f hi hf ha
  obtain ⟨f, rfl⟩ : ∃ g, f = g + 1 := ⟨f - 1, by omega⟩
  have hx := ix_drop l i (by omega)
  have hc := hl _ (ix_mem l i (by omega))
  have hs := callL_size hc
  have e1 : (⟨#[10]⟩ : ByteArray).size = 1 := rfl
  rw [text_Print_l1, dT (by omega), cT, G_on (by omega), text_Call_eq _ hc, obs, G_on (by rw [bts_size, e1]; omega), G_on (by rw [ByteArray.size_append, bts_size, e1]; omega), G_on (by unfold I; omega), show ((i : Int) + 1) = ((i + 1 : Nat) : Int) from by omega]
  rw [ih (i + 1) _ f (by omega) (by omega) (by rw [ByteArray.size_append, ByteArray.size_append, bts_size, e1]; omega)]
  congr 1
  rw [hx]
  show _ = acc ++ bts ((callL (ix l (i : Int)) ++ [10]) ++ printL (l.drop (i + 1)))
  rw [bts_append, bts_append, ByteArray.append_assoc]
  rfl
theorem text_Print_eq (l : List Mk.Call) (hl : ∀ c ∈ l, CallOk c) (hn : l.length ≤ 100) : text_Print l = some (bts (printL l)) := by
 unfold text_Print
 rw [J_def]
 refine (tp_run l hl hn l.length 0 (bts []) _ (by omega) (by omega) (by simp [bts_size])).trans ?_
 rw [List.drop_zero, ← bts_append, List.nil_append]
theorem no_sep {n : Int} (h : -1073741824 ≤ n ∧ n ≤ 1073741824) {x : UInt8} (hx : x = 32 ∨ x = 10) : x ∉ Lib.itoa n := by
 intro hm
 rcases itoa_signs n (by omega) x hm with h1 | h1
 ·rcases hx with rfl | rfl <;> exact absurd h1 (by decide)
 ·rcases hx with rfl | rfl
  ·exact absurd h1.1 (by decide)
  ·exact absurd h1.1 (by decide)
theorem word_sep (k : Int) {x : UInt8} (hx : x = 32 ∨ x = 10) : x ∉ stb (wordB k) := by
 unfold wordB
 rcases hx with rfl | rfl <;> repeat' split
 all_goals decide
theorem segs_nums (w : List UInt8) (hw : (32 : UInt8) ∉ w) (ns : List Int) (hn : ∀ n ∈ ns, -1073741824 ≤ n ∧ n ≤ 1073741824) : segs 32 (w ++ ns.flatMap fun n => 32 :: Lib.itoa n) = w :: ns.map Lib.itoa := by
 induction ns generalizing w with
 | nil => rw [List.flatMap_nil, List.append_nil, segs_none hw]; rfl
 | cons n ns ih =>
  rw [List.flatMap_cons, List.cons_append, segs_some _ _ hw, ih (Lib.itoa n) (no_sep (hn n (by simp)) (.inl rfl)) (fun m hm => hn m (by simp [hm]))]
  rfl
theorem num_itoa {n : Int} (h : -1073741824 ≤ n ∧ n ≤ 1073741824) : num (bts (Lib.itoa n)) = some n := by
 unfold num
 have e : atoiOf (stb (bts (Lib.itoa n))) = (n, ⟨false⟩) := by
  rw [stb_bts]; unfold atoiOf; rw [atoi_itoa n (by omega)]
 rw [e]
 simp
theorem nums_itoa (ns : List Int) (hn : ∀ n ∈ ns, -1073741824 ≤ n ∧ n ≤ 1073741824) : nums (ns.map fun n => bts (Lib.itoa n)) = some ns := by
 induction ns with
 | nil => rfl
 | cons n ns ih =>
  rw [List.map_cons, nums, num_itoa (hn n (by simp)), ih (fun m hm => hn m (by simp [hm]))]; rfl
theorem made_numsOf {c : Mk.Call} (hc : CallOk c) : made c.Kind (numsOf c) = c := by
 obtain ⟨k, n, o, m⟩ := c
 have h1 := hc.kind
 have h2 := hc.name
 have h3 := hc.other
 have h4 := hc.num
 simp only at h1 h2 h3 h4
 have hk : k = 1 ∨ k = 2 ∨ k = 3 ∨ k = 4 ∨ k = 5 ∨ k = 6 := by omega
 rcases hk with rfl | rfl | rfl | rfl | rfl | rfl
 ·have : o = 0 := by omega
  subst this; rfl
 ·have : o = 0 := by omega
  have : m = 0 := by omega
  subst_vars; rfl
 ·have : o = 0 := by omega
  have : m = 0 := by omega
  subst_vars; rfl
 ·have : o = 0 := by omega
  subst this; rfl
 ·have : n = 0 := by omega
  have : o = 0 := by omega
  have : m = 0 := by omega
  subst_vars; rfl
 ·have : m = 0 := by omega
  subst this; rfl
theorem numsOf_range {c : Mk.Call} (hc : CallOk c) : ∀ n ∈ numsOf c, -1073741824 ≤ n ∧ n ≤ 1073741824 := by
 intro n hn
 unfold numsOf at hn
 obtain ⟨o, ho, rfl⟩ := List.mem_map.1 hn
 exact cget_range hc o
theorem read_call {c : Mk.Call} (hc : CallOk c) : readB (bts (callL c)) = (c, 0) := by
 have hp : parts (bts (callL c)) = wordB c.Kind :: (numsOf c).map (fun n => bts (Lib.itoa n)) := by
  unfold parts callL
  rw [stb_bts, segs_nums _ (word_sep c.Kind (.inl rfl)) _ (numsOf_range hc), List.map_cons, bts_stb, List.map_map]
  rfl
 unfold readB readP
 rw [hp]
 have hk := hc.kind
 have h0 : ix (wordB c.Kind :: (numsOf c).map (fun n => bts (Lib.itoa n))) 0 = wordB c.Kind := rfl
 simp only [h0, kindB_word _ hk]
 rw [if_neg (by omega), if_neg (by
  have := flds_len c.Kind hk
  simp only [List.length_cons, List.length_map, numsOf]; omega)]
 rw [List.tail_cons, nums_itoa _ (numsOf_range hc)]
 simp only [made_numsOf hc]
 unfold fin
 rw [if_neg (by simpa using (wcall_ok c).2 hc)]
theorem line_sep {c : Mk.Call} (hc : CallOk c) : (10 : UInt8) ∉ callL c := by
 unfold callL
 rw [List.mem_append]
 rintro (h | h)
 ·exact word_sep c.Kind (.inr rfl) h
 ·obtain ⟨n, hn, h⟩ := List.mem_flatMap.1 h
  rcases List.mem_cons.1 h with h | h
  ·exact absurd h (by decide)
  ·exact no_sep (numsOf_range hc n hn) (.inr rfl) h
theorem parse_print (l : List Mk.Call) (hl : ∀ c ∈ l, CallOk c) (acc : List Mk.Call) : parseQ acc (segs 10 (printL l)) = finP (acc ++ l) := by
 induction l generalizing acc with
 | nil => rw [show segs 10 (printL []) = [[]] from rfl, List.append_nil]; rfl
 | cons c l ih =>
  have hc := hl c (by simp)
  rw [show printL (c :: l) = callL c ++ 10 :: printL l from by unfold printL; simp, segs_some _ _ (line_sep hc), parseQ_cons _ _ _ (segs_ne 10 _), read_call hc]
  simp only [ne_eq, not_true, if_false]
  rw [ih (fun d hd => hl d (by simp [hd]))]
  simp
end Sp
end
section
namespace Sp
def Texts (l : List ByteArray) (cs : List (List Mk.Call)) : Prop := l.length = cs.length ∧ ∀ i : Nat, i < l.length → (ix l (i : Int)).size ≤ 4294967280 ∧ parseB (ix l (i : Int)) = (ix cs (i : Int), 0)
theorem set1 (k : List ByteArray → List Mk.Step → Mk.Machine → List (List Mk.Call) → Option (Mk.Machine × Bool)) (l : List ByteArray) (cs : List (List Mk.Call)) (hT : Texts l cs) (hl : l.length ≤ 1000) (x1 : List Mk.Step) (y : Mk.Machine) : ∀ (m i : Nat), i + m = l.length → ∀ f : Nat, m < f →
  mktop_settled_l1 k f l x1 l (l.length : Int) (i : Int) y (cs.take i) = k l x1 y cs := by
 intro m
 induction m with
 | zero =>
  intro i hi f hf
  obtain ⟨f, rfl⟩ : ∃ g, f = g + 1 := ⟨f - 1, by omega⟩
  have := hT.1
  rw [mktop_settled_l1, dF (by omega), cF, List.take_of_length_le (by omega)]
 | succ m ih =>
  intro i hi f hf
  obtain ⟨f, rfl⟩ : ∃ g, f = g + 1 := ⟨f - 1, by omega⟩
  obtain ⟨h1, h2⟩ := hT.2 i (by omega)
  have hlen := hT.1
  have hcl : (cs.take i).length = i := by rw [List.length_take]; omega
  have ht : cs.take i ++ [ix cs (i : Int)] = cs.take (i + 1) := by
   rw [List.take_add_one, List.getElem?_eq_getElem (by omega), ix_nat cs i (by omega)]; rfl
  have e0 : decide ((ix cs (i : Int), (0 : Int)).2 = 0) = true := rfl
  rw [mktop_settled_l1, dT (by omega), cT, G_on (by omega), text_Parse_eq _ h1, obs, h2, e0, nT, cF, G_on (by rw [hcl]; simp only [List.length_cons, List.length_nil]; omega), G_on (by unfold I; omega), show ((i : Int) + 1) = ((i + 1 : Nat) : Int) from by omega]
  show mktop_settled_l1 k f l x1 l (l.length : Int) ((i + 1 : Nat) : Int) y (cs.take i ++ [ix cs (i : Int)]) = _
  rw [ht]
  exact ih (i + 1) (by omega) f (by omega)
def atLast (cs : List (List Mk.Call)) (steps : List Mk.Step) : Mk.Machine := settle 300 (runM (newM cs).1 steps)
theorem badC_of (l : List Mk.Call) (h : ∀ c ∈ l, CallOk c) : badC l = 0 := by
 induction l with
 | nil => rfl
 | cons c l ih =>
  have hc := (wcall_ok c).2 (h c (by simp))
  rw [badC, if_neg (by simp [hc]), ih (fun d hd => h d (by simp [hd]))]
theorem newM_of {cs : List (List Mk.Call)} (h : CsOk cs) : (newM cs).2 = 0 := by
 have hb : ∀ l : List (List Mk.Call), (∀ x ∈ l, x.length ≤ 8 ∧ ∀ c ∈ x, CallOk c) → badL l = 0 := by
  intro l
  induction l with
  | nil => intro _; rfl
  | cons x l ih =>
   intro hh
   obtain ⟨h1, h2⟩ := hh x (by simp)
   rw [badL, if_neg (by omega), if_neg (by simp [badC_of x h2]), ih (fun y hy => hh y (by simp [hy]))]
 unfold newM
 rw [if_neg (by have := h.n; omega), if_neg (by simp [hb cs h.l])]
theorem settled_eq {l : List ByteArray} {cs : List (List Mk.Call)} (hT : Texts l cs) (hcs : CsOk cs) {steps : List Mk.Step} (hs : steps.length ≤ 400) :
  mktop_settled l steps = some (atLast cs steps, true) := by
 have h0 := newM_of hcs
 obtain ⟨_, hS, hid⟩ := settled h0 steps
 rw [List.take_of_length_le hs] at hS hid
 have hM := (play_inv h0 steps).2
 rw [List.take_of_length_le hs] at hM
 have hn := hcs.n
 have hlen := hT.1
 have hnk := hS.nk
 have hf : fplay cs steps = (runM (newM cs).1 steps, runE (newM cs).1 steps, 0) := by
  unfold fplay
  rw [if_neg (by simp [h0]), if_neg (by omega)]
 have h1 := fun k y => set1 k l cs hT (by omega) steps y l.length 0 (by omega) (((l.length : Int) - 0).toNat + 1) (by omega)
 rw [show ((0 : Nat) : Int) = 0 from rfl, List.take_zero] at h1
 unfold mktop_settled
 rw [J_def, h1, fplay_eq, obs, hf]
 have e0 : decide ((runM (newM cs).1 steps, runE (newM cs).1 steps, (0 : Int)).2.2 = 0) = true := rfl
 rw [e0, nT, cF]
 show (fair_Settle (runM (newM cs).1 steps)).bind _ = _
 rw [fsettle_eq hcs hM, obs]
 show (look_Idle (settle 300 (runM (newM cs).1 steps))).bind _ = _
 rw [lidle_eq _ (by omega), obs, hid, Bool.true_and]
 show some (settle 300 (runM (newM cs).1 steps), decide (((settle 300 (runM (newM cs).1 steps)).Clients.length : Int) = (l.length : Int))) = _
 rw [dT (by omega)]
 rfl
theorem at_last {cs : List (List Mk.Call)} (hcs : CsOk cs) {steps : List Mk.Step} (hs : steps.length ≤ 400) :
  Lawful cs (atLast cs steps).Store.Past ∧ (atLast cs steps).Clients.length = cs.length ∧ look_Now (atLast cs steps) = some (allN [] (atLast cs steps).Store.Past) ∧
   ∀ c : Int, 0 ≤ c ∧ c < cs.length → (ix (atLast cs steps).Clients c).Got = heardF [] (atLast cs steps).Store.Past c ∧ cnt (atLast cs steps).Store.Past c = (ix cs c).length := by
 have h0 := newM_of hcs
 obtain ⟨_, hS, hid⟩ := settled h0 steps
 rw [List.take_of_length_le hs] at hS hid
 change Inv cs (atLast cs steps) at hS
 change idle (atLast cs steps).Clients = true at hid
 refine ⟨hS.law, hS.nk, lnow_eq hcs hS, fun c hc => ?_⟩
 have hx := hS.cl c hc
 have hat := idle_mem hid c.toNat (by rw [hS.nk]; omega)
 rw [show ((c.toNat : Nat) : Int) = c from by omega, hx.calls] at hat
 have hc1 := hx.at1
 have hc2 := hS.law.cnt_le c hc
 have hcnt : cnt (atLast cs steps).Store.Past c = (ix cs c).length := by omega
 refine ⟨?_, hcnt⟩
 rw [hx.got, List.take_of_length_le (by rw [heardF_len]; omega)]
end Sp
end
section
namespace Sp
open Go
theorem printL_size (l : List Mk.Call) (h : ∀ c ∈ l, CallOk c) : (printL l).length ≤ 61 * l.length := by
 induction l with
 | nil => simp [printL]
 | cons c l ih =>
  have := ih (fun d hd => h d (by simp [hd]))
  have hcs := callL_size (h c (by simp))
  rw [show printL (c :: l) = (callL c ++ [10]) ++ printL l from rfl, List.length_append, List.length_append, List.length_cons]
  simp only [List.length_cons, List.length_nil]; omega
theorem parse_text (l : List Mk.Call) (hl : ∀ c ∈ l, CallOk c) (h8 : l.length ≤ 8) : (bts (printL l)).size ≤ 4294967280 ∧ parseB (bts (printL l)) = (l, 0) := by
 have := printL_size l hl
 refine ⟨by rw [bts_size]; omega, ?_⟩
 unfold parseB
 rw [stb_bts, parse_print _ hl]
 unfold finP
 rw [List.nil_append, if_neg (by omega)]
theorem texts_of {cs : List (List Mk.Call)} (hcs : CsOk cs) {l : List ByteArray} (h : l = cs.map fun x => bts (printL x)) : Texts l cs := by
 subst h
 refine ⟨by simp, fun i hi => ?_⟩
 have hi' : i < cs.length := by simpa using hi
 have e : ix (cs.map fun x => bts (printL x)) (i : Int) = bts (printL (ix cs (i : Int))) := by
  rw [ix_nat _ i hi, ix_nat _ i hi']; simp
 obtain ⟨h1, h2⟩ := hcs.l _ (ix_mem cs (i : Int) (by omega))
 rw [e]
 exact parse_text _ h2 h1
theorem itoa_d (d : Nat) (h : d < 10) : Lib.itoa (d : Int) = [UInt8.ofNat (48 + d)] := by
 unfold Lib.itoa
 rw [if_neg (by omega), Int.toNat_natCast, Lib.decDigits, dif_pos h]
theorem alone_got {K : List Mk.Call} (hcs : CsOk [K]) {steps : List Mk.Step} (hs : steps.length ≤ 400) :
  (ix (atLast [K] steps).Clients 0).Got = allR [] (K.map fun c => (⟨0, 0, c⟩ : Mk.Request)) := by
 obtain ⟨law, hnk, _, hg⟩ := at_last hcs hs
 obtain ⟨g1, g2⟩ := hg 0 ⟨by decide, by simp⟩
 generalize (atLast [K] steps).Store.Past = past at *
 have hix : ix [K] (0 : Int) = K := rfl
 rw [hix] at g2
 have hall : ∀ r ∈ past, r.Client = 0 := fun r hr => by
  have := (law.req hcs r hr).1
  simp at this; omega
 have hpast : past = (List.range K.length).map fun (t : Nat) => ⟨0, (t : Int), call [K] 0 (t : Int)⟩ := by
  have := law.mine 0
  rw [g2, List.filter_eq_self.2 (fun r hr => by simp [hall r hr])] at this
  exact this
 have hmap : past.map (fun r => r.Call) = (K.map fun c => (⟨0, 0, c⟩ : Mk.Request)).map (fun r => r.Call) := by
  rw [hpast, List.map_map, List.map_map]
  show (List.range K.length).map (fun (t : Nat) => ix K (t : Int)) = K.map fun c => c
  rw [range_ix, List.map_id']
 obtain ⟨_, e2⟩ := allN_calls [] _ _ hmap
 rw [g1, heard_all [] _ 0 hall, e2]
theorem alive_top : mktop_alive = some true := by
 have c1 : CallOk ⟨1, 7, 0, 5⟩ := by constructor <;> decide
 have c2 : CallOk ⟨2, 7, 0, 0⟩ := by constructor <;> decide
 have hcs : CsOk [[⟨1, 7, 0, 5⟩, ⟨2, 7, 0, 0⟩]] := ⟨by decide, fun x hx => by
  have hx' : x = [⟨1, 7, 0, 5⟩, ⟨2, 7, 0, 0⟩] := by simpa using hx
  rw [hx']
  refine ⟨by decide, fun c hc => ?_⟩
  simp at hc
  rcases hc with rfl | rfl <;> assumption⟩
 have e : ([(⟨#[112, 117, 116, 32, 55, 32, 53, 10, 103, 101, 116, 32, 55, 10]⟩ : ByteArray)] : List ByteArray) = [[⟨1, 7, 0, 5⟩, ⟨2, 7, 0, 0⟩]].map fun x => bts (printL x) := by
  have i7 : Lib.itoa 7 = [55] := itoa_d 7 (by decide)
  have i5 : Lib.itoa 5 = [53] := itoa_d 5 (by decide)
  show _ = [bts (((stb wPut ++ ((32 :: Lib.itoa 7) ++ ((32 :: Lib.itoa 5) ++ []))) ++ [10]) ++ (((stb wGet ++ ((32 :: Lib.itoa 7) ++ [])) ++ [10]) ++ []))]
  rw [i7, i5]; rfl
 unfold mktop_alive
 rw [e, settled_eq (texts_of hcs rfl) hcs (steps := []) (by decide), obs]
 obtain ⟨_, hnk, _, _⟩ := at_last hcs (steps := []) (by decide)
 have hg := alone_got hcs (steps := []) (by decide)
 generalize atLast [[⟨1, 7, 0, 5⟩, ⟨2, 7, 0, 0⟩]] [] = x at *
 have hg' : (ix x.Clients 0).Got = [⟨0, 0⟩, ⟨0, 5⟩] := by rw [hg]; decide +kernel
 have hn1 : x.Clients.length = 1 := hnk
 rw [hg', hn1]
 rfl
end Sp
end
section
namespace Sp
open Go
def puts (b : Int) (n : Nat) : List Mk.Call := (List.range n).map fun (t : Nat) => ⟨1, b + t, 0, t⟩
theorem puts_succ (b : Int) (n : Nat) : puts b (n + 1) = puts b n ++ [⟨1, b + (n : Int), 0, (n : Int)⟩] := by
 unfold puts
 rw [List.range_succ, List.map_append]; rfl
theorem puts_len (b : Int) (n : Nat) : (puts b n).length = n := by unfold puts; simp
theorem puts_ix (b : Int) (n : Nat) (t : Int) (h : 0 ≤ t ∧ t < n) : ix (puts b n) t = ⟨1, b + t, 0, t⟩ := by
 obtain ⟨k, rfl⟩ : ∃ k : Nat, t = k := ⟨t.toNat, by omega⟩
 rw [ix_nat _ k (by rw [puts_len]; omega)]
 unfold puts
 simp
theorem puts_ok (b : Int) (n : Nat) (hb : 1 ≤ b ∧ b ≤ 101) (hn : n ≤ 8) : ∀ c ∈ puts b n, CallOk c := by
 intro c hc
 unfold puts at hc
 obtain ⟨t, ht, rfl⟩ := List.mem_map.1 hc
 have := List.mem_range.1 ht
 exact ⟨by simp, by simp; omega, by simp, by simp; omega⟩
theorem tr1 (k : Int → Int → List Mk.Step → List Mk.Call → Option Bool) (a1 : Int) (a2 : List Mk.Step) (n : Nat) (h8 : n ≤ 8) : ∀ (m i : Nat), i + m = n → ∀ f : Nat, m < f →
  mktop_TopRoom_l1 k f (n : Int) a1 a2 (n : Int) (i : Int) (puts 1 i) = k (n : Int) a1 a2 (puts 1 n) := by
 intro m
 induction m with
 | zero =>
  intro i hi f hf
  obtain ⟨f, rfl⟩ : ∃ g, f = g + 1 := ⟨f - 1, by omega⟩
  rw [mktop_TopRoom_l1, dF (by omega), cF, show i = n from by omega]
 | succ m ih =>
  intro i hi f hf
  obtain ⟨f, rfl⟩ : ∃ g, f = g + 1 := ⟨f - 1, by omega⟩
  have hl := puts_len 1 i
  rw [mktop_TopRoom_l1, dT (by omega), cT, G_on (by unfold I; omega), G_on (by rw [hl]; simp only [List.length_cons, List.length_nil]; omega), G_on (by unfold I; omega), show ((i : Int) + 1) = ((i + 1 : Nat) : Int) from by omega, ← puts_succ]
  exact ih (i + 1) (by omega) f (by omega)
theorem tr2 (k : Int → Int → List Mk.Step → List Mk.Call → List Mk.Call → Option Bool) (a0 a1 : Int) (a2 : List Mk.Step) (y : List Mk.Call) (n : Nat) (h8 : n ≤ 8) : ∀ (m i : Nat), i + m = n → ∀ f : Nat, m < f →
  mktop_TopRoom_l2 k f a0 a1 a2 (n : Int) (i : Int) y (puts 101 i) = k a0 a1 a2 y (puts 101 n) := by
 intro m
 induction m with
 | zero =>
  intro i hi f hf
  obtain ⟨f, rfl⟩ : ∃ g, f = g + 1 := ⟨f - 1, by omega⟩
  rw [mktop_TopRoom_l2, dF (by omega), cF, show i = n from by omega]
 | succ m ih =>
  intro i hi f hf
  obtain ⟨f, rfl⟩ : ∃ g, f = g + 1 := ⟨f - 1, by omega⟩
  have hl := puts_len 101 i
  rw [mktop_TopRoom_l2, dT (by omega), cT, G_on (by unfold I; omega), G_on (by rw [hl]; simp only [List.length_cons, List.length_nil]; omega), G_on (by unfold I; omega), show ((i : Int) + 1) = ((i + 1 : Nat) : Int) from by omega, ← puts_succ]
  exact ih (i + 1) (by omega) f (by omega)
theorem tr3 (k : Int → Int → Mk.Machine → List Int → Option Bool) (a0 a1 : Int) (x : Mk.Machine) (l : List Mk.Write) (hn : (l.map (·.At)).Nodup) (hl : l.length ≤ 1000) : ∀ (m i : Nat), i + m = l.length → ∀ f : Nat, m < f →
  mktop_TopRoom_l3 k f a0 a1 l (l.length : Int) (i : Int) x ((l.take i).map (·.At)) = k a0 a1 x (l.map (·.At)) := by
 intro m
 induction m with
 | zero =>
  intro i hi f hf
  obtain ⟨f, rfl⟩ : ∃ g, f = g + 1 := ⟨f - 1, by omega⟩
  rw [mktop_TopRoom_l3, dF (by omega), cF, List.take_of_length_le (by omega)]
 | succ m ih =>
  intro i hi f hf
  obtain ⟨f, rfl⟩ : ∃ g, f = g + 1 := ⟨f - 1, by omega⟩
  have hil : i < l.length := by omega
  have ht : l.take (i + 1) = l.take i ++ [ix l (i : Int)] := by
   rw [List.take_add_one, List.getElem?_eq_getElem hil, ix_nat l i hil]; rfl
  have hno : (ix l (i : Int)).At ∉ (l.take i).map (·.At) := by
   have h1 : ((l.take (i + 1)).map (·.At)).Nodup := by
    have : (l.take (i + 1)).map (·.At) = (l.map (·.At)).take (i + 1) := List.map_take
    rw [this]
    exact hn.sublist (List.take_sublist _ _)
   rw [ht, List.map_append] at h1
   intro hm
   exact (List.nodup_append.1 h1).2.2 _ hm _ (by simp) rfl
  rw [mktop_TopRoom_l3, dT (by omega), cT, G_on (by omega), G_on (by unfold I; omega), if_neg hno, show ((i : Int) + 1) = ((i + 1 : Nat) : Int) from by omega]
  have e : (l.take i).map (·.At) ++ [(ix l (i : Int)).At] = (l.take (i + 1)).map (·.At) := by rw [ht, List.map_append]; rfl
  rw [e]
  exact ih (i + 1) (by omega) f (by omega)
theorem tr5 (k : List Mk.Client → Int → Int → List Int → Option Bool) (c : Nat) (hc : c ≤ 1) (x97 : List Mk.Client) (x98 x99 : Int) (g : List Mk.Reply) (hg : g.length ≤ 1000) (Y : List Int)
  (hr : ∀ j : Nat, j < g.length → (1 + 100 * (c : Int) + j ∈ Y ∧ (ix g (j : Int)).Err = 0) ∨ (1 + 100 * (c : Int) + j ∉ Y ∧ (ix g (j : Int)).Err = 9)) : ∀ (m j : Nat), j + m = g.length → ∀ f : Nat, m < f →
  mktop_TopRoom_l5 k f (c : Int) x97 x98 x99 g (g.length : Int) (j : Int) Y = k x97 x98 x99 Y := by
 intro m
 induction m with
 | zero =>
  intro j hj f hf
  obtain ⟨f, rfl⟩ : ∃ g, f = g + 1 := ⟨f - 1, by omega⟩
  rw [mktop_TopRoom_l5, dF (by omega), cF]
 | succ m ih =>
  intro j hj f hf
  obtain ⟨f, rfl⟩ : ∃ g, f = g + 1 := ⟨f - 1, by omega⟩
  rw [mktop_TopRoom_l5, dT (by omega), cT, G_on (by omega), G_on (by unfold I; omega), G_on (by unfold I; omega), G_on (by unfold I; omega)]
  have e : ((!decide (decide (1 + 100 * (c : Int) + (j : Int) ∈ Y) = decide ((ix g (j : Int)).Err = (0 : Int)))) || ((!decide ((ix g (j : Int)).Err = (0 : Int))) && (!decide ((ix g (j : Int)).Err = (9 : Int))))) = false := by
   rcases hr j (by omega) with ⟨h1, h2⟩ | ⟨h1, h2⟩
   ·rw [dT h1, dT h2]; rfl
   ·rw [dF h1, h2]; rfl
  rw [e, cF, G_on (by unfold I; omega), show ((j : Int) + 1) = ((j + 1 : Nat) : Int) from by omega]
  exact ih (j + 1) (by omega) f (by omega)
theorem tr4 (k : Unit → Option Bool) (l : List Mk.Client) (hl : l.length = 2) (Y : List Int) (hg : ∀ c : Nat, c < 2 → (ix l (c : Int)).Got.length ≤ 1000)
  (hr : ∀ c : Nat, c < 2 → ∀ j : Nat, j < (ix l (c : Int)).Got.length → (1 + 100 * (c : Int) + j ∈ Y ∧ (ix (ix l (c : Int)).Got (j : Int)).Err = 0) ∨ (1 + 100 * (c : Int) + j ∉ Y ∧ (ix (ix l (c : Int)).Got (j : Int)).Err = 9)) : ∀ (m i : Nat), i + m = 2 → ∀ f : Nat, m < f →
  mktop_TopRoom_l4 k f l (l.length : Int) (i : Int) Y = k () := by
 intro m
 induction m with
 | zero =>
  intro i hi f hf
  obtain ⟨f, rfl⟩ : ∃ g, f = g + 1 := ⟨f - 1, by omega⟩
  rw [mktop_TopRoom_l4, dF (by omega), cF]
 | succ m ih =>
  intro i hi f hf
  obtain ⟨f, rfl⟩ : ∃ g, f = g + 1 := ⟨f - 1, by omega⟩
  have h5 := fun k => tr5 k i (by omega) l (l.length : Int) (i : Int) (ix l (i : Int)).Got (hg i (by omega)) Y (hr i (by omega)) (ix l (i : Int)).Got.length 0 (by omega) ((((ix l (i : Int)).Got.length : Int) - (0 : Int)).toNat + 1) (by omega)
  rw [show ((0 : Nat) : Int) = 0 from rfl] at h5
  rw [mktop_TopRoom_l4, dT (by omega), cT, J_def, G_on (by omega), h5]
  show G _ _ = _
  rw [G_on (by unfold I; omega), show ((i : Int) + 1) = ((i + 1 : Nat) : Int) from by omega]
  exact ih (i + 1) (by omega) f (by omega)
theorem topRoom (a0 a1 : Int) (a2 : List Mk.Step) : mktop_TopRoom a0 a1 a2 = some true := by
 unfold mktop_TopRoom
 rw [alive_top, obs, nT, cF]
 by_cases hin : (0 ≤ a0 ∧ a0 ≤ 8) ∧ (0 ≤ a1 ∧ a1 ≤ 8) ∧ a2.length ≤ 400
 ·obtain ⟨⟨h1, h2⟩, ⟨h3, h4⟩, h5⟩ := hin
  rw [dF (p := a0 < 0) (by omega), dF (p := 8 < a0) (by omega), dF (p := a1 < 0) (by omega), dF (p := 8 < a1) (by omega), dF (p := (400 : Int) < (a2.length : Int)) (by omega)]
  simp only [Bool.or_self, cF]
  obtain ⟨n, rfl⟩ : ∃ n : Nat, a0 = n := ⟨a0.toNat, by omega⟩
  obtain ⟨m, rfl⟩ : ∃ m : Nat, a1 = m := ⟨a1.toNat, by omega⟩
  have t1 := fun k => tr1 k (m : Int) a2 n (by omega) n 0 (by omega) (((n : Int) - 0).toNat + 1) (by omega)
  rw [show puts 1 0 = [] from rfl, show ((0 : Nat) : Int) = 0 from rfl] at t1
  have t2 := fun k => tr2 k (n : Int) (m : Int) a2 (puts 1 n) m (by omega) m 0 (by omega) (((m : Int) - 0).toNat + 1) (by omega)
  rw [show puts 101 0 = [] from rfl, show ((0 : Nat) : Int) = 0 from rfl] at t2
  rw [J_def, t1]
  show J _ _ = _
  rw [J_def, t2]
  have oa := puts_ok 1 n (by decide) (by omega)
  have ob := puts_ok 101 m (by decide) (by omega)
  have la := puts_len 1 n
  have lb := puts_len 101 m
  show (text_Print (puts 1 n)).bind _ = _
  rw [text_Print_eq _ oa (by omega), obs, text_Print_eq _ ob (by omega), obs]
  have hcsv : CsOk [puts 1 n, puts 101 m] := by
   refine ⟨by simp, fun x hx => ?_⟩
   simp only [List.mem_cons, List.mem_nil_iff, or_false] at hx
   rcases hx with rfl | rfl
   ·exact ⟨by omega, oa⟩
   ·exact ⟨by omega, ob⟩
  have hset := settled_eq (l := [bts (printL (puts 1 n)), bts (printL (puts 101 m))]) (texts_of hcsv rfl) hcsv h5
  rw [hset, obs]
  obtain ⟨law, hnk, hnow, hgot⟩ := at_last hcsv h5
  have hix0 : ix [puts 1 n, puts 101 m] 0 = puts 1 n := rfl
  have hix1 : ix [puts 1 n, puts 101 m] 1 = puts 101 m := rfl
  have hreq := law.req hcsv
  have hroom := room (cs := [puts 1 n, puts 101 m]) (by simp) (fun c hc => by
    have : c = 0 ∨ c = 1 := by simp at hc; omega
    rcases this with rfl | rfl
    ·rw [hix0]; omega
    ·rw [hix1]; omega) (fun c t hc ht => by
    have : c = 0 ∨ c = 1 := by simp at hc; omega
    unfold call callN
    rcases this with rfl | rfl
    ·rw [hix0] at ht ⊢
     rw [puts_ix _ _ _ (by omega)]
     refine congrArg (fun z => (⟨1, z, 0, t⟩ : Mk.Call)) ?_
     omega
    ·rw [hix1] at ht ⊢
     rw [puts_ix _ _ _ (by omega)]
     refine congrArg (fun z => (⟨1, z, 0, t⟩ : Mk.Call)) ?_
     omega) law
  obtain ⟨g0, c0⟩ := hgot 0 (by simp)
  obtain ⟨g1, c1⟩ := hgot 1 (by simp)
  rw [hix0, la] at c0
  rw [hix1, lb] at c1
  generalize atLast [puts 1 n, puts 101 m] a2 = x at *
  have hplen : x.Store.Past.length = n + m := by
   rw [len_cnt x.Store.Past (fun r hr => by have := (hreq r hr).1; simp at this; omega)]
   have : cnt x.Store.Past 2 = 0 := by
    unfold cnt
    rw [List.length_eq_zero_iff, List.filter_eq_nil_iff]
    intro r hr
    have := (hreq r hr).1
    simp at this ⊢; omega
   omega
  have hlen := hroom.len
  have hnd := hroom.nd
  have hrep := hroom.rep
  rw [hplen] at hlen
  show (bif !true then _ else _) = _
  rw [nT, cF, J_def]
  show (look_Now x).bind _ = _
  rw [hnow, obs]
  have h5l : (allN [] x.Store.Past).length ≤ 5 := by omega
  have t3 := fun k => tr3 k (n : Int) (m : Int) x (allN [] x.Store.Past) hnd (by omega) (allN [] x.Store.Past).length 0 (by omega) ((((allN [] x.Store.Past).length : Int) - 0).toNat + 1) (by omega)
  rw [show ((0 : Nat) : Int) = 0 from rfl, List.take_zero, List.map_nil] at t3
  refine (t3 _).trans ?_
  show G _ _ = _
  have hYl : ((allN [] x.Store.Past).map (·.At)).length = min (n + m) 5 := by rw [List.length_map]; exact hlen
  rw [G_on (by rw [hYl]; omega), G_on (by unfold I; omega)]
  have e : (((allN [] x.Store.Past).map (·.At)).length : Int) = (if (5 : Int) < ((n : Int) + (m : Int)) then (5 : Int) else ((n : Int) + (m : Int))) := by
   rw [hYl]
   split <;> omega
  rw [dT e, nT, cF, J_def]
  have hnk2 : x.Clients.length = 2 := hnk
  have hgl : ∀ c : Nat, c < 2 → (ix x.Clients (c : Int)).Got = heardF [] x.Store.Past (c : Int) ∧ (ix x.Clients (c : Int)).Got.length ≤ 8 ∧ (ix x.Clients (c : Int)).Got.length = cnt x.Store.Past (c : Int) := fun c hc => by
   have : c = 0 ∨ c = 1 := by omega
   rcases this with rfl | rfl
   ·have g0' : (ix x.Clients ((0 : Nat) : Int)).Got = heardF [] x.Store.Past ((0 : Nat) : Int) := g0
    have c0' : cnt x.Store.Past ((0 : Nat) : Int) = n := c0
    rw [g0', heardF_len]; exact ⟨rfl, by omega, rfl⟩
   ·have g1' : (ix x.Clients ((1 : Nat) : Int)).Got = heardF [] x.Store.Past ((1 : Nat) : Int) := g1
    have c1' : cnt x.Store.Past ((1 : Nat) : Int) = m := c1
    rw [g1', heardF_len]; exact ⟨rfl, by omega, rfl⟩
  have t4 := tr4 (fun _ => some true) x.Clients hnk2 ((allN [] x.Store.Past).map (·.At)) (fun c hc => by have := (hgl c hc).2.1; omega) (fun c hc j hj => by
    obtain ⟨k1, k2, k3⟩ := hgl c hc
    have hr := hrep (c : Int) (j : Int) (by omega) (by omega)
    rw [k1]
    unfold there at hr
    rcases hr with ⟨r1, r2⟩ | ⟨r1, r2⟩
    ·exact .inl ⟨(pos_mem _ _).1 (of_decide_eq_true r1), r2⟩
    ·exact .inr ⟨fun hm => (of_decide_eq_false r1) ((pos_mem _ _).2 hm), r2⟩) 2 0 (by omega) (((x.Clients.length : Int) - 0).toNat + 1) (by omega)
  exact t4
 ·have : ((((decide (a0 < (0 : Int)) || decide ((8 : Int) < a0)) || decide (a1 < (0 : Int))) || decide ((8 : Int) < a1)) || decide ((400 : Int) < (a2.length : Int))) = true := by
   simp only [Bool.or_eq_true, decide_eq_true_eq]; omega
  rw [this, cT]
end Sp
end
section
namespace Go.Proofs.YtjclefplnjicgaaGreatDoor
open Go.ChangeShapes Go.WideShapes Go.ChangeAt Go.RowKit Go.Gx
theorem lw_star : "*" ++ "errors.errorString" = "*errors.errorString" := by decide
theorem lw_row (u : TypeId) (h : Tryz.prog.typeName? 3 u = some "*errors.errorString") : u = 180 :=
  typeName_ptr_named (nm := "errors.errorString") (by rw [lw_star]; kernel_rfl) (by kernel_rfl) (by decide) u (by rw [lw_star]; exact h)
theorem lw_g0 : Tryz.prog.globalNamed "strconv.ErrSyntax" = some 1 := by kernel_rfl
theorem lw_g1 : Tryz.prog.globalNamed "strconv.ErrRange" = some 2 := by kernel_rfl
theorem lw_g3 : Tryz.prog.globalNamed "internal/strconv.uint64pow10" = some 3 := by kernel_rfl
theorem lw_t0 : (Tryz.prog.globals[1]?).map (·.type) = some 89 := by kernel_rfl
theorem lw_t1 : (Tryz.prog.globals[2]?).map (·.type) = some 89 := by kernel_rfl
theorem lw_t3 : (Tryz.prog.globals[3]?).map (·.type) = some 174 := by kernel_rfl
theorem lw_c1 : Tryz.prog.cellsOf 182 = 1 := by kernel_rfl
theorem lw_c2 : Tryz.prog.cellsOf 9 = 1 := by kernel_rfl
theorem lw_c3 : Tryz.prog.cellsOf 147 = 1 := by kernel_rfl
theorem lw_c4 : Tryz.prog.cellsOf 174 = 20 := by kernel_rfl
def lwList : List (String × DataW Unit) := Rows.topCountRow.laid
theorem gt_of (W : World) (h : laidMetH Tryz.prog lwList W) (hsh : W.ShapedOpen Tryz.prog) : GT W := by
  have h0 : laidMet Tryz.prog lwList W := h
  have hp := h0.tail.tail
  have hr := h0.tail.tail.tail.tail
  have hs := h0.tail.tail.tail.tail.tail
  obtain ⟨a0, s0, e0, -, -, -⟩ := laid_sentinel hs lw_g0 lw_t0 Tryz.underlying89 lw_row Tryz.underlying180 Tryz.underlying182 rfl rfl Tryz.underlying9 lw_c1 lw_c2
  obtain ⟨a1, s1, e1, -, -, -⟩ := laid_sentinel hr lw_g1 lw_t1 Tryz.underlying89 lw_row Tryz.underlying180 Tryz.underlying182 rfl rfl Tryz.underlying9 lw_c1 lw_c2
  exact ⟨Lib.tabIs_of_head lw_g3 lw_t3 Tryz.underlying174 Tryz.underlying147 lw_c3 lw_c4 hp, Tryz.laysM146.s1_3 W hsh,
    ⟨_, _, show W.cell? ⟨1, 0, none⟩ = _ from by have h0 := World.var?_cell lw_g0 e0 0; simpa using h0⟩, ⟨_, _, show W.cell? ⟨2, 0, none⟩ = _ from by have h0 := World.var?_cell lw_g1 e1 0; simpa using h0⟩⟩
def litV : DataW Unit → List Value
  | .lit (.int k n) => [.int k n]
  | _ => []
def flat1 : DataW Unit → List Value
  | .agg l => l.flatMap litV
  | d => litV d
def flat2 : DataW Unit → List Value
  | .agg l => l.flatMap flat1
  | d => litV d
def putG (g : Nat) (cs : List Value) (h : Array Obj) : Array Obj := h.modify g fun
  | .cells _ t frozen => .cells cs.toArray t frozen
  | o => o
abbrev lwRange : ByteArray := ⟨#[118, 97, 108, 117, 101, 32, 111, 117, 116, 32, 111, 102, 32, 114, 97, 110, 103, 101]⟩
abbrev lwSyntax : ByteArray := ⟨#[105, 110, 118, 97, 108, 105, 100, 32, 115, 121, 110, 116, 97, 120]⟩
noncomputable def lwLow : Nat := (World.holding Tryz.prog default ⟨#[], #[], []⟩).heap.size
noncomputable def lwWorld (os : Os) : World :=
  let w0 := World.holding Tryz.prog os ⟨#[.cells #[.string lwRange] 182, .cells #[.string lwSyntax] 182], #[], []⟩
  { w0 with heap := putG 2 [.iface 180 (.pointer (some ⟨lwLow, 0, none⟩))] (putG 1 [.iface 180 (.pointer (some ⟨lwLow + 1, 0, none⟩))]
    (putG 3 (flat1 Rows.laid_internal_strconv_uint64pow10) (putG 4 (flat1 Rows.laid_unicode_utf8_first) (putG 5 (flat2 Rows.laid_unicode_utf8_acceptRanges)
    (putG 6 (flat1 Rows.laid_math_bits_deBruijn32tab) (putG 7 (flat1 Rows.laid_math_bits_deBruijn64tab) w0.heap)))))) }
theorem lw_met (os : Os) (args : Array Value) : laidMet Tryz.prog lwList ((lwWorld os).forCall (fun _ _ => 0) ⟨#[], args, []⟩).memory :=
  laidMet_of_run' 8 (by kernel_rfl) (by kernel_rfl)
end Go.Proofs.YtjclefplnjicgaaGreatDoor
end
section
namespace Sp
open Go
structure Fine (k : Int) (c : Mk.Call) : Prop where
 kind : 1 ≤ c.Kind ∧ c.Kind ≤ 4
 name : 1 + 100 * k ≤ c.Name ∧ c.Name ≤ 99 + 100 * k
 other : c.Other = 0
 num : -1000 ≤ c.N ∧ c.N ≤ 1000 ∧ (c.Kind ≠ 1 → c.Kind ≠ 4 → c.N = 0)
theorem Fine.ok {k : Int} (hk : 0 ≤ k ∧ k ≤ 1) {c : Mk.Call} (h : Fine k c) : CallOk c := by
 have h1 := h.kind
 have h2 := h.name
 have h3 := h.other
 have h4 := h.num
 constructor <;> omega
theorem fine_test (k : Int) (c : Mk.Call) (h : (((((((((decide (c.Kind < (1 : Int))) || (decide ((4 : Int) < c.Kind))) || (decide (c.Name < ((1 : Int) + ((100 : Int) * k))))) || (decide (((99 : Int) + ((100 : Int) * k)) < c.Name))) || (!decide (c.Other = (0 : Int)))) || (decide (c.N < (-1000 : Int)))) || (decide ((1000 : Int) < c.N))) || (((!decide (c.Kind = (1 : Int))) && (!decide (c.Kind = (4 : Int)))) && (!decide (c.N = (0 : Int)))))) = false) : Fine k c := by
 simp only [Bool.or_eq_false_iff, Bool.and_eq_false_iff, decide_eq_false_iff_not, Bool.not_eq_false', decide_eq_true_eq] at h
 constructor <;> omega
theorem ta2 (k7 : List Mk.Call → List Mk.Call → List Mk.Step → List (List Mk.Call) → Int → Int → List Int → Option Bool) (a b : List Mk.Call) (st : List Mk.Step) (x8 : Int) (h8 : 0 ≤ x8 ∧ x8 ≤ 1) (X : List (List Mk.Call)) (n i : Int) (L : List Mk.Call) (hL : L.length ≤ 8) : ∀ (m j : Nat), j + m = L.length → ∀ f : Nat, m < f → ∀ Y : List Int,
  mktop_TopApart_l2 k7 f a b st x8 X n i L (L.length : Int) (j : Int) Y = some true ∨ ((∀ c ∈ L.drop j, Fine x8 c) ∧ ∃ Z : List Int, mktop_TopApart_l2 k7 f a b st x8 X n i L (L.length : Int) (j : Int) Y = k7 a b st X n i Z ∧ (∀ y ∈ Y, y ∈ Z) ∧ (∀ c ∈ L.drop j, c.Name ∈ Z) ∧ Z.length ≤ Y.length + m) := by
 intro m
 induction m with
 | zero =>
  intro j hj f hf Y
  obtain ⟨f, rfl⟩ : ∃ g, f = g + 1 := ⟨f - 1, by omega⟩
  right
  rw [List.drop_of_length_le (by omega)]
  exact ⟨by simp, Y, by rw [mktop_TopApart_l2, dF (by omega), cF], fun y h => h, by simp, by omega⟩
 | succ m ih =>
  intro j hj f hf Y
  obtain ⟨f, rfl⟩ : ∃ g, f = g + 1 := ⟨f - 1, by omega⟩
  rw [mktop_TopApart_l2, dT (by omega), cT, G_on (by omega), G_on (fun _ => by unfold I; omega), G_on (fun _ => by unfold I; omega), G_on (fun _ => by unfold I; omega), G_on (fun _ => by unfold I; omega)]
  cases ht : (((((((((decide ((ix L (j : Int)).Kind < (1 : Int))) || (decide ((4 : Int) < (ix L (j : Int)).Kind))) || (decide ((ix L (j : Int)).Name < ((1 : Int) + ((100 : Int) * x8))))) || (decide (((99 : Int) + ((100 : Int) * x8)) < (ix L (j : Int)).Name))) || (!decide ((ix L (j : Int)).Other = (0 : Int)))) || (decide ((ix L (j : Int)).N < (-1000 : Int)))) || (decide ((1000 : Int) < (ix L (j : Int)).N))) || (((!decide ((ix L (j : Int)).Kind = (1 : Int))) && (!decide ((ix L (j : Int)).Kind = (4 : Int)))) && (!decide ((ix L (j : Int)).N = (0 : Int)))))) with
  | true => left; rfl
  | false =>
   have hfine := fine_test x8 (ix L (j : Int)) ht
   rw [cF, G_on (by unfold I; omega), show ((j : Int) + 1) = ((j + 1 : Nat) : Int) from by omega]
   obtain ⟨Y', hY'⟩ : ∃ Y' : List Int, Y' = (if (ix L (j : Int)).Name ∈ Y then Y else Y ++ [(ix L (j : Int)).Name]) := ⟨_, rfl⟩
   rw [← hY']
   have hin : (ix L (j : Int)).Name ∈ Y' ∧ (∀ y ∈ Y, y ∈ Y') ∧ Y'.length ≤ Y.length + 1 := by
    rw [hY']
    by_cases h : (ix L (j : Int)).Name ∈ Y
    ·rw [if_pos h]; exact ⟨h, fun y hy => hy, by omega⟩
    ·rw [if_neg h]; exact ⟨by simp, fun y hy => by simp [hy], by simp⟩
   rcases ih (j + 1) (by omega) f (by omega) Y' with h | ⟨h1, Z, z1, z2, z3, z4⟩
   ·left; exact h
   ·right
    rw [ix_drop L j (by omega)]
    refine ⟨fun c hc => ?_, Z, z1, fun y hy => z2 y (hin.2.1 y hy), fun c hc => ?_, by omega⟩
    ·rcases List.mem_cons.1 hc with rfl | hc
     ·exact hfine
     ·exact h1 c hc
    ·rcases List.mem_cons.1 hc with rfl | hc
     ·exact z2 _ hin.1
     ·exact z3 c hc
theorem ta1 (k4 : List Mk.Call → List Mk.Call → List Mk.Step → List Int → Option Bool) (a b : List Mk.Call) (st : List Mk.Step) (ha : a.length ≤ 8) (hb : b.length ≤ 8) :
  mktop_TopApart_l1 k4 3 a b st [a, b] 2 0 [] = some true ∨ ((∀ c ∈ a, Fine 0 c) ∧ (∀ c ∈ b, Fine 1 c) ∧ ∃ Z : List Int, mktop_TopApart_l1 k4 3 a b st [a, b] 2 0 [] = k4 a b st Z ∧ (∀ c ∈ a, c.Name ∈ Z) ∧ (∀ c ∈ b, c.Name ∈ Z) ∧ Z.length ≤ 16) := by
 have e0 : ix [a, b] (0 : Int) = a := rfl
 have e1 : ix [a, b] (1 : Int) = b := rfl
 have s0 : ∀ (k7 : List Mk.Call → List Mk.Call → List Mk.Step → List (List Mk.Call) → Int → Int → List Int → Option Bool), mktop_TopApart_l1 k4 3 a b st [a, b] 2 0 [] = J (fun (x0 : List Mk.Call) (x1 : List Mk.Call) (x2 : List Mk.Step) (x38 : List (List Mk.Call)) (x39 : Int) (x40 : Int) (y : List Int) => G (I (x40 + (1 : Int))) (mktop_TopApart_l1 k4 2 x0 x1 x2 x38 x39 (x40 + (1 : Int)) y)) (fun k7 => mktop_TopApart_l2 k7 (((a.length : Int) - (0 : Int)).toNat + 1) a b st 0 [a, b] 2 0 a (a.length : Int) 0 []) := fun _ => by
  rw [mktop_TopApart_l1, dT (by decide), cT]
  rw [J_def, J_def, G_on (by simp), e0]
 rw [s0 (fun _ _ _ _ _ _ _ => none), J_def]
 rcases ta2 (fun (x0 : List Mk.Call) (x1 : List Mk.Call) (x2 : List Mk.Step) (x38 : List (List Mk.Call)) (x39 : Int) (x40 : Int) (y : List Int) => G (I (x40 + (1 : Int))) (mktop_TopApart_l1 k4 2 x0 x1 x2 x38 x39 (x40 + (1 : Int)) y)) a b st 0 (by decide) [a, b] 2 0 a ha a.length 0 (by omega) (((a.length : Int) - (0 : Int)).toNat + 1) (by omega) [] with h | ⟨f0, Z, z1, z2, z3, z4⟩
 ·left; exact h
 ·rw [List.drop_zero] at f0 z3
  have z1' := z1
  rw [show ((0 : Nat) : Int) = 0 from rfl] at z1'
  rw [z1']
  have s1 : G (I ((0 : Int) + 1)) (mktop_TopApart_l1 k4 2 a b st [a, b] 2 ((0 : Int) + 1) Z) = mktop_TopApart_l2 (fun (x0 : List Mk.Call) (x1 : List Mk.Call) (x2 : List Mk.Step) (x38 : List (List Mk.Call)) (x39 : Int) (x40 : Int) (y : List Int) => G (I (x40 + (1 : Int))) (mktop_TopApart_l1 k4 1 x0 x1 x2 x38 x39 (x40 + (1 : Int)) y)) (((b.length : Int) - (0 : Int)).toNat + 1) a b st 1 [a, b] 2 1 b (b.length : Int) 0 Z := by
   rw [G_on (by decide), show (0 : Int) + 1 = 1 from rfl, mktop_TopApart_l1, dT (by decide), cT]
   rw [J_def, G_on (by simp), e1]
  rw [s1]
  rcases ta2 (fun (x0 : List Mk.Call) (x1 : List Mk.Call) (x2 : List Mk.Step) (x38 : List (List Mk.Call)) (x39 : Int) (x40 : Int) (y : List Int) => G (I (x40 + (1 : Int))) (mktop_TopApart_l1 k4 1 x0 x1 x2 x38 x39 (x40 + (1 : Int)) y)) a b st 1 (by decide) [a, b] 2 1 b hb b.length 0 (by omega) (((b.length : Int) - (0 : Int)).toNat + 1) (by omega) Z with h | ⟨f1, Z', w1, w2, w3, w4⟩
  ·left; exact h
  ·right
   rw [List.drop_zero] at f1 w3
   have w1' := w1
   rw [show ((0 : Nat) : Int) = 0 from rfl] at w1'
   refine ⟨f0, f1, Z', ?_, fun c hc => w2 _ (z3 c hc), w3, by simp only [List.length_nil] at z4; omega⟩
   rw [w1']
   rw [G_on (by decide), show (1 : Int) + 1 = 2 from rfl, mktop_TopApart_l1, dF (by decide), cF]
theorem ta4 (k : List (List Mk.Call) → Int → Int → Mk.Machine → Option Bool) (c : Int) (X : List (List Mk.Call)) (n i : Int) (g : List Mk.Reply) (hgl : g.length ≤ 1000) (x : Mk.Machine) (hc : 0 ≤ c ∧ c < x.Clients.length) (hg : (ix x.Clients c).Got = g) : ∀ (m j : Nat), j + m = g.length → ∀ f : Nat, m < f →
  mktop_TopApart_l4 k f c X n i g (g.length : Int) (j : Int) x = k X n i x := by
 intro m
 induction m with
 | zero =>
  intro j hj f hf
  obtain ⟨f, rfl⟩ : ∃ g, f = g + 1 := ⟨f - 1, by omega⟩
  rw [mktop_TopApart_l4, dF (by omega), cF]
 | succ m ih =>
  intro j hj f hf
  obtain ⟨f, rfl⟩ : ∃ g, f = g + 1 := ⟨f - 1, by omega⟩
  rw [mktop_TopApart_l4, dT (by omega), cT, G_on (by omega), G_on hc, hg, G_on (by omega), dT (p := ix g (j : Int) = ix g (j : Int)) rfl, nT, cF, G_on (by unfold I; omega), show ((j : Int) + 1) = ((j + 1 : Nat) : Int) from by omega]
  exact ih (j + 1) (by omega) f (by omega)
theorem ta3 (k : Unit → Option Bool) (X : List (List Mk.Call)) (hX : X.length = 2) (hok : ∀ l ∈ X, (∀ c ∈ l, CallOk c) ∧ l.length ≤ 8) (x : Mk.Machine) (hx : x.Clients.length = 2)
  (hg : ∀ c : Nat, c < 2 → (ix x.Clients (c : Int)).Got = allR [] ((ix X (c : Int)).map fun d => (⟨0, 0, d⟩ : Mk.Request))) : ∀ (m i : Nat), i + m = 2 → ∀ f : Nat, m < f →
  mktop_TopApart_l3 k f X (X.length : Int) (i : Int) x = k () := by
 intro m
 induction m with
 | zero =>
  intro i hi f hf
  obtain ⟨f, rfl⟩ : ∃ g, f = g + 1 := ⟨f - 1, by omega⟩
  rw [mktop_TopApart_l3, dF (by omega), cF]
 | succ m ih =>
  intro i hi f hf
  obtain ⟨f, rfl⟩ : ∃ g, f = g + 1 := ⟨f - 1, by omega⟩
  obtain ⟨o1, o2⟩ := hok _ (ix_mem X (i : Int) (by omega))
  have hcsv : CsOk [ix X (i : Int)] := ⟨by simp, fun l hl => by
   have : l = ix X (i : Int) := by simpa using hl
   rw [this]; exact ⟨o2, o1⟩⟩
  have hset := settled_eq (l := [bts (printL (ix X (i : Int)))]) (texts_of hcsv rfl) hcsv (steps := []) (by decide)
  obtain ⟨-, hnk, -, -⟩ := at_last hcsv (steps := []) (by decide)
  have hy := alone_got hcsv (steps := []) (by decide)
  rw [← hg i (by omega)] at hy
  have hlen : (ix x.Clients (i : Int)).Got.length ≤ 1000 := by rw [hg i (by omega), allR_len, List.length_map]; omega
  generalize atLast [ix X (i : Int)] [] = y at *
  have hn1 : y.Clients.length = 1 := hnk
  have h4 := fun k => ta4 k (i : Int) X (X.length : Int) (i : Int) (ix x.Clients (i : Int)).Got hlen x (by omega) rfl (ix x.Clients (i : Int)).Got.length 0 (by omega) ((((ix x.Clients (i : Int)).Got.length : Int) - (0 : Int)).toNat + 1) (by omega)
  rw [show ((0 : Nat) : Int) = 0 from rfl] at h4
  rw [mktop_TopApart_l3, dT (by omega), cT, J_def, G_on (by omega), text_Print_eq _ o1 (by omega), obs, hset, obs, G_on (fun _ => by rw [hn1]; decide), G_on (fun _ => by omega)]
  show (bif (!true || !decide (((ix y.Clients 0).Got.length : Int) = ((ix x.Clients (i : Int)).Got.length : Int))) then _ else _) = _
  rw [hy, dT (p := ((ix x.Clients (i : Int)).Got.length : Int) = ((ix x.Clients (i : Int)).Got.length : Int)) rfl, nT, Bool.or_self, cF]
  show G (0 ≤ (0 : Int) ∧ (0 : Int) < (y.Clients.length : Int)) _ = _
  rw [G_on (by rw [hn1]; decide)]
  rw [h4]
  show G _ _ = _
  rw [G_on (by unfold I; omega), show ((i : Int) + 1) = ((i + 1 : Nat) : Int) from by omega]
  exact ih (i + 1) (by omega) f (by omega)
theorem topApart (a0 a1 : List Mk.Call) (a2 : List Mk.Step) : mktop_TopApart a0 a1 a2 = some true := by
 unfold mktop_TopApart
 rw [alive_top, obs, nT, cF]
 by_cases hin : a0.length ≤ 8 ∧ a1.length ≤ 8 ∧ a2.length ≤ 400
 ·obtain ⟨h1, h2, h3⟩ := hin
  rw [dF (p := (8 : Int) < (a0.length : Int)) (by omega), dF (p := (8 : Int) < (a1.length : Int)) (by omega), dF (p := (400 : Int) < (a2.length : Int)) (by omega)]
  simp only [Bool.or_self, cF]
  rw [J_def]
  rcases ta1 (fun (x0_k4 : List Mk.Call) (x1_k4 : List Mk.Call) (x2_k4 : List Mk.Step) (y35_k4 : List Int) => _) a0 a1 a2 h1 h2 with h | ⟨f0, f1, Z, z1, z2, z3, z4⟩
  ·exact h
  ·refine z1.trans ?_
   show G _ _ = _
   rw [G_on (by omega)]
   by_cases h5 : 5 < Z.length
   ·rw [dT (by omega), cT]
   ·rw [dF (by omega), cF]
    have oa : ∀ c ∈ a0, CallOk c := fun c hc => (f0 c hc).ok (by decide)
    have ob : ∀ c ∈ a1, CallOk c := fun c hc => (f1 c hc).ok (by decide)
    have hcsv : CsOk [a0, a1] := by
     refine ⟨by simp, fun x hx => ?_⟩
     simp only [List.mem_cons, List.mem_nil_iff, or_false] at hx
     rcases hx with rfl | rfl
     ·exact ⟨h1, oa⟩
     ·exact ⟨h2, ob⟩
    have hset := settled_eq (l := [bts (printL a0), bts (printL a1)]) (texts_of hcsv rfl) hcsv h3
    rw [text_Print_eq _ oa (by omega), obs, text_Print_eq _ ob (by omega), obs, hset, obs]
    obtain ⟨law, hnk, hnow, hgot⟩ := at_last hcsv h3
    have hix0 : ix [a0, a1] 0 = a0 := rfl
    have hix1 : ix [a0, a1] 1 = a1 := rfl
    have h5c : Calls5 Z [a0, a1] := by
     refine ⟨by omega, fun l hl c hc => ?_, fun c d t u hc hd hcd ht hu => ?_⟩
     ·simp only [List.mem_cons, List.mem_nil_iff, or_false] at hl
      rcases hl with rfl | rfl
      ·exact ⟨oa c hc, (f0 c hc).kind, z2 c hc⟩
      ·exact ⟨ob c hc, (f1 c hc).kind, z3 c hc⟩
     ·have nm : ∀ c t : Int, 0 ≤ c ∧ c < (([a0, a1] : List (List Mk.Call)).length : Int) → 0 ≤ t ∧ t < ((ix [a0, a1] c).length : Int) → 1 + 100 * c ≤ (call [a0, a1] c t).Name ∧ (call [a0, a1] c t).Name ≤ 99 + 100 * c := by
       intro c t hc ht
       have h01 : c = 0 ∨ c = 1 := by simp at hc; omega
       unfold call
       rcases h01 with rfl | rfl
       ·rw [hix0] at ht ⊢; exact (f0 _ (ix_mem a0 t ht)).name
       ·rw [hix1] at ht ⊢; exact (f1 _ (ix_mem a1 t ht)).name
      have n1 := nm c t hc ht
      have n2 := nm d u hd hu
      intro e
      rw [e] at n1
      simp at hc hd
      omega
    obtain ⟨-, -, hap⟩ := apart h5c law
    generalize atLast [a0, a1] a2 = x at *
    have hnk2 : x.Clients.length = 2 := hnk
    have hgc : ∀ c : Nat, c < 2 → (ix x.Clients (c : Int)).Got = allR [] ((ix [a0, a1] (c : Int)).map fun d => (⟨0, 0, d⟩ : Mk.Request)) := by
     intro c hc
     have hc' : (0 : Int) ≤ (c : Int) ∧ (c : Int) < (([a0, a1] : List (List Mk.Call)).length : Int) := by simp; omega
     obtain ⟨g1, g2⟩ := hgot (c : Int) hc'
     obtain ⟨-, -, g3, -⟩ := hap (c : Int) hc'
     rw [g1, g3]
     have hm := law.mine (c : Int)
     rw [g2] at hm
     refine (allN_calls [] _ _ ?_).2
     show (mine x.Store.Past (c : Int)).map _ = _
     unfold mine
     rw [hm, List.map_map, List.map_map]
     show (List.range (ix [a0, a1] (c : Int)).length).map (fun (t : Nat) => ix (ix [a0, a1] (c : Int)) (t : Int)) = (ix [a0, a1] (c : Int)).map fun d => d
     rw [range_ix, List.map_id']
    show (bif !true then _ else _) = _
    rw [nT, cF, J_def]
    have t3 := ta3 (fun _ => some true) [a0, a1] rfl (fun l hl => hcsv.l l hl |>.symm |> fun h => ⟨h.1, h.2⟩) x hnk2 hgc 2 0 (by omega) 3 (by omega)
    exact t3
 ·have : ((decide ((8 : Int) < (a0.length : Int)) || decide ((8 : Int) < (a1.length : Int))) || decide ((400 : Int) < (a2.length : Int))) = true := by
   simp only [Bool.or_eq_true, decide_eq_true_eq]; omega
  rw [this, cT]
end Sp
end
