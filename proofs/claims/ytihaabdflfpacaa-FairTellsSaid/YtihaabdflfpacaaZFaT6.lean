/- WHAT THE STATEMENTS OF THIS GROUP NEED, part 6: laid together by prune.py out of own texts. -/
import Derived.Test.YtihaabdflfpacaaZFaT5
set_option linter.unusedVariables false
set_option linter.unusedSimpArgs false
set_option maxRecDepth 20000
set_option maxHeartbeats 4000000
section
namespace Sp
def wwho (c t : Int) : Int := if c < 0 ∨ 3 ≤ c ∨ t < 0 ∨ 8 ≤ t then 3 else 0
def wreq (r : Mk.Request) : Int := if wwho r.Client r.Token ≠ 0 then 3 else wcall r.Call
def wans (a : Mk.Answer) : Int := if wwho a.Client a.Token ≠ 0 ∨ a.Reply.Err < 0 ∨ 12 < a.Reply.Err ∨ a.Reply.N < -1073741824 ∨ 1073741824 < a.Reply.N ∨ (a.Reply.Err ≠ 0 ∧ a.Reply.N ≠ 0) then 3 else 0
theorem model_Wrong_eq (c : Mk.Call) : model_Wrong c = some (wcall c) := by
 unfold model_Wrong wcall model_Wrong_1
 simp only [J, obs, Bool.cond_eq_ite, Bool.or_eq_true, Bool.and_eq_true, Bool.not_eq_true', decide_eq_true_eq, decide_eq_false_iff_not, Bool.not_eq_eq_eq_not, Bool.decide_eq_true, nT]
 by_cases k : c.Kind < 1 ∨ 6 < c.Kind
 ·simp [k]
 simp only [k, if_false]
 by_cases k5 : c.Kind = 5
 ·by_cases hn : c.Name = 0
  ·by_cases ho : c.Other = 0
   ·simp [k5, hn, ho]; try grind
   ·simp [k5, hn, ho]; try grind
  ·simp [k5, hn]; try grind
 ·by_cases k6 : c.Kind = 6
  ·simp [k6]; grind
  ·simp [k5, k6]; grind
theorem wwho_eq (c t : Int) : wire_who c t = some (wwho c t) := by
 unfold wire_who wwho
 simp only [Bool.cond_eq_ite, Bool.or_eq_true, decide_eq_true_eq]
 grind
theorem rwho_eq (c t : Int) : mkref1_who c t = some (decide (wwho c t = 0)) := by
 unfold mkref1_who wwho
 congr 1
 rw [Bool.eq_iff_iff]
 simp only [Bool.and_eq_true, decide_eq_true_eq]
 constructor
 ·intro h; rw [if_neg (by omega)]
 ·intro h; split at h <;> omega
theorem wreq_eq (r : Mk.Request) : wire_WrongRequest r = some (wreq r) := by
 unfold wire_WrongRequest wreq
 rw [wwho_eq, obs, model_Wrong_eq, obs]
 unfold wwho
 grind
theorem rwreq_eq (r : Mk.Request) : mkref1_WrongRequest r = some (wreq r) := by
 unfold mkref1_WrongRequest wreq
 rw [rwho_eq, obs, wrongCall_eq, obs]
 grind
theorem wans_eq (a : Mk.Answer) : wire_WrongAnswer a = some (wans a) := by
 unfold wire_WrongAnswer wans
 rw [wwho_eq, obs]
 unfold wwho
 grind
theorem rwans_eq (a : Mk.Answer) : mkref1_WrongAnswer a = some (wans a) := by
 unfold mkref1_WrongAnswer wans
 rw [rwho_eq, obs]
 grind
def nb (n : Int) : List UInt8 := [u8 (n / 16777216), u8 (n / 65536), u8 (n / 256), u8 n]
def reqB (r : Mk.Request) : List UInt8 := [UInt8.ofNat 113, u8 r.Client, u8 r.Token, u8 r.Call.Kind, u8 r.Call.Name, u8 r.Call.Other] ++ nb r.Call.N
def ansB (a : Mk.Answer) : List UInt8 := [UInt8.ofNat 97, u8 a.Client, u8 a.Token, u8 a.Reply.Err] ++ nb a.Reply.N
theorem num_eq (l : List UInt8) (n : Int) (h : l.length ≤ 1000) : wire_num l n = some (l ++ nb n) := by
 unfold wire_num
 rw [G_on (by simp; omega)]
 rfl
theorem request_eq (r : Mk.Request) : wire_Request r = some (reqB r) := by
 unfold wire_Request
 rw [num_eq _ _ (by simp)]; rfl
theorem answer_eq (a : Mk.Answer) : wire_Answer a = some (ansB a) := by
 unfold wire_Answer
 rw [num_eq _ _ (by simp)]; rfl
theorem u8_congr {x y : Int} (h : x % 256 = y % 256) : u8 x = u8 y := by unfold u8; rw [h]
theorem four_eq (n : Int) : mkref1_four n = some (bts (nb n)) := by
 unfold mkref1_four nb
 have h0 : 0 ≤ n % 4294967296 := by omega
 have e1 : Int.tdiv (n % 4294967296) 16777216 = n % 4294967296 / 16777216 := Int.tdiv_eq_ediv_of_nonneg h0
 have e2 : Int.tdiv (n % 4294967296) 65536 = n % 4294967296 / 65536 := Int.tdiv_eq_ediv_of_nonneg h0
 have e3 : Int.tdiv (n % 4294967296) 256 = n % 4294967296 / 256 := Int.tdiv_eq_ediv_of_nonneg h0
 have e4 : Int.tmod (n % 4294967296 / 65536 % 4294967296) 256 = n % 4294967296 / 65536 % 4294967296 % 256 := Int.tmod_eq_emod_of_nonneg (by omega)
 have e5 : Int.tmod (n % 4294967296 / 256 % 4294967296) 256 = n % 4294967296 / 256 % 4294967296 % 256 := Int.tmod_eq_emod_of_nonneg (by omega)
 have e6 : Int.tmod (n % 4294967296) 256 = n % 4294967296 % 256 := Int.tmod_eq_emod_of_nonneg h0
 simp only [u32, e1, e2, e3, e4, e5, e6]
 rw [u8_congr (x := n % 4294967296 / 16777216 % 4294967296) (y := n / 16777216) (by omega), u8_congr (x := n % 4294967296 / 65536 % 4294967296 % 256) (y := n / 65536) (by omega), u8_congr (x := n % 4294967296 / 256 % 4294967296 % 256) (y := n / 256) (by omega), u8_congr (x := n % 4294967296 % 256) (y := n) (by omega)]
theorem stb_append (a b : ByteArray) : stb (a ++ b) = stb a ++ stb b := by unfold stb; simp
theorem stb_bts (l : List UInt8) : stb (bts l) = l := by simp [stb, bts]
theorem bts_inj {a b : List UInt8} : bts a = bts b ↔ a = b := by
 constructor
 ·intro h; rw [← stb_bts a, h, stb_bts]
 ·intro h; rw [h]
theorem bts_size (l : List UInt8) : (bts l).size = l.length := by simp [bts, ByteArray.size]
theorem requestBytes_eq (r : Mk.Request) : mkref1_RequestBytes r = some (reqB r) := by
 unfold mkref1_RequestBytes
 rw [G_on (by rw [bts_size]; simp [ByteArray.size]), four_eq, obs, G_on (by rw [ByteArray.size_append, bts_size, bts_size]; simp [ByteArray.size, nb])]
 rw [stb_append, stb_append, stb_bts, stb_bts]
 rfl
theorem answerBytes_eq (a : Mk.Answer) : mkref1_AnswerBytes a = some (ansB a) := by
 unfold mkref1_AnswerBytes
 rw [G_on (by rw [bts_size]; simp [ByteArray.size]), four_eq, obs, G_on (by rw [ByteArray.size_append, bts_size, bts_size]; simp [ByteArray.size, nb])]
 rw [stb_append, stb_append, stb_bts, stb_bts]
 rfl
def bn (a b c d : UInt8) : Int := ((a.toNat : Int) * 16777216 + (b.toNat : Int) * 65536 + (c.toNat : Int) * 256 + (d.toNat : Int) + 2147483648) % 4294967296 - 2147483648
theorem orU_add (k : Nat) (hk : k ≤ 32) (x y : Int) (hx : 0 ≤ x ∧ x * 2 ^ k < 4294967296) (hy : 0 ≤ y ∧ y < 2 ^ k) : orU ⟨x * 2 ^ k⟩ ⟨y⟩ = ⟨x * 2 ^ k + y⟩ := by
 obtain ⟨a, rfl⟩ := Int.eq_ofNat_of_zero_le hx.1
 obtain ⟨b, rfl⟩ := Int.eq_ofNat_of_zero_le hy.1
 have hb : b < 2 ^ k := by
  have := hy.2
  have e : ((2 : Int) ^ k) = ((2 ^ k : Nat) : Int) := by norm_cast
  rw [e] at this; exact_mod_cast this
 have ha : a * 2 ^ k < 4294967296 := by
  have := hx.2
  have e : ((a : Int) * 2 ^ k) = ((a * 2 ^ k : Nat) : Int) := by rw [Int.natCast_mul, Int.natCast_pow]; rfl
  rw [e] at this
  revert this
  generalize a * 2 ^ k = m
  intro this; omega
 have hb3 : 2 ^ k ≤ 2 ^ 32 := Nat.pow_le_pow_right (by decide) hk
 have hb2 : b < 4294967296 := by omega
 unfold orU
 congr 1
 have e1 : BitVec.ofInt 32 ((a : Int) * 2 ^ k) = BitVec.ofNat 32 (a * 2 ^ k) := by
  rw [show ((a : Int) * 2 ^ k) = ((a * 2 ^ k : Nat) : Int) by norm_cast]; exact BitVec.ofInt_natCast 32 _
 have e2 : BitVec.ofInt 32 ((b : Int)) = BitVec.ofNat 32 b := BitVec.ofInt_natCast 32 _
 rw [e1, e2, BitVec.toNat_or, BitVec.toNat_ofNat, BitVec.toNat_ofNat, Nat.mod_eq_of_lt ha, Nat.mod_eq_of_lt hb2]
 have := Nat.two_pow_add_eq_or_of_lt hb a
 rw [Nat.mul_comm a, ← this]
 norm_cast
 rw [Nat.mul_comm]
theorem get_eq4 (l : List UInt8) (h : l.length = 4) : wire_get l = some (bn (ix l 0) (ix l 1) (ix l 2) (ix l 3)) := by
 unfold wire_get
 rw [G_on (by omega), G_on (by omega), G_on (by omega), G_on (by omega)]
 have h0 := (ix l 0).toNat_lt
 have h1 := (ix l 1).toNat_lt
 have h2 := (ix l 2).toNat_lt
 have h3 := (ix l 3).toNat_lt
 refine congrArg some ?_
 simp only [shlU]
 show (i32 (orU (orU (orU (u32 (((ix l 0).toNat : Int) * 2 ^ 24)) (u32 (((ix l 1).toNat : Int) * 2 ^ 16))) (u32 (((ix l 2).toNat : Int) * 2 ^ 8))) ⟨((ix l 3).toNat : Int)⟩).n).n = _
 have e0 : u32 (((ix l 0).toNat : Int) * 2 ^ 24) = ⟨((ix l 0).toNat : Int) * 2 ^ 24⟩ := by unfold u32; congr 1; omega
 have e1 : u32 (((ix l 1).toNat : Int) * 2 ^ 16) = ⟨((ix l 1).toNat : Int) * 2 ^ 16⟩ := by unfold u32; congr 1; omega
 have e2 : u32 (((ix l 2).toNat : Int) * 2 ^ 8) = ⟨((ix l 2).toNat : Int) * 2 ^ 8⟩ := by unfold u32; congr 1; omega
 rw [e0, e1, e2, orU_add 24 (by decide) _ _ (by omega) (by omega)]
 rw [show (((ix l 0).toNat : Int) * 2 ^ 24 + ((ix l 1).toNat : Int) * 2 ^ 16) = (((ix l 0).toNat : Int) * 256 + ((ix l 1).toNat : Int)) * 2 ^ 16 from by omega, orU_add 16 (by decide) _ _ (by omega) (by omega)]
 rw [show ((((ix l 0).toNat : Int) * 256 + ((ix l 1).toNat : Int)) * 2 ^ 16 + ((ix l 2).toNat : Int) * 2 ^ 8) = ((((ix l 0).toNat : Int) * 256 + ((ix l 1).toNat : Int)) * 256 + ((ix l 2).toNat : Int)) * 2 ^ 8 from by omega, orU_add 8 (by decide) _ _ (by omega) (by omega)]
 unfold i32 bn
 show (_ + 2147483648) % 4294967296 - 2147483648 = _
 simp only
 congr 2
 omega
theorem num_eq4 (l : List UInt8) (h : l.length = 4) : mkref1_num l = some (bn (ix l 0) (ix l 1) (ix l 2) (ix l 3)) := by
 unfold mkref1_num
 simp only [J]
 have h0 := (ix l 0).toNat_lt
 have h1 := (ix l 1).toNat_lt
 have h2 := (ix l 2).toNat_lt
 have h3 := (ix l 3).toNat_lt
 show mkref1_num_l1 _ 5 l ⟨0⟩ 0 = _
 rw [mkref1_num_l1, dT (by decide), cT, G_on (by omega), G_on (by decide)]
 show mkref1_num_l1 _ 4 l _ 1 = _
 rw [mkref1_num_l1, dT (by decide), cT, G_on (by omega), G_on (by decide)]
 show mkref1_num_l1 _ 3 l _ 2 = _
 rw [mkref1_num_l1, dT (by decide), cT, G_on (by omega), G_on (by decide)]
 show mkref1_num_l1 _ 2 l _ 3 = _
 rw [mkref1_num_l1, dT (by decide), cT, G_on (by omega), G_on (by decide)]
 show mkref1_num_l1 _ 1 l _ 4 = _
 rw [mkref1_num_l1, dF (by decide), cF]
 refine congrArg some ?_
 unfold i32 bn u32
 show (_ + 2147483648) % 4294967296 - 2147483648 = _
 simp only
 congr 2
 omega
def toReq (b : List UInt8) : Mk.Request := ⟨((ix b 1).toNat : Int), ((ix b 2).toNat : Int), ⟨((ix b 3).toNat : Int), ((ix b 4).toNat : Int), ((ix b 5).toNat : Int), bn (ix b 6) (ix b 7) (ix b 8) (ix b 9)⟩⟩
def toAns (b : List UInt8) : Mk.Answer := ⟨((ix b 1).toNat : Int), ((ix b 2).toNat : Int), ⟨((ix b 3).toNat : Int), bn (ix b 4) (ix b 5) (ix b 6) (ix b 7)⟩⟩
def req0 : Mk.Request := ⟨0, 0, ⟨0, 0, 0, 0⟩⟩
def ans0 : Mk.Answer := ⟨0, 0, ⟨0, 0⟩⟩
def readReq (b : List UInt8) : Mk.Request × Int := if b.length ≠ 10 ∨ ix b 0 ≠ UInt8.ofNat 113 then (req0, 2) else if wreq (toReq b) ≠ 0 then (req0, wreq (toReq b)) else (toReq b, 0)
def readAns (b : List UInt8) : Mk.Answer × Int := if b.length ≠ 8 ∨ ix b 0 ≠ UInt8.ofNat 97 then (ans0, 2) else if wans (toAns b) ≠ 0 then (ans0, wans (toAns b)) else (toAns b, 0)
theorem ix_sub {α : Type} [Inhabited α] (l : List α) (i : Int) (k : Int) (hi : 0 ≤ i ∧ i ≤ l.length) (hk : 0 ≤ k ∧ k < l.length - i) : ix (sub l i l.length) k = ix l (i + k) := by
 have h1 : i.toNat + k.toNat < l.length := by omega
 have h2 : k.toNat < (l.length : Int).toNat - i.toNat := by omega
 have h3 : (i + k).toNat = i.toNat + k.toNat := by omega
 simp only [ix, sub, h3, List.getD_eq_getElem?_getD, List.getElem?_take, List.getElem?_drop]
 rw [if_pos h2]
theorem sub_len {α : Type} (l : List α) (i : Int) (hi : 0 ≤ i ∧ i ≤ l.length) : ((sub l i l.length).length : Int) = l.length - i := by
 simp [sub]; omega
theorem readRequest_eq (b : List UInt8) : wire_ReadRequest b = some (readReq b) := by
 unfold wire_ReadRequest readReq
 by_cases hl : b.length = 10
 ·rw [G_on (fun _ => by omega), dT (by omega)]
  simp only [nT, Bool.false_or]
  by_cases h0 : ix b 0 = UInt8.ofNat 113
  ·rw [dT h0, nT, cF, G_on (by omega), G_on (by omega), G_on (by omega), G_on (by omega), G_on (by omega), G_on (by omega), get_eq4 _ (by have := sub_len b 6 (by omega); omega), obs,
    ix_sub b 6 0 (by omega) (by omega), ix_sub b 6 1 (by omega) (by omega), ix_sub b 6 2 (by omega) (by omega), ix_sub b 6 3 (by omega) (by omega), wreq_eq, obs, if_neg (by simp [hl, h0])]
   by_cases hw : wreq (toReq b) = 0
   ·rw [if_neg (by simpa using hw)]
    have hw' : wreq (⟨((ix b 1).toNat : Int), ((ix b 2).toNat : Int), ⟨((ix b 3).toNat : Int), ((ix b 4).toNat : Int), ((ix b 5).toNat : Int), bn (ix b (6 + 0)) (ix b (6 + 1)) (ix b (6 + 2)) (ix b (6 + 3))⟩⟩) = 0 := hw
    rw [hw']; rfl
   ·rw [if_pos hw]
    have hw' : wreq (⟨((ix b 1).toNat : Int), ((ix b 2).toNat : Int), ⟨((ix b 3).toNat : Int), ((ix b 4).toNat : Int), ((ix b 5).toNat : Int), bn (ix b (6 + 0)) (ix b (6 + 1)) (ix b (6 + 2)) (ix b (6 + 3))⟩⟩) = wreq (toReq b) := rfl
    rw [hw', dF hw]; rfl
  ·rw [dF h0, if_pos (.inr h0)]; rfl
 ·rw [G_on (by intro h; simp at h; omega), dF (by omega), if_pos (.inl hl)]; rfl
theorem rreadRequest_eq (b : List UInt8) : mkref1_ReadRequest b = some (readReq b) := by
 unfold mkref1_ReadRequest readReq
 by_cases hl : b.length = 10
 ·rw [G_on (fun _ => by omega), dT (by omega)]
  simp only [nT, Bool.false_or]
  by_cases h0 : ix b 0 = UInt8.ofNat 113
  ·rw [dT h0, nT, cF, G_on (by omega), G_on (by omega), G_on (by omega), G_on (by omega), G_on (by omega), G_on (by omega), num_eq4 _ (by have := sub_len b 6 (by omega); omega), obs,
    ix_sub b 6 0 (by omega) (by omega), ix_sub b 6 1 (by omega) (by omega), ix_sub b 6 2 (by omega) (by omega), ix_sub b 6 3 (by omega) (by omega), rwreq_eq, obs, if_neg (by simp [hl, h0])]
   by_cases hw : wreq (toReq b) = 0
   ·rw [if_neg (by simpa using hw)]
    have hw' : wreq (⟨((ix b 1).toNat : Int), ((ix b 2).toNat : Int), ⟨((ix b 3).toNat : Int), ((ix b 4).toNat : Int), ((ix b 5).toNat : Int), bn (ix b (6 + 0)) (ix b (6 + 1)) (ix b (6 + 2)) (ix b (6 + 3))⟩⟩) = 0 := hw
    rw [hw']; rfl
   ·rw [if_pos hw]
    have hw' : wreq (⟨((ix b 1).toNat : Int), ((ix b 2).toNat : Int), ⟨((ix b 3).toNat : Int), ((ix b 4).toNat : Int), ((ix b 5).toNat : Int), bn (ix b (6 + 0)) (ix b (6 + 1)) (ix b (6 + 2)) (ix b (6 + 3))⟩⟩) = wreq (toReq b) := rfl
    rw [hw', dF hw]; rfl
  ·rw [dF h0, if_pos (.inr h0)]; rfl
 ·rw [G_on (by intro h; simp at h; omega), dF (by omega), if_pos (.inl hl)]; rfl
theorem readAnswer_eq (b : List UInt8) : wire_ReadAnswer b = some (readAns b) := by
 unfold wire_ReadAnswer readAns
 by_cases hl : b.length = 8
 ·rw [G_on (fun _ => by omega), dT (by omega)]
  simp only [nT, Bool.false_or]
  by_cases h0 : ix b 0 = UInt8.ofNat 97
  ·rw [dT h0, nT, cF, G_on (by omega), G_on (by omega), G_on (by omega), G_on (by omega), get_eq4 _ (by have := sub_len b 4 (by omega); omega), obs,
    ix_sub b 4 0 (by omega) (by omega), ix_sub b 4 1 (by omega) (by omega), ix_sub b 4 2 (by omega) (by omega), ix_sub b 4 3 (by omega) (by omega), wans_eq, obs, if_neg (by simp [hl, h0])]
   by_cases hw : wans (toAns b) = 0
   ·rw [if_neg (by simpa using hw)]
    have hw' : wans (⟨((ix b 1).toNat : Int), ((ix b 2).toNat : Int), ⟨((ix b 3).toNat : Int), bn (ix b (4 + 0)) (ix b (4 + 1)) (ix b (4 + 2)) (ix b (4 + 3))⟩⟩) = 0 := hw
    rw [hw']; rfl
   ·rw [if_pos hw]
    have hw' : wans (⟨((ix b 1).toNat : Int), ((ix b 2).toNat : Int), ⟨((ix b 3).toNat : Int), bn (ix b (4 + 0)) (ix b (4 + 1)) (ix b (4 + 2)) (ix b (4 + 3))⟩⟩) = wans (toAns b) := rfl
    rw [hw', dF hw]; rfl
  ·rw [dF h0, if_pos (.inr h0)]; rfl
 ·rw [G_on (by intro h; simp at h; omega), dF (by omega), if_pos (.inl hl)]; rfl
theorem rreadAnswer_eq (b : List UInt8) : mkref1_ReadAnswer b = some (readAns b) := by
 unfold mkref1_ReadAnswer readAns
 by_cases hl : b.length = 8
 ·rw [G_on (fun _ => by omega), dT (by omega)]
  simp only [nT, Bool.false_or]
  by_cases h0 : ix b 0 = UInt8.ofNat 97
  ·rw [dT h0, nT, cF, G_on (by omega), G_on (by omega), G_on (by omega), G_on (by omega), num_eq4 _ (by have := sub_len b 4 (by omega); omega), obs,
    ix_sub b 4 0 (by omega) (by omega), ix_sub b 4 1 (by omega) (by omega), ix_sub b 4 2 (by omega) (by omega), ix_sub b 4 3 (by omega) (by omega), rwans_eq, obs, if_neg (by simp [hl, h0])]
   by_cases hw : wans (toAns b) = 0
   ·rw [if_neg (by simpa using hw)]
    have hw' : wans (⟨((ix b 1).toNat : Int), ((ix b 2).toNat : Int), ⟨((ix b 3).toNat : Int), bn (ix b (4 + 0)) (ix b (4 + 1)) (ix b (4 + 2)) (ix b (4 + 3))⟩⟩) = 0 := hw
    rw [hw']; rfl
   ·rw [if_pos hw]
    have hw' : wans (⟨((ix b 1).toNat : Int), ((ix b 2).toNat : Int), ⟨((ix b 3).toNat : Int), bn (ix b (4 + 0)) (ix b (4 + 1)) (ix b (4 + 2)) (ix b (4 + 3))⟩⟩) = wans (toAns b) := rfl
    rw [hw', dF hw]; rfl
  ·rw [dF h0, if_pos (.inr h0)]; rfl
 ·rw [G_on (by intro h; simp at h; omega), dF (by omega), if_pos (.inl hl)]; rfl
theorem u8_nat (x : Int) (h : 0 ≤ x ∧ x ≤ 255) : ((u8 x).toNat : Int) = x := by
 have : (u8 x).toNat = (x % 256).toNat := Nat.mod_eq_of_lt (by omega)
 rw [this]; omega
theorem u8_nat' (x : Int) : ((u8 x).toNat : Int) = x % 256 := by
 have : (u8 x).toNat = (x % 256).toNat := Nat.mod_eq_of_lt (by omega)
 rw [this]; omega
theorem bn_nb (n : Int) (h : -2147483648 ≤ n ∧ n < 2147483648) : bn (u8 (n / 16777216)) (u8 (n / 65536)) (u8 (n / 256)) (u8 n) = n := by
 unfold bn
 rw [u8_nat', u8_nat', u8_nat', u8_nat']
 omega
theorem wreq_ok {r : Mk.Request} (h : wreq r = 0) : (0 ≤ r.Client ∧ r.Client < 3) ∧ (0 ≤ r.Token ∧ r.Token < 8) ∧ CallOk r.Call := by
 unfold wreq at h
 split at h
 ·cases h
 ·rename_i hw
  have hw : wwho r.Client r.Token = 0 := by simpa using hw
  unfold wwho at hw
  split at hw
  ·simp at hw
  ·exact ⟨by omega, by omega, (wcall_ok _).1 h⟩
theorem wans_ok {a : Mk.Answer} (h : wans a = 0) : (0 ≤ a.Client ∧ a.Client < 3) ∧ (0 ≤ a.Token ∧ a.Token < 8) ∧ (0 ≤ a.Reply.Err ∧ a.Reply.Err ≤ 12) ∧ (-1073741824 ≤ a.Reply.N ∧ a.Reply.N ≤ 1073741824) ∧ (a.Reply.Err ≠ 0 → a.Reply.N = 0) := by
 unfold wans at h
 split at h
 ·cases h
 ·rename_i hw
  simp only [not_or, not_and, ne_eq, Decidable.not_not] at hw
  obtain ⟨hw0, hw⟩ := hw
  unfold wwho at hw0
  split at hw0
  ·simp at hw0
  ·exact ⟨by omega, by omega, by omega, by omega, by omega⟩
theorem readReq_reqB {r : Mk.Request} (h : wreq r = 0) : readReq (reqB r) = (r, 0) := by
 obtain ⟨h1, h2, h3⟩ := wreq_ok h
 have hk := h3.kind
 have hn := h3.name
 have ho := h3.other
 have hm := h3.num
 have e : toReq (reqB r) = r := by
  obtain ⟨cl, tk, k, nm, ot, n⟩ := r
  simp only at h1 h2 hk hn ho hm
  show (⟨((u8 cl).toNat : Int), ((u8 tk).toNat : Int), ⟨((u8 k).toNat : Int), ((u8 nm).toNat : Int), ((u8 ot).toNat : Int), bn (u8 (n / 16777216)) (u8 (n / 65536)) (u8 (n / 256)) (u8 n)⟩⟩ : Mk.Request) = _
  rw [u8_nat cl (by omega), u8_nat tk (by omega), u8_nat k (by omega), u8_nat nm (by omega), u8_nat ot (by omega), bn_nb n (by omega)]
 unfold readReq
 rw [e, if_neg (by simp [reqB, nb, ix]), if_neg (by simpa using h)]
theorem readAns_ansB {a : Mk.Answer} (h : wans a = 0) : readAns (ansB a) = (a, 0) := by
 obtain ⟨h1, h2, h3, h4, h5⟩ := wans_ok h
 have e : toAns (ansB a) = a := by
  obtain ⟨cl, tk, er, n⟩ := a
  simp only at h1 h2 h3 h4 h5
  show (⟨((u8 cl).toNat : Int), ((u8 tk).toNat : Int), ⟨((u8 er).toNat : Int), bn (u8 (n / 16777216)) (u8 (n / 65536)) (u8 (n / 256)) (u8 n)⟩⟩ : Mk.Answer) = _
  rw [u8_nat cl (by omega), u8_nat tk (by omega), u8_nat er (by omega), bn_nb n (by omega)]
 unfold readAns
 rw [e, if_neg (by simp [ansB, nb, ix]), if_neg (by simpa using h)]
end Sp
end
section
namespace Sp
theorem sameStore_loop1 (a b : Mk.Store) (hab : a.Answers.length = b.Answers.length) (hl : a.Answers.length ≤ 9223372036854775807) (k : Mk.Store → Mk.Store → Option Bool) : ∀ (m i : Nat), i + m = a.Answers.length → ∀ f : Nat, m < f →
  mkref1_SameStore_l1 k f (a.Answers.length : Int) (i : Int) a b = if a.Answers.drop i = b.Answers.drop i then k a b else some false := by
 intro m
 induction m with
 | zero =>
  intro i hi f hf
  obtain ⟨f, rfl⟩ : ∃ g, f = g + 1 := ⟨f - 1, by omega⟩
  rw [mkref1_SameStore_l1, dF (by omega), cF, List.drop_of_length_le (by omega), List.drop_of_length_le (by omega), if_pos rfl]
 | succ m ih =>
  intro i hi f hf
  obtain ⟨f, rfl⟩ : ∃ g, f = g + 1 := ⟨f - 1, by omega⟩
  rw [mkref1_SameStore_l1, dT (by omega), cT, G_on (by omega), G_on (by omega), ix_drop a.Answers i (by omega), ix_drop b.Answers i (by omega)]
  by_cases h : ix a.Answers (i : Int) = ix b.Answers (i : Int)
  ·rw [dT h, nT, cF, G_on (by unfold I; omega), show ((i : Int) + 1) = ((i + 1 : Nat) : Int) from by omega, ih (i + 1) (by omega) f (by omega)]
   simp [h]
  ·rw [dF h, nF, cT]
   simp [h]
theorem sameStore_loop2 (a b : Mk.Store) (hab : a.Past.length = b.Past.length) (hl : a.Past.length ≤ 9223372036854775807) (k : Unit → Option Bool) : ∀ (m i : Nat), i + m = a.Past.length → ∀ f : Nat, m < f →
  mkref1_SameStore_l2 k f (a.Past.length : Int) (i : Int) a b = if a.Past.drop i = b.Past.drop i then k () else some false := by
 intro m
 induction m with
 | zero =>
  intro i hi f hf
  obtain ⟨f, rfl⟩ : ∃ g, f = g + 1 := ⟨f - 1, by omega⟩
  rw [mkref1_SameStore_l2, dF (by omega), cF, List.drop_of_length_le (by omega), List.drop_of_length_le (by omega), if_pos rfl]
 | succ m ih =>
  intro i hi f hf
  obtain ⟨f, rfl⟩ : ∃ g, f = g + 1 := ⟨f - 1, by omega⟩
  rw [mkref1_SameStore_l2, dT (by omega), cT, G_on (by omega), G_on (by omega), ix_drop a.Past i (by omega), ix_drop b.Past i (by omega)]
  by_cases h : ix a.Past (i : Int) = ix b.Past (i : Int)
  ·rw [dT h, nT, cF, G_on (by unfold I; omega), show ((i : Int) + 1) = ((i + 1 : Nat) : Int) from by omega, ih (i + 1) (by omega) f (by omega)]
   simp [h]
  ·rw [dF h, nF, cT]
   simp [h]
structure Sz (s : Mk.Store) : Prop where
 c : s.Cells.length ≤ 1000000
 u : s.Undo.length ≤ 1000000
 a : s.Answers.length ≤ 1000000
 p : s.Past.length ≤ 1000000
theorem sameStore_eq (a b : Mk.Store) (h : Sz a) : mkref1_SameStore a b = some (decide (a = b)) := by
 have hc := h.c; have hu := h.u; have ha := h.a; have hp := h.p
 unfold mkref1_SameStore
 rw [sameInts_eq _ _ (by omega), obs, sameWrites_eq _ _ (by omega)]
 have e : (a = b) ↔ (a.Cells = b.Cells ∧ a.Undo = b.Undo ∧ a.Answers = b.Answers ∧ a.Past = b.Past) := by
  obtain ⟨c1, u1, a1, p1⟩ := a
  obtain ⟨c2, u2, a2, p2⟩ := b
  simp
 by_cases h1 : a.Cells = b.Cells
 ·by_cases h2 : a.Undo = b.Undo
  ·by_cases h3 : a.Answers.length = b.Answers.length
   ·by_cases h4 : a.Past.length = b.Past.length
    ·have l1 := sameStore_loop1 a b h3 (by omega)
     have l2 := sameStore_loop2 a b h4 (by omega)
     simp only [J, Cn, h1, h2, h3, h4, decide_true, nT, if_true, obs, Bool.or_false, cF]
     rw [← h3]
     have e1 := fun k => l1 k a.Answers.length 0 (by omega) (((a.Answers.length : Int) - 0).toNat + 1) (by omega)
     have e2 := fun k => l2 k a.Past.length 0 (by omega) (((a.Past.length : Int) - 0).toNat + 1) (by omega)
     rw [show ((0 : Nat) : Int) = 0 from rfl] at e1 e2
     rw [e1]
     simp only [List.drop_zero]
     by_cases h5 : a.Answers = b.Answers
     ·rw [if_pos h5, e2]
      simp only [List.drop_zero]
      by_cases h6 : a.Past = b.Past
      ·rw [if_pos h6]; congr 1; exact (dT (e.2 ⟨h1, h2, h5, h6⟩)).symm
      ·rw [if_neg h6]; congr 1; exact (dF fun hh => h6 (e.1 hh).2.2.2).symm
     ·rw [if_neg h5]; congr 1; exact (dF fun hh => h5 (e.1 hh).2.2.1).symm
    ·have : a ≠ b := fun hh => h4 (by rw [hh])
     have e3 : decide ((a.Past.length : Int) = (b.Past.length : Int)) = false := dF (by omega)
     simp only [Cn, h1, h2, h3, decide_true, nT, if_true, obs, e3, nF, Bool.or_true, cT, dF this]
   ·have : a ≠ b := fun hh => h3 (by rw [hh])
    have e3 : decide ((a.Answers.length : Int) = (b.Answers.length : Int)) = false := dF (by omega)
    simp only [Cn, h1, h2, decide_true, nT, if_true, obs, e3, nF, Bool.or_true, Bool.true_or, cT, dF this]
  ·have : a ≠ b := fun hh => h2 (by rw [hh])
   simp [Cn, h1, h2, this]
 ·have : a ≠ b := fun hh => h1 (by rw [hh])
  simp [Cn, h1, this]
def okA (l : List Mk.Answer) : Nat → Nat → Bool
 | 0, _ => true
 | m + 1, i => decide (wans (ix l (i : Int)) = 0) && (l.take i).all (fun b => decide ((ix l (i : Int)).Client ≠ b.Client)) && okA l m (i + 1)
structure RS (s : Mk.Store) : Prop where
 len : s.Cells.length = 11
 wc : wcells (wrs s.Cells s.Undo) = 0
 u : s.Undo.length ≤ 100
 a : s.Answers.length ≤ 3
 p : s.Past.length ≤ 100
 ok : okA s.Answers s.Answers.length 0 = true
 at1 : ∀ w ∈ s.Undo, 0 ≤ w.At ∧ w.At ≤ 10
theorem RS.sz {s : Mk.Store} (h : RS s) : Sz s := by
 have h1 := h.len; have h2 := h.u; have h3 := h.a; have h4 := h.p
 exact ⟨by omega, by omega, by omega, by omega⟩
def last (s : Mk.Store) (c : Int) : Mk.Answer × Bool := match s.Answers.find? (fun a => decide (a.Client = c)) with | some a => (a, true) | none => (ans0, false)
theorem slast_loop (c : Int) (l : List Mk.Answer) (hl : l.length ≤ 1000000) (k : Mk.Answer → Option (Mk.Answer × Bool)) (y : Mk.Answer) (hk : k y = some (ans0, false)) : ∀ (m i : Nat), i + m = l.length → ∀ f : Nat, m < f →
  store_Last_l1 k f c l (l.length : Int) (i : Int) y = some (match (l.drop i).find? (fun a => decide (a.Client = c)) with | some a => (a, true) | none => (ans0, false)) := by
 intro m
 induction m with
 | zero =>
  intro i hi f hf
  obtain ⟨f, rfl⟩ : ∃ g, f = g + 1 := ⟨f - 1, by omega⟩
  rw [store_Last_l1, dF (by omega), cF, hk, List.drop_of_length_le (by omega)]; rfl
 | succ m ih =>
  intro i hi f hf
  obtain ⟨f, rfl⟩ : ∃ g, f = g + 1 := ⟨f - 1, by omega⟩
  rw [store_Last_l1, dT (by omega), cT, G_on (by omega), ix_drop l i (by omega), List.find?_cons]
  by_cases h : (ix l (i : Int)).Client = c
  ·rw [dT h, cT]
  ·rw [dF h, cF, G_on (by unfold I; omega), show ((i : Int) + 1) = ((i + 1 : Nat) : Int) from by omega, ih (i + 1) (by omega) f (by omega)]
theorem slast_eq (s : Mk.Store) (c : Int) (hl : s.Answers.length ≤ 1000000) : store_Last s c = some (last s c) := by
 unfold store_Last last
 simp only [J]
 have := slast_loop c s.Answers hl (fun _ => some (ans0, false)) ans0 rfl s.Answers.length 0 (by omega) (((s.Answers.length : Int) - 0).toNat + 1) (by omega)
 rw [show ((0 : Nat) : Int) = 0 from rfl, List.drop_zero] at this
 exact this
theorem rlast_loop (c : Int) (s : Mk.Store) (hl : s.Answers.length ≤ 1000000) (k : Mk.Answer → Option (Mk.Answer × Bool)) (y : Mk.Answer) (hk : k y = some (ans0, false)) : ∀ (m i : Nat), i + m = s.Answers.length → ∀ f : Nat, m < f →
  mkref1_Last_l1 k f c (s.Answers.length : Int) (i : Int) s y = some (match (s.Answers.drop i).find? (fun a => decide (a.Client = c)) with | some a => (a, true) | none => (ans0, false)) := by
 intro m
 induction m with
 | zero =>
  intro i hi f hf
  obtain ⟨f, rfl⟩ : ∃ g, f = g + 1 := ⟨f - 1, by omega⟩
  rw [mkref1_Last_l1, dF (by omega), cF, hk, List.drop_of_length_le (by omega)]; rfl
 | succ m ih =>
  intro i hi f hf
  obtain ⟨f, rfl⟩ : ∃ g, f = g + 1 := ⟨f - 1, by omega⟩
  rw [mkref1_Last_l1, dT (by omega), cT, G_on (by omega), ix_drop s.Answers i (by omega), List.find?_cons]
  by_cases h : (ix s.Answers (i : Int)).Client = c
  ·rw [dT h, cT, G_on (by omega)]
  ·rw [dF h, cF, G_on (by unfold I; omega), show ((i : Int) + 1) = ((i + 1 : Nat) : Int) from by omega, ih (i + 1) (by omega) f (by omega)]
theorem rlast_eq (s : Mk.Store) (c : Int) (hl : s.Answers.length ≤ 1000000) : mkref1_Last s c = some (last s c) := by
 unfold mkref1_Last last
 simp only [J]
 have := rlast_loop c s hl (fun _ => some (ans0, false)) ans0 rfl s.Answers.length 0 (by omega) (((s.Answers.length : Int) - 0).toNat + 1) (by omega)
 rw [show ((0 : Nat) : Int) = 0 from rfl, List.drop_zero] at this
 exact this
theorem cloneA_eq (l : List Mk.Answer) (h : l.length ≤ 1000000) : slices_Clone___api_Answer_api_Answer_ l = some l := by
 unfold slices_Clone___api_Answer_api_Answer_
 rw [G_on (by simp; omega)]; simp
theorem cloneR_eq (l : List Mk.Request) (h : l.length ≤ 1000000) : slices_Clone___api_Request_api_Request_ l = some l := by
 unfold slices_Clone___api_Request_api_Request_
 rw [G_on (by simp; omega)]; simp
theorem own_eq {s : Mk.Store} (h : Sz s) : store_Own s = some s := by
 have hc := h.c; have hu := h.u; have ha := h.a; have hp := h.p
 unfold store_Own
 rw [cloneI_eq _ (by omega), obs, cloneW_eq _ (by omega), obs, cloneA_eq _ ha, obs, cloneR_eq _ hp, obs]
def wrS (s : Mk.Store) (w : Mk.Write) : Mk.Store := if 0 ≤ w.At ∧ w.At < s.Cells.length then { s with Cells := wr s.Cells w, Undo := ⟨w.At, ix s.Cells w.At⟩ :: s.Undo } else s
theorem swrite_eq {s : Mk.Store} (h : Sz s) (w : Mk.Write) : store_Write s w = some (wrS s w) := by
 have hc := h.c; have hu := h.u; have ha := h.a; have hp := h.p
 unfold store_Write
 have e : fwd s.Cells [w] = if 0 ≤ w.At ∧ w.At < s.Cells.length then [⟨w.At, ix s.Cells w.At⟩] else [] := by simp [fwd]
 rw [own_eq h, obs, cundo_eq _ (by omega) _ (by simp), obs, e, cset_eq _ (by simpa using by omega) _ (by simp)]
 unfold wrS
 by_cases hw : 0 ≤ w.At ∧ w.At < s.Cells.length
 ·rw [if_pos hw, if_pos hw, G_on (by simp; omega)]
  simp [wrs]
 ·have e2 : wr s.Cells w = s.Cells := by unfold wr; rw [if_neg hw]
  rw [if_neg hw, if_neg hw, G_on (by simp; omega)]
  simp [wrs, e2]
theorem rwrite_eq {s : Mk.Store} (h : Sz s) (w : Mk.Write) : mkref1_Write s w = some (wrS s w) := by
 have hc := h.c; have hu := h.u; have ha := h.a; have hp := h.p
 unfold mkref1_Write wrS
 simp only [J]
 by_cases hw : 0 ≤ w.At ∧ w.At < s.Cells.length
 ·rw [dT hw.1, dT hw.2, Bool.and_self, cT, G_on hw, G_on (by simp; omega), rset_eq _ (by simpa using by omega) _ (by simp), obs, if_pos hw]
  simp [wrs]
 ·have hb : (decide (0 ≤ w.At) && decide (w.At < (s.Cells.length : Int))) = false := by
   simp only [Bool.and_eq_false_iff, decide_eq_false_iff_not]; omega
  rw [hb, cF, if_neg hw]
def ansPut : List Mk.Answer → Mk.Answer → List Mk.Answer
 | [], a => [a]
 | x :: l, a => if x.Client = a.Client then a :: l else x :: ansPut l a
theorem ansPut_len (l : List Mk.Answer) (a : Mk.Answer) : (ansPut l a).length ≤ l.length + 1 := by
 induction l with
 | nil => simp [ansPut]
 | cons x l ih => unfold ansPut; split <;> simp <;> omega
theorem find_ansPut (l : List Mk.Answer) (a : Mk.Answer) (c : Int) (h : c ≠ a.Client) : (ansPut l a).find? (fun x => decide (x.Client = c)) = l.find? (fun x => decide (x.Client = c)) := by
 induction l with
 | nil => simp [ansPut, Ne.symm h]
 | cons x l ih =>
  unfold ansPut
  split
  ·rename_i e
   rw [List.find?_cons, List.find?_cons, dF (by omega), dF (by omega)]
  ·rw [List.find?_cons, List.find?_cons, ih]
theorem find_ansPut_same (l : List Mk.Answer) (a : Mk.Answer) : (ansPut l a).find? (fun x => decide (x.Client = a.Client)) = some a := by
 induction l with
 | nil => simp [ansPut]
 | cons x l ih =>
  unfold ansPut
  split
  ·simp
  ·rename_i e
   rw [List.find?_cons, dF e, ih]
def commit (s : Mk.Store) (r : Mk.Request) (says : Mk.Reply) : Mk.Store := ⟨s.Cells, [], ansPut s.Answers ⟨r.Client, r.Token, says⟩, s.Past ++ [r]⟩
theorem scommit_loop (r : Mk.Request) (a : Mk.Answer) (ha : a.Client = r.Client) (y6 y7 : Mk.Store) (P : List Mk.Request) (l : List Mk.Answer) (hl : l.length ≤ 1000000) (k : Mk.Store → Mk.Store → Mk.Answer → List Mk.Answer → List Mk.Request → Option Mk.Store)
  (hk : k y6 y7 a l P = some { y7 with Answers := l ++ [a], Past := P }) : ∀ (m i : Nat), i + m = l.length → ∀ f : Nat, m < f →
  store_Commit_l1 k f (l.length : Int) (i : Int) r y6 y7 a l P = some { y7 with Answers := l.take i ++ ansPut (l.drop i) a, Past := P } := by
 intro m
 induction m with
 | zero =>
  intro i hi f hf
  obtain ⟨f, rfl⟩ : ∃ g, f = g + 1 := ⟨f - 1, by omega⟩
  rw [store_Commit_l1, dF (by omega), cF, hk, List.drop_of_length_le (by omega), List.take_of_length_le (by omega), ansPut]
 | succ m ih =>
  intro i hi f hf
  obtain ⟨f, rfl⟩ : ∃ g, f = g + 1 := ⟨f - 1, by omega⟩
  have hix : ix l (i : Int) = l[i]'(by omega) := ix_nat l i (by omega)
  rw [store_Commit_l1, dT (by omega), cT, G_on (by omega), ix_drop l i (by omega), ansPut, ha]
  by_cases h : (ix l (i : Int)).Client = r.Client
  ·rw [dT h, cT, G_on (by omega), if_pos h]
   have : up l (i : Int) a = l.take i ++ a :: l.drop (i + 1) := by
    unfold up; rw [Int.toNat_natCast, List.set_eq_take_append_cons_drop, if_pos (by omega)]
   rw [this]
  ·rw [dF h, cF, G_on (by unfold I; omega), show ((i : Int) + 1) = ((i + 1 : Nat) : Int) from by omega, ih (i + 1) (by omega) f (by omega), if_neg h, hix]
   have : l.take (i + 1) = l.take i ++ [l[i]'(by omega)] := by simp
   rw [this, List.append_assoc]; rfl
theorem scommit_eq {s : Mk.Store} (h : Sz s) (r : Mk.Request) (says : Mk.Reply) : store_Commit s r says = some (commit s r says) := by
 have hc := h.c; have hu := h.u; have ha := h.a; have hp := h.p
 unfold store_Commit
 simp only [J]
 rw [own_eq h, obs, G_on (by simp; omega)]
 have := fun y6 k hk => scommit_loop r ⟨r.Client, r.Token, says⟩ rfl y6 ⟨s.Cells, [], [], []⟩ (s.Past ++ [r]) s.Answers ha k hk s.Answers.length 0 (by omega) (((s.Answers.length : Int) - 0).toNat + 1) (by omega)
 rw [show ((0 : Nat) : Int) = 0 from rfl] at this
 rw [this _ _ (by rw [G_on (by simp; omega)])]
 simp [commit]
theorem rcommit_done (s : Mk.Store) (r : Mk.Request) (a : Mk.Answer) (y6 : Mk.Store) (l : List Mk.Answer) (hl : l.length ≤ 1000000) (k : Bool → Mk.Store → Mk.Request → Mk.Store → Mk.Answer → List Mk.Answer → Option Mk.Store) : ∀ (m i : Nat), i + m = l.length → ∀ f : Nat, m < f → ∀ acc : List Mk.Answer, acc.length ≤ i →
  mkref1_Commit_l1 k f true l (l.length : Int) (i : Int) s r y6 a acc = k true s r y6 a (acc ++ l.drop i) := by
 intro m
 induction m with
 | zero =>
  intro i hi f hf acc hacc
  obtain ⟨f, rfl⟩ : ∃ g, f = g + 1 := ⟨f - 1, by omega⟩
  rw [mkref1_Commit_l1, dF (by omega), cF, List.drop_of_length_le (by omega), List.append_nil]
 | succ m ih =>
  intro i hi f hf acc hacc
  obtain ⟨f, rfl⟩ : ∃ g, f = g + 1 := ⟨f - 1, by omega⟩
  rw [mkref1_Commit_l1, dT (by omega), cT]
  simp only [J]
  rw [G_on (by omega), nT, Bool.and_false, cF, G_on (by simp; omega), G_on (by unfold I; omega), show ((i : Int) + 1) = ((i + 1 : Nat) : Int) from by omega, ih (i + 1) (by omega) f (by omega) _ (by simp; omega), ix_drop l i (by omega)]
  simp
theorem rcommit_loop (s : Mk.Store) (r : Mk.Request) (a : Mk.Answer) (ha : a.Client = r.Client) (y6 : Mk.Store) (l : List Mk.Answer) (hl : l.length ≤ 1000000) (k : Bool → Mk.Store → Mk.Request → Mk.Store → Mk.Answer → List Mk.Answer → Option Mk.Store) (F : List Mk.Answer → Option Mk.Store)
  (hk1 : ∀ y, y.length ≤ 2000000 → k true s r y6 a y = F y) (hk0 : ∀ y, y.length ≤ 2000000 → k false s r y6 a y = F (y ++ [a])) : ∀ (m i : Nat), i + m = l.length → ∀ f : Nat, m < f → ∀ acc : List Mk.Answer, acc.length ≤ i →
  mkref1_Commit_l1 k f false l (l.length : Int) (i : Int) s r y6 a acc = F (acc ++ ansPut (l.drop i) a) := by
 intro m
 induction m with
 | zero =>
  intro i hi f hf acc hacc
  obtain ⟨f, rfl⟩ : ∃ g, f = g + 1 := ⟨f - 1, by omega⟩
  rw [mkref1_Commit_l1, dF (by omega), cF, List.drop_of_length_le (by omega), ansPut, hk0 _ (by omega)]
 | succ m ih =>
  intro i hi f hf acc hacc
  obtain ⟨f, rfl⟩ : ∃ g, f = g + 1 := ⟨f - 1, by omega⟩
  rw [mkref1_Commit_l1, dT (by omega), cT]
  simp only [J]
  rw [G_on (by omega), ix_drop l i (by omega), ansPut, ha]
  by_cases h : (ix l (i : Int)).Client = r.Client
  ·rw [dT h, nF, Bool.and_true, cT, G_on (by simp; omega), G_on (by unfold I; omega), show ((i : Int) + 1) = ((i + 1 : Nat) : Int) from by omega, rcommit_done s r a y6 l hl k m (i + 1) (by omega) f (by omega) _ (by simp; omega), if_pos h, hk1 _ (by simp; omega)]
   simp
  ·rw [dF h, Bool.false_and, cF, G_on (by simp; omega), G_on (by unfold I; omega), show ((i : Int) + 1) = ((i + 1 : Nat) : Int) from by omega, ih (i + 1) (by omega) f (by omega) _ (by simp; omega), if_neg h]
   simp
theorem rcommit_eq {s : Mk.Store} (h : Sz s) (r : Mk.Request) (says : Mk.Reply) : mkref1_Commit s r says = some (commit s r says) := by
 have hc := h.c; have hu := h.u; have ha := h.a; have hp := h.p
 unfold mkref1_Commit
 simp only [J]
 have := fun y6 k hk1 hk0 => rcommit_loop s r ⟨r.Client, r.Token, says⟩ rfl y6 s.Answers ha k (fun y => some ⟨s.Cells, [], y, s.Past ++ [r]⟩) hk1 hk0 s.Answers.length 0 (by omega) (((s.Answers.length : Int) - 0).toNat + 1) (by omega) [] (by simp)
 rw [show ((0 : Nat) : Int) = 0 from rfl] at this
 rw [this]
 ·simp [commit]
 ·intro y hy
  rw [nT, cF, G_on (by simp; omega), G_on (by simp; omega)]; simp
 ·intro y hy
  rw [nF, cT, G_on (by simp; omega), G_on (by simp; omega), G_on (by simp; omega)]; simp
def back (s : Mk.Store) : Mk.Store := { s with Cells := wrs s.Cells s.Undo, Undo := [] }
theorem sback_eq {s : Mk.Store} (h : Sz s) : store_Back s = some (back s) := by
 have hc := h.c; have hu := h.u; have ha := h.a; have hp := h.p
 unfold store_Back
 rw [own_eq h, obs, cset_eq _ (by omega) _ (by omega), obs]; rfl
theorem rback_eq {s : Mk.Store} (h : Sz s) : mkref1_Back s = some (back s) := by
 have hc := h.c; have hu := h.u; have ha := h.a; have hp := h.p
 unfold mkref1_Back
 rw [rset2_eq _ (by omega) _ (by omega), obs]; rfl
theorem snew_eq : store_New = some ⟨List.replicate 11 0, [], [], []⟩ := by
 unfold store_New cell_New
 rw [G_on (by decide), obs]; rfl
end Sp
end
section
namespace Sp
def rep0 : Mk.Reply := ⟨0, 0⟩
def srv0 (g : Int) : Mk.Server := ⟨g, [], false, req0, [], rep0⟩
def hear (c : Mk.Client) (b : List UInt8) (box : List (List UInt8)) (me : Int) : Mk.Client :=
 if (readAns b).2 = 0 ∧ (readAns b).1.Client = me ∧ (readAns b).1.Token = c.At ∧ c.Sent = true then ⟨c.Calls, c.At + 1, false, c.Gen, box, c.Got ++ [(readAns b).1.Reply]⟩ else { c with Box := box }
def cGo (c : Mk.Client) (me gen : Int) (up : Bool) : Mk.Client × List UInt8 × Int :=
 match c.Box with
 | b :: box => (hear c b box me, [], 0)
 | [] => if (c.Calls.length : Int) ≤ c.At then (c, [], 11) else if up = false then (c, [], 10) else if c.Sent = true ∧ c.Gen = gen then (c, [], 12)
  else ({ c with Sent := true, Gen := gen }, reqB ⟨me, c.At, ix c.Calls c.At⟩, 0)
def cCome (c : Mk.Client) (b : List UInt8) : Mk.Client := if c.Box.length < 3 then { c with Box := c.Box ++ [b] } else c
def sCome (v : Mk.Server) (b : List UInt8) : Mk.Server × Int := if 3 ≤ v.Box.length then (v, 9) else ({ v with Box := v.Box ++ [b] }, 0)
def take1 (s : Mk.Store) (v : Mk.Server) (b : List UInt8) (box : List (List UInt8)) : Mk.Server × List UInt8 :=
 if (readReq b).2 ≠ 0 then ({ v with Box := box }, [])
 else if (last s (readReq b).1.Client).2 = true ∧ (readReq b).1.Token ≤ (last s (readReq b).1.Client).1.Token then
  (if (last s (readReq b).1.Client).1.Token = (readReq b).1.Token then ({ v with Box := box }, ansB (last s (readReq b).1.Client).1) else ({ v with Box := box }, []))
 else (⟨v.Gen, box, true, (readReq b).1, (planR (entries s.Cells) (readReq b).1.Call).1, (planR (entries s.Cells) (readReq b).1.Call).2⟩, [])
def serve (s : Mk.Store) (v : Mk.Server) : Mk.Store × Mk.Server × List UInt8 × Int :=
 if v.Busy = true then
  match v.Plan with
  | w :: p => (wrS s w, { v with Plan := p }, [], 0)
  | [] => (commit s v.Now v.Says, ⟨v.Gen, v.Box, false, req0, [], rep0⟩, ansB ⟨v.Now.Client, v.Now.Token, v.Says⟩, 0)
 else
  match v.Box with
  | [] => (s, v, [], 12)
  | b :: box => (s, (take1 s v b box).1, (take1 s v b box).2, 0)
def pauseOf (n : Int) : Int := if n ≤ 1 then 1 else if n = 2 then 2 else 3
def fall (m : Mk.Machine) : Mk.Machine × Int :=
 if m.Up = false then (m, 11) else if 5 < m.Falls then (m, 5) else (⟨m.Store, srv0 m.Server.Gen, false, pauseOf (m.Falls + 1), m.Falls + 1, m.Clients⟩, 0)
def tick (m : Mk.Machine) : Mk.Machine :=
 if m.Up = true then m else if 1 < m.Pause then { m with Pause := m.Pause - 1 } else ⟨back m.Store, srv0 (m.Server.Gen + 1), true, 0, m.Falls, m.Clients⟩
def withC (m : Mk.Machine) (n : Int) (c : Mk.Client) : Mk.Machine := { m with Clients := up m.Clients n c }
def doC (m : Mk.Machine) (n : Int) : Mk.Machine × Int :=
 if n < 0 ∨ (m.Clients.length : Int) ≤ n then (m, 6)
 else if (cGo (ix m.Clients n) n m.Server.Gen m.Up).2.2 ≠ 0 then (m, (cGo (ix m.Clients n) n m.Server.Gen m.Up).2.2)
 else if (cGo (ix m.Clients n) n m.Server.Gen m.Up).2.1 = [] then (withC m n (cGo (ix m.Clients n) n m.Server.Gen m.Up).1, 0)
 else if (sCome m.Server (cGo (ix m.Clients n) n m.Server.Gen m.Up).2.1).2 ≠ 0 then (m, (sCome m.Server (cGo (ix m.Clients n) n m.Server.Gen m.Up).2.1).2)
 else (withC { m with Server := (sCome m.Server (cGo (ix m.Clients n) n m.Server.Gen m.Up).2.1).1 } n (cGo (ix m.Clients n) n m.Server.Gen m.Up).1, 0)
def toC (m : Mk.Machine) (b : List UInt8) : Mk.Machine :=
 if b = [] then m else if ((ix b 1).toNat : Int) < m.Clients.length then withC m ((ix b 1).toNat : Int) (cCome (ix m.Clients ((ix b 1).toNat : Int)) b) else m
def doS (m : Mk.Machine) : Mk.Machine × Int :=
 if m.Up = false then (m, 10)
 else if (serve m.Store m.Server).2.2.2 ≠ 0 then (m, (serve m.Store m.Server).2.2.2)
 else (toC { m with Store := (serve m.Store m.Server).1, Server := (serve m.Store m.Server).2.1 } (serve m.Store m.Server).2.2.1, 0)
def doM (m : Mk.Machine) (s : Mk.Step) : Mk.Machine × Int :=
 if s.Kind = 1 then doC m s.N else if s.Kind = 2 then doS m else if s.Kind = 3 then fall m else if s.Kind = 4 then (tick m, 0) else (m, 1)
def runM : Mk.Machine → List Mk.Step → Mk.Machine
 | m, [] => m
 | m, s :: l => runM (doM m s).1 l
def runE : Mk.Machine → List Mk.Step → List Int
 | _, [] => []
 | m, s :: l => (doM m s).2 :: runE (doM m s).1 l
theorem rgo_eq (c : Mk.Client) (me gen : Int) (up : Bool) (hb : c.Box.length ≤ 1000) (hg : c.Got.length ≤ 1000) (hat : 0 ≤ c.At ∧ c.At ≤ 1000) : mkref6_ClientGo c me gen up = some (cGo c me gen up) := by
 obtain ⟨K, A, S, g, B, R⟩ := c
 simp only at hb hg hat
 unfold mkref6_ClientGo cGo
 cases B with
 | cons b box =>
  have e1 : ix (b :: box) 0 = b := rfl
  have e2 : sub (b :: box) 1 ((b :: box).length : Int) = box := by simp [sub]
  have e3 : (([] : List Mk.Reply) ++ R) = R := rfl
  simp only [J, e1, e2, e3]
  rw [dT (by simp <;> omega), cT, G_on (by simp <;> omega), rreadAnswer_eq, obs, G_on (by simp <;> omega)]
  unfold hear
  by_cases h : (readAns b).2 = 0 ∧ (readAns b).1.Client = me ∧ (readAns b).1.Token = A ∧ S = true
  ·obtain ⟨h1, h2, h3, h4⟩ := h
   simp only [h1, h2, h3, h4, decide_true, Bool.and_self, cT, and_self, if_true]
   rw [G_on (by simp <;> omega), G_on (by simp <;> omega), G_on (by unfold I; omega)]
  ·have hf : (((decide ((readAns b).2 = 0) && decide ((readAns b).1.Client = me)) && decide ((readAns b).1.Token = A)) && S) = false := by
    cases S <;> simp_all
   rw [hf, cF, if_neg h]
 | nil =>
  simp only [List.length_nil]
  rw [dF (by decide), cF]
  by_cases h1 : (K.length : Int) ≤ A
  ·rw [dT h1, cT, if_pos h1]
  ·rw [dF h1, cF, if_neg h1]
   cases up with
   | false => rfl
   | true =>
    simp only [nT, cF]
    by_cases h2 : S = true ∧ g = gen
    ·simp [h2.1, h2.2]
    ·have hf : (S && decide (g = gen)) = false := by cases S <;> simp_all
     rw [hf, cF, G_on (by omega), requestBytes_eq, obs]
     simp only [Bool.true_eq_false, if_false, if_neg h2]
theorem rccome_eq (c : Mk.Client) (b : List UInt8) (hb : c.Box.length ≤ 1000) : mkref6_ClientCome c b = some (cCome c b) := by
 unfold mkref6_ClientCome cCome
 simp only [J]
 by_cases h : c.Box.length < 3
 ·rw [dT (by omega), cT, G_on (by simp <;> omega), G_on (by simp <;> omega), if_pos h]; rfl
 ·rw [dF (by omega), cF, if_neg h]
theorem rscome_eq (v : Mk.Server) (b : List UInt8) (hb : v.Box.length ≤ 1000) : mkref6_ServerCome v b = some (sCome v b) := by
 unfold mkref6_ServerCome sCome
 by_cases h : 3 ≤ v.Box.length
 ·rw [dT (by omega), cT, if_pos h]
 ·rw [dF (by omega), cF, G_on (by simp <;> omega), G_on (by simp <;> omega), if_neg h]; rfl
theorem rwith_eq (m : Mk.Machine) (n : Int) (c : Mk.Client) (hl : m.Clients.length ≤ 1000) (hn : 0 ≤ n ∧ n < m.Clients.length) : mkref6_with m n c = some (withC m n c) := by
 unfold mkref6_with withC
 rw [G_on (by simp <;> omega), G_on (by simpa using hn)]; rfl
theorem rserve_eq {s : Mk.Store} {v : Mk.Server} (hs : Sz s) (hr : v.Busy = false → Rt s.Cells (entries s.Cells)) : mkref6_Serve s v = some (serve s v) := by
 obtain ⟨g, B, bz, nw, P, sy⟩ := v
 simp only at hr
 unfold mkref6_Serve serve
 cases bz with
 | true =>
  cases P with
  | cons w p =>
   have e1 : ix (w :: p) 0 = w := rfl
   have e2 : sub (w :: p) 1 ((w :: p).length : Int) = p := by simp [sub]
   simp only [e1, e2, Bool.true_and, if_true]
   rw [dT (by simp <;> omega), cT, G_on (by simp <;> omega), rwrite_eq hs, obs, G_on (by simp <;> omega)]
  | nil =>
   simp only [List.length_nil, Bool.true_and, if_true]
   rw [dF (by decide), cF, cT, answerBytes_eq, obs, rcommit_eq hs, obs]; rfl
 | false =>
  simp only [Bool.false_and, cF, Bool.false_eq_true, if_false]
  cases B with
  | nil =>
   simp only [List.length_nil]
   rw [dT (by decide), cT]
  | cons b box =>
   have hR := hr rfl
   have e1 : ix (b :: box) 0 = b := rfl
   have e2 : sub (b :: box) 1 ((b :: box).length : Int) = box := by simp [sub]
   simp only [e1, e2]
   rw [dF (by simp <;> omega), cF, G_on (by simp <;> omega), rreadRequest_eq, obs, G_on (by simp <;> omega)]
   unfold take1
   by_cases h1 : (readReq b).2 = 0
   ·rw [dT h1, nT, cF, rlast_eq _ _ hs.a, obs]
    simp only [h1, ne_eq, not_true, if_false]
    by_cases h2 : (last s (readReq b).1.Client).2 = true ∧ (readReq b).1.Token ≤ (last s (readReq b).1.Client).1.Token
    ·rw [h2.1, dT h2.2, Bool.and_self, cT]
     simp only [h2.2, and_self, if_true]
     by_cases h3 : (last s (readReq b).1.Client).1.Token = (readReq b).1.Token
     ·rw [dT h3, cT, answerBytes_eq, obs, if_pos h3]
     ·rw [dF h3, cF, if_neg h3]
    ·have hf : ((last s (readReq b).1.Client).2 && decide ((readReq b).1.Token ≤ (last s (readReq b).1.Client).1.Token)) = false := by
      cases h4 : (last s (readReq b).1.Client).2 with
      | false => rfl
      | true => simp [h4] at h2; simp; omega
     have hc : CallOk (readReq b).1.Call := by
      unfold readReq at h1 ⊢
      split at h1
      ·cases h1
      ·split at h1
       ·rename_i h5 h6; exact (h6 h1).elim
       ·rename_i h5 h6
        rw [if_neg h5, if_neg h6]
        exact (wreq_ok (Classical.not_not.1 h6)).2.2
     rw [hf, cF, rplan_eq hR hc, obs, if_neg h2]
   ·rw [dF h1, nF, cT]
    simp only [ne_eq, h1, not_false_eq_true, if_true]
theorem rfall_eq (m : Mk.Machine) (hf : 0 ≤ m.Falls ∧ m.Falls ≤ 6) : mkref6_Fall m = some (fall m) := by
 obtain ⟨s, v, u, p, f, cl⟩ := m
 simp only at hf
 unfold mkref6_Fall fall
 cases u with
 | false => rfl
 | true =>
  simp only [nT, cF, Bool.true_eq_false, if_false]
  by_cases h : 5 < f
  ·rw [dT h, cT, if_pos h]
  ·rw [dF h, cF, G_on (by unfold I; omega), G_on (by simp <;> omega), if_neg h]
   have : f = 0 ∨ f = 1 ∨ f = 2 ∨ f = 3 ∨ f = 4 ∨ f = 5 := by omega
   rcases this with rfl | rfl | rfl | rfl | rfl | rfl <;> rfl
theorem rtick_eq (m : Mk.Machine) (hs : Sz m.Store) (hp : 0 ≤ m.Pause ∧ m.Pause ≤ 1000) (hg : 0 ≤ m.Server.Gen ∧ m.Server.Gen ≤ 1000) : mkref6_Tick m = some (tick m) := by
 obtain ⟨s, v, u, p, f, cl⟩ := m
 simp only at hs hp hg
 unfold mkref6_Tick tick
 simp only [J]
 cases u with
 | true => rfl
 | false =>
  simp only [cF, Bool.false_eq_true, if_false]
  by_cases h : 1 < p
  ·rw [dT h, cT, G_on (by unfold I; omega), if_pos h]
  ·rw [dF h, cF, rback_eq hs, obs, G_on (by unfold I; omega), if_neg h]; rfl
end Sp
end
section
namespace Sp
structure CsOk (cs : List (List Mk.Call)) : Prop where
 n : cs.length ≤ 3
 l : ∀ x ∈ cs, x.length ≤ 8 ∧ ∀ c ∈ x, CallOk c
def call (cs : List (List Mk.Call)) (c t : Int) : Mk.Call := ix (ix cs c) t
theorem CsOk.len {cs : List (List Mk.Call)} (h : CsOk cs) {c : Int} (hc : 0 ≤ c ∧ c < cs.length) : (ix cs c).length ≤ 8 := (h.l _ (ix_mem cs c hc)).1
theorem CsOk.call {cs : List (List Mk.Call)} (h : CsOk cs) {c t : Int} (hc : 0 ≤ c ∧ c < cs.length) (ht : 0 ≤ t ∧ t < (ix cs c).length) : CallOk (call cs c t) := (h.l _ (ix_mem cs c hc)).2 _ (ix_mem _ t ht)
def cnt (p : List Mk.Request) (c : Int) : Nat := (p.filter fun r => decide (r.Client = c)).length
def heardF : List Mk.Write → List Mk.Request → Int → List Mk.Reply
 | _, [], _ => []
 | l, r :: rs, c => if r.Client = c then (doP l r.Call).2 :: heardF (doP l r.Call).1 rs c else heardF (doP l r.Call).1 rs c
def ansF : List Mk.Answer → List Mk.Write → List Mk.Request → List Mk.Answer
 | a, _, [] => a
 | a, l, r :: rs => ansF (ansPut a ⟨r.Client, r.Token, (doP l r.Call).2⟩) (doP l r.Call).1 rs
theorem cnt_snoc (p : List Mk.Request) (r : Mk.Request) (c : Int) : cnt (p ++ [r]) c = cnt p c + if r.Client = c then 1 else 0 := by
 unfold cnt
 rw [List.filter_append, List.length_append]
 by_cases h : r.Client = c <;> simp [h]
theorem heardF_len (l : List Mk.Write) (p : List Mk.Request) (c : Int) : (heardF l p c).length = cnt p c := by
 induction p generalizing l with
 | nil => rfl
 | cons r p ih =>
  unfold heardF cnt
  by_cases h : r.Client = c
  ·simp [h, ih, cnt]
  ·simp [h, ih, cnt]
theorem allN_snoc (l : List Mk.Write) (p : List Mk.Request) (r : Mk.Request) : allN l (p ++ [r]) = (doP (allN l p) r.Call).1 := by
 induction p generalizing l with
 | nil => rfl
 | cons x p ih => exact ih _
theorem heardF_snoc (l : List Mk.Write) (p : List Mk.Request) (r : Mk.Request) (c : Int) : heardF l (p ++ [r]) c = heardF l p c ++ if r.Client = c then [(doP (allN l p) r.Call).2] else [] := by
 induction p generalizing l with
 | nil => simp [heardF, allN]
 | cons x p ih =>
  rw [List.cons_append, heardF, heardF, ih, allN]
  by_cases h : x.Client = c <;> simp [h]
theorem ansF_snoc (a : List Mk.Answer) (l : List Mk.Write) (p : List Mk.Request) (r : Mk.Request) : ansF a l (p ++ [r]) = ansPut (ansF a l p) ⟨r.Client, r.Token, (doP (allN l p) r.Call).2⟩ := by
 induction p generalizing a l with
 | nil => rfl
 | cons x p ih => exact ih _ _
theorem ix_last {α : Type} [Inhabited α] (l : List α) (x : α) (i : Int) (h : i = l.length) : ix (l ++ [x]) i = x := by subst h; simp [ix]
inductive Lawful (cs : List (List Mk.Call)) : List Mk.Request → Prop
 | nil : Lawful cs []
 | snoc {p : List Mk.Request} {r : Mk.Request} (h : Lawful cs p) (hc : 0 ≤ r.Client ∧ r.Client < cs.length) (ht : r.Token = cnt p r.Client) (hl : (cnt p r.Client : Int) < (ix cs r.Client).length) (hk : r.Call = call cs r.Client r.Token) : Lawful cs (p ++ [r])
theorem Lawful.req {cs : List (List Mk.Call)} (hcs : CsOk cs) {p : List Mk.Request} (h : Lawful cs p) : ∀ r ∈ p, (0 ≤ r.Client ∧ r.Client < cs.length) ∧ (0 ≤ r.Token ∧ r.Token < (ix cs r.Client).length) ∧ r.Call = call cs r.Client r.Token ∧ CallOk r.Call := by
 induction h with
 | nil => simp
 | snoc h hc ht hl hk ih =>
  intro x hx
  rcases List.mem_append.1 hx with hx | hx
  ·exact ih x hx
  ·simp only [List.mem_singleton] at hx
   subst hx
   have h1 : 0 ≤ x.Token ∧ x.Token < (ix cs x.Client).length := by omega
   exact ⟨hc, h1, hk, by rw [hk]; exact hcs.call hc h1⟩
theorem Lawful.cnt_le {cs : List (List Mk.Call)} {p : List Mk.Request} (h : Lawful cs p) (c : Int) (hc : 0 ≤ c ∧ c < cs.length) : cnt p c ≤ (ix cs c).length := by
 induction h with
 | nil => simp [cnt]
 | @snoc p r h hc' ht hl hk ih =>
  rw [cnt_snoc]
  split
  ·rename_i e; subst e; omega
  ·exact ih
theorem cnt_out {cs : List (List Mk.Call)} {p : List Mk.Request} (h : Lawful cs p) (c : Int) (hc : ¬ (0 ≤ c ∧ c < cs.length)) : cnt p c = 0 := by
 induction h with
 | nil => simp [cnt]
 | @snoc p r h hc' ht hl hk ih =>
  rw [cnt_snoc, ih, if_neg]
  intro e; subst e; exact hc hc'
theorem Lawful.nm {cs : List (List Mk.Call)} (hcs : CsOk cs) {p : List Mk.Request} (h : Lawful cs p) : Nm (allN [] p) := nm_allN nm_nil fun r hr => (h.req hcs r hr).2.2.2
theorem len_cnt (p : List Mk.Request) (h : ∀ r ∈ p, 0 ≤ r.Client ∧ r.Client < 3) : p.length = cnt p 0 + cnt p 1 + cnt p 2 := by
 induction p with
 | nil => simp [cnt]
 | cons r p ih =>
  have h1 := h r (by simp)
  have h2 := ih fun x hx => h x (by simp [hx])
  have e : r.Client = 0 ∨ r.Client = 1 ∨ r.Client = 2 := by omega
  unfold cnt at h2 ⊢
  rcases e with e | e | e <;> simp [e] <;> omega
theorem Lawful.len {cs : List (List Mk.Call)} (hcs : CsOk cs) {p : List Mk.Request} (h : Lawful cs p) : p.length ≤ 24 := by
 have hn := hcs.n
 rw [len_cnt p fun r hr => by have := (h.req hcs r hr).1; omega]
 have one : ∀ c : Int, cnt p c ≤ 8 := fun c => by
  by_cases hc : 0 ≤ c ∧ c < cs.length
  ·have h1 := h.cnt_le c hc
   have h2 := hcs.len hc
   omega
  ·rw [cnt_out h c hc]; omega
 have h0 := one 0
 have h1 := one 1
 have h2 := one 2
 omega
theorem ansPut_mem (l : List Mk.Answer) (a b : Mk.Answer) (h : b ∈ ansPut l a) : b = a ∨ b ∈ l := by
 induction l with
 | nil => simp [ansPut] at h; exact .inl h
 | cons x l ih =>
  unfold ansPut at h
  split at h
  ·rcases List.mem_cons.1 h with h | h
   ·exact .inl h
   ·exact .inr (by simp [h])
  ·rcases List.mem_cons.1 h with h | h
   ·exact .inr (by simp [h])
   ·rcases ih h with h | h
    ·exact .inl h
    ·exact .inr (by simp [h])
theorem ansPut_keys (l : List Mk.Answer) (a : Mk.Answer) : (ansPut l a).map (·.Client) = if a.Client ∈ l.map (·.Client) then l.map (·.Client) else l.map (·.Client) ++ [a.Client] := by
 induction l with
 | nil => simp [ansPut]
 | cons x l ih =>
  unfold ansPut
  by_cases h : x.Client = a.Client
  ·simp [h]
  ·rw [if_neg h, List.map_cons, ih]
   by_cases h2 : a.Client ∈ l.map (·.Client)
   ·rw [if_pos h2, if_pos (by rw [List.map_cons]; exact List.mem_cons_of_mem _ h2)]; rfl
   ·rw [if_neg h2, if_neg (by rw [List.map_cons]; intro h3; exact (List.mem_cons.1 h3).elim (fun e => h e.symm) h2)]; rfl
theorem Lawful.find {cs : List (List Mk.Call)} {p : List Mk.Request} (h : Lawful cs p) (c : Int) : (ansF [] [] p).find? (fun x => decide (x.Client = c)) = if cnt p c = 0 then none else some ⟨c, (cnt p c : Int) - 1, ix (heardF [] p c) ((cnt p c : Int) - 1)⟩ := by
 induction h with
 | nil => simp [cnt, ansF]
 | @snoc p r h hc ht hl hk ih =>
  rw [ansF_snoc, cnt_snoc, heardF_snoc]
  by_cases e : r.Client = c
  ·subst e
   rw [if_pos rfl, if_pos rfl, if_neg (by omega)]
   have := find_ansPut_same (ansF [] [] p) ⟨r.Client, r.Token, (doP (allN [] p) r.Call).2⟩
   rw [this, ix_last _ _ _ (by rw [heardF_len]; omega)]
   have e2 : ((cnt p r.Client + 1 : Nat) : Int) - 1 = r.Token := by omega
   rw [e2]
  ·rw [if_neg e, if_neg e, find_ansPut _ _ _ (by simpa using Ne.symm e), ih]
   simp
structure RepOk (r : Mk.Reply) : Prop where
 e : 0 ≤ r.Err ∧ r.Err ≤ 12
 n : -1073741824 ≤ r.N ∧ r.N ≤ 1073741824
 z : r.Err ≠ 0 → r.N = 0
theorem doP_rep {l : List Mk.Write} {c : Mk.Call} (h : Nm l) (hc : CallOk c) : RepOk (doP l c).2 := by
 have hle := h.le
 have hr := pos_range l c.Name
 have ho := pos_range l c.Other
 have hz : ∀ x : Int, -1073741824 ≤ x ∧ x ≤ 1073741824 → RepOk ⟨0, x⟩ := fun x hx => ⟨⟨(show (0 : Int) ≤ 0 by decide), (show (0 : Int) ≤ 12 by decide)⟩, hx, fun h => (h rfl).elim⟩
 have he : ∀ x : Int, 0 ≤ x ∧ x ≤ 12 → RepOk ⟨x, 0⟩ := fun x hx => ⟨hx, ⟨(show (-1073741824 : Int) ≤ 0 by decide), (show (0 : Int) ≤ 1073741824 by decide)⟩, fun _ => rfl⟩
 unfold doP
 repeat' split
 all_goals first
  | exact he _ (by decide)
  | exact hz _ (by omega)
  | exact hz _ (h.call (by omega))
theorem wans_of {c t : Int} {r : Mk.Reply} (hc : 0 ≤ c ∧ c < 3) (ht : 0 ≤ t ∧ t < 8) (hr : RepOk r) : wans ⟨c, t, r⟩ = 0 := by
 have h1 := hr.e; have h2 := hr.n; have h3 := hr.z
 have hw : wwho c t = 0 := by unfold wwho; rw [if_neg (by omega)]
 unfold wans
 rw [if_neg]
 simp only [hw]
 omega
theorem wreq_of {c t : Int} {k : Mk.Call} (hc : 0 ≤ c ∧ c < 3) (ht : 0 ≤ t ∧ t < 8) (hk : CallOk k) : wreq ⟨c, t, k⟩ = 0 := by
 have hw : wwho c t = 0 := by unfold wwho; rw [if_neg (by omega)]
 unfold wreq
 rw [if_neg (by simp [hw])]
 exact (wcall_ok k).2 hk
theorem Lawful.heard_ok {cs : List (List Mk.Call)} (hcs : CsOk cs) {p : List Mk.Request} (h : Lawful cs p) (c : Int) : ∀ r ∈ heardF [] p c, RepOk r := by
 induction h with
 | nil => simp [heardF]
 | @snoc p r h hc ht hl hk ih =>
  rw [heardF_snoc]
  intro x hx
  rcases List.mem_append.1 hx with hx | hx
  ·exact ih x hx
  ·split at hx
   ·simp only [List.mem_singleton] at hx
    subst hx
    exact doP_rep (h.nm hcs) (by rw [hk]; exact hcs.call hc (by omega))
   ·cases hx
theorem Lawful.ans {cs : List (List Mk.Call)} (hcs : CsOk cs) {p : List Mk.Request} (h : Lawful cs p) : (∀ a ∈ ansF [] [] p, wans a = 0) ∧ ((ansF [] [] p).map (·.Client)).Nodup := by
 induction h with
 | nil => simp [ansF]
 | @snoc p r h hc ht hl hk ih =>
  have hn := hcs.n
  have h8 := hcs.len hc
  rw [ansF_snoc, ansPut_keys]
  refine ⟨fun a ha => ?_, ?_⟩
  ·rcases ansPut_mem _ _ _ ha with rfl | ha
   ·exact wans_of (by omega) (by omega) (doP_rep (h.nm hcs) (by rw [hk]; exact hcs.call hc (by omega)))
   ·exact ih.1 a ha
  ·split
   ·exact ih.2
   ·rename_i h2
    rw [List.nodup_append]
    refine ⟨ih.2, by simp, fun x hx y hy => ?_⟩
    simp only [List.mem_singleton] at hy
    subst hy
    intro e; subst e; exact h2 hx
theorem nodup3 (l : List Int) (h : l.Nodup) (h3 : ∀ x ∈ l, 0 ≤ x ∧ x < 3) : l.length ≤ 3 := by
 match l, h, h3 with
 | [], _, _ => simp
 | [_], _, _ => simp
 | [_, _], _, _ => simp
 | [_, _, _], _, _ => simp
 | a :: b :: c :: d :: l, h, h3 =>
  exfalso
  have ha := h3 a (by simp)
  have hb := h3 b (by simp)
  have hc := h3 c (by simp)
  have hd := h3 d (by simp)
  simp only [List.nodup_cons, List.mem_cons, not_or] at h
  omega
theorem Lawful.ans_len {cs : List (List Mk.Call)} (hcs : CsOk cs) {p : List Mk.Request} (h : Lawful cs p) : (ansF [] [] p).length ≤ 3 := by
 obtain ⟨h1, h2⟩ := h.ans hcs
 rw [← List.length_map (f := (·.Client))]
 refine nodup3 _ h2 fun x hx => ?_
 obtain ⟨a, ha, rfl⟩ := List.mem_map.1 hx
 exact (wans_ok (h1 a ha)).1
end Sp
end
section
namespace Sp
def QOk (cs : List (List Mk.Call)) (cl : List Mk.Client) (b : List UInt8) : Prop :=
 ∃ c t : Int, (0 ≤ c ∧ c < cs.length) ∧ (0 ≤ t ∧ t < (ix cs c).length) ∧ b = reqB ⟨c, t, call cs c t⟩ ∧ t ≤ (ix cl c).At ∧ (t = (ix cl c).At → (ix cl c).Sent = true)
def AOk (p : List Mk.Request) (c : Int) (b : List UInt8) : Prop := ∃ t : Int, (0 ≤ t ∧ t < cnt p c) ∧ b = ansB ⟨c, t, ix (heardF [] p c) t⟩
structure ClOk (cs : List (List Mk.Call)) (p : List Mk.Request) (g : Int) (c : Int) (x : Mk.Client) : Prop where
 calls : x.Calls = ix cs c
 at0 : 0 ≤ x.At
 at1 : x.At ≤ cnt p c
 at2 : (cnt p c : Int) ≤ x.At + 1
 sent : (cnt p c : Int) = x.At + 1 → x.Sent = true
 got : x.Got = (heardF [] p c).take x.At.toNat
 box : x.Box.length ≤ 3
 ans : ∀ b ∈ x.Box, AOk p c b
 gen : 0 ≤ x.Gen ∧ x.Gen ≤ g
 more : x.Sent = true → x.At < x.Calls.length
structure Inv (cs : List (List Mk.Call)) (m : Mk.Machine) : Prop where
 law : Lawful cs m.Store.Past
 ans : m.Store.Answers = ansF [] [] m.Store.Past
 nk : m.Clients.length = cs.length
 cl : ∀ c : Int, 0 ≤ c ∧ c < cs.length → ClOk cs m.Store.Past m.Server.Gen c (ix m.Clients c)
 falls : 0 ≤ m.Falls ∧ m.Falls ≤ 6
 gen : 0 ≤ m.Server.Gen
 up : m.Up = true → m.Pause = 0 ∧ m.Server.Gen = m.Falls
 down : m.Up = false → m.Server = srv0 m.Server.Gen ∧ 1 ≤ m.Pause ∧ m.Pause ≤ 3 ∧ m.Server.Gen + 1 = m.Falls
 box : m.Server.Box.length ≤ 3
 q : ∀ b ∈ m.Server.Box, QOk cs m.Clients b
 st : ∃ (b0 : List Int) (done : List Mk.Write), Rt b0 (allN [] m.Store.Past) ∧ m.Store.Cells = wrs b0 done ∧ m.Store.Undo = (fwd b0 done).reverse ∧ (∃ (k : Mk.Call) (rest : List Mk.Write), CallOk k ∧ (planR (allN [] m.Store.Past) k).1 = done ++ rest) ∧
  (m.Up = true → m.Server.Busy = false → done = []) ∧ (m.Server.Busy = true → planR (allN [] m.Store.Past) m.Server.Now.Call = (done ++ m.Server.Plan, m.Server.Says))
 now : m.Server.Busy = true → ∃ c : Int, (0 ≤ c ∧ c < cs.length) ∧ m.Server.Now = ⟨c, cnt m.Store.Past c, call cs c (cnt m.Store.Past c)⟩ ∧ (cnt m.Store.Past c : Int) < (ix cs c).length ∧ (ix m.Clients c).At = cnt m.Store.Past c ∧ (ix m.Clients c).Sent = true
 idle : m.Server.Busy = false → m.Server = ⟨m.Server.Gen, m.Server.Box, false, req0, [], rep0⟩
section
variable {cs : List (List Mk.Call)} {m : Mk.Machine}
theorem plan_part {l : List Mk.Write} {k : Mk.Call} {done rest : List Mk.Write} (h : (planR l k).1 = done ++ rest) : done.length ≤ 3 := by
 have := planR_len l k
 rw [h, List.length_append] at this
 omega
theorem no_plan (l : List Mk.Write) : ∃ (k : Mk.Call) (rest : List Mk.Write), CallOk k ∧ (planR l k).1 = [] ++ rest :=
 ⟨⟨5, 0, 0, 0⟩, [], (wcall_ok _).1 (by decide), by simp [planR]⟩
theorem Inv.gen6 (h : Inv cs m) : m.Server.Gen ≤ 6 := by
 have h1 := h.falls; have h2 := h.up; have h3 := h.down
 cases hu : m.Up with
 | true => have := (h2 hu).2; omega
 | false => have := (h3 hu).2.2.2; omega
theorem Inv.sz (hcs : CsOk cs) (h : Inv cs m) : Sz m.Store := by
 obtain ⟨b0, done, hR, hc, hu, ⟨k, rest, _, hd⟩, _⟩ := h.st
 have hd := plan_part hd
 have h1 := hR.len
 have h2 := fwd_len b0 done
 have h3 := h.law.len hcs
 have h4 := h.law.ans_len hcs
 exact ⟨by rw [hc, wrs_len]; omega, by rw [hu, List.length_reverse]; omega, by rw [h.ans]; omega, by omega⟩
theorem Inv.back (h : Inv cs m) : ∃ b0, Rt b0 (allN [] m.Store.Past) ∧ wrs m.Store.Cells m.Store.Undo = b0 := by
 obtain ⟨b0, done, hR, hc, hu, hd, _⟩ := h.st
 exact ⟨b0, hR, by rw [hc, hu, wrs_back]⟩
theorem Inv.rest (h : Inv cs m) (hu : m.Up = true) (hb : m.Server.Busy = false) : Rt m.Store.Cells (allN [] m.Store.Past) ∧ m.Store.Undo = [] := by
 obtain ⟨b0, done, hR, hc, hun, hd, he, _⟩ := h.st
 have := he hu hb
 subst this
 rw [hc, hun]
 exact ⟨hR, rfl⟩
theorem ClOk.le8 (hcs : CsOk cs) {p : List Mk.Request} {g c : Int} {x : Mk.Client} (hl : Lawful cs p) (hc : 0 ≤ c ∧ c < cs.length) (h : ClOk cs p g c x) : x.At ≤ 8 ∧ x.Got.length ≤ 8 ∧ x.Calls.length ≤ 8 := by
 have h1 := hl.cnt_le c hc
 have h2 := hcs.len hc
 have h3 := h.at1
 have h4 := h.got
 have h5 := heardF_len [] p c
 have h6 := h.calls
 refine ⟨by omega, ?_, by rw [h6]; omega⟩
 rw [h4, List.length_take]; omega
theorem ClOk.got_len {p : List Mk.Request} {g c : Int} {x : Mk.Client} (h : ClOk cs p g c x) : (x.Got.length : Int) = x.At := by
 have h1 := h.at0; have h2 := h.at1
 rw [h.got, List.length_take, heardF_len]; omega
theorem ClOk.mono {p : List Mk.Request} {g g' c : Int} {x : Mk.Client} (h : ClOk cs p g c x) (hg : g ≤ g') : ClOk cs p g' c x :=
 ⟨h.calls, h.at0, h.at1, h.at2, h.sent, h.got, h.box, h.ans, ⟨h.gen.1, by have := h.gen.2; omega⟩, h.more⟩
theorem ix_take' {α : Type} [Inhabited α] (l : List α) (n : Nat) (j : Int) (hj : 0 ≤ j ∧ j < n) : ix (l.take n) j = ix l j := by
 have : j.toNat < n := by omega
 simp [ix, List.getElem?_take, this]
theorem AOk.snoc {p : List Mk.Request} {r : Mk.Request} {c : Int} {b : List UInt8} (h : AOk p c b) : AOk (p ++ [r]) c b := by
 obtain ⟨t, ht, rfl⟩ := h
 refine ⟨t, ⟨ht.1, by rw [cnt_snoc]; split <;> omega⟩, ?_⟩
 rw [heardF_snoc, ix_app _ _ _ (by rw [heardF_len]; exact ht)]
theorem QOk.up {cl : List Mk.Client} {n : Int} {x : Mk.Client} (hn : 0 ≤ n ∧ n < cl.length) (h1 : (ix cl n).At ≤ x.At) (h2 : x.At = (ix cl n).At → (ix cl n).Sent = true → x.Sent = true) {b : List UInt8} (h : QOk cs cl b) : QOk cs (up cl n x) b := by
 obtain ⟨c, t, hc, ht, hb, h3, h4⟩ := h
 refine ⟨c, t, hc, ht, hb, ?_⟩
 rw [ix_up _ _ _ _ hn hc.1]
 split
 ·rename_i e
  subst e
  exact ⟨by omega, fun e => h2 (by omega) (h4 (by omega))⟩
 ·exact ⟨h3, h4⟩
theorem Inv.withC (h : Inv cs m) {n : Int} (hn : 0 ≤ n ∧ n < cs.length) {x : Mk.Client} (hx : ClOk cs m.Store.Past m.Server.Gen n x) (h1 : (ix m.Clients n).At ≤ x.At) (h2 : x.At = (ix m.Clients n).At → (ix m.Clients n).Sent = true → x.Sent = true) : Inv cs (withC m n x) := by
 have hk := h.nk
 have hn2 : 0 ≤ n ∧ n < m.Clients.length := by omega
 refine ⟨h.law, h.ans, ?_, fun c hc => ?_, h.falls, h.gen, h.up, h.down, h.box, fun b hb => (h.q b hb).up hn2 h1 h2, h.st, fun hb => ?_, h.idle⟩
 ·show (Sp.up m.Clients n x).length = _
  rw [up_len, hk]
 ·show ClOk cs m.Store.Past m.Server.Gen c (ix (Sp.up m.Clients n x) c)
  rw [ix_up _ _ _ _ hn2 hc.1]
  split
  ·rename_i e; subst e; exact hx
  ·exact h.cl c hc
 ·obtain ⟨c, hc, e1, e2, e3, e4⟩ := h.now hb
  refine ⟨c, hc, e1, e2, ?_⟩
  show (ix (Sp.up m.Clients n x) c).At = cnt m.Store.Past c ∧ (ix (Sp.up m.Clients n x) c).Sent = true
  rw [ix_up _ _ _ _ hn2 hc.1]
  split
  ·rename_i e
   subst e
   have := hx.at1
   exact ⟨by omega, h2 (by omega) e4⟩
  ·exact ⟨e3, e4⟩
theorem inv_fall (h : Inv cs m) : Inv cs (fall m).1 := by
 unfold fall
 split
 ·exact h
 ·split
  ·exact h
  ·rename_i h1 h2
   have hu : m.Up = true := by cases hu : m.Up <;> simp_all
   have h3 := (h.up hu).2
   have h4 := h.falls
   refine ⟨h.law, h.ans, h.nk, h.cl, ⟨by simp only; omega, by simp only; omega⟩, h.gen, fun e => (by cases e), fun _ => ⟨rfl, ?_, ?_, ?_⟩, by simp [srv0], by simp [srv0], ?_, fun e => (by cases e), fun _ => rfl⟩
   ·unfold pauseOf; simp only; split <;> (try split) <;> omega
   ·unfold pauseOf; simp only; split <;> (try split) <;> omega
   ·show m.Server.Gen + 1 = m.Falls + 1; omega
   ·obtain ⟨b0, done, e1, e2, e3, e4, _⟩ := h.st
    exact ⟨b0, done, e1, e2, e3, e4, fun e => (by cases e), fun e => (by cases e)⟩
theorem inv_tick (h : Inv cs m) : Inv cs (tick m) := by
 unfold tick
 split
 ·exact h
 ·rename_i h1
  have hu : m.Up = false := by cases hu : m.Up <;> simp_all
  obtain ⟨d1, d2, d3, d4⟩ := h.down hu
  split
  ·rename_i h2
   refine ⟨h.law, h.ans, h.nk, h.cl, h.falls, h.gen, fun e => (by simp [hu] at e), fun _ => ⟨d1, by simp only; omega, by simp only; omega, d4⟩, h.box, h.q, h.st, h.now, h.idle⟩
  ·obtain ⟨b0, hR, hb⟩ := h.back
   have hg := h.gen
   refine ⟨h.law, h.ans, h.nk, fun c hc => (h.cl c hc).mono (by show m.Server.Gen ≤ m.Server.Gen + 1; omega), h.falls, by show 0 ≤ m.Server.Gen + 1; omega, fun _ => ⟨rfl, d4⟩, fun e => (by cases e), by simp [srv0], by simp [srv0], ?_, fun e => (by cases e), fun _ => rfl⟩
   exact ⟨b0, [], hR, hb, rfl, no_plan _, fun _ _ => rfl, fun e => (by cases e)⟩
theorem hear_ok (hcs : CsOk cs) {p : List Mk.Request} (hl : Lawful cs p) {g c : Int} (hc : 0 ≤ c ∧ c < cs.length) {x : Mk.Client} (h : ClOk cs p g c x) {b : List UInt8} {box : List (List UInt8)} (hb : x.Box = b :: box) :
  ClOk cs p g c (hear x b box c) ∧ x.At ≤ (hear x b box c).At ∧ ((hear x b box c).At = x.At → x.Sent = true → (hear x b box c).Sent = true) := by
 have h8 := h.le8 hcs hl hc
 have hbox : box.length ≤ 3 := by have := h.box; rw [hb] at this; simp at this; omega
 have hans : ∀ b' ∈ box, AOk p c b' := fun b' hb' => h.ans b' (by rw [hb]; simp [hb'])
 obtain ⟨t, ht, hbt⟩ := h.ans b (by rw [hb]; simp)
 have hn := hcs.n
 have h8' := hcs.len hc
 have hcl := hl.cnt_le c hc
 have hok : RepOk (ix (heardF [] p c) t) := hl.heard_ok hcs c _ (ix_mem _ t (by rw [heardF_len]; exact ht))
 have hread : readAns b = (⟨c, t, ix (heardF [] p c) t⟩, 0) := by rw [hbt]; exact readAns_ansB (wans_of (by omega) (by omega) hok)
 unfold hear
 rw [hread]
 simp only [true_and]
 by_cases hh : t = x.At ∧ x.Sent = true
 ·rw [if_pos hh]
  have h1 := h.at0; have h2 := h.at1; have h3 := h.at2
  refine ⟨⟨h.calls, by simp only; omega, by simp only; omega, by simp only; omega, fun e => (by simp only at e; omega), ?_, hbox, hans, h.gen, fun e => (by cases e)⟩, by simp only; omega, fun e => (by simp only at e; omega)⟩
  show x.Got ++ [ix (heardF [] p c) t] = (heardF [] p c).take (x.At + 1).toNat
  have e1 : (x.At + 1).toNat = x.At.toNat + 1 := by omega
  have e2 : x.At.toNat < (heardF [] p c).length := by rw [heardF_len]; omega
  have e3 : ix (heardF [] p c) t = (heardF [] p c)[x.At.toNat] := by rw [hh.1]; simp [ix, e2]
  rw [e1, h.got, e3]; simp
 ·rw [if_neg hh]
  exact ⟨⟨h.calls, h.at0, h.at1, h.at2, h.sent, h.got, hbox, hans, h.gen, h.more⟩, by simp only; omega, fun _ e => e⟩
theorem ccome_ok {p : List Mk.Request} {g c : Int} {x : Mk.Client} (h : ClOk cs p g c x) {b : List UInt8} (hb : AOk p c b) : ClOk cs p g c (cCome x b) ∧ (cCome x b).At = x.At ∧ (cCome x b).Sent = x.Sent := by
 unfold cCome
 split
 ·refine ⟨⟨h.calls, h.at0, h.at1, h.at2, h.sent, h.got, by simp; omega, fun b' hb' => ?_, h.gen, h.more⟩, rfl, rfl⟩
  rcases List.mem_append.1 hb' with hb' | hb'
  ·exact h.ans b' hb'
  ·simp only [List.mem_singleton] at hb'; subst hb'; exact hb
 ·exact ⟨h, rfl, rfl⟩
theorem doC_eq (hcs : CsOk cs) (h : Inv cs m) (n k : Int) : mkref6_Do m ⟨1, n⟩ = some (doC m n) ∧ Inv cs (doC m n).1 := by
 have hk := h.nk
 have hn3 := hcs.n
 have hbx := h.box
 unfold mkref6_Do doC
 simp only [J, decide_true, cT]
 by_cases hn : 0 ≤ n ∧ n < cs.length
 ·have hx := h.cl n hn
  have h8 := hx.le8 hcs h.law hn
  have hcb := hx.box
  have hf : (decide (n < 0) || decide ((m.Clients.length : Int) ≤ n)) = false := by
   simp only [Bool.or_eq_false_iff, decide_eq_false_iff_not]; omega
  rw [hf, cF, G_on (by omega), rgo_eq _ _ _ _ (by omega) (by omega) ⟨hx.at0, by omega⟩, obs, if_neg (show ¬ (n < 0 ∨ (m.Clients.length : Int) ≤ n) from by omega)]
  cases hB : (ix m.Clients n).Box with
  | cons b box =>
   have e : cGo (ix m.Clients n) n m.Server.Gen m.Up = (hear (ix m.Clients n) b box n, [], 0) := by unfold cGo; rw [hB]
   obtain ⟨o1, o2, o3⟩ := hear_ok hcs h.law hn hx hB
   rw [e]
   simp only [decide_true, nT, cF, ne_eq, not_true, if_false, if_true, List.length_nil]
   rw [show decide ((0 : Int) < ((0 : Nat) : Int)) = false from by decide, cF, rwith_eq _ _ _ (by omega) (by omega), obs]
   exact ⟨rfl, h.withC hn o1 o2 o3⟩
  | nil =>
   by_cases c1 : ((ix m.Clients n).Calls.length : Int) ≤ (ix m.Clients n).At
   ·have e : cGo (ix m.Clients n) n m.Server.Gen m.Up = (ix m.Clients n, [], 11) := by unfold cGo; rw [hB]; simp [c1]
    rw [e]
    simp only [show decide ((11 : Int) = 0) = false from by decide, nF, cT, show ((11 : Int) ≠ 0) = True from by simp, if_true]
    exact ⟨by first | rfl | trivial, h⟩
   ·rcases Bool.eq_false_or_eq_true m.Up with hu | hu
    rotate_left
    ·have e : cGo (ix m.Clients n) n m.Server.Gen m.Up = (ix m.Clients n, [], 10) := by unfold cGo; rw [hB]; simp [c1, hu]
     rw [e]
     simp only [show decide ((10 : Int) = 0) = false from by decide, nF, cT, show ((10 : Int) ≠ 0) = True from by simp, if_true]
     exact ⟨by first | rfl | trivial, h⟩
    ·by_cases c2 : (ix m.Clients n).Sent = true ∧ (ix m.Clients n).Gen = m.Server.Gen
     ·have e : cGo (ix m.Clients n) n m.Server.Gen m.Up = (ix m.Clients n, [], 12) := by unfold cGo; rw [hB]; simp [c1, c2, hu, hB]
      rw [e]
      simp only [show decide ((12 : Int) = 0) = false from by decide, nF, cT, show ((12 : Int) ≠ 0) = True from by simp, if_true]
      exact ⟨by first | rfl | trivial, h⟩
     ·have e : cGo (ix m.Clients n) n m.Server.Gen m.Up = ({ (ix m.Clients n) with Sent := true, Gen := m.Server.Gen }, reqB ⟨n, (ix m.Clients n).At, ix (ix m.Clients n).Calls (ix m.Clients n).At⟩, 0) := by unfold cGo; rw [hB]; simp [c1, c2, hu, hB]
      have hne : reqB ⟨n, (ix m.Clients n).At, ix (ix m.Clients n).Calls (ix m.Clients n).At⟩ ≠ [] := by unfold reqB; simp
      have hlen : (0 : Int) < ((reqB ⟨n, (ix m.Clients n).At, ix (ix m.Clients n).Calls (ix m.Clients n).At⟩).length : Int) := by
       have := List.length_pos_iff.2 hne; omega
      rw [e]
      simp only [decide_true, nT, cF, ne_eq, not_true, if_false, hne, dT hlen, cT]
      rw [rscome_eq _ _ (by omega), obs]
      by_cases c3 : 3 ≤ m.Server.Box.length
      ·have e2 : sCome m.Server (reqB ⟨n, (ix m.Clients n).At, ix (ix m.Clients n).Calls (ix m.Clients n).At⟩) = (m.Server, 9) := by unfold sCome; rw [if_pos c3]
       rw [e2]
       simp only [show decide ((9 : Int) = 0) = false from by decide, nF, cT, show ¬ ((9 : Int) = 0) from by decide, not_false_eq_true, if_true]
       exact ⟨by first | rfl | trivial, h⟩
      ·have e2 : sCome m.Server (reqB ⟨n, (ix m.Clients n).At, ix (ix m.Clients n).Calls (ix m.Clients n).At⟩) = ({ m.Server with Box := m.Server.Box ++ [reqB ⟨n, (ix m.Clients n).At, ix (ix m.Clients n).Calls (ix m.Clients n).At⟩] }, 0) := by unfold sCome; rw [if_neg c3]
       rw [e2]
       simp only [decide_true, nT, cF, not_true, if_false]
       rw [rwith_eq _ _ _ (by show m.Clients.length ≤ 1000; omega) (by show 0 ≤ n ∧ n < (m.Clients.length : Int); omega), obs]
       refine ⟨rfl, ?_⟩
       have hm : Inv cs (withC m n { (ix m.Clients n) with Sent := true, Gen := m.Server.Gen }) := by
        refine h.withC hn ⟨hx.calls, hx.at0, hx.at1, hx.at2, fun _ => rfl, hx.got, hx.box, hx.ans, ⟨h.gen, by simp only; omega⟩, fun _ => ?_⟩ (by simp only; omega) (fun _ _ => rfl)
        show (ix m.Clients n).At < ((ix m.Clients n).Calls.length : Int)
        omega
       refine ⟨hm.law, hm.ans, hm.nk, hm.cl, hm.falls, hm.gen, hm.up, fun e => ?_, ?_, fun b hb => ?_, hm.st, hm.now, fun e => ?_⟩
       ·have e' : m.Up = false := e
        rw [hu] at e'
        cases e'
       ·show (m.Server.Box ++ [_]).length ≤ 3
        simp; omega
       ·rcases List.mem_append.1 hb with hb | hb
        ·exact hm.q b hb
        ·simp only [List.mem_singleton] at hb
         subst hb
         have hcal := hx.calls
         refine ⟨n, (ix m.Clients n).At, hn, ⟨hx.at0, by rw [← hcal]; omega⟩, by rw [hcal]; rfl, ?_⟩
         show (ix m.Clients n).At ≤ (ix (up m.Clients n _) n).At ∧ ((ix m.Clients n).At = (ix (up m.Clients n _) n).At → (ix (up m.Clients n _) n).Sent = true)
         rw [ix_up _ _ _ _ (by omega) hn.1, if_pos rfl]
         exact ⟨Int.le_refl _, fun _ => rfl⟩
       ·have := h.idle e
        show (⟨m.Server.Gen, m.Server.Box ++ [_], m.Server.Busy, m.Server.Now, m.Server.Plan, m.Server.Says⟩ : Mk.Server) = _
        rw [this]; rfl
 ·have hf : (decide (n < 0) || decide ((m.Clients.length : Int) ≤ n)) = true := by
   simp only [Bool.or_eq_true, decide_eq_true_eq]; omega
  rw [hf, cT, if_pos (by omega)]
  exact ⟨rfl, h⟩
end
end Sp
end
section
namespace Sp
section
variable {cs : List (List Mk.Call)} {m : Mk.Machine}
theorem ansB_at (a : Mk.Answer) (h : 0 ≤ a.Client ∧ a.Client < 3) : ((ix (ansB a) 1).toNat : Int) = a.Client := by
 show ((u8 a.Client).toNat : Int) = a.Client
 exact u8_nat _ (by omega)
theorem ansB_ne (a : Mk.Answer) : ansB a ≠ [] := by unfold ansB; simp
theorem toC_ans (a : Mk.Answer) (hc : 0 ≤ a.Client ∧ a.Client < m.Clients.length) (h3 : m.Clients.length ≤ 3) : toC m (ansB a) = withC m a.Client (cCome (ix m.Clients a.Client) (ansB a)) := by
 unfold toC
 rw [if_neg (ansB_ne a), ansB_at a (by omega), if_pos hc.2]
theorem Inv.toC (h : Inv cs m) {c : Int} (hc : 0 ≤ c ∧ c < cs.length) (hn : cs.length ≤ 3) {t : Int} (ht : 0 ≤ t ∧ t < cnt m.Store.Past c) : Inv cs (Sp.toC m (ansB ⟨c, t, ix (heardF [] m.Store.Past c) t⟩)) := by
 have hk := h.nk
 rw [toC_ans _ (by simp only; omega) (by omega)]
 obtain ⟨o1, o2, o3⟩ := ccome_ok (h.cl c hc) (b := ansB ⟨c, t, ix (heardF [] m.Store.Past c) t⟩) ⟨t, ht, rfl⟩
 exact h.withC hc o1 (by simp only [o2]; omega) (fun _ e => by simp only [o3]; exact e)
theorem Inv.served (hcs : CsOk cs) (h : Inv cs m) (hu : m.Up = true) : Inv cs { m with Store := (serve m.Store m.Server).1, Server := (serve m.Store m.Server).2.1 } ∧
  ((serve m.Store m.Server).2.2.2 = 0 → (serve m.Store m.Server).2.2.1 = [] ∨ ∃ c t : Int, (0 ≤ c ∧ c < cs.length) ∧ (0 ≤ t ∧ t < cnt (serve m.Store m.Server).1.Past c) ∧ (serve m.Store m.Server).2.2.1 = ansB ⟨c, t, ix (heardF [] (serve m.Store m.Server).1.Past c) t⟩) := by
 obtain ⟨b0, done, hR, hC, hU, hd, he, hp⟩ := h.st
 have hn3 := hcs.n
 have hbx := h.box
 cases hb : m.Server.Busy with
 | true =>
  have hplan := hp hb
  obtain ⟨c, hc, n1, n2, n3, n4⟩ := h.now hb
  cases hP : m.Server.Plan with
  | cons w p =>
   have e : serve m.Store m.Server = (wrS m.Store w, { m.Server with Plan := p }, [], 0) := by unfold serve; rw [if_pos hb, hP]
   rw [e]
   refine ⟨?_, fun _ => .inl rfl⟩
   have hlen := planR_len (allN [] m.Store.Past) m.Server.Now.Call
   rw [hplan, hP] at hlen
   simp only [List.length_append, List.length_cons] at hlen
   have e1 : (wrS m.Store w).Past = m.Store.Past := by unfold wrS; split <;> rfl
   have e2 : (wrS m.Store w).Answers = m.Store.Answers := by unfold wrS; split <;> rfl
   have e3 : (wrS m.Store w).Cells = wrs b0 (done ++ [w]) := by
    rw [wrs_append, ← hC]
    unfold wrS
    show _ = wr m.Store.Cells w
    split
    ·rfl
    ·rename_i h1; unfold wr; rw [if_neg h1]
   have e4 : (wrS m.Store w).Undo = (fwd b0 (done ++ [w])).reverse := by
    have hl : m.Store.Cells.length = b0.length := by rw [hC, wrs_len]
    rw [fwd_snoc, List.reverse_append, ← hU, ← hC, ← hl]
    unfold wrS
    split <;> simp
   refine ⟨by rw [e1]; exact h.law, by rw [e1, e2]; exact h.ans, h.nk, fun c hc => by rw [e1]; exact h.cl c hc, h.falls, h.gen, h.up, fun e => (by rw [hu] at e; cases e), h.box, h.q, ?_, fun _ => ?_, fun e => (by rw [hb] at e; cases e)⟩
   ·refine ⟨b0, done ++ [w], by rw [e1]; exact hR, e3, e4, ⟨m.Server.Now.Call, p, by rw [n1]; exact hcs.call hc (by omega), by rw [e1]; show (planR (allN [] m.Store.Past) m.Server.Now.Call).1 = _; rw [hplan, hP]; simp⟩, fun _ e => (by rw [hb] at e; cases e), fun _ => ?_⟩
    rw [e1]
    show planR (allN [] m.Store.Past) m.Server.Now.Call = (done ++ [w] ++ p, m.Server.Says)
    rw [hplan, hP]; simp
   ·refine ⟨c, hc, ?_⟩
    rw [e1]; exact ⟨n1, n2, n3, n4⟩
  | nil =>
   have e : serve m.Store m.Server = (commit m.Store m.Server.Now m.Server.Says, ⟨m.Server.Gen, m.Server.Box, false, req0, [], rep0⟩, ansB ⟨m.Server.Now.Client, m.Server.Now.Token, m.Server.Says⟩, 0) := by unfold serve; rw [hb, hP]; rfl
   rw [e]
   rw [hP, List.append_nil] at hplan
   have hcal : CallOk m.Server.Now.Call := by rw [n1]; exact hcs.call hc (by omega)
   obtain ⟨r1, r2⟩ := plan_rt hR hcal
   have hsay : m.Server.Says = (doP (allN [] m.Store.Past) m.Server.Now.Call).2 := by rw [← r2, hplan]
   rw [hplan, ← hC] at r1
   have hlaw : Lawful cs (m.Store.Past ++ [m.Server.Now]) := by
    rw [n1] at *
    exact .snoc h.law hc rfl n2 rfl
   have ecl : m.Server.Now.Client = c := by rw [n1]
   have etk : m.Server.Now.Token = cnt m.Store.Past c := by rw [n1]
   have ecnt : cnt (m.Store.Past ++ [m.Server.Now]) c = cnt m.Store.Past c + 1 := by rw [cnt_snoc, if_pos ecl]
   have ehd : heardF [] (m.Store.Past ++ [m.Server.Now]) c = heardF [] m.Store.Past c ++ [m.Server.Says] := by rw [heardF_snoc, if_pos ecl, hsay]
   refine ⟨⟨hlaw, ?_, h.nk, fun d hd' => ?_, h.falls, h.gen, h.up, fun e => (by rw [hu] at e; cases e), h.box, h.q, ?_, fun e => (by cases e), fun _ => rfl⟩, fun _ => .inr ⟨c, (cnt m.Store.Past c : Int), hc, ?_, ?_⟩⟩
   ·show ansPut m.Store.Answers ⟨m.Server.Now.Client, m.Server.Now.Token, m.Server.Says⟩ = ansF [] [] (m.Store.Past ++ [m.Server.Now])
    rw [ansF_snoc, h.ans, hsay]
   ·have hx := h.cl d hd'
    show ClOk cs (m.Store.Past ++ [m.Server.Now]) m.Server.Gen d (ix m.Clients d)
    have hat1 := hx.at1
    have hat2 := hx.at2
    have hmon : cnt (m.Store.Past ++ [m.Server.Now]) d = cnt m.Store.Past d + if m.Server.Now.Client = d then 1 else 0 := cnt_snoc _ _ _
    refine ⟨hx.calls, hx.at0, by omega, ?_, ?_, ?_, hx.box, fun b hb' => (hx.ans b hb').snoc, hx.gen, hx.more⟩
    ·by_cases ed : m.Server.Now.Client = d
     ·rw [if_pos ed] at hmon
      have : c = d := by rw [← ecl, ed]
      subst this
      omega
     ·rw [if_neg ed] at hmon; omega
    ·by_cases ed : m.Server.Now.Client = d
     ·have : c = d := by rw [← ecl, ed]
      subst this
      exact fun _ => n4
     ·rw [if_neg ed] at hmon
      intro e; exact hx.sent (by omega)
    ·rw [heardF_snoc, List.take_append_of_le_length (by rw [heardF_len]; have := hx.at0; omega)]
     exact hx.got
   ·refine ⟨m.Store.Cells, [], ?_, rfl, rfl, no_plan _, fun _ _ => rfl, fun e => (by cases e)⟩
    show Rt m.Store.Cells (allN [] (m.Store.Past ++ [m.Server.Now]))
    rw [allN_snoc]; exact r1
   ·show 0 ≤ (cnt m.Store.Past c : Int) ∧ (cnt m.Store.Past c : Int) < (cnt (m.Store.Past ++ [m.Server.Now]) c : Int)
    rw [ecnt]; omega
   ·show ansB ⟨m.Server.Now.Client, m.Server.Now.Token, m.Server.Says⟩ = ansB ⟨c, (cnt m.Store.Past c : Int), ix (heardF [] (m.Store.Past ++ [m.Server.Now]) c) (cnt m.Store.Past c : Int)⟩
    rw [ehd, ix_last _ _ _ (by rw [heardF_len]), ecl, etk]
 | false =>
  have hdn := he hu hb
  subst hdn
  have hid := h.idle hb
  have hC' : m.Store.Cells = b0 := hC
  cases hB : m.Server.Box with
  | nil =>
   have e : serve m.Store m.Server = (m.Store, m.Server, [], 12) := by
    unfold serve
    rw [hb, hB]; rfl
   rw [e]
   exact ⟨h, fun e => by cases e⟩
  | cons b box =>
   have e : serve m.Store m.Server = (m.Store, (take1 m.Store m.Server b box).1, (take1 m.Store m.Server b box).2, 0) := by
    unfold serve
    rw [hb, hB]; rfl
   rw [e]
   obtain ⟨c, t, hc, ht, hbt, q1, q2⟩ := h.q b (by rw [hB]; simp)
   have hx := h.cl c hc
   have h8 := hcs.len hc
   have hread : readReq b = (⟨c, t, call cs c t⟩, 0) := by rw [hbt]; exact readReq_reqB (wreq_of (by omega) (by omega) (hcs.call hc ht))
   have hlast : last m.Store c = if cnt m.Store.Past c = 0 then (ans0, false) else (⟨c, (cnt m.Store.Past c : Int) - 1, ix (heardF [] m.Store.Past c) ((cnt m.Store.Past c : Int) - 1)⟩, true) := by
    unfold last
    rw [h.ans, h.law.find c]
    by_cases h0 : cnt m.Store.Past c = 0
    ·rw [if_pos h0, if_pos h0]
    ·rw [if_neg h0, if_neg h0]
   have hbx2 : box.length ≤ 3 := by rw [hB] at hbx; simp at hbx; omega
   have hq : ∀ b' ∈ box, QOk cs m.Clients b' := fun b' hb' => h.q b' (by rw [hB]; simp [hb'])
   have keep : Inv cs { m with Server := { m.Server with Box := box } } :=
    ⟨h.law, h.ans, h.nk, h.cl, h.falls, h.gen, h.up, fun e => (by rw [hu] at e; cases e), hbx2, hq, ⟨b0, [], hR, hC, hU, no_plan _, fun _ _ => rfl, fun e => (by rw [hb] at e; cases e)⟩, fun e => (by rw [hb] at e; cases e), fun _ => (by
     show (⟨m.Server.Gen, box, m.Server.Busy, m.Server.Now, m.Server.Plan, m.Server.Says⟩ : Mk.Server) = _
     rw [hid])⟩
   unfold take1
   rw [hread]
   simp only [ne_eq, not_true, if_false]
   by_cases h1 : (last m.Store c).2 = true ∧ t ≤ (last m.Store c).1.Token
   ·rw [if_pos h1]
    have h0 : cnt m.Store.Past c ≠ 0 := by
     intro h0
     rw [hlast, if_pos h0] at h1
     exact absurd h1.1 (by simp)
    rw [hlast, if_neg h0] at h1 ⊢
    simp only at h1 ⊢
    by_cases h2 : (cnt m.Store.Past c : Int) - 1 = t
    ·rw [if_pos h2]
     refine ⟨keep, fun _ => .inr ⟨c, (cnt m.Store.Past c : Int) - 1, hc, by omega, rfl⟩⟩
    ·rw [if_neg h2]
     exact ⟨keep, fun _ => .inl rfl⟩
   ·rw [if_neg h1]
    have htc : t = cnt m.Store.Past c := by
     have := hx.at1
     rw [hlast] at h1
     by_cases h0 : cnt m.Store.Past c = 0
     ·omega
     ·rw [if_neg h0] at h1
      simp only [true_and] at h1
      omega
    have hat := hx.at1
    refine ⟨?_, fun _ => .inl rfl⟩
    have hent : entries m.Store.Cells = allN [] m.Store.Past := entries_of (by rw [hC']; exact hR)
    refine ⟨h.law, h.ans, h.nk, h.cl, h.falls, h.gen, h.up, fun e => (by rw [hu] at e; cases e), hbx2, hq, ⟨b0, [], hR, hC, hU, no_plan _, fun _ _ => rfl, fun _ => ?_⟩, fun _ => ⟨c, hc, ?_, (by show (cnt m.Store.Past c : Int) < ((ix cs c).length : Int); omega), (by show (ix m.Clients c).At = (cnt m.Store.Past c : Int); omega), q2 (by omega)⟩, fun e => (by cases e)⟩
    ·show planR (allN [] m.Store.Past) (call cs c t) = ([] ++ (planR (entries m.Store.Cells) (call cs c t)).1, (planR (entries m.Store.Cells) (call cs c t)).2)
     rw [hent]; rfl
    ·show (⟨c, t, call cs c t⟩ : Mk.Request) = ⟨c, cnt m.Store.Past c, call cs c (cnt m.Store.Past c)⟩
     rw [htc]
theorem doS_eq (hcs : CsOk cs) (h : Inv cs m) (k : Int) : mkref6_Do m ⟨2, k⟩ = some (doS m) ∧ Inv cs (doS m).1 := by
 have hk := h.nk
 have hn3 := hcs.n
 have hs := h.sz hcs
 unfold mkref6_Do doS
 simp only [J, show decide ((2 : Int) = 1) = false from by decide, cF, decide_true, cT]
 rcases Bool.eq_false_or_eq_true m.Up with hu | hu
 rotate_left
 ·rw [if_pos hu]
  refine ⟨?_, h⟩
  rw [hu]; rfl
 ·rw [if_neg (by rw [hu]; simp)]
  have hr : m.Server.Busy = false → Rt m.Store.Cells (entries m.Store.Cells) := fun hb => by
   have := (h.rest hu hb).1
   rw [entries_of this]; exact this
  obtain ⟨i1, i2⟩ := h.served hcs hu
  rw [hu] at i1 ⊢
  rw [nT, cF, rserve_eq hs hr, obs]
  by_cases h0 : (serve m.Store m.Server).2.2.2 = 0
  ·rw [dT h0, nT, cF, if_neg (by simp [h0])]
   rcases i2 h0 with e | ⟨c, t, hc, ht, e⟩
   ·rw [e]
    exact ⟨rfl, by unfold Sp.toC; rw [if_pos rfl]; exact i1⟩
   ·have hl : (0 : Int) < ((serve m.Store m.Server).2.2.1.length : Int) := by
     rw [e]; unfold ansB nb; simp <;> omega
    have hl2 : (1 : Int) < ((serve m.Store m.Server).2.2.1.length : Int) := by
     rw [e]; unfold ansB nb; simp <;> omega
    have hat : ((ix (serve m.Store m.Server).2.2.1 1).toNat : Int) = c := by rw [e]; exact ansB_at _ (by simp only; omega)
    have hx := (i1.cl c hc).box
    rw [dT hl, cT, G_on ⟨by decide, hl2⟩, hat, dT (by omega), cT, G_on (by omega), rccome_eq _ _ (by simp only at hx; omega), obs, rwith_eq _ _ _ (by show m.Clients.length ≤ 1000; omega) (by show 0 ≤ c ∧ c < (m.Clients.length : Int); omega), obs]
    have ht2 : Inv cs (Sp.toC { m with Store := (serve m.Store m.Server).1, Server := (serve m.Store m.Server).2.1, Up := true } (serve m.Store m.Server).2.2.1) := by
     rw [e]; exact i1.toC hc hn3 ht
    refine ⟨?_, ht2⟩
    unfold Sp.toC
    rw [if_neg (by rw [e]; exact ansB_ne _), hat, if_pos (by show c < (m.Clients.length : Int); omega)]
  ·rw [dF h0, nF, cT, if_pos (by simpa using h0)]
   exact ⟨rfl, h⟩
theorem do_step (hcs : CsOk cs) (h : Inv cs m) (s : Mk.Step) : mkref6_Do m s = some (doM m s) ∧ Inv cs (doM m s).1 := by
 obtain ⟨k, n⟩ := s
 unfold doM
 by_cases h1 : k = 1
 ·subst h1; simpa using doC_eq hcs h n 0
 ·by_cases h2 : k = 2
  ·subst h2; simpa using doS_eq hcs h n
  ·by_cases h3 : k = 3
   ·subst h3
    refine ⟨?_, by simpa using inv_fall h⟩
    unfold mkref6_Do
    simp only [J, show decide ((3 : Int) = 1) = false from by decide, show decide ((3 : Int) = 2) = false from by decide, cF, decide_true, cT]
    rw [rfall_eq m h.falls, obs]; rfl
   ·by_cases h4 : k = 4
    ·subst h4
     refine ⟨?_, by simpa using inv_tick h⟩
     unfold mkref6_Do
     simp only [J, show decide ((4 : Int) = 1) = false from by decide, show decide ((4 : Int) = 2) = false from by decide, show decide ((4 : Int) = 3) = false from by decide, cF, decide_true, cT]
     have hp : 0 ≤ m.Pause ∧ m.Pause ≤ 1000 := by
      rcases Bool.eq_false_or_eq_true m.Up with hu | hu
      ·have := (h.up hu).1; omega
      ·have := h.down hu; omega
     rw [rtick_eq m (h.sz hcs) hp ⟨h.gen, by have := h.gen6; omega⟩, obs]; rfl
    ·simp only [h1, h2, h3, h4, if_false]
     refine ⟨?_, h⟩
     unfold mkref6_Do
     rw [dF h1, cF, dF h2, cF, dF h3, cF, dF h4, cF]
end
end Sp
end
section
namespace Sp
def sto0 : Mk.Store := ⟨[], [], [], []⟩
def mach0 : Mk.Machine := ⟨sto0, srv0 0, false, 0, 0, []⟩
def badC : List Mk.Call → Int
 | [] => 0
 | c :: l => if wcall c ≠ 0 then wcall c else badC l
def badL : List (List Mk.Call) → Int
 | [] => 0
 | x :: l => if 8 < x.length then 4 else if badC x ≠ 0 then badC x else badL l
def cl0 (x : List Mk.Call) : Mk.Client := ⟨x, 0, false, 0, [], []⟩
def newM (l : List (List Mk.Call)) : Mk.Machine × Int :=
 if 3 < l.length then (mach0, 5) else if badL l ≠ 0 then (mach0, badL l) else (⟨⟨List.replicate 11 0, [], [], []⟩, srv0 0, true, 0, 0, l.map cl0⟩, 0)
theorem rnew_loop2 (k : List Mk.Call → List (List Mk.Call) → Int → Int → Mk.Machine → Mk.Machine → List Mk.Client → Option (Mk.Machine × Int)) (K : List Mk.Call) (hK : K.length ≤ 1000) (cs : List (List Mk.Call)) (n i : Int) (y2 y4 : Mk.Machine) (acc : List Mk.Client) : ∀ (m j : Nat), j + m = K.length → ∀ f : Nat, m < f →
  mkref6_New_l2 k f K cs n i K (K.length : Int) (j : Int) y2 y4 acc = if badC (K.drop j) ≠ 0 then some (mach0, badC (K.drop j)) else k K cs n i y2 y4 acc := by
 intro m
 induction m with
 | zero =>
  intro j hj f hf
  obtain ⟨f, rfl⟩ : ∃ g, f = g + 1 := ⟨f - 1, by omega⟩
  rw [mkref6_New_l2, dF (by omega), cF, List.drop_of_length_le (by omega)]; rfl
 | succ m ih =>
  intro j hj f hf
  obtain ⟨f, rfl⟩ : ∃ g, f = g + 1 := ⟨f - 1, by omega⟩
  rw [mkref6_New_l2, dT (by omega), cT, G_on (by omega), wrongCall_eq, obs, ix_drop K j (by omega), badC]
  by_cases h : wcall (ix K (j : Int)) = 0
  ·rw [dT h, nT, cF, G_on (by unfold I; omega), show ((j : Int) + 1) = ((j + 1 : Nat) : Int) from by omega, ih (j + 1) (by omega) f (by omega)]
   simp [h]
  ·rw [dF h, nF, cT, if_pos (by rw [if_pos h]; exact h), if_pos h]; rfl
theorem rnew_loop1 (cs : List (List Mk.Call)) (hn : cs.length ≤ 3) (k : Mk.Machine → Mk.Machine → List Mk.Client → Option (Mk.Machine × Int)) (y2 y4 : Mk.Machine) : ∀ (m i : Nat), i + m = cs.length → ∀ f : Nat, m < f → ∀ acc : List Mk.Client, acc.length ≤ i →
  mkref6_New_l1 k f cs (cs.length : Int) (i : Int) y2 y4 acc = if badL (cs.drop i) ≠ 0 then some (mach0, badL (cs.drop i)) else k y2 y4 (acc ++ (cs.drop i).map cl0) := by
 intro m
 induction m with
 | zero =>
  intro i hi f hf acc ha
  obtain ⟨f, rfl⟩ : ∃ g, f = g + 1 := ⟨f - 1, by omega⟩
  rw [mkref6_New_l1, dF (by omega), cF, List.drop_of_length_le (by omega)]; simp [badL]
 | succ m ih =>
  intro i hi f hf acc ha
  obtain ⟨f, rfl⟩ : ∃ g, f = g + 1 := ⟨f - 1, by omega⟩
  rw [mkref6_New_l1, dT (by omega), cT, G_on (by omega), ix_drop cs i (by omega), badL]
  by_cases h8 : 8 < (ix cs (i : Int)).length
  ·rw [dT (by omega), cT, if_pos (by rw [if_pos h8]; decide), if_pos h8]; rfl
  ·rw [dF (by omega), cF]
   simp only [J]
   have h2 := fun k => rnew_loop2 k (ix cs (i : Int)) (by omega) cs (cs.length : Int) (i : Int) y2 y4 acc (ix cs (i : Int)).length 0 (by omega) ((((ix cs (i : Int)).length : Int) - 0).toNat + 1) (by omega)
   rw [show ((0 : Nat) : Int) = 0 from rfl] at h2
   rw [h2, List.drop_zero, if_neg h8]
   by_cases hb : badC (ix cs (i : Int)) = 0
   ·rw [if_neg (by simpa using hb), if_neg (show ¬ badC (ix cs (i : Int)) ≠ 0 from by simpa using hb), G_on (by simp; omega), G_on (by unfold I; omega), show ((i : Int) + 1) = ((i + 1 : Nat) : Int) from by omega, ih (i + 1) (by omega) f (by omega) _ (by simp; omega)]
    rw [List.map_cons, List.append_assoc]; rfl
   ·rw [if_pos hb, if_pos hb, if_pos hb]
theorem rnew_eq (l : List (List Mk.Call)) : mkref6_New l = some (newM l) := by
 unfold mkref6_New newM
 by_cases h : 3 < l.length
 ·rw [dT (by omega), cT, if_pos h]; rfl
 ·rw [dF (by omega), cF, G_on (by decide), if_neg h]
  simp only [J]
  have h1 := fun k y2 y4 => rnew_loop1 l (by omega) k y2 y4 l.length 0 (by omega) (((l.length : Int) - 0).toNat + 1) (by omega) [] (by simp)
  rw [show ((0 : Nat) : Int) = 0 from rfl] at h1
  rw [h1, List.drop_zero]
  by_cases hb : badL l = 0
  ·rw [if_neg (by simpa using hb), if_neg (by simpa using hb)]; rfl
  ·rw [if_pos hb, if_pos hb]
theorem badC_ok (l : List Mk.Call) (h : badC l = 0) : ∀ c ∈ l, CallOk c := by
 induction l with
 | nil => simp
 | cons c l ih =>
  unfold badC at h
  split at h
  ·rename_i h1; exact (h1 h).elim
  ·rename_i h1
   intro x hx
   rcases List.mem_cons.1 hx with rfl | hx
   ·exact (wcall_ok _).1 (Classical.not_not.1 h1)
   ·exact ih h x hx
theorem badL_ok (l : List (List Mk.Call)) (h : badL l = 0) : ∀ x ∈ l, x.length ≤ 8 ∧ ∀ c ∈ x, CallOk c := by
 induction l with
 | nil => simp
 | cons x l ih =>
  unfold badL at h
  split at h
  ·cases h
  ·split at h
   ·rename_i h1; exact (h1 h).elim
   ·rename_i h1 h2
    intro y hy
    rcases List.mem_cons.1 hy with rfl | hy
    ·exact ⟨by omega, badC_ok _ (Classical.not_not.1 h2)⟩
    ·exact ih h y hy
theorem rt_zero : Rt (List.replicate 11 0) [] := by
 refine ⟨by simp, rfl, by simp, fun i hi => by simp at hi, by simp, by simp⟩
theorem newM_inv {l : List (List Mk.Call)} (h : (newM l).2 = 0) : CsOk l ∧ Inv l (newM l).1 ∧ (newM l).1 = ⟨⟨List.replicate 11 0, [], [], []⟩, srv0 0, true, 0, 0, l.map cl0⟩ := by
 unfold newM at h ⊢
 split at h
 ·cases h
 ·split at h
  ·rename_i h1 h2; exact (h2 h).elim
  ·rename_i h1 h2
   rw [if_neg h1, if_neg h2]
   have hcs : CsOk l := ⟨by omega, badL_ok l (Classical.not_not.1 h2)⟩
   refine ⟨hcs, ⟨.nil, rfl, by simp, fun c hc => ?_, ⟨(show (0 : Int) ≤ 0 by decide), (show (0 : Int) ≤ 6 by decide)⟩, (show (0 : Int) ≤ 0 by decide), fun _ => ⟨rfl, rfl⟩, fun e => (by cases e), by simp [srv0], by simp [srv0], ⟨List.replicate 11 0, [], rt_zero, rfl, rfl, no_plan _, fun _ _ => rfl, fun e => (by cases e)⟩, fun e => (by cases e), fun _ => rfl⟩, rfl⟩
   have e : ix (l.map cl0) c = cl0 (ix l c) := by
    have : c.toNat < l.length := by omega
    simp [ix, this]
   show ClOk l [] 0 c (ix (l.map cl0) c)
   rw [e]
   exact ⟨rfl, by simp [cl0], by simp [cl0], by simp [cl0, cnt], fun h => (by simp [cl0, cnt] at h), rfl, by simp [cl0], by simp [cl0], by simp [cl0], fun h => (by cases h)⟩
theorem rplay_loop {cs : List (List Mk.Call)} (hcs : CsOk cs) (steps : List Mk.Step) (k : Mk.Machine → Mk.Machine → List Int → Option (Mk.Machine × List Int)) (y : Mk.Machine) : ∀ (m i : Nat), i + m = 400 → i ≤ steps.length → ∀ f : Nat, steps.length - i < f → ∀ (M : Mk.Machine) (es : List Int), es.length ≤ i → Inv cs M → steps.length ≤ 9223372036854775807 →
  mkref6_Play_l1 k f steps (steps.length : Int) (i : Int) y M es = k y (runM M ((steps.drop i).take m)) (es ++ runE M ((steps.drop i).take m)) := by
 intro m
 induction m with
 | zero =>
  intro i hi hle f hf M es he hM hs
  obtain ⟨f, rfl⟩ : ∃ g, f = g + 1 := ⟨f - 1, by omega⟩
  rw [mkref6_Play_l1]
  by_cases h : i < steps.length
  ·rw [dT (by omega), cT, G_on (by omega), dT (by omega), cT]; simp [runM, runE]
  ·rw [dF (by omega), cF]; simp [runM, runE]
 | succ m ih =>
  intro i hi hle f hf M es he hM hs
  obtain ⟨f, rfl⟩ : ∃ g, f = g + 1 := ⟨f - 1, by omega⟩
  rw [mkref6_Play_l1]
  by_cases h : i < steps.length
  ·obtain ⟨d1, d2⟩ := do_step hcs hM (ix steps (i : Int))
   rw [dT (by omega), cT, G_on (by omega), dF (by omega), cF, d1, obs, G_on (by simp; omega), G_on (by unfold I; omega), show ((i : Int) + 1) = ((i + 1 : Nat) : Int) from by omega,
    ih (i + 1) (by omega) (by omega) f (by omega) _ _ (by simp; omega) d2 hs, ix_drop steps i h, List.take_succ_cons]
   simp [runM, runE]
  ·rw [dF (by omega), cF, List.drop_of_length_le (by omega)]; simp [runM, runE]
theorem inv_run {cs : List (List Mk.Call)} (hcs : CsOk cs) {M : Mk.Machine} (h : Inv cs M) (l : List Mk.Step) : Inv cs (runM M l) := by
 induction l generalizing M with
 | nil => exact h
 | cons s l ih => exact ih (do_step hcs h s).2
theorem rplay_eq {cs : List (List Mk.Call)} (h0 : (newM cs).2 = 0) (steps : List Mk.Step) (hs : steps.length ≤ 9223372036854775807) : mkref6_Play cs steps = some (runM (newM cs).1 (steps.take 400), runE (newM cs).1 (steps.take 400)) := by
 obtain ⟨hcs, hM, _⟩ := newM_inv h0
 unfold mkref6_Play
 rw [rnew_eq, obs]
 simp only [J]
 have := fun k y => rplay_loop hcs steps k y 400 0 (by omega) (by omega) (((steps.length : Int) - 0).toNat + 1) (by omega) (newM cs).1 [] (by simp) hM hs
 rw [show ((0 : Nat) : Int) = 0 from rfl] at this
 rw [this, List.drop_zero]; rfl
end Sp
end
section
namespace Sp
theorem cloneBx_eq (l : List (List UInt8)) (h : l.length ≤ 1000000) : slices_Clone_____byte___byte_ l = some l := by
 unfold slices_Clone_____byte___byte_
 rw [G_on (by simp; omega)]; simp
theorem cloneBy_eq (l : List UInt8) (h : l.length ≤ 140737488355328) : slices_Clone___byte_byte_ l = some l := by
 unfold slices_Clone___byte_byte_
 rw [G_on (by simp; omega)]; simp
theorem cloneRe_eq (l : List Mk.Reply) (h : l.length ≤ 1000000) : slices_Clone___api_Reply_api_Reply_ l = some l := by
 unfold slices_Clone___api_Reply_api_Reply_
 rw [G_on (by simp; omega)]; simp
theorem ccome_eq (c : Mk.Client) (b : List UInt8) (hb : b.length ≤ 140737488355328) : client_Come c b = some (cCome c b) := by
 unfold client_Come cCome
 simp only [J]
 by_cases h : c.Box.length < 3
 ·rw [dT (by omega), cT, cloneBx_eq _ (by omega), obs, cloneBy_eq _ hb, obs, G_on (by simp; omega), if_pos h]
 ·rw [dF (by omega), cF, if_neg h]
theorem chear_eq (c : Mk.Client) (b : List UInt8) (box : List (List UInt8)) (hB : c.Box = b :: box) (me : Int) (hb : c.Box.length ≤ 1000) (hg : c.Got.length ≤ 1000) (hat : 0 ≤ c.At ∧ c.At ≤ 1000) : client_hear c me = some (hear c b box me) := by
 obtain ⟨K, A, S, g, B, R⟩ := c
 simp only at hB hb hg hat
 subst hB
 have e1 : ix (b :: box) 0 = b := rfl
 have e2 : sub (b :: box) 1 ((b :: box).length : Int) = box := by simp [sub]
 have hbx : box.length ≤ 1000 := by simp at hb; omega
 unfold client_hear hear
 simp only [J, e1, e2]
 rw [G_on (by simp <;> omega), readAnswer_eq, obs, G_on (by simp <;> omega), cloneBx_eq _ (by omega), obs]
 by_cases h : (readAns b).2 = 0 ∧ (readAns b).1.Client = me ∧ (readAns b).1.Token = A ∧ S = true
 ·obtain ⟨h1, h2, h3, h4⟩ := h
  simp only [h1, h2, h3, h4, decide_true, Bool.and_self, cT, and_self, if_true]
  rw [cloneRe_eq _ (by omega), obs, G_on (by simp <;> omega), G_on (by unfold I; omega)]
 ·have hf : (((decide ((readAns b).2 = 0) && decide ((readAns b).1.Client = me)) && decide ((readAns b).1.Token = A)) && S) = false := by
   cases S <;> simp_all
  rw [hf, cF, if_neg h]
theorem reqB_ne (r : Mk.Request) : reqB r ≠ [] := by unfold reqB; simp
theorem cgo_eq (c : Mk.Client) (me gen : Int) (up : Bool) (hb : c.Box.length ≤ 1000) (hg : c.Got.length ≤ 1000) (hat : 0 ≤ c.At ∧ c.At ≤ 1000) : client_Go c me gen up = some (cGo c me gen up) := by
 unfold client_Go cGo
 cases hB : c.Box with
 | cons b box =>
  rw [dT (by simp <;> omega), cT, chear_eq c b box hB me hb hg hat, obs]
 | nil =>
  simp only [List.length_nil]
  rw [dF (by decide), cF]
  by_cases h1 : (c.Calls.length : Int) ≤ c.At
  ·rw [dT h1, cT, if_pos h1]
  ·rw [dF h1, cF, if_neg h1]
   cases up with
   | false => rfl
   | true =>
    simp only [nT, cF]
    by_cases h2 : c.Sent = true ∧ c.Gen = gen
    ·simp [h2.1, h2.2]
    ·have hf : (c.Sent && decide (c.Gen = gen)) = false := by cases hS : c.Sent <;> simp_all
     rw [hf, cF, G_on (by omega), request_eq, obs, G_on (reqB_ne _)]
     simp only [Bool.true_eq_false, if_false, if_neg h2]
theorem sameCalls_loop (a b : List Mk.Call) (hab : a.length = b.length) (hl : a.length ≤ 9223372036854775807) (k : Unit → Option Bool) (hk : k () = some true) : ∀ (m i : Nat), i + m = a.length → ∀ f : Nat, m < f →
  mkref1_SameCalls_l1 k f a b (a.length : Int) (i : Int) = some (decide (a.drop i = b.drop i)) := by
 intro m
 induction m with
 | zero =>
  intro i hi f hf
  obtain ⟨f, rfl⟩ : ∃ g, f = g + 1 := ⟨f - 1, by omega⟩
  rw [mkref1_SameCalls_l1, dF (by omega), cF, hk, List.drop_of_length_le (by omega), List.drop_of_length_le (by omega)]
  simp
 | succ m ih =>
  intro i hi f hf
  obtain ⟨f, rfl⟩ : ∃ g, f = g + 1 := ⟨f - 1, by omega⟩
  rw [mkref1_SameCalls_l1, dT (by omega), cT, G_on (by omega), G_on (by omega), ix_drop a i (by omega), ix_drop b i (by omega)]
  by_cases h : ix a (i : Int) = ix b (i : Int)
  ·rw [dT h, nT, cF, G_on (by unfold I; omega), show ((i : Int) + 1) = ((i + 1 : Nat) : Int) from by omega, ih (i + 1) (by omega) f (by omega)]
   simp [h]
  ·rw [dF h, nF, cT]
   simp [h]
theorem sameCalls_eq (a b : List Mk.Call) (hl : a.length ≤ 9223372036854775807) : mkref1_SameCalls a b = some (decide (a = b)) := by
 unfold mkref1_SameCalls
 simp only [J]
 by_cases h : a.length = b.length
 ·rw [dT (by omega), nT, cF]
  have := sameCalls_loop a b h hl (fun _ => some true) rfl a.length 0 (by omega) (((a.length : Int) - 0).toNat + 1) (by omega)
  rw [show ((0 : Nat) : Int) = 0 from rfl] at this
  rw [this]; simp
 ·rw [dF (by omega), nF, cT]
  congr 1
  exact (dF fun e => h (by rw [e])).symm
theorem sameReplies_loop (a b : List Mk.Reply) (hab : a.length = b.length) (hl : a.length ≤ 9223372036854775807) (k : Unit → Option Bool) (hk : k () = some true) : ∀ (m i : Nat), i + m = a.length → ∀ f : Nat, m < f →
  mkref6_SameReplies_l1 k f a b (a.length : Int) (i : Int) = some (decide (a.drop i = b.drop i)) := by
 intro m
 induction m with
 | zero =>
  intro i hi f hf
  obtain ⟨f, rfl⟩ : ∃ g, f = g + 1 := ⟨f - 1, by omega⟩
  rw [mkref6_SameReplies_l1, dF (by omega), cF, hk, List.drop_of_length_le (by omega), List.drop_of_length_le (by omega)]
  simp
 | succ m ih =>
  intro i hi f hf
  obtain ⟨f, rfl⟩ : ∃ g, f = g + 1 := ⟨f - 1, by omega⟩
  rw [mkref6_SameReplies_l1, dT (by omega), cT, G_on (by omega), G_on (by omega), ix_drop a i (by omega), ix_drop b i (by omega)]
  by_cases h : ix a (i : Int) = ix b (i : Int)
  ·rw [dT h, nT, cF, G_on (by unfold I; omega), show ((i : Int) + 1) = ((i + 1 : Nat) : Int) from by omega, ih (i + 1) (by omega) f (by omega)]
   simp [h]
  ·rw [dF h, nF, cT]
   simp [h]
theorem sameReplies_eq (a b : List Mk.Reply) (hl : a.length ≤ 9223372036854775807) : mkref6_SameReplies a b = some (decide (a = b)) := by
 unfold mkref6_SameReplies
 simp only [J]
 by_cases h : a.length = b.length
 ·rw [dT (by omega), nT, cF]
  have := sameReplies_loop a b h hl (fun _ => some true) rfl a.length 0 (by omega) (((a.length : Int) - 0).toNat + 1) (by omega)
  rw [show ((0 : Nat) : Int) = 0 from rfl] at this
  rw [this]; simp
 ·rw [dF (by omega), nF, cT]
  congr 1
  exact (dF fun e => h (by rw [e])).symm
theorem sameBytes_loop (a b : List (List UInt8)) (hab : a.length = b.length) (hl : a.length ≤ 9223372036854775807) (k : Unit → Option Bool) (hk : k () = some true) : ∀ (m i : Nat), i + m = a.length → ∀ f : Nat, m < f →
  mkref6_SameBytes_l1 k f a b (a.length : Int) (i : Int) = some (decide (a.drop i = b.drop i)) := by
 intro m
 induction m with
 | zero =>
  intro i hi f hf
  obtain ⟨f, rfl⟩ : ∃ g, f = g + 1 := ⟨f - 1, by omega⟩
  rw [mkref6_SameBytes_l1, dF (by omega), cF, hk, List.drop_of_length_le (by omega), List.drop_of_length_le (by omega)]
  simp
 | succ m ih =>
  intro i hi f hf
  obtain ⟨f, rfl⟩ : ∃ g, f = g + 1 := ⟨f - 1, by omega⟩
  rw [mkref6_SameBytes_l1, dT (by omega), cT, G_on (by omega), G_on (by omega), ix_drop a i (by omega), ix_drop b i (by omega)]
  by_cases h : ix a (i : Int) = ix b (i : Int)
  ·rw [dT (by rw [h]), nT, cF, G_on (by unfold I; omega), show ((i : Int) + 1) = ((i + 1 : Nat) : Int) from by omega, ih (i + 1) (by omega) f (by omega)]
   simp [h]
  ·rw [dF (fun e => h (bts_inj.1 e)), nF, cT]
   simp [h]
theorem sameBytes_eq (a b : List (List UInt8)) (hl : a.length ≤ 9223372036854775807) : mkref6_SameBytes a b = some (decide (a = b)) := by
 unfold mkref6_SameBytes
 simp only [J]
 by_cases h : a.length = b.length
 ·rw [dT (by omega), nT, cF]
  have := sameBytes_loop a b h hl (fun _ => some true) rfl a.length 0 (by omega) (((a.length : Int) - 0).toNat + 1) (by omega)
  rw [show ((0 : Nat) : Int) = 0 from rfl] at this
  rw [this]; simp
 ·rw [dF (by omega), nF, cT]
  congr 1
  exact (dF fun e => h (by rw [e])).symm
structure Szc (c : Mk.Client) : Prop where
 k : c.Calls.length ≤ 1000000
 b : c.Box.length ≤ 1000000
 g : c.Got.length ≤ 1000000
theorem sameClient_eq (a b : Mk.Client) (h : Szc a) : mkref6_SameClient a b = some (decide (a = b)) := by
 have h1 := h.k; have h2 := h.b; have h3 := h.g
 unfold mkref6_SameClient
 rw [sameCalls_eq _ _ (by omega), obs, sameBytes_eq _ _ (by omega), sameReplies_eq _ _ (by omega)]
 obtain ⟨k1, a1, s1, g1, b1, r1⟩ := a
 obtain ⟨k2, a2, s2, g2, b2, r2⟩ := b
 simp only [Mk.Client.mk.injEq]
 by_cases e1 : k1 = k2 <;> by_cases e2 : a1 = a2 <;> by_cases e3 : s1 = s2 <;> by_cases e4 : g1 = g2 <;> by_cases e5 : b1 = b2 <;> simp [Cn, e1, e2, e3, e4, e5]
theorem ClOk.sz {cs : List (List Mk.Call)} (hcs : CsOk cs) {p : List Mk.Request} {g c : Int} {x : Mk.Client} (hl : Lawful cs p) (hc : 0 ≤ c ∧ c < cs.length) (h : ClOk cs p g c x) : Szc x := by
 have h1 := h.le8 hcs hl hc
 have h2 := h.box
 exact ⟨by omega, by omega, by omega⟩
end Sp
end
section
namespace Sp
structure Smb (l : List (List UInt8)) : Prop where
 n : l.length ≤ 1000
 b : ∀ x ∈ l, x.length ≤ 140737488355328
structure Smk (c : Mk.Client) : Prop where
 k : c.Calls.length ≤ 1000
 b : Smb c.Box
 g : c.Got.length ≤ 1000
structure Smm (m : Mk.Machine) : Prop where
 s : Sz m.Store
 b : Smb m.Server.Box
 p : m.Server.Plan.length ≤ 1000
 n : m.Clients.length ≤ 1000
 c : ∀ x ∈ m.Clients, Smk x
theorem reqB_len (r : Mk.Request) : (reqB r).length = 10 := by unfold reqB nb; simp
theorem ansB_len (a : Mk.Answer) : (ansB a).length = 8 := by unfold ansB nb; simp
theorem Inv.smm {cs : List (List Mk.Call)} {m : Mk.Machine} (hcs : CsOk cs) (h : Inv cs m) : Smm m := by
 have hn := hcs.n
 have hk := h.nk
 refine ⟨h.sz hcs, ⟨by have := h.box; omega, fun x hx => ?_⟩, ?_, by omega, fun x hx => ?_⟩
 ·obtain ⟨c, t, _, _, rfl, _⟩ := h.q x hx
  rw [reqB_len]; decide
 ·cases hb : m.Server.Busy with
  | true =>
   obtain ⟨b0, done, _, _, _, _, _, hp⟩ := h.st
   have := planR_len (allN [] m.Store.Past) m.Server.Now.Call
   rw [hp hb, List.length_append] at this
   omega
  | false => rw [h.idle hb]; simp
 ·obtain ⟨i, hi, e⟩ := List.mem_iff_getElem.1 hx
  have hc := h.cl (i : Int) (by omega)
  rw [ix_nat _ i hi, e] at hc
  have h8 := hc.le8 hcs h.law (by omega)
  refine ⟨by omega, ⟨by have := hc.box; omega, fun b hb => ?_⟩, by omega⟩
  obtain ⟨t, _, rfl⟩ := hc.ans b hb
  rw [ansB_len]; decide
theorem Smk.sz {c : Mk.Client} (h : Smk c) : Szc c := by
 have h1 := h.k; have h2 := h.g; have h3 := h.b.n
 exact ⟨by omega, by omega, by omega⟩
theorem cloneCa_eq (l : List Mk.Call) (h : l.length ≤ 1000000) : slices_Clone___api_Call_api_Call_ l = some l := by
 unfold slices_Clone___api_Call_api_Call_
 rw [G_on (by simp; omega)]; simp
theorem vown_loop (l : List (List UInt8)) (hl : Smb l) (k : Mk.Server → Mk.Server → Mk.Server → List (List UInt8) → Option Mk.Server) (y1 y2 y3 : Mk.Server) : ∀ (m i : Nat), i + m = l.length → ∀ f : Nat, m < f → ∀ acc : List (List UInt8), acc.length ≤ i →
  serve_Own_l1 k f l (l.length : Int) (i : Int) y1 y2 y3 acc = k y1 y2 y3 (acc ++ l.drop i) := by
 have hn := hl.n
 intro m
 induction m with
 | zero =>
  intro i hi f hf acc ha
  obtain ⟨f, rfl⟩ : ∃ g, f = g + 1 := ⟨f - 1, by omega⟩
  rw [serve_Own_l1, dF (by omega), cF, List.drop_of_length_le (by omega), List.append_nil]
 | succ m ih =>
  intro i hi f hf acc ha
  obtain ⟨f, rfl⟩ : ∃ g, f = g + 1 := ⟨f - 1, by omega⟩
  have hb := hl.b _ (ix_mem l (i : Int) (by omega))
  rw [serve_Own_l1, dT (by omega), cT, G_on (by omega), cloneBy_eq _ (by omega), obs, G_on (by simp; omega), G_on (by unfold I; omega), show ((i : Int) + 1) = ((i + 1 : Nat) : Int) from by omega, ih (i + 1) (by omega) f (by omega) _ (by simp; omega), ix_drop l i (by omega), List.append_assoc]; rfl
theorem vown_eq (v : Mk.Server) (hb : Smb v.Box) (hp : v.Plan.length ≤ 1000) : serve_Own v = some v := by
 unfold serve_Own
 simp only [J]
 have := fun k y1 y2 y3 => vown_loop v.Box hb k y1 y2 y3 v.Box.length 0 (by omega) (((v.Box.length : Int) - 0).toNat + 1) (by omega) [] (by simp)
 rw [show ((0 : Nat) : Int) = 0 from rfl] at this
 rw [this, cloneW_eq _ (by omega), obs]; rfl
theorem gclient_loop (l : List (List UInt8)) (hl : Smb l) (k : Mk.Client → Mk.Client → List (List UInt8) → Option Mk.Client) (y2 y3 : Mk.Client) : ∀ (m i : Nat), i + m = l.length → ∀ f : Nat, m < f → ∀ acc : List (List UInt8), acc.length ≤ i →
  guard_client_l1 k f l (l.length : Int) (i : Int) y2 y3 acc = k y2 y3 (acc ++ l.drop i) := by
 have hn := hl.n
 intro m
 induction m with
 | zero =>
  intro i hi f hf acc ha
  obtain ⟨f, rfl⟩ : ∃ g, f = g + 1 := ⟨f - 1, by omega⟩
  rw [guard_client_l1, dF (by omega), cF, List.drop_of_length_le (by omega), List.append_nil]
 | succ m ih =>
  intro i hi f hf acc ha
  obtain ⟨f, rfl⟩ : ∃ g, f = g + 1 := ⟨f - 1, by omega⟩
  have hb := hl.b _ (ix_mem l (i : Int) (by omega))
  rw [guard_client_l1, dT (by omega), cT, G_on (by omega), cloneBy_eq _ (by omega), obs, G_on (by simp; omega), G_on (by unfold I; omega), show ((i : Int) + 1) = ((i + 1 : Nat) : Int) from by omega, ih (i + 1) (by omega) f (by omega) _ (by simp; omega), ix_drop l i (by omega), List.append_assoc]; rfl
theorem gclient_eq (c : Mk.Client) (h : Smk c) : guard_client c = some c := by
 have h1 := h.k; have h2 := h.g
 unfold guard_client
 simp only [J]
 have := fun k y2 y3 => gclient_loop c.Box h.b k y2 y3 c.Box.length 0 (by omega) (((c.Box.length : Int) - 0).toNat + 1) (by omega) [] (by simp)
 rw [show ((0 : Nat) : Int) = 0 from rfl] at this
 rw [cloneCa_eq _ (by omega), obs, cloneRe_eq _ (by omega), obs, this]; rfl
theorem gown_loop (l : List Mk.Client) (hn : l.length ≤ 1000) (hl : ∀ x ∈ l, Smk x) (k : Mk.Machine → Mk.Machine → List Mk.Client → Option Mk.Machine) (y2 y3 : Mk.Machine) : ∀ (m i : Nat), i + m = l.length → ∀ f : Nat, m < f → ∀ acc : List Mk.Client, acc.length ≤ i →
  guard_Own_l1 k f l (l.length : Int) (i : Int) y2 y3 acc = k y2 y3 (acc ++ l.drop i) := by
 intro m
 induction m with
 | zero =>
  intro i hi f hf acc ha
  obtain ⟨f, rfl⟩ : ∃ g, f = g + 1 := ⟨f - 1, by omega⟩
  rw [guard_Own_l1, dF (by omega), cF, List.drop_of_length_le (by omega), List.append_nil]
 | succ m ih =>
  intro i hi f hf acc ha
  obtain ⟨f, rfl⟩ : ∃ g, f = g + 1 := ⟨f - 1, by omega⟩
  have hb := hl _ (ix_mem l (i : Int) (by omega))
  rw [guard_Own_l1, dT (by omega), cT, G_on (by omega), gclient_eq _ hb, obs, G_on (by simp; omega), G_on (by unfold I; omega), show ((i : Int) + 1) = ((i + 1 : Nat) : Int) from by omega, ih (i + 1) (by omega) f (by omega) _ (by simp; omega), ix_drop l i (by omega), List.append_assoc]; rfl
theorem gown_eq (m : Mk.Machine) (h : Smm m) : guard_Own m = some m := by
 unfold guard_Own
 simp only [J]
 have := fun k y2 y3 => gown_loop m.Clients h.n h.c k y2 y3 m.Clients.length 0 (by omega) (((m.Clients.length : Int) - 0).toNat + 1) (by omega) [] (by simp)
 rw [show ((0 : Nat) : Int) = 0 from rfl] at this
 rw [own_eq h.s, obs, vown_eq _ h.b h.p, obs, this]; rfl
def pauseG (n : Int) : Int := if 3 < (if n < 1 then 1 else n) then 3 else (if n < 1 then 1 else n)
theorem gpause_eq (n : Int) : guard_Pause n = some (pauseG n) := rfl
theorem pauseG_of (n : Int) : pauseG n = pauseOf n := by
 unfold pauseG pauseOf
 repeat' split
 all_goals omega
theorem gfall_eq (m : Mk.Machine) (h : Smm m) (hf : 0 ≤ m.Falls ∧ m.Falls ≤ 6) : guard_Fall m = some (fall m) := by
 unfold guard_Fall
 rw [gown_eq m h, obs]
 obtain ⟨s, v, u, p, f, cl⟩ := m
 simp only at hf
 unfold fall
 cases u with
 | false => rfl
 | true =>
  simp only [nT, cF, Bool.true_eq_false, if_false]
  by_cases h : 5 < f
  ·rw [dT (show (6 : Int) ≤ f from by omega), cT, if_pos h]
  ·rw [dF (by omega), cF, G_on (by unfold I; omega), gpause_eq, obs, if_neg h, pauseG_of]; rfl
theorem gtick_eq (m : Mk.Machine) (h : Smm m) (hp : 0 ≤ m.Pause ∧ m.Pause ≤ 1000) (hg : 0 ≤ m.Server.Gen ∧ m.Server.Gen ≤ 1000) : guard_Tick m = some (tick m) := by
 have hs := h.s
 unfold guard_Tick
 rw [gown_eq m h, obs]
 obtain ⟨s, v, u, p, f, cl⟩ := m
 simp only at hs hp hg
 unfold tick
 simp only [J]
 cases u with
 | true => rfl
 | false =>
  simp only [cF, Bool.false_eq_true, if_false]
  rw [G_on (by unfold I; omega)]
  by_cases h : 1 < p
  ·rw [dF (by omega), cF, if_pos h]
  ·rw [dT (by omega), cT, sback_eq hs, obs, G_on (by unfold I; omega), if_neg h]; rfl
theorem sameServer_eq (a b : Mk.Server) (hb : a.Box.length ≤ 1000000) (hp : a.Plan.length ≤ 1000000) : mkref6_SameServer a b = some (decide (a = b)) := by
 unfold mkref6_SameServer
 rw [sameBytes_eq _ _ (by omega), sameWrites_eq _ _ (by omega)]
 obtain ⟨g1, b1, z1, n1, p1, s1⟩ := a
 obtain ⟨g2, b2, z2, n2, p2, s2⟩ := b
 simp only [Mk.Server.mk.injEq]
 by_cases e1 : g1 = g2 <;> by_cases e2 : b1 = b2 <;> by_cases e3 : z1 = z2 <;> by_cases e4 : n1 = n2 <;> by_cases e5 : p1 = p2 <;> simp [Cn, e1, e2, e3, e4, e5]
theorem sameMachine_loop (a b : Mk.Machine) (hab : a.Clients.length = b.Clients.length) (hn : a.Clients.length ≤ 1000) (hc : ∀ x ∈ a.Clients, Smk x) (k : Unit → Option Bool) (hk : k () = some true) : ∀ (m i : Nat), i + m = a.Clients.length → ∀ f : Nat, m < f →
  mkref6_SameMachine_l1 k f (a.Clients.length : Int) (i : Int) a b = some (decide (a.Clients.drop i = b.Clients.drop i)) := by
 intro m
 induction m with
 | zero =>
  intro i hi f hf
  obtain ⟨f, rfl⟩ : ∃ g, f = g + 1 := ⟨f - 1, by omega⟩
  rw [mkref6_SameMachine_l1, dF (by omega), cF, hk, List.drop_of_length_le (by omega), List.drop_of_length_le (by omega)]
  simp
 | succ m ih =>
  intro i hi f hf
  obtain ⟨f, rfl⟩ : ∃ g, f = g + 1 := ⟨f - 1, by omega⟩
  have hx := hc _ (ix_mem a.Clients (i : Int) (by omega))
  rw [mkref6_SameMachine_l1, dT (by omega), cT, G_on (by omega), G_on (by omega), sameClient_eq _ _ hx.sz, obs, ix_drop a.Clients i (by omega), ix_drop b.Clients i (by omega)]
  by_cases h : ix a.Clients (i : Int) = ix b.Clients (i : Int)
  ·rw [dT h, nT, cF, G_on (by unfold I; omega), show ((i : Int) + 1) = ((i + 1 : Nat) : Int) from by omega, ih (i + 1) (by omega) f (by omega)]
   simp [h]
  ·rw [dF h, nF, cT]
   simp [h]
theorem sameMachine_eq (a b : Mk.Machine) (h : Smm a) : mkref6_SameMachine a b = some (decide (a = b)) := by
 have hb := h.b.n; have hp := h.p; have hn := h.n
 unfold mkref6_SameMachine
 rw [sameStore_eq _ _ h.s, obs, sameServer_eq _ _ (by omega) (by omega)]
 have e : a = b ↔ (a.Store = b.Store ∧ a.Server = b.Server ∧ a.Up = b.Up ∧ a.Pause = b.Pause ∧ a.Falls = b.Falls ∧ a.Clients = b.Clients) := by
  obtain ⟨s1, v1, u1, p1, f1, c1⟩ := a
  obtain ⟨s2, v2, u2, p2, f2, c2⟩ := b
  simp
 have l1 := fun hab => sameMachine_loop a b hab hn h.c (fun _ => some true) rfl a.Clients.length 0 (by omega) (((a.Clients.length : Int) - 0).toNat + 1) (by omega)
 rw [show ((0 : Nat) : Int) = 0 from rfl, List.drop_zero, List.drop_zero] at l1
 by_cases e1 : a.Store = b.Store
 ·rw [dT e1, nT, Cn_yes rfl, obs]
  by_cases e2 : a.Server = b.Server ∧ a.Up = b.Up ∧ a.Pause = b.Pause ∧ a.Falls = b.Falls ∧ a.Clients.length = b.Clients.length
  ·obtain ⟨q1, q2, q3, q4, q5⟩ := e2
   rw [dT q1, dT q2, dT q3, dT q4, dT (show (a.Clients.length : Int) = (b.Clients.length : Int) from by omega)]
   simp only [nT, Bool.or_self, cF, J]
   rw [l1 q5]
   congr 1
   rw [decide_eq_decide, e]
   exact ⟨fun hh => ⟨e1, q1, q2, q3, q4, hh⟩, fun hh => hh.2.2.2.2.2⟩
  ·have hf : (((((false || (!decide (a.Server = b.Server))) || (!decide (a.Up = b.Up))) || (!decide (a.Pause = b.Pause))) || (!decide (a.Falls = b.Falls))) || (!decide ((a.Clients.length : Int) = (b.Clients.length : Int)))) = true := by
    by_cases q1 : a.Server = b.Server <;> by_cases q2 : a.Up = b.Up <;> by_cases q3 : a.Pause = b.Pause <;> by_cases q4 : a.Falls = b.Falls <;> by_cases q5 : a.Clients.length = b.Clients.length <;> (simp_all; try omega)
   rw [hf, cT]
   congr 1
   refine (dF fun hh => e2 ?_).symm
   have := e.1 hh
   exact ⟨this.2.1, this.2.2.1, this.2.2.2.1, this.2.2.2.2.1, by rw [this.2.2.2.2.2]⟩
 ·rw [dF e1, nF, Cn_no (by simp), obs, Bool.true_or, Bool.true_or, Bool.true_or, Bool.true_or, Bool.true_or, cT]
  congr 1
  exact (dF fun hh => e1 (e.1 hh).1).symm
end Sp
end
section
namespace Sp
section
variable {cs : List (List Mk.Call)} {m : Mk.Machine}
theorem Inv.pause (h : Inv cs m) : 0 ≤ m.Pause ∧ m.Pause ≤ 1000 := by
 rcases Bool.eq_false_or_eq_true m.Up with hu | hu
 ·have := (h.up hu).1; omega
 ·have := h.down hu; omega
theorem Inv.gtick (hcs : CsOk cs) (h : Inv cs m) : guard_Tick m = some (tick m) := gtick_eq m (h.smm hcs) h.pause ⟨h.gen, by have := h.gen6; omega⟩
end
end Sp
end
section
namespace Sp
structure RtW (c : List Int) (l : List Mk.Write) : Prop where
 len : c.length = 11
 n : ix c 0 = l.length
 le : l.length ≤ 5
 ats : ∀ i : Nat, i < l.length → ix c (1 + 2 * (i : Int)) = (ix l i).At ∧ ix c (2 + 2 * (i : Int)) = (ix l i).N
 at1 : ∀ w ∈ l, 1 ≤ w.At ∧ w.At ≤ 255 ∧ -1073741824 ≤ w.N ∧ w.N ≤ 1073741824
theorem Rt.w {c : List Int} {l : List Mk.Write} (h : Rt c l) : RtW c l := ⟨h.len, h.n, h.le, h.ats, h.at1⟩
theorem RtW.ixb {c : List Int} {l : List Mk.Write} (h : RtW c l) (i : Int) (hi : 0 ≤ i ∧ i < l.length) : 1 ≤ (ix l i).At ∧ (ix l i).At ≤ 255 ∧ -1073741824 ≤ (ix l i).N ∧ (ix l i).N ≤ 1073741824 := h.at1 _ (ix_mem l i hi)
theorem RtW.call {c : List Int} {l : List Mk.Write} (h : RtW c l) {x : Int} (hk : 0 ≤ pos l x) : -1073741824 ≤ (ix l (pos l x)).N ∧ (ix l (pos l x)).N ≤ 1073741824 := by
 have := h.ixb (pos l x) ⟨hk, (pos_range l x).2⟩; omega
theorem find_loopW {c : List Int} {l : List Mk.Write} (h : RtW c l) (k : Unit → Option Int) (hk : k () = some (-1)) (x : Int) : ∀ (m i : Nat), i + m = l.length →
  cell_Find_l1 k (m + 1) c x (l.length : Int) (i : Int) = some (if pos (l.drop i) x < 0 then -1 else pos (l.drop i) x + i) := by
 intro m
 induction m with
 | zero =>
  intro i hi
  rw [cell_Find_l1, List.drop_of_length_le (by omega)]
  simp [pos, hk, show ¬ ((i : Int) < l.length) from by omega]
 | succ m ih =>
  intro i hi
  have hle := h.le
  have hlen := h.len
  have hat := (h.ats i (by omega)).1
  rw [cell_Find_l1, dT (show (i : Int) < l.length from by omega), cT, G_on (by unfold I; omega), G_on (by unfold I; omega), G_on (by omega), hat, ix_drop l i (by omega)]
  by_cases e : (ix l i).At = x
  ·simp [e, pos]
  ·rw [dF e, cF, G_on (by unfold I; omega)]
   have := ih (i + 1) (by omega)
   rw [show ((i : Int) + 1) = ((i + 1 : Nat) : Int) from by omega, this]
   simp only [pos, e, if_false]
   by_cases h2 : pos (l.drop (i + 1)) x < 0
   ·simp [h2]
   ·have := (pos_range (l.drop (i + 1)) x)
    rw [if_neg h2, if_neg h2, if_neg (by omega)]
    congr 1; omega
theorem find_eqW {c : List Int} {l : List Mk.Write} (h : RtW c l) (x : Int) : cell_Find c x = some (pos l x) := by
 unfold cell_Find
 simp only [J]
 have hlen := h.len
 have hp := pos_range l x
 rw [G_on (by omega), h.n, show ((l.length : Int) - 0).toNat + 1 = l.length + 1 from by omega]
 have := find_loopW h (fun _ => some (-1)) rfl x l.length 0 (by omega)
 rw [show ((0 : Int)) = ((0 : Nat) : Int) from rfl, this, List.drop_zero]
 congr 1
 split <;> omega
theorem RtW.at (c : List Int) (l : List Mk.Write) (h : RtW c l) (k : Int) (hk : 0 ≤ k ∧ k < l.length) : ix c (1 + 2 * k) = (ix l k).At ∧ ix c (2 + 2 * k) = (ix l k).N := by
 have := h.ats k.toNat (by omega)
 rwa [show ((k.toNat : Nat) : Int) = k from by omega] at this
theorem make_eqW {c : List Int} {l : List Mk.Write} {call : Mk.Call} (h : RtW c l) (hc : CallOk call) : plan_Make c call = some (planR l call) := by
 have hle := h.le
 have hlen := h.len
 have hn := h.n
 have hr := pos_range l call.Name
 have ho := pos_range l call.Other
 have hnum := hc.num
 have hk := hc.kind
 have h1 : 0 ≤ pos l call.Name → ix c (2 + 2 * pos l call.Name) = (ix l (pos l call.Name)).N := fun hp => (h.at c l _ ⟨hp, hr.2⟩).2
 have h2 : 0 ≤ pos l call.Other → ix c (2 + 2 * pos l call.Other) = (ix l (pos l call.Other)).N := fun hp => (h.at c l _ ⟨hp, ho.2⟩).2
 have h3 : 0 ≤ pos l call.Name → ix c (2 + 2 * ((l.length : Int) - 1)) = (ix l ((l.length : Int) - 1)).N := fun hp => (h.at c l _ ⟨by omega, by omega⟩).2
 have h4 : 0 ≤ pos l call.Name → ix c (1 + 2 * ((l.length : Int) - 1)) = (ix l ((l.length : Int) - 1)).At := fun hp => (h.at c l _ ⟨by omega, by omega⟩).1
 have hb : 0 ≤ pos l call.Name → -1073741824 ≤ (ix l (pos l call.Name)).N ∧ (ix l (pos l call.Name)).N ≤ 1073741824 := fun hp => h.call hp
 unfold plan_Make planR
 rw [find_eqW h, find_eqW h]
 have e1 : (2 + 2 * pos l call.Name - 1) = 1 + 2 * pos l call.Name := by omega
 have e2 : (2 + 2 * ((l.length : Int) - 1) - 1) = 1 + 2 * ((l.length : Int) - 1) := by omega
 have e3 : (2 + 2 * (l.length : Int) - 1) = 1 + 2 * (l.length : Int) := by omega
 have kk : call.Kind = 1 ∨ call.Kind = 2 ∨ call.Kind = 3 ∨ call.Kind = 4 ∨ call.Kind = 5 ∨ call.Kind = 6 := by omega
 by_cases hp : pos l call.Name < 0
 ·by_cases h5 : 5 ≤ (l.length : Int)
  all_goals
   rcases kk with k | k | k | k | k | k <;> simp (disch := first | omega | (unfold I; omega)) [k, hp, h5, plan_at, ↓G_on, ↓Bool.cond_eq_ite, ↓reduceIte, J, hn, e3]
 ·have hp0 : 0 ≤ pos l call.Name := by omega
  have hb := hb hp0
  rcases kk with k | k | k | k | k | k
  ·simp (disch := first | omega | (unfold I; omega)) [k, hp, plan_at, ↓G_on, ↓Bool.cond_eq_ite, ↓reduceIte, J, hn, h1 hp0]
  ·simp (disch := first | omega | (unfold I; omega)) [k, hp, plan_at, ↓G_on, ↓Bool.cond_eq_ite, ↓reduceIte, J, hn, h1 hp0]
  ·by_cases hl : pos l call.Name < (l.length : Int) - 1 <;>
   simp (disch := first | omega | (unfold I; omega)) [k, hp, plan_at, ↓G_on, ↓Bool.cond_eq_ite, ↓reduceIte, J, hn, h1 hp0, hl, h3 hp0, h4 hp0, e1, e2]
  ·generalize hx : (ix l (pos l call.Name)).N + call.N = x
   by_cases l1 : -1073741824 ≤ x
   ·by_cases l2 : x ≤ 1073741824
    ·have l3 : ¬ 1073741824 < x := by omega
     have l4 : ¬ x < -1073741824 := by omega
     simp (disch := first | omega | (unfold I; omega)) [k, hp, plan_at, ↓G_on, ↓Bool.cond_eq_ite, ↓reduceIte, J, hn, h1 hp0, hx, l1, l2, l3, l4]
    ·have l3 : 1073741824 < x := by omega
     simp (disch := first | omega | (unfold I; omega)) [k, hp, plan_at, ↓G_on, ↓Bool.cond_eq_ite, ↓reduceIte, J, hn, h1 hp0, hx, l1, l2, l3]
   ·have l4 : x < -1073741824 := by omega
    simp (disch := first | omega | (unfold I; omega)) [k, hp, plan_at, ↓G_on, ↓Bool.cond_eq_ite, ↓reduceIte, J, hn, h1 hp0, hx, l1, l4]
  ·simp (disch := first | omega | (unfold I; omega)) [k, hp, plan_at, ↓G_on, ↓Bool.cond_eq_ite, ↓reduceIte, J, hn, h1 hp0]
  ·by_cases hl : pos l call.Other < 0
   ·simp (disch := first | omega | (unfold I; omega)) [k, hp, plan_at, ↓G_on, ↓Bool.cond_eq_ite, ↓reduceIte, J, hn, h1 hp0, hl, find_eqW h]
   ·simp (disch := first | omega | (unfold I; omega)) [k, hp, plan_at, ↓G_on, ↓Bool.cond_eq_ite, ↓reduceIte, J, hn, h1 hp0, hl, find_eqW h, h2 (by omega)]
theorem entries_ofW {c : List Int} {l : List Mk.Write} (h : RtW c l) : entries c = l := by
 unfold entries
 rw [h.n]
 apply List.ext_getElem
 ·simp
 ·intro i h1 h2
  simp only [Int.toNat_natCast, List.length_map, List.length_range] at h1
  have := h.ats i h1
  simp only [Int.toNat_natCast, List.getElem_map, List.getElem_range, cat, cnum, this, ix_nat l i h1]
end Sp
end
section
namespace Sp
def StepsW : List Int → List Mk.Write → Prop
 | c, [] => ∃ l, RtW c l
 | c, w :: p => (∃ l, RtW c l) ∧ StepsW (wr c w) p
theorem StepsW.here {c : List Int} {p : List Mk.Write} (h : StepsW c p) : ∃ l, RtW c l := by
 cases p with
 | nil => exact h
 | cons w p => exact h.1
theorem StepsW.part {c : List Int} (d p : List Mk.Write) (h : StepsW c (d ++ p)) : StepsW (wrs c d) p := by
 induction d generalizing c with
 | nil => exact h
 | cons w d ih => exact ih h.2
theorem RtW.mem {l : List Mk.Write} (h1 : ∀ i : Nat, i < l.length → 1 ≤ (ix l (i : Int)).At ∧ (ix l (i : Int)).At ≤ 255 ∧ -1073741824 ≤ (ix l (i : Int)).N ∧ (ix l (i : Int)).N ≤ 1073741824) : ∀ w ∈ l, 1 ≤ w.At ∧ w.At ≤ 255 ∧ -1073741824 ≤ w.N ∧ w.N ≤ 1073741824 := fun w hw => by
 obtain ⟨i, hi, rfl⟩ := mem_ix hw
 exact h1 i hi
theorem rtW_wr1 {c : List Int} {l : List Mk.Write} (h : RtW c l) (k : Int) (hk : 0 ≤ k ∧ k < l.length) (x : Int) (hx : 1 ≤ x ∧ x ≤ 255) : RtW (wr c ⟨1 + 2 * k, x⟩) (l.set k.toNat ⟨x, (ix l k).N⟩) := by
 have hle := h.le
 have hlen := h.len
 refine ⟨by rw [wr_len]; exact hlen, ?_, by simpa using hle, fun i hi => ?_, RtW.mem fun i hi => ?_⟩
 ·rw [ix_wr _ _ _ (by omega), if_neg (by show ¬ (1 + 2 * k = 0); omega), h.n]; simp
 ·simp only [List.length_set] at hi
  have := h.ats i hi
  rw [ix_wr _ _ _ (by omega), ix_wr _ _ _ (by omega), ix_set _ _ _ hk (by omega)]
  show (if 1 + 2 * k = 1 + 2 * (i : Int) then x else _) = _ ∧ (if 1 + 2 * k = 2 + 2 * (i : Int) then x else _) = _
  rw [if_neg (by omega : ¬ (1 + 2 * k = 2 + 2 * (i : Int)))]
  by_cases e : k = i
  ·rw [if_pos (by omega), if_pos e, this.2, e]; exact ⟨rfl, rfl⟩
  ·rw [if_neg (by omega), if_neg e, this.1, this.2]; exact ⟨rfl, rfl⟩
 ·simp only [List.length_set] at hi
  rw [ix_set _ _ _ hk (by omega)]
  split
  ·have := h.ixb k hk; exact ⟨hx.1, hx.2, this.2.2⟩
  ·exact h.ixb _ (by omega)
theorem rtW_wr2 {c : List Int} {l : List Mk.Write} (h : RtW c l) (k : Int) (hk : 0 ≤ k ∧ k < l.length) (x : Int) (hx : -1073741824 ≤ x ∧ x ≤ 1073741824) : RtW (wr c ⟨2 + 2 * k, x⟩) (l.set k.toNat ⟨(ix l k).At, x⟩) := by
 have hle := h.le
 have hlen := h.len
 refine ⟨by rw [wr_len]; exact hlen, ?_, by simpa using hle, fun i hi => ?_, RtW.mem fun i hi => ?_⟩
 ·rw [ix_wr _ _ _ (by omega), if_neg (by show ¬ (2 + 2 * k = 0); omega), h.n]; simp
 ·simp only [List.length_set] at hi
  have := h.ats i hi
  rw [ix_wr _ _ _ (by omega), ix_wr _ _ _ (by omega), ix_set _ _ _ hk (by omega)]
  show (if 2 + 2 * k = 1 + 2 * (i : Int) then x else _) = _ ∧ (if 2 + 2 * k = 2 + 2 * (i : Int) then x else _) = _
  rw [if_neg (by omega : ¬ (2 + 2 * k = 1 + 2 * (i : Int)))]
  by_cases e : k = i
  ·rw [if_pos e, if_pos (by omega : 2 + 2 * k = 2 + 2 * (i : Int)), this.1, e]; exact ⟨rfl, rfl⟩
  ·rw [if_neg e, if_neg (by omega : ¬ (2 + 2 * k = 2 + 2 * (i : Int))), this.1, this.2]; exact ⟨rfl, rfl⟩
 ·simp only [List.length_set] at hi
  rw [ix_set _ _ _ hk (by omega)]
  split
  ·have := h.ixb k hk; exact ⟨this.1, this.2.1, hx⟩
  ·exact h.ixb _ (by omega)
theorem rtW_wrB {c : List Int} {l : List Mk.Write} (h : RtW c l) (w : Mk.Write) (hw : 1 + 2 * (l.length : Int) ≤ w.At) : RtW (wr c w) l := by
 have hle := h.le
 have hlen := h.len
 refine ⟨by rw [wr_len]; exact hlen, ?_, hle, fun i hi => ?_, h.at1⟩
 ·rw [ix_wr _ _ _ (by omega), if_neg (by omega), h.n]
 ·rw [ix_wr _ _ _ (by omega), ix_wr _ _ _ (by omega), if_neg (by omega), if_neg (by omega)]
  exact h.ats i hi
theorem rtW_less {c : List Int} {l : List Mk.Write} (h : RtW c l) (h0 : 0 < l.length) : RtW (wr c ⟨0, (l.length : Int) - 1⟩) (l.take (l.length - 1)) := by
 have hle := h.le
 have hlen := h.len
 refine ⟨by rw [wr_len]; exact hlen, ?_, by simp; omega, fun i hi => ?_, fun w hw => h.at1 w (List.mem_of_mem_take hw)⟩
 ·rw [ix_wr _ _ _ (by omega), if_pos rfl]; simp; omega
 ·simp only [List.length_take] at hi
  rw [ix_wr _ _ _ (by omega), ix_wr _ _ _ (by omega), if_neg (by show ¬ (0 = 1 + 2 * (i : Int)); omega), if_neg (by show ¬ (0 = 2 + 2 * (i : Int)); omega), ix_take' _ _ _ (by omega)]
  exact h.ats i (by omega)
theorem rtW_more {c : List Int} {l : List Mk.Write} (h : RtW c l) (h5 : l.length < 5) {x n : Int} (h1 : ix c (1 + 2 * (l.length : Int)) = x) (h2 : ix c (2 + 2 * (l.length : Int)) = n) (hx : 1 ≤ x ∧ x ≤ 255) (hn : -1073741824 ≤ n ∧ n ≤ 1073741824) : RtW (wr c ⟨0, (l.length : Int) + 1⟩) (l ++ [⟨x, n⟩]) := by
 have hle := h.le
 have hlen := h.len
 refine ⟨by rw [wr_len]; exact hlen, ?_, by simp; omega, fun i hi => ?_, fun w hw => ?_⟩
 ·rw [ix_wr _ _ _ (by omega), if_pos rfl]; simp
 ·simp only [List.length_append, List.length_cons, List.length_nil] at hi
  rw [ix_wr _ _ _ (by omega), ix_wr _ _ _ (by omega), if_neg (by show ¬ (0 = 1 + 2 * (i : Int)); omega), if_neg (by show ¬ (0 = 2 + 2 * (i : Int)); omega), ix_snoc _ _ (by omega)]
  by_cases e : (i : Int) = l.length
  ·rw [if_pos e, e, h1, h2]; exact ⟨rfl, rfl⟩
  ·rw [if_neg e]; exact h.ats i (by omega)
 ·rcases List.mem_append.1 hw with hw | hw
  ·exact h.at1 w hw
  ·simp only [List.mem_singleton] at hw; subst hw; exact ⟨hx.1, hx.2, hn⟩
theorem steps_plan {c : List Int} {l : List Mk.Write} {call : Mk.Call} (h : RtW c l) (hc : CallOk call) : StepsW c (planR l call).1 := by
 have hle := h.le
 have hlen := h.len
 have hr := pos_range l call.Name
 have ho := pos_range l call.Other
 have hnum := hc.num
 have hnm := hc.name
 have nop : StepsW c [] := ⟨l, h⟩
 unfold planR
 split
 ·exact nop
 ·split
  ·rename_i k5 hp
   split
   ·split
    ·exact nop
    ·rename_i k1 h5
     have a1 := rtW_wrB h ⟨1 + 2 * (l.length : Int), call.Name⟩ (by simp only; omega)
     have a2 := rtW_wrB a1 ⟨2 + 2 * (l.length : Int), call.N⟩ (by simp only; omega)
     have b1 : ix (wr (wr c ⟨1 + 2 * (l.length : Int), call.Name⟩) ⟨2 + 2 * (l.length : Int), call.N⟩) (1 + 2 * (l.length : Int)) = call.Name := by
      rw [ix_wr _ _ _ (by rw [wr_len]; omega), if_neg (by show ¬ (2 + 2 * (l.length : Int) = _); omega), ix_wr _ _ _ (by omega), if_pos rfl]
     have b2 : ix (wr (wr c ⟨1 + 2 * (l.length : Int), call.Name⟩) ⟨2 + 2 * (l.length : Int), call.N⟩) (2 + 2 * (l.length : Int)) = call.N := by
      rw [ix_wr _ _ _ (by rw [wr_len]; omega), if_pos rfl]
     exact ⟨⟨l, h⟩, ⟨l, a1⟩, ⟨l, a2⟩, _, rtW_more a2 (by omega) b1 b2 (by omega) ⟨hnum.1, hnum.2.1⟩⟩
   ·exact nop
  ·rename_i k5 hp
   have hp0 : 0 ≤ pos l call.Name ∧ pos l call.Name < l.length := by omega
   split
   ·exact ⟨⟨l, h⟩, _, rtW_wr2 h _ hp0 _ ⟨hnum.1, hnum.2.1⟩⟩
   ·split
    ·have hlast := h.ixb ((l.length : Int) - 1) (by omega)
     split
     ·have a1 := rtW_wr1 h _ hp0 _ ⟨hlast.1, hlast.2.1⟩
      have a2 := rtW_wr2 a1 _ (by simp; omega) _ hlast.2.2
      have a3 := rtW_less a2 (by simp; omega)
      simp only [List.length_set] at a3
      exact ⟨⟨_, h⟩, ⟨_, a1⟩, ⟨_, a2⟩, _, a3⟩
     ·exact ⟨⟨l, h⟩, _, rtW_less h (by omega)⟩
    ·split
     ·split
      ·exact nop
      ·exact ⟨⟨l, h⟩, _, rtW_wr2 h _ hp0 _ (by omega)⟩
     ·split
      ·split
       ·exact nop
       ·have ho0 : 0 ≤ pos l call.Other ∧ pos l call.Other < l.length := by omega
        have a1 := rtW_wr2 h _ hp0 _ (h.call (x := call.Other) ho0.1)
        have a2 := rtW_wr2 a1 (pos l call.Other) (by simp; omega) _ (h.call (x := call.Name) hp0.1)
        exact ⟨⟨_, h⟩, ⟨_, a1⟩, _, a2⟩
      ·exact nop
end Sp
end
section
namespace Sp
structure WInv (s : Mk.Store) (v : Mk.Server) (n : Nat) : Prop where
 u : s.Undo.length ≤ n
 a : s.Answers.length ≤ n
 p : s.Past.length ≤ n
 b : Smb v.Box
 pl : v.Plan.length ≤ 1000
 st : StepsW s.Cells (if v.Busy = true then v.Plan else [])
theorem WInv.sz {s : Mk.Store} {v : Mk.Server} {n : Nat} (h : WInv s v n) (hn : n ≤ 1000) : Sz s := by
 obtain ⟨l, hl⟩ := h.st.here
 have h1 := hl.len; have h2 := h.u; have h3 := h.a; have h4 := h.p
 exact ⟨by omega, by omega, by omega, by omega⟩
theorem scome_eq (v : Mk.Server) (hb : Smb v.Box) (hp : v.Plan.length ≤ 1000) (b : List UInt8) (hl : b.length ≤ 140737488355328) : serve_Come v b = some (sCome v b) := by
 have hn := hb.n
 unfold serve_Come sCome
 rw [vown_eq v hb hp, obs]
 by_cases h : 3 ≤ v.Box.length
 ·rw [dT (by omega), cT, if_pos h]
 ·rw [dF (by omega), cF, cloneBy_eq _ hl, obs, G_on (by simp; omega), if_neg h]
theorem readReq_call {b : List UInt8} (h : (readReq b).2 = 0) : CallOk (readReq b).1.Call := by
 unfold readReq at h ⊢
 split at h
 ·cases h
 ·split at h
  ·rename_i h5 h6; exact (h6 h).elim
  ·rename_i h5 h6
   rw [if_neg h5, if_neg h6]
   exact (wreq_ok (Classical.not_not.1 h6)).2.2
theorem stake_eq {s : Mk.Store} {v : Mk.Server} {b : List UInt8} {box : List (List UInt8)} (hB : v.Box = b :: box) (hs : Sz s) (hc : ∃ l, RtW s.Cells l) : serve_take s v = some (take1 s v b box) := by
 obtain ⟨l, hl⟩ := hc
 obtain ⟨g, B, bz, nw, P, sy⟩ := v
 simp only at hB
 subst hB
 have e1 : ix (b :: box) 0 = b := rfl
 have e2 : sub (b :: box) 1 ((b :: box).length : Int) = box := by simp [sub]
 unfold serve_take take1
 simp only [e1, e2]
 rw [G_on (by simp <;> omega), readRequest_eq, obs, G_on (by simp <;> omega)]
 by_cases h1 : (readReq b).2 = 0
 ·rw [dT h1, nT, cF, slast_eq _ _ hs.a, obs]
  simp only [h1, ne_eq, not_true, if_false]
  rw [entries_ofW hl, make_eqW hl (readReq_call h1)]
  cases hq : (last s (readReq b).1.Client).2 with
  | false => simp
  | true =>
   by_cases h3 : (last s (readReq b).1.Client).1.Token = (readReq b).1.Token
   ·have h4 : (readReq b).1.Token ≤ (last s (readReq b).1.Client).1.Token := by omega
    rw [dT h3, Bool.and_self, cT, answer_eq, obs, G_on (ansB_ne _), if_pos ⟨rfl, h4⟩, if_pos h3]
   ·rw [dF h3, Bool.and_false, cF]
    by_cases h4 : (readReq b).1.Token ≤ (last s (readReq b).1.Client).1.Token
    ·rw [dT (by omega), Bool.and_self, cT, if_pos ⟨rfl, h4⟩, if_neg h3]
    ·rw [dF (by omega), Bool.and_false, cF, obs, if_neg (by simp; omega)]
 ·rw [dF h1, nF, cT]
  simp only [ne_eq, h1, not_false_eq_true, if_true]
theorem sgo_eq {s : Mk.Store} {v : Mk.Server} {n : Nat} (h : WInv s v n) (hn : n ≤ 1000) : serve_Go s v = some (serve s v) := by
 have hs := h.sz hn
 have hc := h.st.here
 unfold serve_Go
 rw [vown_eq v h.b h.pl, obs]
 unfold serve
 cases hbz : v.Busy with
 | true =>
  simp only [nT, Bool.false_and, cF, if_true]
  cases hP : v.Plan with
  | cons w p =>
   have e1 : ix (w :: p) 0 = w := rfl
   have e2 : sub (w :: p) 1 ((w :: p).length : Int) = p := by simp [sub]
   rw [dT (by simp <;> omega), cT, G_on (by simp <;> omega), G_on (by simp <;> omega), e1, e2, swrite_eq hs, obs]
  | nil =>
   simp only [List.length_nil]
   rw [dF (by decide), cF, answer_eq, obs, scommit_eq hs, obs, G_on (ansB_ne _)]; rfl
 | false =>
  simp only [nF, Bool.true_and, cT, Bool.false_eq_true, if_false]
  cases hB : v.Box with
  | nil =>
   simp only [List.length_nil]
   rw [dT (by decide), cT, own_eq hs, obs]
  | cons b box =>
   rw [dF (by simp <;> omega), cF, stake_eq hB hs hc, obs, own_eq hs, obs]
theorem wr_wrS (s : Mk.Store) (w : Mk.Write) : (wrS s w).Cells = wr s.Cells w ∧ (wrS s w).Undo.length ≤ s.Undo.length + 1 ∧ (wrS s w).Answers = s.Answers ∧ (wrS s w).Past = s.Past := by
 unfold wrS
 split
 ·exact ⟨rfl, by simp, rfl, rfl⟩
 ·rename_i h
  refine ⟨?_, by omega, rfl, rfl⟩
  unfold wr; rw [if_neg h]
theorem WInv.step {s : Mk.Store} {v : Mk.Server} {n : Nat} (h : WInv s v n) : WInv (serve s v).1 (serve s v).2.1 (n + 1) := by
 have h1 := h.u; have h2 := h.a; have h3 := h.p; have h4 := h.pl
 have hst := h.st
 have hb := h.b
 unfold serve
 cases hbz : v.Busy with
 | true =>
  rw [if_pos rfl]
  rw [hbz, if_pos rfl] at hst
  cases hP : v.Plan with
  | cons w p =>
   rw [hP] at hst h4
   obtain ⟨e1, e2, e3, e4⟩ := wr_wrS s w
   exact ⟨by simp only; omega, by simp only [e3]; omega, by simp only [e4]; omega, hb, by simp at h4 ⊢; omega, by simp only [hbz, if_true, e1]; exact hst.2⟩
  | nil =>
   have := ansPut_len s.Answers ⟨v.Now.Client, v.Now.Token, v.Says⟩
   exact ⟨by simp [commit], by simp only [commit]; omega, by simp [commit]; omega, hb, by simp, by simpa using ⟨_, hst.here.choose_spec⟩⟩
 | false =>
  rw [if_neg (by simp)]
  rw [hbz, if_neg (by simp)] at hst
  cases hB : v.Box with
  | nil => exact ⟨by simp only; omega, by simp only; omega, by simp only; omega, hb, by simp only; omega, by simp only [hbz]; simpa using hst⟩
  | cons b box =>
   have hb2 : Smb box := ⟨by have := hb.n; rw [hB] at this; simp at this; omega, fun x hx => hb.b x (by rw [hB]; simp [hx])⟩
   obtain ⟨l, hl⟩ := hst
   show WInv s (take1 s v b box).1 (n + 1)
   unfold take1
   have keep : WInv s { v with Box := box } (n + 1) := ⟨by omega, by omega, by omega, hb2, h4, by simp only [hbz]; exact ⟨l, hl⟩⟩
   split
   ·exact keep
   ·rename_i hr
    split
    ·split
     ·exact keep
     ·exact keep
    ·have hc := readReq_call (Classical.not_not.1 hr)
     refine ⟨by omega, by omega, by omega, hb2, ?_, ?_⟩
     ·have := planR_len (entries s.Cells) (readReq b).1.Call
      simp only; omega
     ·simp only [if_true]
      rw [entries_ofW hl]
      exact steps_plan hl hc
theorem Inv.winv {cs : List (List Mk.Call)} {m : Mk.Machine} (hcs : CsOk cs) (h : Inv cs m) : WInv m.Store m.Server 24 := by
 have hsm := h.smm hcs
 obtain ⟨b0, done, hR, hC, hU, ⟨k, rest, hk, hd⟩, _, hp⟩ := h.st
 have h1 := fwd_len b0 done
 have h2 := plan_part hd
 have h3 := h.law.len hcs
 have h4 := h.law.ans_len hcs
 refine ⟨by rw [hU, List.length_reverse]; omega, by rw [h.ans]; omega, h3, hsm.b, hsm.p, ?_⟩
 cases hb : m.Server.Busy with
 | true =>
  rw [if_pos rfl, hC]
  obtain ⟨c, hc, n1, n2, _⟩ := h.now hb
  have hcal : CallOk m.Server.Now.Call := by rw [n1]; exact hcs.call hc (by omega)
  have := steps_plan hR.w hcal
  rw [hp hb] at this
  exact this.part _ _
 | false =>
  rw [if_neg (by simp), hC]
  have := steps_plan hR.w hk
  rw [hd] at this
  exact (this.part _ _).here
end Sp
end
section
namespace Sp
theorem mnew_loop2 (k : List Mk.Call → List (List Mk.Call) → Int → Int → Mk.Machine → Mk.Machine → List Mk.Client → Option (Mk.Machine × Int)) (K : List Mk.Call) (hK : K.length ≤ 1000) (cs : List (List Mk.Call)) (n i : Int) (y2 y4 : Mk.Machine) (acc : List Mk.Client) : ∀ (m j : Nat), j + m = K.length → ∀ f : Nat, m < f →
  machine_New_l2 k f K cs n i K (K.length : Int) (j : Int) y2 y4 acc = if badC (K.drop j) ≠ 0 then some (mach0, badC (K.drop j)) else k K cs n i y2 y4 acc := by
 intro m
 induction m with
 | zero =>
  intro j hj f hf
  obtain ⟨f, rfl⟩ : ∃ g, f = g + 1 := ⟨f - 1, by omega⟩
  rw [machine_New_l2, dF (by omega), cF, List.drop_of_length_le (by omega)]; rfl
 | succ m ih =>
  intro j hj f hf
  obtain ⟨f, rfl⟩ : ∃ g, f = g + 1 := ⟨f - 1, by omega⟩
  rw [machine_New_l2, dT (by omega), cT, G_on (by omega), model_Wrong_eq, obs, ix_drop K j (by omega), badC]
  by_cases h : wcall (ix K (j : Int)) = 0
  ·rw [dT h, nT, cF, G_on (by unfold I; omega), show ((j : Int) + 1) = ((j + 1 : Nat) : Int) from by omega, ih (j + 1) (by omega) f (by omega)]
   simp [h]
  ·rw [dF h, nF, cT, if_pos (by rw [if_pos h]; exact h), if_pos h]; rfl
theorem mnew_loop1 (cs : List (List Mk.Call)) (hn : cs.length ≤ 3) (k : Mk.Machine → Mk.Machine → List Mk.Client → Option (Mk.Machine × Int)) (y2 y4 : Mk.Machine) : ∀ (m i : Nat), i + m = cs.length → ∀ f : Nat, m < f → ∀ acc : List Mk.Client, acc.length ≤ i →
  machine_New_l1 k f cs (cs.length : Int) (i : Int) y2 y4 acc = if badL (cs.drop i) ≠ 0 then some (mach0, badL (cs.drop i)) else k y2 y4 (acc ++ (cs.drop i).map cl0) := by
 intro m
 induction m with
 | zero =>
  intro i hi f hf acc ha
  obtain ⟨f, rfl⟩ : ∃ g, f = g + 1 := ⟨f - 1, by omega⟩
  rw [machine_New_l1, dF (by omega), cF, List.drop_of_length_le (by omega)]; simp [badL]
 | succ m ih =>
  intro i hi f hf acc ha
  obtain ⟨f, rfl⟩ : ∃ g, f = g + 1 := ⟨f - 1, by omega⟩
  rw [machine_New_l1, dT (by omega), cT, G_on (by omega), ix_drop cs i (by omega), badL]
  by_cases h8 : 8 < (ix cs (i : Int)).length
  ·rw [dT (by omega), cT, if_pos (by rw [if_pos h8]; decide), if_pos h8]; rfl
  ·rw [dF (by omega), cF]
   simp only [J]
   have h2 := fun k => mnew_loop2 k (ix cs (i : Int)) (by omega) cs (cs.length : Int) (i : Int) y2 y4 acc (ix cs (i : Int)).length 0 (by omega) ((((ix cs (i : Int)).length : Int) - 0).toNat + 1) (by omega)
   rw [show ((0 : Nat) : Int) = 0 from rfl] at h2
   rw [h2, List.drop_zero, if_neg h8]
   by_cases hb : badC (ix cs (i : Int)) = 0
   ·rw [if_neg (by simpa using hb), if_neg (show ¬ badC (ix cs (i : Int)) ≠ 0 from by simpa using hb), cloneCa_eq _ (by omega), obs, G_on (by simp; omega), G_on (by unfold I; omega), show ((i : Int) + 1) = ((i + 1 : Nat) : Int) from by omega, ih (i + 1) (by omega) f (by omega) _ (by simp; omega)]
    rw [List.map_cons, List.append_assoc]; rfl
   ·rw [if_pos hb, if_pos hb, if_pos hb]
theorem mnew_eq (l : List (List Mk.Call)) : machine_New l = some (newM l) := by
 unfold machine_New newM
 by_cases h : 3 < l.length
 ·rw [dT (by omega), cT, if_pos h]; rfl
 ·rw [dF (by omega), cF, snew_eq, obs, if_neg h]
  simp only [J]
  have h1 := fun k y2 y4 => mnew_loop1 l (by omega) k y2 y4 l.length 0 (by omega) (((l.length : Int) - 0).toNat + 1) (by omega) [] (by simp)
  rw [show ((0 : Nat) : Int) = 0 from rfl] at h1
  rw [h1, List.drop_zero]
  by_cases hb : badL l = 0
  ·rw [if_neg (by simpa using hb), if_neg (by simpa using hb)]; rfl
  ·rw [if_pos hb, if_pos hb]
section
variable {cs : List (List Mk.Call)} {m : Mk.Machine}
theorem cl_eta (m : Mk.Machine) : ({ ({ m with Clients := ([] : List Mk.Client) }) with Clients := m.Clients } : Mk.Machine) = m := rfl
theorem reqB_isEmpty (r : Mk.Request) : (reqB r).isEmpty = false := by unfold reqB; rfl
theorem ansB_isEmpty (a : Mk.Answer) : (ansB a).isEmpty = false := by unfold ansB; rfl
theorem mgoes_eq (hcs : CsOk cs) (h : Inv cs m) (n : Int) : machine_goes m n = some (doC m n) := by
 have hk := h.nk
 have hn3 := hcs.n
 have hbx := h.box
 have hsm := h.smm hcs
 unfold machine_goes doC
 simp only [J]
 by_cases hn : 0 ≤ n ∧ n < cs.length
 ·have hx := h.cl n hn
  have h8 := hx.le8 hcs h.law hn
  have hcb := hx.box
  have hf : (decide (n < 0) || decide ((m.Clients.length : Int) ≤ n)) = false := by
   simp only [Bool.or_eq_false_iff, decide_eq_false_iff_not]; omega
  rw [hf, cF, G_on (by omega), cgo_eq _ _ _ _ (by omega) (by omega) ⟨hx.at0, by omega⟩, obs, if_neg (show ¬ (n < 0 ∨ (m.Clients.length : Int) ≤ n) from by omega)]
  cases hB : (ix m.Clients n).Box with
  | cons b box =>
   have e : cGo (ix m.Clients n) n m.Server.Gen m.Up = (hear (ix m.Clients n) b box n, [], 0) := by unfold cGo; rw [hB]
   rw [e]
   dsimp only
   rw [dT (p := (0 : Int) = 0) rfl, nT, cF, List.isEmpty_nil, nT, cF, G_on (by omega), if_neg (by simp), if_pos rfl]; rfl
  | nil =>
   by_cases c1 : ((ix m.Clients n).Calls.length : Int) ≤ (ix m.Clients n).At
   ·have e : cGo (ix m.Clients n) n m.Server.Gen m.Up = (ix m.Clients n, [], 11) := by unfold cGo; rw [hB]; simp [c1]
    rw [e]; rfl
   ·rcases Bool.eq_false_or_eq_true m.Up with hu | hu
    rotate_left
    ·have e : cGo (ix m.Clients n) n m.Server.Gen m.Up = (ix m.Clients n, [], 10) := by unfold cGo; rw [hB]; simp [c1, hu]
     rw [e]; rfl
    ·by_cases c2 : (ix m.Clients n).Sent = true ∧ (ix m.Clients n).Gen = m.Server.Gen
     ·have e : cGo (ix m.Clients n) n m.Server.Gen m.Up = (ix m.Clients n, [], 12) := by unfold cGo; rw [hB]; simp [c1, c2, hu]
      rw [e]; rfl
     ·have e : cGo (ix m.Clients n) n m.Server.Gen m.Up = ({ (ix m.Clients n) with Sent := true, Gen := m.Server.Gen }, reqB ⟨n, (ix m.Clients n).At, ix (ix m.Clients n).Calls (ix m.Clients n).At⟩, 0) := by unfold cGo; rw [hB]; simp [c1, c2, hu, hB]
      rw [e]
      dsimp only
      rw [dT (p := (0 : Int) = 0) rfl, nT, cF, reqB_isEmpty, nF, cT, scome_eq _ hsm.b hsm.p _ (by rw [reqB_len]; decide), obs, if_neg (by simp), if_neg (reqB_ne _)]
      by_cases c3 : 3 ≤ m.Server.Box.length
      ·have e2 : sCome m.Server (reqB ⟨n, (ix m.Clients n).At, ix (ix m.Clients n).Calls (ix m.Clients n).At⟩) = (m.Server, 9) := by unfold sCome; rw [if_pos c3]
       rw [e2]; rfl
      ·have e2 : sCome m.Server (reqB ⟨n, (ix m.Clients n).At, ix (ix m.Clients n).Calls (ix m.Clients n).At⟩) = ({ m.Server with Box := m.Server.Box ++ [reqB ⟨n, (ix m.Clients n).At, ix (ix m.Clients n).Calls (ix m.Clients n).At⟩] }, 0) := by unfold sCome; rw [if_neg c3]
       rw [e2]
       dsimp only
       rw [dT (p := (0 : Int) = 0) rfl, nT, cF, G_on (by omega), if_neg (by simp)]; rfl
 ·have hf : (decide (n < 0) || decide ((m.Clients.length : Int) ≤ n)) = true := by
   simp only [Bool.or_eq_true, decide_eq_true_eq]; omega
  rw [hf, cT, if_pos (by omega)]
theorem mserves_eq (hcs : CsOk cs) (h : Inv cs m) (n : Int) : machine_serves m n = some (doS m) := by
 have hk := h.nk
 have hn3 := hcs.n
 have hw := h.winv hcs
 unfold machine_serves doS
 simp only [J]
 rcases Bool.eq_false_or_eq_true m.Up with hu | hu
 rotate_left
 ·rw [if_pos hu, hu]; simp only [nF, cT]; rw [← hu]
 ·rw [if_neg (by rw [hu]; simp), hu, nT, cF, sgo_eq hw (by omega), obs]
  obtain ⟨i1, i2⟩ := h.served hcs hu
  by_cases h0 : (serve m.Store m.Server).2.2.2 = 0
  ·rw [dT h0, nT, cF, if_neg (by simp [h0])]
   rcases i2 h0 with e | ⟨c, t, hc, ht, e⟩
   ·rw [e]
    simp only [List.isEmpty_nil, cT]
    unfold Sp.toC
    rw [if_pos rfl]
   ·have hok : RepOk (ix (heardF [] (serve m.Store m.Server).1.Past c) t) := i1.law.heard_ok hcs c _ (ix_mem _ t (by rw [heardF_len]; exact ht))
    have h8 := hcs.len hc
    have hcl := i1.law.cnt_le c hc
    simp only at hcl
    have hread : readAns (serve m.Store m.Server).2.2.1 = (⟨c, t, ix (heardF [] (serve m.Store m.Server).1.Past c) t⟩, 0) := by rw [e]; exact readAns_ansB (wans_of (by omega) (by omega) hok)
    have hat : ((ix (serve m.Store m.Server).2.2.1 1).toNat : Int) = c := by rw [e]; exact ansB_at _ (by simp only; omega)
    rw [show (serve m.Store m.Server).2.2.1.isEmpty = false from by rw [e]; exact ansB_isEmpty _, cF, readAnswer_eq, obs, hread]
    dsimp only
    rw [dT (p := (0 : Int) = 0) rfl, dT (show c < (m.Clients.length : Int) from by omega), Bool.and_self, cT, G_on (by omega), ccome_eq _ _ (by rw [e, ansB_len]; decide), obs, G_on (by omega)]
    unfold Sp.toC
    rw [if_neg (by rw [e]; exact ansB_ne _), hat, if_pos (by show c < (m.Clients.length : Int); omega)]
    rw [← hu]; rfl
  ·rw [dF h0, nF, cT, if_pos (by simpa using h0), ← hu]
theorem mdo_eq (hcs : CsOk cs) (h : Inv cs m) (s : Mk.Step) : machine_Do m s = some (doM m s) := by
 have hsm := h.smm hcs
 unfold machine_Do doM
 rw [gown_eq m hsm, obs]
 by_cases h1 : s.Kind = 1
 ·rw [dT h1, cT, if_pos h1, cl_eta, mgoes_eq hcs h, obs]
 ·rw [dF h1, cF, if_neg h1]
  by_cases h2 : s.Kind = 2
  ·rw [dT h2, cT, if_pos h2, cl_eta, mserves_eq hcs h, obs]
  ·rw [dF h2, cF, if_neg h2]
   by_cases h3 : s.Kind = 3
   ·rw [dT h3, cT, if_pos h3, cl_eta]
    unfold machine_falls
    rw [cl_eta, gfall_eq m hsm h.falls]; rfl
   ·rw [dF h3, cF, if_neg h3]
    by_cases h4 : s.Kind = 4
    ·rw [dT h4, cT, if_pos h4, cl_eta]
     unfold machine_ticks
     rw [cl_eta, h.gtick hcs]; rfl
    ·rw [dF h4, cF, if_neg h4]
end
end Sp
end
section
namespace Sp
structure Mono (m m' : Mk.Machine) : Prop where
 past : ∃ e, m'.Store.Past = m.Store.Past ++ e
 len : m'.Clients.length = m.Clients.length
 at1 : ∀ c : Int, 0 ≤ c → (ix m.Clients c).At ≤ (ix m'.Clients c).At
theorem Mono.trans {a b c : Mk.Machine} (h1 : Mono a b) (h2 : Mono b c) : Mono a c := by
 obtain ⟨e1, p1⟩ := h1.past
 obtain ⟨e2, p2⟩ := h2.past
 exact ⟨⟨e1 ++ e2, by rw [p2, p1, List.append_assoc]⟩, h2.len.trans h1.len, fun x hx => Int.le_trans (h1.at1 x hx) (h2.at1 x hx)⟩
def pick (n : Int) : List Mk.Request → List Mk.Reply → List Mk.Reply
 | r :: rs, y :: ys => if r.Client = n then y :: pick n rs ys else pick n rs ys
 | _, _ => []
theorem ClOk.got_take {cs : List (List Mk.Call)} {p : List Mk.Request} {g c : Int} {x : Mk.Client} (h : ClOk cs p g c x) : x.Got = (heardF [] p c).take x.Got.length ∧ x.Got.length ≤ cnt p c := by
 have h1 := h.got_len
 have h2 := h.at1
 have e : x.At.toNat = x.Got.length := by omega
 exact ⟨by rw [← e]; exact h.got, by omega⟩
theorem heardF_append (l : List Mk.Write) (p e : List Mk.Request) (c : Int) : heardF l (p ++ e) c = heardF l p c ++ heardF (allN l p) e c := by
 induction p generalizing l with
 | nil => rfl
 | cons r p ih =>
  rw [List.cons_append, heardF, heardF, ih]
  split <;> rfl
theorem Mono.got {cs : List (List Mk.Call)} {m x : Mk.Machine} (h : Inv cs m) (hx : Inv cs x) (hm : Mono m x) (c : Int) (hc : 0 ≤ c ∧ c < cs.length) : (ix m.Clients c).Got.length ≤ (ix x.Clients c).Got.length ∧ (ix x.Clients c).Got.take (ix m.Clients c).Got.length = (ix m.Clients c).Got := by
 obtain ⟨e, he⟩ := hm.past
 have a := h.cl c hc
 have b := hx.cl c hc
 have ga := a.got_len
 have gb := b.got_len
 have hat := hm.at1 c hc.1
 obtain ⟨ta, la⟩ := a.got_take
 obtain ⟨tb, lb⟩ := b.got_take
 have hh := heardF_len [] m.Store.Past c
 refine ⟨by omega, ?_⟩
 rw [he, heardF_append] at tb
 rw [tb, List.take_take, Nat.min_eq_left (by omega), List.take_append_of_le_length (by omega), ← ta]
end Sp
end
section
namespace Sp
def idle (l : List Mk.Client) : Bool := l.all fun c => decide ((c.Calls.length : Int) ≤ c.At)
theorem lidle_loop (l : List Mk.Client) (hl : l.length ≤ 1000) (k : Unit → Option Bool) (hk : k () = some true) : ∀ (m i : Nat), i + m = l.length → ∀ f : Nat, m < f →
  look_Idle_l1 k f l (l.length : Int) (i : Int) = some (idle (l.drop i)) := by
 intro m
 induction m with
 | zero =>
  intro i hi f hf
  obtain ⟨f, rfl⟩ : ∃ g, f = g + 1 := ⟨f - 1, by omega⟩
  rw [look_Idle_l1, dF (by omega), cF, hk, List.drop_of_length_le (by omega)]; rfl
 | succ m ih =>
  intro i hi f hf
  obtain ⟨f, rfl⟩ : ∃ g, f = g + 1 := ⟨f - 1, by omega⟩
  rw [look_Idle_l1, dT (by omega), cT, G_on (by omega), ix_drop l i (by omega)]
  unfold idle
  rw [List.all_cons]
  by_cases h : (ix l (i : Int)).At < ((ix l (i : Int)).Calls.length : Int)
  ·rw [dT h, cT, dF (by omega), Bool.false_and]
  ·rw [dF h, cF, dT (by omega), Bool.true_and, G_on (by unfold I; omega), show ((i : Int) + 1) = ((i + 1 : Nat) : Int) from by omega, ih (i + 1) (by omega) f (by omega)]; rfl
theorem lidle_eq (m : Mk.Machine) (hl : m.Clients.length ≤ 1000) : look_Idle m = some (idle m.Clients) := by
 unfold look_Idle
 simp only [J]
 have := lidle_loop m.Clients hl (fun _ => some true) rfl m.Clients.length 0 (by omega) (((m.Clients.length : Int) - 0).toNat + 1) (by omega)
 rw [show ((0 : Nat) : Int) = 0 from rfl, List.drop_zero] at this
 exact this
theorem ridle_loop (l : List Mk.Client) (hl : l.length ≤ 1000) (k : Bool → Option Bool) : ∀ (m i : Nat), i + m = l.length → ∀ f : Nat, m < f → ∀ b : Bool,
  mkref6_Idle_l1 k f b l (l.length : Int) (i : Int) = k (b && idle (l.drop i)) := by
 intro m
 induction m with
 | zero =>
  intro i hi f hf b
  obtain ⟨f, rfl⟩ : ∃ g, f = g + 1 := ⟨f - 1, by omega⟩
  rw [mkref6_Idle_l1, dF (by omega), cF, List.drop_of_length_le (by omega)]
  unfold idle; rw [List.all_nil, Bool.and_true]
 | succ m ih =>
  intro i hi f hf b
  obtain ⟨f, rfl⟩ : ∃ g, f = g + 1 := ⟨f - 1, by omega⟩
  rw [mkref6_Idle_l1, dT (by omega), cT, G_on (by omega), G_on (by unfold I; omega), show ((i : Int) + 1) = ((i + 1 : Nat) : Int) from by omega, ih (i + 1) (by omega) f (by omega), ix_drop l i (by omega)]
  unfold idle
  rw [List.all_cons, Bool.and_assoc]
theorem ridle_eq (m : Mk.Machine) (hl : m.Clients.length ≤ 1000) : mkref6_Idle m = some (idle m.Clients) := by
 unfold mkref6_Idle
 simp only [J]
 have := ridle_loop m.Clients hl (fun b => some b) m.Clients.length 0 (by omega) (((m.Clients.length : Int) - 0).toNat + 1) (by omega) true
 rw [show ((0 : Nat) : Int) = 0 from rfl, List.drop_zero, Bool.true_and] at this
 exact this
end Sp
end
section
namespace Sp
def csteps : Nat → Nat → List Mk.Step
 | 0, _ => []
 | m + 1, i => ⟨1, (i : Int)⟩ :: csteps m (i + 1)
def roundM (M : Mk.Machine) : Mk.Machine := (doM (runM (tick M) (csteps M.Clients.length 0)) ⟨2, 0⟩).1
def settle : Nat → Mk.Machine → Mk.Machine
 | 0, M => M
 | m + 1, M => if idle M.Clients = true then M else settle m (roundM M)
def rounds : Nat → Mk.Machine → Nat
 | 0, _ => 0
 | m + 1, M => if idle M.Clients = true then 0 else rounds m (roundM M) + 1
section
variable {cs : List (List Mk.Call)} {M : Mk.Machine}
theorem doM_tick (M : Mk.Machine) : doM M ⟨4, 0⟩ = (tick M, 0) := by simp [doM]
theorem tick_clients (M : Mk.Machine) : (tick M).Clients = M.Clients := by unfold tick; split <;> (try rfl); split <;> rfl
theorem fround_loop (hcs : CsOk cs) (k : Mk.Machine → Mk.Machine → Option Mk.Machine) (n : Nat) (hn : n ≤ 1000) (y : Mk.Machine) : ∀ (m i : Nat), i + m = n → ∀ f : Nat, m < f → ∀ M : Mk.Machine, Inv cs M →
  fair_Round_l1 k f (n : Int) (i : Int) y M = k y (runM M (csteps m i)) := by
 intro m
 induction m with
 | zero =>
  intro i hi f hf M hM
  obtain ⟨f, rfl⟩ : ∃ g, f = g + 1 := ⟨f - 1, by omega⟩
  rw [fair_Round_l1, dF (by omega), cF]; rfl
 | succ m ih =>
  intro i hi f hf M hM
  obtain ⟨f, rfl⟩ : ∃ g, f = g + 1 := ⟨f - 1, by omega⟩
  rw [fair_Round_l1, dT (by omega), cT, mdo_eq hcs hM, obs, G_on (by unfold I; omega), show ((i : Int) + 1) = ((i + 1 : Nat) : Int) from by omega, ih (i + 1) (by omega) f (by omega) _ (do_step hcs hM _).2]; rfl
theorem rround_loop (hcs : CsOk cs) (k : Mk.Machine → Mk.Machine → Option Mk.Machine) (n : Nat) (hn : n ≤ 1000) (y : Mk.Machine) : ∀ (m i : Nat), i + m = n → ∀ f : Nat, m < f → ∀ M : Mk.Machine, Inv cs M →
  mkref6_Round_l1 k f (n : Int) (i : Int) M y = k (runM M (csteps m i)) y := by
 intro m
 induction m with
 | zero =>
  intro i hi f hf M hM
  obtain ⟨f, rfl⟩ : ∃ g, f = g + 1 := ⟨f - 1, by omega⟩
  rw [mkref6_Round_l1, dF (by omega), cF]; rfl
 | succ m ih =>
  intro i hi f hf M hM
  obtain ⟨f, rfl⟩ : ∃ g, f = g + 1 := ⟨f - 1, by omega⟩
  rw [mkref6_Round_l1, dT (by omega), cT, (do_step hcs hM _).1, obs, G_on (by unfold I; omega), show ((i : Int) + 1) = ((i + 1 : Nat) : Int) from by omega, ih (i + 1) (by omega) f (by omega) _ (do_step hcs hM _).2]; rfl
theorem inv_round (hcs : CsOk cs) (hM : Inv cs M) : Inv cs (roundM M) := by
 unfold roundM
 exact (do_step hcs (inv_run hcs (inv_tick hM) _) _).2
theorem fround_eq (hcs : CsOk cs) (hM : Inv cs M) : fair_Round M = some (roundM M) := by
 have hn := hM.nk
 have hn3 := hcs.n
 have hT := inv_tick hM
 unfold fair_Round roundM
 rw [mdo_eq hcs hM, obs, doM_tick]
 simp only [J]
 rw [tick_clients]
 have h1 := fun k y => fround_loop hcs k M.Clients.length (by omega) y M.Clients.length 0 (by omega) (((M.Clients.length : Int) - 0).toNat + 1) (by omega) _ hT
 rw [show ((0 : Nat) : Int) = 0 from rfl] at h1
 rw [h1, mdo_eq hcs (inv_run hcs hT _), obs]
theorem rtick_inv (hcs : CsOk cs) (hM : Inv cs M) : mkref6_Tick M = some (tick M) := by
 have hp : 0 ≤ M.Pause ∧ M.Pause ≤ 1000 := by
  rcases Bool.eq_false_or_eq_true M.Up with hu | hu
  ·have := (hM.up hu).1; omega
  ·have := hM.down hu; omega
 exact rtick_eq M (hM.sz hcs) hp ⟨hM.gen, by have := hM.gen6; omega⟩
theorem rround_eq (hcs : CsOk cs) (hM : Inv cs M) : mkref6_Round M = some (roundM M) := by
 have hn := hM.nk
 have hn3 := hcs.n
 have hT := inv_tick hM
 unfold mkref6_Round roundM
 rw [rtick_inv hcs hM, obs]
 simp only [J]
 rw [tick_clients]
 have h1 := fun k y => rround_loop hcs k M.Clients.length (by omega) y M.Clients.length 0 (by omega) (((M.Clients.length : Int) - 0).toNat + 1) (by omega) _ hT
 rw [show ((0 : Nat) : Int) = 0 from rfl] at h1
 rw [h1, (do_step hcs (inv_run hcs hT _) _).1, obs]
theorem fsettle_loop (hcs : CsOk cs) (k : Int → Mk.Machine → Mk.Machine → Option (Mk.Machine × Int)) (y : Mk.Machine) : ∀ (m i : Nat), i + m = 300 → ∀ f : Nat, m < f → ∀ M : Mk.Machine, Inv cs M →
  fair_Settle_l1 k f (i : Int) y M = k ((i + rounds m M : Nat) : Int) y (settle m M) := by
 intro m
 induction m with
 | zero =>
  intro i hi f hf M hM
  obtain ⟨f, rfl⟩ : ∃ g, f = g + 1 := ⟨f - 1, by omega⟩
  rw [fair_Settle_l1, dF (by omega), Cn_no (by simp), obs, Bool.false_and, cF]; rfl
 | succ m ih =>
  intro i hi f hf M hM
  have hn := hM.nk
  have hn3 := hcs.n
  obtain ⟨f, rfl⟩ : ∃ g, f = g + 1 := ⟨f - 1, by omega⟩
  rw [fair_Settle_l1, dT (by omega), Cn_yes rfl, lidle_eq M (by omega), obs, Bool.true_and, settle, rounds]
  cases hid : idle M.Clients with
  | true => rfl
  | false =>
   rw [nF, cT, fround_eq hcs hM, obs, G_on (by unfold I; omega), show ((i : Int) + 1) = ((i + 1 : Nat) : Int) from by omega, ih (i + 1) (by omega) f (by omega) _ (inv_round hcs hM)]
   simp only [Bool.false_eq_true, if_false]
   rw [show i + 1 + rounds m (roundM M) = i + (rounds m (roundM M) + 1) from by omega]
theorem fsettle_eq (hcs : CsOk cs) (hM : Inv cs M) : fair_Settle M = some (settle 300 M, ((rounds 300 M : Nat) : Int)) := by
 unfold fair_Settle
 rw [gown_eq M (hM.smm hcs), obs]
 simp only [J]
 have h1 := fun k y => fsettle_loop hcs k y 300 0 (by omega) (((300 : Int) - 0).toNat + 1) (by omega) _ hM
 rw [show ((0 : Nat) : Int) = 0 from rfl, Nat.zero_add] at h1
 rw [h1]
theorem inv_settle (hcs : CsOk cs) (m : Nat) (hM : Inv cs M) : Inv cs (settle m M) := by
 induction m generalizing M with
 | zero => exact hM
 | succ m ih =>
  unfold settle
  split
  ·exact hM
  ·exact ih (inv_round hcs hM)
theorem fplay_loop (hcs : CsOk cs) (steps : List Mk.Step) (hs : steps.length ≤ 400) (k : Mk.Machine → Mk.Machine → List Int → Option (Mk.Machine × List Int × Int)) (y : Mk.Machine) : ∀ (m i : Nat), i + m = steps.length → ∀ f : Nat, m < f → ∀ (M : Mk.Machine) (es : List Int), es.length ≤ i → Inv cs M →
  fair_Play_l1 k f steps (steps.length : Int) (i : Int) y M es = k y (runM M (steps.drop i)) (es ++ runE M (steps.drop i)) := by
 intro m
 induction m with
 | zero =>
  intro i hi f hf M es he hM
  obtain ⟨f, rfl⟩ : ∃ g, f = g + 1 := ⟨f - 1, by omega⟩
  rw [fair_Play_l1, dF (by omega), cF, List.drop_of_length_le (by omega)]; simp [runM, runE]
 | succ m ih =>
  intro i hi f hf M es he hM
  obtain ⟨f, rfl⟩ : ∃ g, f = g + 1 := ⟨f - 1, by omega⟩
  rw [fair_Play_l1, dT (by omega), cT, G_on (by omega), mdo_eq hcs hM, obs, G_on (by simp; omega), G_on (by unfold I; omega), show ((i : Int) + 1) = ((i + 1 : Nat) : Int) from by omega,
   ih (i + 1) (by omega) f (by omega) _ _ (by simp; omega) (do_step hcs hM _).2, ix_drop steps i (by omega)]
  simp [runM, runE]
end
def fplay (l : List (List Mk.Call)) (steps : List Mk.Step) : Mk.Machine × List Int × Int :=
 if (newM l).2 ≠ 0 then (mach0, [], (newM l).2) else if 400 < steps.length then (mach0, [], 5) else (runM (newM l).1 steps, runE (newM l).1 steps, 0)
theorem fplay_eq (l : List (List Mk.Call)) (steps : List Mk.Step) : fair_Play l steps = some (fplay l steps) := by
 unfold fair_Play fplay
 rw [mnew_eq, obs]
 by_cases h0 : (newM l).2 = 0
 ·rw [dT h0, nT, cF, if_neg (by simpa using h0)]
  by_cases h4 : 400 < steps.length
  ·rw [dT (by omega), cT, if_pos h4]; rfl
  ·rw [dF (by omega), cF, if_neg h4]
   obtain ⟨hcs, hM, _⟩ := newM_inv h0
   simp only [J]
   have h1 := fun k y => fplay_loop hcs steps (by omega) k y steps.length 0 (by omega) (((steps.length : Int) - 0).toNat + 1) (by omega) (newM l).1 [] (by simp) hM
   rw [show ((0 : Nat) : Int) = 0 from rfl, List.drop_zero] at h1
   rw [h1]; rfl
 ·rw [dF h0, nF, cT, if_pos h0]; rfl
theorem ft_loop1 (a : List Int) (ha : a.length ≤ 1000) (k : Mk.Machine → Option Bool) (y : Mk.Machine) : ∀ (m i : Nat), i + m = a.length → ∀ f : Nat, m < f →
  mklaw12_FairTells_l1 k f a a (a.length : Int) (i : Int) y = k y := by
 intro m
 induction m with
 | zero =>
  intro i hi f hf
  obtain ⟨f, rfl⟩ : ∃ g, f = g + 1 := ⟨f - 1, by omega⟩
  rw [mklaw12_FairTells_l1, dF (by omega), cF]
 | succ m ih =>
  intro i hi f hf
  obtain ⟨f, rfl⟩ : ∃ g, f = g + 1 := ⟨f - 1, by omega⟩
  rw [mklaw12_FairTells_l1, dT (by omega), cT, G_on (by omega), G_on (by omega), dT (p := ix a (i : Int) = ix a (i : Int)) rfl, nT, cF, G_on (by unfold I; omega), show ((i : Int) + 1) = ((i + 1 : Nat) : Int) from by omega, ih (i + 1) (by omega) f (by omega)]
theorem ft_loop2 {cs : List (List Mk.Call)} (hcs : CsOk cs) (k : Int → Int → Mk.Machine → Mk.Machine → Option Bool) (r : Int) (y : Mk.Machine) : ∀ (m i : Nat), i + m = 300 → ∀ f : Nat, m < f → ∀ M : Mk.Machine, Inv cs M →
  mklaw12_FairTells_l2 k f r (i : Int) M y = k r ((i + rounds m M : Nat) : Int) (settle m M) y := by
 intro m
 induction m with
 | zero =>
  intro i hi f hf M hM
  obtain ⟨f, rfl⟩ : ∃ g, f = g + 1 := ⟨f - 1, by omega⟩
  rw [mklaw12_FairTells_l2, dF (by omega), Cn_no (by simp), obs, Bool.false_and, cF]; rfl
 | succ m ih =>
  intro i hi f hf M hM
  have hn := hM.nk
  have hn3 := hcs.n
  obtain ⟨f, rfl⟩ : ∃ g, f = g + 1 := ⟨f - 1, by omega⟩
  rw [mklaw12_FairTells_l2, dT (by omega), Cn_yes rfl, ridle_eq M (by omega), obs, Bool.true_and, settle, rounds]
  cases hid : idle M.Clients with
  | true => rfl
  | false =>
   rw [nF, cT, rround_eq hcs hM, obs, G_on (by unfold I; omega), show ((i : Int) + 1) = ((i + 1 : Nat) : Int) from by omega, ih (i + 1) (by omega) f (by omega) _ (inv_round hcs hM)]
   simp only [Bool.false_eq_true, if_false]
   rw [show i + 1 + rounds m (roundM M) = i + (rounds m (roundM M) + 1) from by omega]
theorem runE_len (M : Mk.Machine) (l : List Mk.Step) : (runE M l).length = l.length := by
 induction l generalizing M with
 | nil => rfl
 | cons s l ih => simp [runE, ih]
theorem fairTells (l : List (List Mk.Call)) (steps : List Mk.Step) (hst : steps.length ≤ 9223372036854775807) : mklaw12_FairTells l steps = some true := by
 unfold mklaw12_FairTells
 rw [fplay_eq, obs, rnew_eq, obs]
 simp only [J]
 by_cases h0 : (newM l).2 = 0
 ·by_cases h4 : 400 < steps.length
  ·have e : fplay l steps = (mach0, [], 5) := by unfold fplay; rw [if_neg (by simpa using h0), if_pos h4]
   rw [e, dT h0, dT (show (400 : Int) < (steps.length : Int) from by omega)]; rfl
  ·have e : fplay l steps = (runM (newM l).1 steps, runE (newM l).1 steps, 0) := by unfold fplay; rw [if_neg (by simpa using h0), if_neg h4]
   rw [e, dT h0, dF (show ¬ (400 : Int) < (steps.length : Int) from by omega), Bool.and_false, cF]
   dsimp only
   rw [h0, dT (p := (0 : Int) = 0) rfl, nT, cF, rplay_eq h0 steps hst, obs]
   obtain ⟨hcs, hM, _⟩ := newM_inv h0
   rw [List.take_of_length_le (show steps.length ≤ 400 from by omega)]
   dsimp only
   have hR := inv_run hcs hM steps
   have hE := runE_len (newM l).1 steps
   generalize runM (newM l).1 steps = m at hR
   generalize runE (newM l).1 steps = es at hE
   rw [dT (p := (es.length : Int) = (es.length : Int)) rfl, nT, Bool.or_self, Cn_yes rfl, sameMachine_eq _ _ (hR.smm hcs), obs, dT (p := m = m) rfl, nT, Bool.or_self, cF]
   have h1 := fun k y => ft_loop1 es (by omega) k y es.length 0 (by omega) (((es.length : Int) - 0).toNat + 1) (by omega)
   rw [show ((0 : Nat) : Int) = 0 from rfl] at h1
   rw [h1, fround_eq hcs hR, obs, rround_eq hcs hR, obs, sameMachine_eq _ _ ((inv_round hcs hR).smm hcs), obs, dT (p := roundM m = roundM m) rfl, nT, cF, fsettle_eq hcs hR, obs]
   dsimp only
   have h2 := fun k r y => ft_loop2 hcs k r y 300 0 (by omega) (((300 : Int) - 0).toNat + 1) (by omega) m hR
   rw [show ((0 : Nat) : Int) = 0 from rfl, Nat.zero_add] at h2
   rw [h2, dT (p := ((rounds 300 m : Nat) : Int) = ((rounds 300 m : Nat) : Int)) rfl, Cn_yes rfl, sameMachine_eq _ _ ((inv_settle hcs 300 hR).smm hcs), obs, dT (p := settle 300 m = settle 300 m) rfl]; rfl
 ·have e : fplay l steps = (mach0, [], (newM l).2) := by unfold fplay; rw [if_pos h0]
  rw [e, dF h0, Bool.false_and, cF]
  dsimp only
  rw [nF, cT, dT (p := (newM l).2 = (newM l).2) rfl]; rfl
end Sp
end
