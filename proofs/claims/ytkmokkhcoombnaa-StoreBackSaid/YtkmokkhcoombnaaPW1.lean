/- BYTES OF REQUESTS AND ANSWERS, in plain Lean: no program in sight. -/
import Derived.Test.YtkmokkhcoombnaaP4
import Derived.Test.YtkmokkhcoombnaaSpWire
namespace Sp
set_option linter.unusedVariables false
set_option linter.unusedSimpArgs false
set_option maxHeartbeats 1000000
set_option maxRecDepth 8000

/-- what is wrong with who asks -/
def wwho (c t : Int) : Int := if c < 0 ∨ 3 ≤ c ∨ t < 0 ∨ 8 ≤ t then 3 else 0
def wreq (r : Mk.Request) : Int := if wwho r.Client r.Token ≠ 0 then 3 else wcall r.Call
def wans (a : Mk.Answer) : Int := if wwho a.Client a.Token ≠ 0 ∨ a.Reply.Err < 0 ∨ 12 < a.Reply.Err ∨ a.Reply.N < -1073741824 ∨ 1073741824 < a.Reply.N ∨ (a.Reply.Err ≠ 0 ∧ a.Reply.N ≠ 0) then 3 else 0
theorem model_Wrong_eq (c : Mk.Call) : model_Wrong c = some (wcall c) := by
  unfold model_Wrong wcall model_Wrong_1
  simp only [J, Option.bind_some, Bool.cond_eq_ite, Bool.or_eq_true, Bool.and_eq_true, Bool.not_eq_true', decide_eq_true_eq, decide_eq_false_iff_not, Bool.not_eq_eq_eq_not, Bool.decide_eq_true, Bool.not_true]
  by_cases k : c.Kind < 1 ∨ 6 < c.Kind
  · simp [k]
  simp only [k, if_false]
  by_cases k5 : c.Kind = 5
  · by_cases hn : c.Name = 0
    · by_cases ho : c.Other = 0
      · simp [k5, hn, ho]; try grind
      · simp [k5, hn, ho]; try grind
    · simp [k5, hn]; try grind
  · by_cases k6 : c.Kind = 6
    · simp [k6]; grind
    · simp [k5, k6]; grind
theorem wwho_eq (c t : Int) : wire_who c t = some (wwho c t) := by
  unfold wire_who wwho
  simp only [Bool.cond_eq_ite, Bool.or_eq_true, decide_eq_true_eq]
  grind
theorem rwho_eq (c t : Int) : mkref1_who c t = some (decide (wwho c t = 0)) := by
  unfold mkref1_who wwho
  congr 1
  rw [Bool.eq_iff_iff]
  simp only [Bool.and_eq_true, decide_eq_true_eq]
  constructor
  · intro h; rw [if_neg (by omega)]
  · intro h; split at h <;> omega
theorem wreq_eq (r : Mk.Request) : wire_WrongRequest r = some (wreq r) := by
  unfold wire_WrongRequest wreq
  rw [wwho_eq, Option.bind_some, model_Wrong_eq, Option.bind_some]
  unfold wwho
  grind
theorem rwreq_eq (r : Mk.Request) : mkref1_WrongRequest r = some (wreq r) := by
  unfold mkref1_WrongRequest wreq
  rw [rwho_eq, Option.bind_some, wrongCall_eq, Option.bind_some]
  grind
theorem wans_eq (a : Mk.Answer) : wire_WrongAnswer a = some (wans a) := by
  unfold wire_WrongAnswer wans
  rw [wwho_eq, Option.bind_some]
  unfold wwho
  grind
theorem rwans_eq (a : Mk.Answer) : mkref1_WrongAnswer a = some (wans a) := by
  unfold mkref1_WrongAnswer wans
  rw [rwho_eq, Option.bind_some]
  grind

/-- four bytes of a number -/
def nb (n : Int) : List UInt8 := [u8 (n / 16777216), u8 (n / 65536), u8 (n / 256), u8 n]
def reqB (r : Mk.Request) : List UInt8 := [UInt8.ofNat 113, u8 r.Client, u8 r.Token, u8 r.Call.Kind, u8 r.Call.Name, u8 r.Call.Other] ++ nb r.Call.N
def ansB (a : Mk.Answer) : List UInt8 := [UInt8.ofNat 97, u8 a.Client, u8 a.Token, u8 a.Reply.Err] ++ nb a.Reply.N

theorem num_eq (l : List UInt8) (n : Int) (h : l.length ≤ 1000) : wire_num l n = some (l ++ nb n) := by
  unfold wire_num
  rw [G_on (by simp; omega)]
  rfl
theorem request_eq (r : Mk.Request) : wire_Request r = some (reqB r) := by
  unfold wire_Request
  rw [num_eq _ _ (by simp)]; rfl
theorem answer_eq (a : Mk.Answer) : wire_Answer a = some (ansB a) := by
  unfold wire_Answer
  rw [num_eq _ _ (by simp)]; rfl
theorem u8_congr {x y : Int} (h : x % 256 = y % 256) : u8 x = u8 y := by unfold u8; rw [h]
theorem four_eq (n : Int) : mkref1_four n = some (bts (nb n)) := by
  unfold mkref1_four nb
  have h0 : 0 ≤ n % 4294967296 := by omega
  have e1 : Int.tdiv (n % 4294967296) 16777216 = n % 4294967296 / 16777216 := Int.tdiv_eq_ediv_of_nonneg h0
  have e2 : Int.tdiv (n % 4294967296) 65536 = n % 4294967296 / 65536 := Int.tdiv_eq_ediv_of_nonneg h0
  have e3 : Int.tdiv (n % 4294967296) 256 = n % 4294967296 / 256 := Int.tdiv_eq_ediv_of_nonneg h0
  have e4 : Int.tmod (n % 4294967296 / 65536 % 4294967296) 256 = n % 4294967296 / 65536 % 4294967296 % 256 := Int.tmod_eq_emod_of_nonneg (by omega)
  have e5 : Int.tmod (n % 4294967296 / 256 % 4294967296) 256 = n % 4294967296 / 256 % 4294967296 % 256 := Int.tmod_eq_emod_of_nonneg (by omega)
  have e6 : Int.tmod (n % 4294967296) 256 = n % 4294967296 % 256 := Int.tmod_eq_emod_of_nonneg h0
  simp only [u32, e1, e2, e3, e4, e5, e6]
  rw [u8_congr (x := n % 4294967296 / 16777216 % 4294967296) (y := n / 16777216) (by omega), u8_congr (x := n % 4294967296 / 65536 % 4294967296 % 256) (y := n / 65536) (by omega), u8_congr (x := n % 4294967296 / 256 % 4294967296 % 256) (y := n / 256) (by omega), u8_congr (x := n % 4294967296 % 256) (y := n) (by omega)]
theorem stb_append (a b : ByteArray) : stb (a ++ b) = stb a ++ stb b := by unfold stb; simp
theorem stb_bts (l : List UInt8) : stb (bts l) = l := by simp [stb, bts]
theorem bts_inj {a b : List UInt8} : bts a = bts b ↔ a = b := by
  constructor
  · intro h; rw [← stb_bts a, h, stb_bts]
  · intro h; rw [h]
theorem bts_size (l : List UInt8) : (bts l).size = l.length := by simp [bts, ByteArray.size]
theorem requestBytes_eq (r : Mk.Request) : mkref1_RequestBytes r = some (reqB r) := by
  unfold mkref1_RequestBytes
  rw [G_on (by rw [bts_size]; simp [ByteArray.size]), four_eq, Option.bind_some, G_on (by rw [ByteArray.size_append, bts_size, bts_size]; simp [ByteArray.size, nb])]
  rw [stb_append, stb_append, stb_bts, stb_bts]
  rfl
theorem answerBytes_eq (a : Mk.Answer) : mkref1_AnswerBytes a = some (ansB a) := by
  unfold mkref1_AnswerBytes
  rw [G_on (by rw [bts_size]; simp [ByteArray.size]), four_eq, Option.bind_some, G_on (by rw [ByteArray.size_append, bts_size, bts_size]; simp [ByteArray.size, nb])]
  rw [stb_append, stb_append, stb_bts, stb_bts]
  rfl

/-- a number of four bytes -/
def bn (a b c d : UInt8) : Int := ((a.toNat : Int) * 16777216 + (b.toNat : Int) * 65536 + (c.toNat : Int) * 256 + (d.toNat : Int) + 2147483648) % 4294967296 - 2147483648

theorem orU_add (k : Nat) (hk : k ≤ 32) (x y : Int) (hx : 0 ≤ x ∧ x * 2 ^ k < 4294967296) (hy : 0 ≤ y ∧ y < 2 ^ k) : orU ⟨x * 2 ^ k⟩ ⟨y⟩ = ⟨x * 2 ^ k + y⟩ := by
  obtain ⟨a, rfl⟩ := Int.eq_ofNat_of_zero_le hx.1
  obtain ⟨b, rfl⟩ := Int.eq_ofNat_of_zero_le hy.1
  have hb : b < 2 ^ k := by
    have := hy.2
    have e : ((2 : Int) ^ k) = ((2 ^ k : Nat) : Int) := by norm_cast
    rw [e] at this; exact_mod_cast this
  have ha : a * 2 ^ k < 4294967296 := by
    have := hx.2
    have e : ((a : Int) * 2 ^ k) = ((a * 2 ^ k : Nat) : Int) := by rw [Int.natCast_mul, Int.natCast_pow]; rfl
    rw [e] at this
    revert this
    generalize a * 2 ^ k = m
    intro this; omega
  have hb3 : 2 ^ k ≤ 2 ^ 32 := Nat.pow_le_pow_right (by decide) hk
  have hb2 : b < 4294967296 := by omega
  unfold orU
  congr 1
  have e1 : BitVec.ofInt 32 ((a : Int) * 2 ^ k) = BitVec.ofNat 32 (a * 2 ^ k) := by
    rw [show ((a : Int) * 2 ^ k) = ((a * 2 ^ k : Nat) : Int) by norm_cast]; exact BitVec.ofInt_natCast 32 _
  have e2 : BitVec.ofInt 32 ((b : Int)) = BitVec.ofNat 32 b := BitVec.ofInt_natCast 32 _
  rw [e1, e2, BitVec.toNat_or, BitVec.toNat_ofNat, BitVec.toNat_ofNat, Nat.mod_eq_of_lt ha, Nat.mod_eq_of_lt hb2]
  have := Nat.two_pow_add_eq_or_of_lt hb a
  rw [Nat.mul_comm a, ← this]
  norm_cast
  rw [Nat.mul_comm]
theorem get_eq4 (l : List UInt8) (h : l.length = 4) : wire_get l = some (bn (ix l 0) (ix l 1) (ix l 2) (ix l 3)) := by
  unfold wire_get
  rw [G_on (by omega), G_on (by omega), G_on (by omega), G_on (by omega)]
  have h0 := (ix l 0).toNat_lt
  have h1 := (ix l 1).toNat_lt
  have h2 := (ix l 2).toNat_lt
  have h3 := (ix l 3).toNat_lt
  refine congrArg some ?_
  simp only [shlU]
  show (i32 (orU (orU (orU (u32 (((ix l 0).toNat : Int) * 2 ^ 24)) (u32 (((ix l 1).toNat : Int) * 2 ^ 16))) (u32 (((ix l 2).toNat : Int) * 2 ^ 8))) ⟨((ix l 3).toNat : Int)⟩).n).n = _
  have e0 : u32 (((ix l 0).toNat : Int) * 2 ^ 24) = ⟨((ix l 0).toNat : Int) * 2 ^ 24⟩ := by unfold u32; congr 1; omega
  have e1 : u32 (((ix l 1).toNat : Int) * 2 ^ 16) = ⟨((ix l 1).toNat : Int) * 2 ^ 16⟩ := by unfold u32; congr 1; omega
  have e2 : u32 (((ix l 2).toNat : Int) * 2 ^ 8) = ⟨((ix l 2).toNat : Int) * 2 ^ 8⟩ := by unfold u32; congr 1; omega
  rw [e0, e1, e2, orU_add 24 (by decide) _ _ (by omega) (by omega)]
  rw [show (((ix l 0).toNat : Int) * 2 ^ 24 + ((ix l 1).toNat : Int) * 2 ^ 16) = (((ix l 0).toNat : Int) * 256 + ((ix l 1).toNat : Int)) * 2 ^ 16 from by omega, orU_add 16 (by decide) _ _ (by omega) (by omega)]
  rw [show ((((ix l 0).toNat : Int) * 256 + ((ix l 1).toNat : Int)) * 2 ^ 16 + ((ix l 2).toNat : Int) * 2 ^ 8) = ((((ix l 0).toNat : Int) * 256 + ((ix l 1).toNat : Int)) * 256 + ((ix l 2).toNat : Int)) * 2 ^ 8 from by omega, orU_add 8 (by decide) _ _ (by omega) (by omega)]
  unfold i32 bn
  show (_ + 2147483648) % 4294967296 - 2147483648 = _
  simp only
  congr 2
  omega
theorem num_eq4 (l : List UInt8) (h : l.length = 4) : mkref1_num l = some (bn (ix l 0) (ix l 1) (ix l 2) (ix l 3)) := by
  unfold mkref1_num
  simp only [J]
  have h0 := (ix l 0).toNat_lt
  have h1 := (ix l 1).toNat_lt
  have h2 := (ix l 2).toNat_lt
  have h3 := (ix l 3).toNat_lt
  show mkref1_num_l1 _ 5 l ⟨0⟩ 0 = _
  rw [mkref1_num_l1, decide_eq_true (by decide), cond_true, G_on (by omega), G_on (by decide)]
  show mkref1_num_l1 _ 4 l _ 1 = _
  rw [mkref1_num_l1, decide_eq_true (by decide), cond_true, G_on (by omega), G_on (by decide)]
  show mkref1_num_l1 _ 3 l _ 2 = _
  rw [mkref1_num_l1, decide_eq_true (by decide), cond_true, G_on (by omega), G_on (by decide)]
  show mkref1_num_l1 _ 2 l _ 3 = _
  rw [mkref1_num_l1, decide_eq_true (by decide), cond_true, G_on (by omega), G_on (by decide)]
  show mkref1_num_l1 _ 1 l _ 4 = _
  rw [mkref1_num_l1, decide_eq_false (by decide), cond_false]
  refine congrArg some ?_
  unfold i32 bn u32
  show (_ + 2147483648) % 4294967296 - 2147483648 = _
  simp only
  congr 2
  omega

/-- the request of bytes, and what is wrong -/
def toReq (b : List UInt8) : Mk.Request := ⟨((ix b 1).toNat : Int), ((ix b 2).toNat : Int), ⟨((ix b 3).toNat : Int), ((ix b 4).toNat : Int), ((ix b 5).toNat : Int), bn (ix b 6) (ix b 7) (ix b 8) (ix b 9)⟩⟩
def toAns (b : List UInt8) : Mk.Answer := ⟨((ix b 1).toNat : Int), ((ix b 2).toNat : Int), ⟨((ix b 3).toNat : Int), bn (ix b 4) (ix b 5) (ix b 6) (ix b 7)⟩⟩
def req0 : Mk.Request := ⟨0, 0, ⟨0, 0, 0, 0⟩⟩
def ans0 : Mk.Answer := ⟨0, 0, ⟨0, 0⟩⟩
def readReq (b : List UInt8) : Mk.Request × Int := if b.length ≠ 10 ∨ ix b 0 ≠ UInt8.ofNat 113 then (req0, 2) else if wreq (toReq b) ≠ 0 then (req0, wreq (toReq b)) else (toReq b, 0)
def readAns (b : List UInt8) : Mk.Answer × Int := if b.length ≠ 8 ∨ ix b 0 ≠ UInt8.ofNat 97 then (ans0, 2) else if wans (toAns b) ≠ 0 then (ans0, wans (toAns b)) else (toAns b, 0)

theorem ix_sub {α : Type} [Inhabited α] (l : List α) (i : Int) (k : Int) (hi : 0 ≤ i ∧ i ≤ l.length) (hk : 0 ≤ k ∧ k < l.length - i) : ix (sub l i l.length) k = ix l (i + k) := by
  have h1 : i.toNat + k.toNat < l.length := by omega
  have h2 : k.toNat < (l.length : Int).toNat - i.toNat := by omega
  have h3 : (i + k).toNat = i.toNat + k.toNat := by omega
  simp only [ix, sub, h3, List.getD_eq_getElem?_getD, List.getElem?_take, List.getElem?_drop]
  rw [if_pos h2]
theorem sub_len {α : Type} (l : List α) (i : Int) (hi : 0 ≤ i ∧ i ≤ l.length) : ((sub l i l.length).length : Int) = l.length - i := by
  simp [sub]; omega
theorem readRequest_eq (b : List UInt8) : wire_ReadRequest b = some (readReq b) := by
  unfold wire_ReadRequest readReq
  by_cases hl : b.length = 10
  · rw [G_on (fun _ => by omega), decide_eq_true (by omega)]
    simp only [Bool.not_true, Bool.false_or]
    by_cases h0 : ix b 0 = UInt8.ofNat 113
    · rw [decide_eq_true h0, Bool.not_true, cond_false, G_on (by omega), G_on (by omega), G_on (by omega), G_on (by omega), G_on (by omega), G_on (by omega), get_eq4 _ (by have := sub_len b 6 (by omega); omega), Option.bind_some,
        ix_sub b 6 0 (by omega) (by omega), ix_sub b 6 1 (by omega) (by omega), ix_sub b 6 2 (by omega) (by omega), ix_sub b 6 3 (by omega) (by omega), wreq_eq, Option.bind_some, if_neg (by simp [hl, h0])]
      by_cases hw : wreq (toReq b) = 0
      · rw [if_neg (by simpa using hw)]
        have hw' : wreq (⟨((ix b 1).toNat : Int), ((ix b 2).toNat : Int), ⟨((ix b 3).toNat : Int), ((ix b 4).toNat : Int), ((ix b 5).toNat : Int), bn (ix b (6 + 0)) (ix b (6 + 1)) (ix b (6 + 2)) (ix b (6 + 3))⟩⟩) = 0 := hw
        rw [hw']; rfl
      · rw [if_pos hw]
        have hw' : wreq (⟨((ix b 1).toNat : Int), ((ix b 2).toNat : Int), ⟨((ix b 3).toNat : Int), ((ix b 4).toNat : Int), ((ix b 5).toNat : Int), bn (ix b (6 + 0)) (ix b (6 + 1)) (ix b (6 + 2)) (ix b (6 + 3))⟩⟩) = wreq (toReq b) := rfl
        rw [hw', decide_eq_false hw]; rfl
    · rw [decide_eq_false h0, if_pos (.inr h0)]; rfl
  · rw [G_on (by intro h; simp at h; omega), decide_eq_false (by omega), if_pos (.inl hl)]; rfl
theorem rreadRequest_eq (b : List UInt8) : mkref1_ReadRequest b = some (readReq b) := by
  unfold mkref1_ReadRequest readReq
  by_cases hl : b.length = 10
  · rw [G_on (fun _ => by omega), decide_eq_true (by omega)]
    simp only [Bool.not_true, Bool.false_or]
    by_cases h0 : ix b 0 = UInt8.ofNat 113
    · rw [decide_eq_true h0, Bool.not_true, cond_false, G_on (by omega), G_on (by omega), G_on (by omega), G_on (by omega), G_on (by omega), G_on (by omega), num_eq4 _ (by have := sub_len b 6 (by omega); omega), Option.bind_some,
        ix_sub b 6 0 (by omega) (by omega), ix_sub b 6 1 (by omega) (by omega), ix_sub b 6 2 (by omega) (by omega), ix_sub b 6 3 (by omega) (by omega), rwreq_eq, Option.bind_some, if_neg (by simp [hl, h0])]
      by_cases hw : wreq (toReq b) = 0
      · rw [if_neg (by simpa using hw)]
        have hw' : wreq (⟨((ix b 1).toNat : Int), ((ix b 2).toNat : Int), ⟨((ix b 3).toNat : Int), ((ix b 4).toNat : Int), ((ix b 5).toNat : Int), bn (ix b (6 + 0)) (ix b (6 + 1)) (ix b (6 + 2)) (ix b (6 + 3))⟩⟩) = 0 := hw
        rw [hw']; rfl
      · rw [if_pos hw]
        have hw' : wreq (⟨((ix b 1).toNat : Int), ((ix b 2).toNat : Int), ⟨((ix b 3).toNat : Int), ((ix b 4).toNat : Int), ((ix b 5).toNat : Int), bn (ix b (6 + 0)) (ix b (6 + 1)) (ix b (6 + 2)) (ix b (6 + 3))⟩⟩) = wreq (toReq b) := rfl
        rw [hw', decide_eq_false hw]; rfl
    · rw [decide_eq_false h0, if_pos (.inr h0)]; rfl
  · rw [G_on (by intro h; simp at h; omega), decide_eq_false (by omega), if_pos (.inl hl)]; rfl
theorem readAnswer_eq (b : List UInt8) : wire_ReadAnswer b = some (readAns b) := by
  unfold wire_ReadAnswer readAns
  by_cases hl : b.length = 8
  · rw [G_on (fun _ => by omega), decide_eq_true (by omega)]
    simp only [Bool.not_true, Bool.false_or]
    by_cases h0 : ix b 0 = UInt8.ofNat 97
    · rw [decide_eq_true h0, Bool.not_true, cond_false, G_on (by omega), G_on (by omega), G_on (by omega), G_on (by omega), get_eq4 _ (by have := sub_len b 4 (by omega); omega), Option.bind_some,
        ix_sub b 4 0 (by omega) (by omega), ix_sub b 4 1 (by omega) (by omega), ix_sub b 4 2 (by omega) (by omega), ix_sub b 4 3 (by omega) (by omega), wans_eq, Option.bind_some, if_neg (by simp [hl, h0])]
      by_cases hw : wans (toAns b) = 0
      · rw [if_neg (by simpa using hw)]
        have hw' : wans (⟨((ix b 1).toNat : Int), ((ix b 2).toNat : Int), ⟨((ix b 3).toNat : Int), bn (ix b (4 + 0)) (ix b (4 + 1)) (ix b (4 + 2)) (ix b (4 + 3))⟩⟩) = 0 := hw
        rw [hw']; rfl
      · rw [if_pos hw]
        have hw' : wans (⟨((ix b 1).toNat : Int), ((ix b 2).toNat : Int), ⟨((ix b 3).toNat : Int), bn (ix b (4 + 0)) (ix b (4 + 1)) (ix b (4 + 2)) (ix b (4 + 3))⟩⟩) = wans (toAns b) := rfl
        rw [hw', decide_eq_false hw]; rfl
    · rw [decide_eq_false h0, if_pos (.inr h0)]; rfl
  · rw [G_on (by intro h; simp at h; omega), decide_eq_false (by omega), if_pos (.inl hl)]; rfl
theorem rreadAnswer_eq (b : List UInt8) : mkref1_ReadAnswer b = some (readAns b) := by
  unfold mkref1_ReadAnswer readAns
  by_cases hl : b.length = 8
  · rw [G_on (fun _ => by omega), decide_eq_true (by omega)]
    simp only [Bool.not_true, Bool.false_or]
    by_cases h0 : ix b 0 = UInt8.ofNat 97
    · rw [decide_eq_true h0, Bool.not_true, cond_false, G_on (by omega), G_on (by omega), G_on (by omega), G_on (by omega), num_eq4 _ (by have := sub_len b 4 (by omega); omega), Option.bind_some,
        ix_sub b 4 0 (by omega) (by omega), ix_sub b 4 1 (by omega) (by omega), ix_sub b 4 2 (by omega) (by omega), ix_sub b 4 3 (by omega) (by omega), rwans_eq, Option.bind_some, if_neg (by simp [hl, h0])]
      by_cases hw : wans (toAns b) = 0
      · rw [if_neg (by simpa using hw)]
        have hw' : wans (⟨((ix b 1).toNat : Int), ((ix b 2).toNat : Int), ⟨((ix b 3).toNat : Int), bn (ix b (4 + 0)) (ix b (4 + 1)) (ix b (4 + 2)) (ix b (4 + 3))⟩⟩) = 0 := hw
        rw [hw']; rfl
      · rw [if_pos hw]
        have hw' : wans (⟨((ix b 1).toNat : Int), ((ix b 2).toNat : Int), ⟨((ix b 3).toNat : Int), bn (ix b (4 + 0)) (ix b (4 + 1)) (ix b (4 + 2)) (ix b (4 + 3))⟩⟩) = wans (toAns b) := rfl
        rw [hw', decide_eq_false hw]; rfl
    · rw [decide_eq_false h0, if_pos (.inr h0)]; rfl
  · rw [G_on (by intro h; simp at h; omega), decide_eq_false (by omega), if_pos (.inl hl)]; rfl

/-! ### there, and back -/
theorem u8_nat (x : Int) (h : 0 ≤ x ∧ x ≤ 255) : ((u8 x).toNat : Int) = x := by
  have : (u8 x).toNat = (x % 256).toNat := Nat.mod_eq_of_lt (by omega)
  rw [this]; omega
theorem u8_nat' (x : Int) : ((u8 x).toNat : Int) = x % 256 := by
  have : (u8 x).toNat = (x % 256).toNat := Nat.mod_eq_of_lt (by omega)
  rw [this]; omega
theorem u8_back (b : UInt8) : u8 (b.toNat : Int) = b := by
  have h := b.toNat_lt
  unfold u8
  rw [show ((b.toNat : Int) % 256).toNat = b.toNat from by omega]
  exact UInt8.ofNat_toNat
theorem bn_nb (n : Int) (h : -2147483648 ≤ n ∧ n < 2147483648) : bn (u8 (n / 16777216)) (u8 (n / 65536)) (u8 (n / 256)) (u8 n) = n := by
  unfold bn
  rw [u8_nat', u8_nat', u8_nat', u8_nat']
  omega
theorem nb_bn (a b c d : UInt8) : nb (bn a b c d) = [a, b, c, d] := by
  have h0 := a.toNat_lt
  have h1 := b.toNat_lt
  have h2 := c.toNat_lt
  have h3 := d.toNat_lt
  unfold nb
  rw [u8_congr (x := bn a b c d / 16777216) (y := (a.toNat : Int)) (by unfold bn; omega), u8_congr (x := bn a b c d / 65536) (y := (b.toNat : Int)) (by unfold bn; omega), u8_congr (x := bn a b c d / 256) (y := (c.toNat : Int)) (by unfold bn; omega), u8_congr (x := bn a b c d) (y := (d.toNat : Int)) (by unfold bn; omega),
    u8_back, u8_back, u8_back, u8_back]
theorem wreq_ok {r : Mk.Request} (h : wreq r = 0) : (0 ≤ r.Client ∧ r.Client < 3) ∧ (0 ≤ r.Token ∧ r.Token < 8) ∧ CallOk r.Call := by
  unfold wreq at h
  split at h
  · cases h
  · rename_i hw
    have hw : wwho r.Client r.Token = 0 := by simpa using hw
    unfold wwho at hw
    split at hw
    · simp at hw
    · exact ⟨by omega, by omega, (wcall_ok _).1 h⟩
theorem wans_ok {a : Mk.Answer} (h : wans a = 0) : (0 ≤ a.Client ∧ a.Client < 3) ∧ (0 ≤ a.Token ∧ a.Token < 8) ∧ (0 ≤ a.Reply.Err ∧ a.Reply.Err ≤ 12) ∧ (-1073741824 ≤ a.Reply.N ∧ a.Reply.N ≤ 1073741824) ∧ (a.Reply.Err ≠ 0 → a.Reply.N = 0) := by
  unfold wans at h
  split at h
  · cases h
  · rename_i hw
    simp only [not_or, not_and, ne_eq, Decidable.not_not] at hw
    obtain ⟨hw0, hw⟩ := hw
    unfold wwho at hw0
    split at hw0
    · simp at hw0
    · exact ⟨by omega, by omega, by omega, by omega, by omega⟩
theorem readReq_reqB {r : Mk.Request} (h : wreq r = 0) : readReq (reqB r) = (r, 0) := by
  obtain ⟨h1, h2, h3⟩ := wreq_ok h
  have hk := h3.kind
  have hn := h3.name
  have ho := h3.other
  have hm := h3.num
  have e : toReq (reqB r) = r := by
    obtain ⟨cl, tk, k, nm, ot, n⟩ := r
    simp only at h1 h2 hk hn ho hm
    show (⟨((u8 cl).toNat : Int), ((u8 tk).toNat : Int), ⟨((u8 k).toNat : Int), ((u8 nm).toNat : Int), ((u8 ot).toNat : Int), bn (u8 (n / 16777216)) (u8 (n / 65536)) (u8 (n / 256)) (u8 n)⟩⟩ : Mk.Request) = _
    rw [u8_nat cl (by omega), u8_nat tk (by omega), u8_nat k (by omega), u8_nat nm (by omega), u8_nat ot (by omega), bn_nb n (by omega)]
  unfold readReq
  rw [e, if_neg (by simp [reqB, nb, ix]), if_neg (by simpa using h)]
theorem readAns_ansB {a : Mk.Answer} (h : wans a = 0) : readAns (ansB a) = (a, 0) := by
  obtain ⟨h1, h2, h3, h4, h5⟩ := wans_ok h
  have e : toAns (ansB a) = a := by
    obtain ⟨cl, tk, er, n⟩ := a
    simp only at h1 h2 h3 h4 h5
    show (⟨((u8 cl).toNat : Int), ((u8 tk).toNat : Int), ⟨((u8 er).toNat : Int), bn (u8 (n / 16777216)) (u8 (n / 65536)) (u8 (n / 256)) (u8 n)⟩⟩ : Mk.Answer) = _
    rw [u8_nat cl (by omega), u8_nat tk (by omega), u8_nat er (by omega), bn_nb n (by omega)]
  unfold readAns
  rw [e, if_neg (by simp [ansB, nb, ix]), if_neg (by simpa using h)]
theorem list10 {b : List UInt8} (h : b.length = 10) : b = [ix b 0, ix b 1, ix b 2, ix b 3, ix b 4, ix b 5, ix b 6, ix b 7, ix b 8, ix b 9] := by
  match b, h with
  | [a0, a1, a2, a3, a4, a5, a6, a7, a8, a9], _ => rfl
theorem list8 {b : List UInt8} (h : b.length = 8) : b = [ix b 0, ix b 1, ix b 2, ix b 3, ix b 4, ix b 5, ix b 6, ix b 7] := by
  match b, h with
  | [a0, a1, a2, a3, a4, a5, a6, a7], _ => rfl
theorem reqB_readReq {b : List UInt8} (h : (readReq b).2 = 0) : reqB (readReq b).1 = b ∧ b.length = 10 := by
  unfold readReq at h ⊢
  split at h
  · simp at h
  · rename_i h1
    simp only [not_or, ne_eq, Decidable.not_not] at h1
    split at h
    · exact absurd h ‹_›
    · rename_i h2
      rw [if_neg (by simp [h1]), if_neg h2]
      refine ⟨?_, h1.1⟩
      conv => rhs; rw [list10 h1.1]
      simp only [reqB, toReq, u8_back, nb_bn, h1.2]
      rfl
theorem ansB_readAns {b : List UInt8} (h : (readAns b).2 = 0) : ansB (readAns b).1 = b ∧ b.length = 8 := by
  unfold readAns at h ⊢
  split at h
  · simp at h
  · rename_i h1
    simp only [not_or, ne_eq, Decidable.not_not] at h1
    split at h
    · exact absurd h ‹_›
    · rename_i h2
      rw [if_neg (by simp [h1]), if_neg h2]
      refine ⟨?_, h1.1⟩
      conv => rhs; rw [list8 h1.1]
      simp only [ansB, toAns, u8_back, nb_bn, h1.2]
      rfl
theorem reqB_inj {p q : Mk.Request} (hp : wreq p = 0) (hq : wreq q = 0) : reqB p = reqB q ↔ p = q := by
  constructor
  · intro h
    have h1 := readReq_reqB hp
    rw [h, readReq_reqB hq] at h1
    exact (Prod.mk.inj h1).1.symm
  · intro h; rw [h]
theorem ansB_inj {p q : Mk.Answer} (hp : wans p = 0) (hq : wans q = 0) : ansB p = ansB q ↔ p = q := by
  constructor
  · intro h
    have h1 := readAns_ansB hp
    rw [h, readAns_ansB hq] at h1
    exact (Prod.mk.inj h1).1.symm
  · intro h; rw [h]
end Sp
