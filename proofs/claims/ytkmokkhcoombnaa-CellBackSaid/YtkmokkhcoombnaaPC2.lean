/- THE STATEMENTS OF CHAPTER 1, of what the functions answer: plain Lean, no program in sight. -/
import Derived.Test.YtkmokkhcoombnaaPC1
import Derived.Test.YtkmokkhcoombnaaSpCellL
namespace Sp
set_option linter.unusedVariables false
set_option linter.unusedSimpArgs false
set_option maxHeartbeats 1000000
theorem law1_alive : mklaw1_alive = some true := by decide +kernel
theorem cellTells (c : List Int) (l : List Mk.Write) (x : Int) (hc : c.length * 8 ≤ 140737488355328) (hl : l.length * 16 ≤ 140737488355328) : mklaw1_CellTells c l x = some true := by
  have hf := fwd_len c l
  have e0 : mkref1_SameInts (List.replicate (Int.toNat 11) 0) (List.replicate (Int.toNat 11) 0) = some true := by rw [sameInts_eq _ _ (by simp)]; simp
  have e1 : mkref1_SameInts (wrs c l) (wrs c l) = some true := by rw [sameInts_eq _ _ (by rw [wrs_len]; omega)]; simp
  have e2 : mkref1_SameWrites (fwd c l).reverse (fwd c l).reverse = some true := by rw [sameWrites_eq _ _ (by simp; omega)]; simp
  unfold mklaw1_CellTells cell_New
  rw [G_on (by decide), Option.bind_some, G_on (by decide), e0, Option.bind_some, cwcells_eq, rwcells_eq, cset_eq c hc l (by omega), rset_eq c hc l (by omega), cundo_eq c hc l hl, rundo_eq c hc l hl]
  by_cases h : wcells c = 0
  · have hR := wcells_rt h
    simp [Cn, e1, e2, h, find_eq hR, rfind_eq hR]
  · simp [Cn, e1, e2, h]
theorem wr_apart (c : List Int) (a b : Mk.Write) (h : a.At ≠ b.At) : wr (wr c a) b = wr (wr c b) a := by
  apply ix_ext
  · rw [wr_len, wr_len, wr_len, wr_len]
  · intro i hi
    rw [wr_len, wr_len] at hi
    rw [ix_wr _ _ _ (by rw [wr_len]; omega), ix_wr _ _ _ (by omega), ix_wr _ _ _ (by rw [wr_len]; omega), ix_wr _ _ _ (by omega)]
    split
    · rename_i e
      rw [if_neg (by omega)]
    · rfl
theorem cellApart (c : List Int) (a b : Mk.Write) (hc : c.length * 8 ≤ 140737488355328) : mklaw1_CellApart c a b = some true := by
  unfold mklaw1_CellApart
  rw [law1_alive, Option.bind_some, Bool.not_true, cond_false]
  by_cases h : a.At = b.At
  · rw [decide_eq_true h, cond_true]
  · have e : wrs c [a, b] = wrs c [b, a] := wr_apart c a b h
    rw [decide_eq_false h, cond_false, cset_eq c hc _ (by simp), Option.bind_some, cset_eq c hc _ (by simp), Option.bind_some, e, sameInts_eq _ _ (by rw [wrs_len]; omega), Option.bind_some, decide_eq_true rfl, cset_eq c hc _ (by simp), Cn_yes rfl, Option.bind_some,
      cset_eq _ (by rw [wrs_len]; exact hc) _ (by simp), Cn_yes rfl, Option.bind_some, Cn_yes rfl, Option.bind_some, sameInts_eq _ _ (by rw [wrs_len, wrs_len]; omega), Cn_yes rfl, Option.bind_some]
    have e2 : wrs (wrs c [a]) [b] = wrs c [b, a] := by rw [← e]; rfl
    rw [e2]; simp
theorem cellBack (c : List Int) (l : List Mk.Write) (k : Int) (hc : c.length * 8 ≤ 140737488355328) (hl : l.length * 16 ≤ 140737488355328) : mklaw1_CellBack c l k = some true := by
  unfold mklaw1_CellBack
  rw [law1_alive, Option.bind_some, Bool.not_true, cond_false]
  by_cases hk : 0 ≤ k ∧ k ≤ l.length
  · have hb : (decide (k < 0) || decide ((l.length : Int) < k)) = false := by
      simp only [Bool.or_eq_false_iff, decide_eq_false_iff_not]; omega
    have hf := fwd_len c l
    have hf2 := fwd_len c (l.take k.toNat)
    have hs : sub l 0 k = l.take k.toNat := by simp
    rw [List.length_take] at hf2
    rw [hb, cond_false, cset_eq c hc l (by omega), Option.bind_some, cundo_eq c hc l hl, Option.bind_some, cset_eq _ (by rw [wrs_len]; exact hc) _ (by simp; omega), Option.bind_some, wrs_back, sameInts_eq _ _ (by omega), Option.bind_some, decide_eq_true rfl,
      G_on (fun _ => by omega), hs, cset_eq c hc _ (by simp; omega), Cn_yes rfl, Option.bind_some, G_on (fun _ => by omega), cundo_eq c hc _ (by simp; omega), Cn_yes rfl, Option.bind_some, cset_eq _ (by rw [wrs_len]; exact hc) _ (by simp; omega), Cn_yes rfl, Option.bind_some, wrs_back, sameInts_eq _ _ (by omega), Cn_yes rfl, Option.bind_some]
    simp
  · have hb : (decide (k < 0) || decide ((l.length : Int) < k)) = true := by
      simp only [Bool.or_eq_true, decide_eq_true_eq]; omega
    rw [hb, cond_true]
end Sp
