/- PlanModel and PlanLate, of what the functions answer. Plain Lean, no program in sight. -/
import Derived.Test.YtpicjflhhgildaaP8
namespace Sp
set_option linter.unusedVariables false
set_option linter.unusedSimpArgs false
set_option maxHeartbeats 1000000

theorem law4_alive : mklaw4_alive = some true := by decide +kernel

theorem planModel (c : List Int) (call : Mk.Call) : mklaw4_PlanModel c call = some true := by
  unfold mklaw4_PlanModel
  obtain ⟨e, h1, h2⟩ := wc_eq c
  rw [law4_alive, Option.bind_some, Bool.not_true, cond_false, h1, Option.bind_some, wrongCall_eq]
  by_cases he : e = 0
  · rw [Cn_yes (by simpa using he), Option.bind_some]
    by_cases hw : wcall call = 0
    · have hc := (wcall_ok call).1 hw
      have hR := h2 he
      have hle := planR_len (entries c) call
      obtain ⟨hd, hq⟩ := plan_rt hR hc
      have hdle := hd.le
      rw [decide_eq_true he, decide_eq_true hw]
      simp only [Bool.not_true, Bool.or_false, cond_false]
      rw [make_eq hR hc, Option.bind_some, rset2_eq _ (by rw [hR.len]; decide) _ (by omega), Option.bind_some, of_eq hR, Option.bind_some, do_eqP hR.nm hc, Option.bind_some, wc_rt hd, Cn_yes (by simpa using hq), Option.bind_some, of_eq hd, Cn_yes (by simpa using hq), Option.bind_some, sameWrites_eq _ _ (by omega), Cn_yes (by simpa using hq), Option.bind_some]
      have : ((planR (entries c) call).1.length : Int) ≤ 3 := by omega
      simp [hq, this]
    · rw [decide_eq_false hw]; simp
  · rw [Cn_no (by simpa using he), Option.bind_some, decide_eq_false he]; simp

theorem planLate_zero {c : List Int} {l : List Mk.Write} {call : Mk.Call} (h : Rt c l) (hc : CallOk call) (k : Nat) (hk : k < (planR l call).1.length) : ix (wrs c ((planR l call).1.take k)) 0 = ix c 0 := by
  have hlen := h.len
  have hr := pos_range l call.Name
  have ho := pos_range l call.Other
  rw [ix_wrs _ _ _ (by omega)]
  revert hk
  unfold planR
  repeat' split
  all_goals intro hk; simp only [List.length_cons, List.length_nil, Nat.zero_add] at hk
  all_goals first | omega | skip
  all_goals
    have hk3 : k = 0 ∨ k = 1 ∨ k = 2 := by omega
    rcases hk3 with rfl | rfl | rfl
  all_goals first | omega | skip
  all_goals simp only [List.take_zero, List.take_succ_cons, cellBehind, List.foldl_cons, List.foldl_nil]
  all_goals repeat rw [if_neg (by omega)]
theorem planLate_of {c : List Int} {l : List Mk.Write} {call : Mk.Call} (h : Rt c l) (hc : CallOk call) (h1 : call.Kind = 1) (k : Nat) (hk : k < (planR l call).1.length) : Rt (wrs c ((planR l call).1.take k)) l := by
  have hlen := h.len
  have hr := pos_range l call.Name
  refine rt_of (by rw [wrs_len]; exact hlen) h.nm (by rw [planLate_zero h hc k hk]; exact h.n) fun i hi => ?_
  have := h.ats i hi
  have hle := h.le
  rw [ix_wrs _ _ _ (by omega), ix_wrs _ _ _ (by omega), ← this.1, ← this.2]
  revert hk
  unfold planR
  rw [if_neg (by omega)]
  split
  · split
    · intro hk; simp at hk
    · intro hk
      simp only [List.length_cons, List.length_nil, Nat.zero_add] at hk
      have hk3 : k = 0 ∨ k = 1 ∨ k = 2 := by omega
      rcases hk3 with rfl | rfl | rfl
      all_goals simp only [List.take_zero, List.take_succ_cons, cellBehind, List.foldl_cons, List.foldl_nil]
      · simp
      · rw [if_neg (by omega), if_neg (by omega)]; simp
      · rw [if_neg (by omega), if_neg (by omega), if_neg (by omega), if_neg (by omega)]; simp
  · intro hk
    simp only [List.length_cons, List.length_nil, Nat.zero_add] at hk
    obtain rfl : k = 0 := by omega
    exact ⟨rfl, rfl⟩
theorem planLate (c : List Int) (call : Mk.Call) (k : Int) : mklaw4_PlanLate c call k = some true := by
  unfold mklaw4_PlanLate
  obtain ⟨e, h1, h2⟩ := wc_eq c
  rw [law4_alive, Option.bind_some, Bool.not_true, cond_false, h1, Option.bind_some, wrongCall_eq]
  by_cases he : e = 0
  · rw [Cn_yes (by simpa using he), Option.bind_some]
    by_cases hw : wcall call = 0
    · have hc := (wcall_ok call).1 hw
      have hR := h2 he
      have hle := planR_len (entries c) call
      rw [decide_eq_true he, decide_eq_true hw]
      simp only [Bool.not_true, Bool.or_false, cond_false]
      rw [make_eq hR hc, Option.bind_some]
      by_cases hk : 0 ≤ k ∧ k < ((planR (entries c) call).1.length : Int)
      · have hkn : k.toNat < (planR (entries c) call).1.length := by omega
        have hz := planLate_zero hR hc k.toNat hkn
        rw [decide_eq_false (by omega), decide_eq_false (by omega), Bool.or_false, cond_false, G_on (by omega), rset2_eq _ (by rw [hR.len]; decide) _ (by simp; omega), Option.bind_some]
        have hs : sub (planR (entries c) call).1 0 k = (planR (entries c) call).1.take k.toNat := by simp
        have hlen := hR.len
        have hle5 := hR.le
        rw [hs, G_on (by rw [wrs_len]; omega), G_on (by omega), hz, decide_eq_true rfl, Bool.not_true, cond_false]
        by_cases hk1 : call.Kind = 1
        · have hl := planLate_of hR hc hk1 k.toNat hkn
          rw [Cn_yes (by simpa using hk1), of_eq hl, Option.bind_some, Cn_yes (by simpa using hk1), of_eq hR, Option.bind_some, Cn_yes (by simpa using hk1), sameWrites_eq _ _ (by omega)]
          simp
        · rw [Cn_no (by simpa using hk1), Option.bind_some, Cn_no (by simpa using hk1), Option.bind_some, Cn_no (by simpa using hk1), Option.bind_some]
          simp [hk1]
      · have : (decide (k < 0) || decide (((planR (entries c) call).1.length : Int) ≤ k)) = true := by
          simp only [Bool.or_eq_true, decide_eq_true_eq]; omega
        rw [this, cond_true]
    · rw [decide_eq_false hw]; simp
  · rw [Cn_no (by simpa using he), Option.bind_some, decide_eq_false he]; simp
end Sp
