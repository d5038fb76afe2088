/- THE STATEMENTS OF CHAPTER 4, of what the functions answer: plain Lean, no program in sight. -/
import Derived.Test.YtkmokkhcoombnaaP5
namespace Sp
set_option linter.unusedVariables false
set_option linter.unusedSimpArgs false
set_option maxHeartbeats 1000000

theorem sameWrites_loop (a b : List Mk.Write) (hab : a.length = b.length) (hl : a.length ≤ 9223372036854775807) (k : Unit → Option Bool) (hk : k () = some true) : ∀ (m i : Nat), i + m = a.length → ∀ f : Nat, m < f →
    mkref1_SameWrites_l1 k f a b (a.length : Int) (i : Int) = some (decide (a.drop i = b.drop i)) := by
  intro m
  induction m with
  | zero =>
    intro i hi f hf
    obtain ⟨f, rfl⟩ : ∃ g, f = g + 1 := ⟨f - 1, by omega⟩
    rw [mkref1_SameWrites_l1, decide_eq_false (by omega), cond_false, hk, List.drop_of_length_le (by omega), List.drop_of_length_le (by omega)]
    simp
  | succ m ih =>
    intro i hi f hf
    obtain ⟨f, rfl⟩ : ∃ g, f = g + 1 := ⟨f - 1, by omega⟩
    rw [mkref1_SameWrites_l1, decide_eq_true (by omega), cond_true, G_on (by omega), G_on (by omega), ix_drop a i (by omega), ix_drop b i (by omega)]
    by_cases h : ix a (i : Int) = ix b (i : Int)
    · rw [decide_eq_true h, Bool.not_true, cond_false, G_on (by unfold I; omega), show ((i : Int) + 1) = ((i + 1 : Nat) : Int) from by omega, ih (i + 1) (by omega) f (by omega)]
      simp [h]
    · rw [decide_eq_false h, Bool.not_false, cond_true]
      simp [h]
theorem sameWrites_eq (a b : List Mk.Write) (hl : a.length ≤ 9223372036854775807) : mkref1_SameWrites a b = some (decide (a = b)) := by
  unfold mkref1_SameWrites
  simp only [J]
  by_cases h : a.length = b.length
  · rw [decide_eq_true (by omega), Bool.not_true, cond_false]
    have := sameWrites_loop a b h hl (fun _ => some true) rfl a.length 0 (by omega) (((a.length : Int) - 0).toNat + 1) (by omega)
    rw [show ((0 : Nat) : Int) = 0 from rfl] at this
    rw [this]; simp
  · rw [decide_eq_false (by omega), Bool.not_false, cond_true]
    congr 1
    exact (decide_eq_false fun e => h (by rw [e])).symm

theorem ix_set_same {l : List Mk.Write} (k : Int) (w : Mk.Write) (hk : 0 ≤ k ∧ k < l.length) : ix (l.set k.toNat w) k = w := by
  have : k.toNat < l.length := by omega
  simp [ix, this]
theorem ix_set_other {l : List Mk.Write} (k j : Int) (w : Mk.Write) (hk : 0 ≤ k ∧ k < l.length) (hj : 0 ≤ j) (hkj : k ≠ j) : ix (l.set k.toNat w) j = ix l j := by
  have : k.toNat ≠ j.toNat := by omega
  simp [ix, List.getElem?_set, this]
theorem ix_take {l : List Mk.Write} (n : Nat) (j : Int) (hj : 0 ≤ j ∧ j < n) : ix (l.take n) j = ix l j := by
  have : j.toNat < n := by omega
  simp [ix, List.getElem?_take, this]

theorem rplan_eq {c : List Int} {l : List Mk.Write} {call : Mk.Call} (h : Rt c l) (hc : CallOk call) : mkref1_Plan c call = some (planR l call) := by
  have hle := h.le
  have hlen := h.len
  have hn := h.n
  have hr := pos_range l call.Name
  have ho := pos_range l call.Other
  have hnum := hc.num
  have hk := hc.kind
  unfold mkref1_Plan planR
  rw [of_eq h, Option.bind_some, do_eqP h.nm hc, Option.bind_some]
  have kk : call.Kind = 1 ∨ call.Kind = 2 ∨ call.Kind = 3 ∨ call.Kind = 4 ∨ call.Kind = 5 ∨ call.Kind = 6 := by omega
  by_cases hp : pos l call.Name < 0
  · by_cases h5 : 5 ≤ l.length
    · have h5' : 5 ≤ (l.length : Int) := by omega
      rcases kk with k | k | k | k | k | k
      all_goals simp (disch := first | omega | (unfold I; omega)) [doP, k, hp, h5, h5', ↓G_on, ↓Bool.cond_eq_ite, ↓reduceIte, J, rfind_eq h]
    · have h5' : ¬ 5 ≤ (l.length : Int) := by omega
      rcases kk with k | k | k | k | k | k
      · have e1 : 2 * ((l.length : Int) + 1) - 1 = 1 + 2 * (l.length : Int) := by omega
        have e2 : 2 * ((l.length : Int) + 1) = 2 + 2 * (l.length : Int) := by omega
        have e3 : 2 + 2 * (l.length : Int) - 1 = 1 + 2 * (l.length : Int) := by omega
        have e4 : ¬ ((l.length : Int) + 1 = l.length) := by omega
        simp (disch := first | omega | (simp; omega) | (unfold I; omega) | (unfold I; simp; omega)) [doP, k, hp, h5, h5', ↓G_on, ↓Bool.cond_eq_ite, ↓reduceIte, J, rfind_eq h, e1, e2, e3, e4, G_true]
      all_goals simp (disch := first | omega | (unfold I; omega)) [doP, k, hp, h5, h5', ↓G_on, ↓Bool.cond_eq_ite, ↓reduceIte, J, rfind_eq h]
  · have hp0 : 0 ≤ pos l call.Name := by omega
    have hs := (pos_spec l call.Name hp0).1
    have hlt : l.length - 1 + 1 = l.length := by omega
    rcases kk with k | k | k | k | k | k
    · have hx := ix_set_same (l := l) (pos l call.Name) ⟨call.Name, call.N⟩ ⟨hp0, hr.2⟩
      simp (disch := first | omega | (simp; omega) | (unfold I; omega)) [doP, k, hp, ↓G_on, ↓Bool.cond_eq_ite, ↓reduceIte, J, rfind_eq h, hx]
    · simp (disch := first | omega | (simp; omega) | (unfold I; omega)) [doP, k, hp, ↓G_on, ↓Bool.cond_eq_ite, ↓reduceIte, J, rfind_eq h]
    · have hx : pos l call.Name < (l.length : Int) - 1 → ix ((l.set (pos l call.Name).toNat (ix l ((l.length : Int) - 1))).take (l.length - 1)) (pos l call.Name) = ix l ((l.length : Int) - 1) := by
        intro hl
        rw [ix_take _ _ (by omega), ix_set_same _ _ ⟨hp0, hr.2⟩]
      have hd : doP l call = ((l.set (pos l call.Name).toNat (ix l ((l.length : Int) - 1))).take (l.length - 1), ⟨0, (ix l (pos l call.Name)).N⟩) := by simp [doP, k, hp]
      have ht : (((l.set (pos l call.Name).toNat (ix l ((l.length : Int) - 1))).take (l.length - 1)).length : Int) = (l.length : Int) - 1 := by simp; omega
      rw [hd]
      revert ht hx
      generalize (l.set (pos l call.Name).toNat (ix l ((l.length : Int) - 1))).take (l.length - 1) = t
      intro hx ht
      have e4 : ¬ ((l.length : Int) - 1 = l.length) := by omega
      by_cases hl : pos l call.Name < (l.length : Int) - 1
      · simp (disch := first | omega | (simp; omega) | (unfold I; omega)) [k, hp, ↓G_on, ↓Bool.cond_eq_ite, ↓reduceIte, J, rfind_eq h, hx hl, hl, ht, e4, G_true]
      · simp (disch := first | omega | (simp; omega) | (unfold I; omega)) [k, hp, ↓G_on, ↓Bool.cond_eq_ite, ↓reduceIte, J, rfind_eq h, hl, ht, e4, G_true]
    · generalize hx : (ix l (pos l call.Name)).N + call.N = x
      have hy := ix_set_same (l := l) (pos l call.Name) ⟨call.Name, x⟩ ⟨hp0, hr.2⟩
      by_cases l1 : x < -1073741824
      · simp (disch := first | omega | (simp; omega) | (unfold I; omega)) [doP, k, hp, ↓G_on, ↓Bool.cond_eq_ite, ↓reduceIte, J, rfind_eq h, hx, l1]
      · by_cases l2 : 1073741824 < x
        · simp (disch := first | omega | (simp; omega) | (unfold I; omega)) [doP, k, hp, ↓G_on, ↓Bool.cond_eq_ite, ↓reduceIte, J, rfind_eq h, hx, l1, l2]
        · simp (disch := first | omega | (simp; omega) | (unfold I; omega)) [doP, k, hp, ↓G_on, ↓Bool.cond_eq_ite, ↓reduceIte, J, rfind_eq h, hx, l1, l2, hy]
    · simp (disch := first | omega | (simp; omega) | (unfold I; omega)) [doP, k, hp, ↓G_on, ↓Bool.cond_eq_ite, ↓reduceIte, J, rfind_eq h]
    · by_cases hl : pos l call.Other < 0
      · simp (disch := first | omega | (simp; omega) | (unfold I; omega)) [doP, k, hp, ↓G_on, ↓Bool.cond_eq_ite, ↓reduceIte, J, rfind_eq h, hl]
      · have ho0 : 0 ≤ pos l call.Other := by omega
        have hso := (pos_spec l call.Other ho0).1
        have hy := ix_set_same (l := l.set (pos l call.Name).toNat ⟨call.Name, (ix l (pos l call.Other)).N⟩) (pos l call.Other) ⟨call.Other, (ix l (pos l call.Name)).N⟩ ⟨ho0, by simp; omega⟩
        have hz : (ix ((l.set (pos l call.Name).toNat ⟨call.Name, (ix l (pos l call.Other)).N⟩).set (pos l call.Other).toNat ⟨call.Other, (ix l (pos l call.Name)).N⟩) (pos l call.Name)).N = (ix l (pos l call.Other)).N := by
          by_cases e : pos l call.Other = pos l call.Name
          · simp only [e] at hy ⊢; rw [hy]
          · rw [ix_set_other _ _ _ ⟨ho0, by simp; omega⟩ hp0 e, ix_set_same _ _ ⟨hp0, hr.2⟩]
        simp (disch := first | omega | (simp; omega) | (unfold I; omega)) [doP, k, hp, ↓G_on, ↓Bool.cond_eq_ite, ↓reduceIte, J, rfind_eq h, hl, hy, hz]

theorem planR_len (l : List Mk.Write) (c : Mk.Call) : (planR l c).1.length ≤ 3 := by
  unfold planR
  repeat' split
  all_goals simp

theorem planTells (c : List Int) (call : Mk.Call) : mklaw4_PlanTells c call = some true := by
  unfold mklaw4_PlanTells
  obtain ⟨e, h1, h2⟩ := wc_eq c
  rw [h1, Option.bind_some, wrongCall_eq]
  by_cases he : e = 0
  · rw [Cn_yes (by simpa using he), Option.bind_some]
    by_cases hw : wcall call = 0
    · have hc := (wcall_ok call).1 hw
      have hR := h2 he
      have hle := planR_len (entries c) call
      rw [decide_eq_true he, decide_eq_true hw]
      simp only [Bool.not_true, Bool.or_false, cond_false]
      rw [make_eq hR hc, Option.bind_some, rplan_eq hR hc, Option.bind_some, sameWrites_eq _ _ (by omega), Cn_yes (by simp)]
      simp
    · rw [decide_eq_false hw]; simp
  · rw [Cn_no (by simpa using he), Option.bind_some, decide_eq_false he]; simp
end Sp
