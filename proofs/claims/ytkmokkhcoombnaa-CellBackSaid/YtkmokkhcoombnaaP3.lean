/- WHICH CELLS ARE RIGHT, in plain Lean. No program in sight. -/
import Derived.Test.YtkmokkhcoombnaaP2
namespace Sp
set_option linter.unusedVariables false
set_option linter.unusedSimpArgs false

def cat (c : List Int) (i : Nat) : Int := ix c (1 + 2 * (i : Int))
def cnum (c : List Int) (i : Nat) : Int := ix c (2 + 2 * (i : Int))
/-- an entry of cells that is right beside those ahead of it -/
def good (c : List Int) (j : Nat) : Prop := (1 ≤ cat c j ∧ cat c j ≤ 255 ∧ -1073741824 ≤ cnum c j ∧ cnum c j ≤ 1073741824) ∧ ∀ h, h < j → cat c h ≠ cat c j

open Classical in
theorem wc_loop2 {c : List Int} (hlen : c.length = 11) (k : List Int → Int → Option Int) (i : Nat) (hi : i < 5) : ∀ (m j : Nat), j + m = i → ∀ f : Nat, m < f →
    mkref1_WrongCells_l2 k f c (1 + 2 * (i : Int)) (1 + 2 * (j : Int)) = if (∃ h, j ≤ h ∧ h < i ∧ cat c h = cat c i) then some 7 else k c (1 + 2 * (i : Int)) := by
  intro m
  induction m with
  | zero =>
    intro j hj f hf
    obtain ⟨f, rfl⟩ : ∃ g, f = g + 1 := ⟨f - 1, by omega⟩
    rw [mkref1_WrongCells_l2, decide_eq_false (by omega), cond_false, if_neg (by rintro ⟨h, h1, h2, _⟩; omega)]
  | succ m ih =>
    intro j hj f hf
    obtain ⟨f, rfl⟩ : ∃ g, f = g + 1 := ⟨f - 1, by omega⟩
    rw [mkref1_WrongCells_l2, decide_eq_true (by omega), cond_true, G_on (by omega), G_on (by omega)]
    by_cases e : ix c (1 + 2 * (j : Int)) = ix c (1 + 2 * (i : Int))
    · rw [decide_eq_true e, cond_true, if_pos ⟨j, Nat.le_refl _, by omega, e⟩]
    · rw [decide_eq_false e, cond_false, G_on (by unfold I; omega), show (1 + 2 * (j : Int) + 2) = 1 + 2 * ((j + 1 : Nat) : Int) from by omega, ih (j + 1) (by omega) f (by omega)]
      congr 1
      apply propext
      constructor
      · rintro ⟨h, h1, h2, h3⟩; exact ⟨h, by omega, h2, h3⟩
      · rintro ⟨h, h1, h2, h3⟩
        by_cases hh : h = j
        · subst hh; exact absurd h3 e
        · exact ⟨h, by omega, h2, h3⟩

open Classical in
theorem wc_loop1 {c : List Int} (hlen : c.length = 11) (n : Nat) (hn : ix c 0 = n) (hn5 : n ≤ 5) (k : Unit → Option Int) (hk : k () = some 0) : ∀ (m i : Nat), i + m = n → ∀ f : Nat, m < f →
    ∃ e : Int, mkref1_WrongCells_l1 k f c (1 + 2 * (i : Int)) = some e ∧ (e = 0 ↔ ∀ j, i ≤ j → j < n → good c j) := by
  intro m
  induction m with
  | zero =>
    intro i hi f hf
    obtain ⟨f, rfl⟩ : ∃ g, f = g + 1 := ⟨f - 1, by omega⟩
    rw [mkref1_WrongCells_l1, hn, G_on (by omega), G_on (by unfold I; omega), G_on (by unfold I; omega), decide_eq_false (by omega), cond_false, hk]
    exact ⟨0, rfl, by simp; intro j h1 h2; omega⟩
  | succ m ih =>
    intro i hi f hf
    obtain ⟨f, rfl⟩ : ∃ g, f = g + 1 := ⟨f - 1, by omega⟩
    have e2 : (1 + 2 * (i : Int) + 1) = 2 + 2 * (i : Int) := by omega
    rw [mkref1_WrongCells_l1, hn, G_on (by omega), G_on (by unfold I; omega), G_on (by unfold I; omega), decide_eq_true (by omega), cond_true]
    simp only [J]
    rw [G_on (by omega), G_on (fun _ => by omega), G_on (fun _ => by unfold I; omega), G_on (fun _ => by omega), G_on (fun _ => by unfold I; omega), G_on (fun _ => by omega), e2]
    by_cases hb : 1 ≤ cat c i ∧ cat c i ≤ 255 ∧ -1073741824 ≤ cnum c i ∧ cnum c i ≤ 1073741824
    · have h0 : (((decide (ix c (1 + 2 * (i : Int)) < 1) || decide (255 < ix c (1 + 2 * (i : Int)))) || decide (ix c (2 + 2 * (i : Int)) < -1073741824)) || decide (1073741824 < ix c (2 + 2 * (i : Int)))) = false := by
        simp only [Bool.or_eq_false_iff, decide_eq_false_iff_not]
        unfold cat cnum at hb
        omega
      rw [h0, cond_false]
      have h2 := wc_loop2 hlen (fun x0 x3 => G (I (x3 + 2)) (mkref1_WrongCells_l1 k f x0 (x3 + 2))) i (by omega) i 0 (by omega) ((1 + 2 * (i : Int) - 1).toNat + 1) (by omega)
      rw [show (1 + 2 * ((0 : Nat) : Int)) = 1 from rfl] at h2
      rw [h2]
      by_cases he : ∃ h, 0 ≤ h ∧ h < i ∧ cat c h = cat c i
      · rw [if_pos he]
        refine ⟨7, rfl, fun h => absurd h (by decide), fun hall => ?_⟩
        obtain ⟨h, _, h3, h4⟩ := he
        exact absurd h4 ((hall i (Nat.le_refl _) (by omega)).2 h h3)
      · rw [if_neg he, G_on (by unfold I; omega), show (1 + 2 * (i : Int) + 2) = 1 + 2 * ((i + 1 : Nat) : Int) from by omega]
        obtain ⟨e, h3, h4⟩ := ih (i + 1) (by omega) f (by omega)
        refine ⟨e, h3, h4.trans ⟨fun h j h5 h6 => ?_, fun h j h5 h6 => h j (by omega) h6⟩⟩
        by_cases hj : j = i
        · subst hj; exact ⟨hb, fun h hh hc => he ⟨h, Nat.zero_le _, hh, hc⟩⟩
        · exact h j (by omega) h6
    · have h0 : (((decide (ix c (1 + 2 * (i : Int)) < 1) || decide (255 < ix c (1 + 2 * (i : Int)))) || decide (ix c (2 + 2 * (i : Int)) < -1073741824)) || decide (1073741824 < ix c (2 + 2 * (i : Int)))) = true := by
        simp only [Bool.or_eq_true, decide_eq_true_eq]
        unfold cat cnum at hb
        omega
      rw [h0, cond_true]
      exact ⟨3, rfl, fun h => absurd h (by decide), fun hall => absurd (hall i (Nat.le_refl _) (by omega)).1 hb⟩

/-- the entries of cells -/
def entries (c : List Int) : List Mk.Write := (List.range (ix c 0).toNat).map fun i => ⟨cat c i, cnum c i⟩

theorem ix_entries {c : List Int} {i : Nat} (hi : i < (ix c 0).toNat) : ix (entries c) i = ⟨cat c i, cnum c i⟩ := by
  unfold entries
  generalize (ix c 0).toNat = n at hi
  simp [ix, hi, cat, cnum]
theorem wc_eq (c : List Int) : ∃ e : Int, mkref1_WrongCells c = some e ∧ (e = 0 → Rt c (entries c)) := by
  unfold mkref1_WrongCells
  by_cases hlen : (c.length : Int) = 11
  · rw [decide_eq_true hlen, Bool.not_true, cond_false, G_on (by omega), G_on (fun _ => by omega)]
    by_cases hr : 0 ≤ ix c 0 ∧ ix c 0 ≤ 5
    · have h0 : (decide (ix c 0 < 0) || decide (5 < ix c 0)) = false := by
        simp only [Bool.or_eq_false_iff, decide_eq_false_iff_not]; omega
      rw [h0, cond_false]
      simp only [J]
      obtain ⟨e, h1, h2⟩ := wc_loop1 (c := c) (by omega) (ix c 0).toNat (by omega) (by omega) (fun _ => some 0) rfl (ix c 0).toNat 0 (by omega) ((1 + 2 * ix c 0 - 1).toNat + 1) (by omega)
      rw [show (1 + 2 * ((0 : Nat) : Int)) = 1 from rfl] at h1
      refine ⟨e, h1, fun he => ?_⟩
      have hg := h2.1 he
      have hl : (entries c).length = (ix c 0).toNat := by simp [entries]
      refine ⟨by omega, by rw [hl]; omega, by rw [hl]; omega, fun i hi => ?_, fun w hw => ?_, ?_⟩
      · rw [hl] at hi
        rw [ix_entries hi]
        exact ⟨rfl, rfl⟩
      · simp only [entries, List.mem_map, List.mem_range] at hw
        obtain ⟨i, hi, rfl⟩ := hw
        exact (hg i (Nat.zero_le _) hi).1
      · simp only [entries, List.map_map]
        rw [List.nodup_iff_pairwise_ne, List.pairwise_map]
        refine List.Pairwise.imp_of_mem ?_ (List.pairwise_lt_range (n := (ix c 0).toNat))
        intro a b ha hb hab
        exact (hg b (Nat.zero_le _) (by simpa using hb)).2 a hab
    · have h0 : (decide (ix c 0 < 0) || decide (5 < ix c 0)) = true := by
        simp only [Bool.or_eq_true, decide_eq_true_eq]; omega
      rw [h0, cond_true]
      exact ⟨3, rfl, by simp⟩
  · rw [decide_eq_false hlen, Bool.not_false, cond_true]
    exact ⟨5, rfl, by simp⟩
end Sp
