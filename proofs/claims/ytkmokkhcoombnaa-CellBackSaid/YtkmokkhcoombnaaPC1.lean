/- CELLS, WRITES, AND WHAT TAKES THEM BACK, in plain Lean: no program in sight. -/
import Derived.Test.YtkmokkhcoombnaaP7
import Derived.Test.YtkmokkhcoombnaaSpCell
namespace Sp
set_option linter.unusedVariables false
set_option linter.unusedSimpArgs false
set_option maxHeartbeats 1000000

theorem sameInts_loop (a b : List Int) (hab : a.length = b.length) (hl : a.length ≤ 9223372036854775807) (k : Unit → Option Bool) (hk : k () = some true) : ∀ (m i : Nat), i + m = a.length → ∀ f : Nat, m < f →
    mkref1_SameInts_l1 k f a b (a.length : Int) (i : Int) = some (decide (a.drop i = b.drop i)) := by
  intro m
  induction m with
  | zero =>
    intro i hi f hf
    obtain ⟨f, rfl⟩ : ∃ g, f = g + 1 := ⟨f - 1, by omega⟩
    rw [mkref1_SameInts_l1, decide_eq_false (by omega), cond_false, hk, List.drop_of_length_le (by omega), List.drop_of_length_le (by omega)]
    simp
  | succ m ih =>
    intro i hi f hf
    obtain ⟨f, rfl⟩ : ∃ g, f = g + 1 := ⟨f - 1, by omega⟩
    rw [mkref1_SameInts_l1, decide_eq_true (by omega), cond_true, G_on (by omega), G_on (by omega), ix_drop a i (by omega), ix_drop b i (by omega)]
    by_cases h : ix a (i : Int) = ix b (i : Int)
    · rw [decide_eq_true h, Bool.not_true, cond_false, G_on (by unfold I; omega), show ((i : Int) + 1) = ((i + 1 : Nat) : Int) from by omega, ih (i + 1) (by omega) f (by omega)]
      simp [h]
    · rw [decide_eq_false h, Bool.not_false, cond_true]
      simp [h]
theorem sameInts_eq (a b : List Int) (hl : a.length ≤ 9223372036854775807) : mkref1_SameInts a b = some (decide (a = b)) := by
  unfold mkref1_SameInts
  simp only [J]
  by_cases h : a.length = b.length
  · rw [decide_eq_true (by omega), Bool.not_true, cond_false]
    have := sameInts_loop a b h hl (fun _ => some true) rfl a.length 0 (by omega) (((a.length : Int) - 0).toNat + 1) (by omega)
    rw [show ((0 : Nat) : Int) = 0 from rfl] at this
    rw [this]; simp
  · rw [decide_eq_false (by omega), Bool.not_false, cond_true]
    congr 1
    exact (decide_eq_false fun e => h (by rw [e])).symm
theorem cloneI_eq (l : List Int) (h : l.length * 8 ≤ 140737488355328) : slices_Clone___int_int_ l = some l := by
  unfold slices_Clone___int_int_
  rw [G_on (by simp; omega)]; simp
theorem cloneW_eq (l : List Mk.Write) (h : l.length * 16 ≤ 140737488355328) : slices_Clone___api_Write_api_Write_ l = some l := by
  unfold slices_Clone___api_Write_api_Write_
  rw [G_on (by simp; omega)]; simp

theorem index_loop (l : List Int) (x : Int) (hl : l.length ≤ 1000000) (k : Unit → Option Int) (hk : k () = some (-1)) : ∀ (m i : Nat), i + m = l.length → ∀ f : Nat, m < f →
    ∃ j : Int, slices_Index___int_int__l1 k f l x (l.length : Int) (i : Int) = some j ∧ (0 ≤ j ↔ x ∈ l.drop i) := by
  intro m
  induction m with
  | zero =>
    intro i hi f hf
    obtain ⟨f, rfl⟩ : ∃ g, f = g + 1 := ⟨f - 1, by omega⟩
    rw [slices_Index___int_int__l1, decide_eq_false (by omega), cond_false, hk, List.drop_of_length_le (by omega)]
    exact ⟨-1, rfl, by simp⟩
  | succ m ih =>
    intro i hi f hf
    obtain ⟨f, rfl⟩ : ∃ g, f = g + 1 := ⟨f - 1, by omega⟩
    rw [slices_Index___int_int__l1, decide_eq_true (by omega), cond_true, G_on (by omega), ix_drop l i (by omega)]
    by_cases h : x = ix l (i : Int)
    · rw [decide_eq_true h, cond_true]
      exact ⟨i, rfl, by simp [h]⟩
    · rw [decide_eq_false h, cond_false, G_on (by unfold I; omega), show ((i : Int) + 1) = ((i + 1 : Nat) : Int) from by omega]
      obtain ⟨j, h1, h2⟩ := ih (i + 1) (by omega) f (by omega)
      exact ⟨j, h1, by rw [h2]; simp [h]⟩
theorem contains_eq (l : List Int) (x : Int) (hl : l.length ≤ 1000000) : slices_Contains___int_int_ l x = some (decide (x ∈ l)) := by
  unfold slices_Contains___int_int_ slices_Index___int_int_
  simp only [J]
  obtain ⟨j, h1, h2⟩ := index_loop l x hl (fun _ => some (-1)) rfl l.length 0 (by omega) (((l.length : Int) - 0).toNat + 1) (by omega)
  rw [show ((0 : Nat) : Int) = 0 from rfl] at h1
  rw [h1, Option.bind_some]
  congr 1
  rw [decide_eq_decide, h2]; simp

/-- what is wrong with entries of cells from one on -/
def wcl (c : List Int) : Nat → Nat → Int
  | 0, _ => 0
  | m + 1, i => if ¬ (1 ≤ cat c i ∧ cat c i ≤ 255 ∧ -1073741824 ≤ cnum c i ∧ cnum c i ≤ 1073741824) then 3 else if cat c i ∈ (List.range i).map (cat c) then 7 else wcl c m (i + 1)
/-- what is wrong with cells -/
def wcells (c : List Int) : Int := if c.length ≠ 11 then 5 else if ix c 0 < 0 ∨ 5 < ix c 0 then 3 else wcl c (ix c 0).toNat 0

theorem rwc_loop {c : List Int} (hlen : c.length = 11) (n : Nat) (hn : ix c 0 = n) (hn5 : n ≤ 5) (k : Unit → Option Int) (hk : k () = some 0) : ∀ (m i : Nat), i + m = n → ∀ f : Nat, m < f →
    mkref1_WrongCells_l1 k f c (1 + 2 * (i : Int)) = some (wcl c m i) := by
  intro m
  induction m with
  | zero =>
    intro i hi f hf
    obtain ⟨f, rfl⟩ : ∃ g, f = g + 1 := ⟨f - 1, by omega⟩
    rw [mkref1_WrongCells_l1, hn, G_on (by omega), G_on (by unfold I; omega), G_on (by unfold I; omega), decide_eq_false (by omega), cond_false, hk]
    rfl
  | succ m ih =>
    intro i hi f hf
    obtain ⟨f, rfl⟩ : ∃ g, f = g + 1 := ⟨f - 1, by omega⟩
    have e2 : (1 + 2 * (i : Int) + 1) = 2 + 2 * (i : Int) := by omega
    rw [mkref1_WrongCells_l1, hn, G_on (by omega), G_on (by unfold I; omega), G_on (by unfold I; omega), decide_eq_true (by omega), cond_true]
    simp only [J]
    rw [G_on (by omega), G_on (fun _ => by omega), G_on (fun _ => by unfold I; omega), G_on (fun _ => by omega), G_on (fun _ => by unfold I; omega), G_on (fun _ => by omega), e2, wcl]
    by_cases hb : 1 ≤ cat c i ∧ cat c i ≤ 255 ∧ -1073741824 ≤ cnum c i ∧ cnum c i ≤ 1073741824
    · have h0 : (((decide (ix c (1 + 2 * (i : Int)) < 1) || decide (255 < ix c (1 + 2 * (i : Int)))) || decide (ix c (2 + 2 * (i : Int)) < -1073741824)) || decide (1073741824 < ix c (2 + 2 * (i : Int)))) = false := by
        simp only [Bool.or_eq_false_iff, decide_eq_false_iff_not]
        unfold cat cnum at hb
        omega
      rw [h0, cond_false, if_neg (by simpa using hb)]
      have h2 := wc_loop2 hlen (fun x0 x3 => G (I (x3 + 2)) (mkref1_WrongCells_l1 k f x0 (x3 + 2))) i (by omega) i 0 (by omega) ((1 + 2 * (i : Int) - 1).toNat + 1) (by omega)
      rw [show (1 + 2 * ((0 : Nat) : Int)) = 1 from rfl] at h2
      rw [h2]
      by_cases he : ∃ h, 0 ≤ h ∧ h < i ∧ cat c h = cat c i
      · rw [if_pos he, if_pos]
        obtain ⟨h, _, h3, h4⟩ := he
        exact List.mem_map.2 ⟨h, by simpa using h3, h4⟩
      · rw [if_neg he, if_neg, G_on (by unfold I; omega), show (1 + 2 * (i : Int) + 2) = 1 + 2 * ((i + 1 : Nat) : Int) from by omega, ih (i + 1) (by omega) f (by omega)]
        intro hm
        obtain ⟨h, h3, h4⟩ := List.mem_map.1 hm
        exact he ⟨h, Nat.zero_le _, by simpa using h3, h4⟩
    · have h0 : (((decide (ix c (1 + 2 * (i : Int)) < 1) || decide (255 < ix c (1 + 2 * (i : Int)))) || decide (ix c (2 + 2 * (i : Int)) < -1073741824)) || decide (1073741824 < ix c (2 + 2 * (i : Int)))) = true := by
        simp only [Bool.or_eq_true, decide_eq_true_eq]
        unfold cat cnum at hb
        omega
      rw [h0, cond_true, if_pos (by simpa using hb)]
theorem rwcells_eq (c : List Int) : mkref1_WrongCells c = some (wcells c) := by
  unfold mkref1_WrongCells wcells
  by_cases hlen : c.length = 11
  · rw [decide_eq_true (by omega), Bool.not_true, cond_false, G_on (by omega), G_on (fun _ => by omega), if_neg (by simpa using hlen)]
    by_cases hr : 0 ≤ ix c 0 ∧ ix c 0 ≤ 5
    · have h0 : (decide (ix c 0 < 0) || decide (5 < ix c 0)) = false := by
        simp only [Bool.or_eq_false_iff, decide_eq_false_iff_not]; omega
      rw [h0, cond_false, if_neg (by omega)]
      simp only [J]
      have h1 := rwc_loop (c := c) hlen (ix c 0).toNat (by omega) (by omega) (fun _ => some 0) rfl (ix c 0).toNat 0 (by omega) ((1 + 2 * ix c 0 - 1).toNat + 1) (by omega)
      rw [show (1 + 2 * ((0 : Nat) : Int)) = 1 from rfl] at h1
      exact h1
    · have h0 : (decide (ix c 0 < 0) || decide (5 < ix c 0)) = true := by
        simp only [Bool.or_eq_true, decide_eq_true_eq]; omega
      rw [h0, cond_true, if_pos (by omega)]
  · rw [decide_eq_false (by omega), Bool.not_false, cond_true, if_pos hlen]
theorem cwc_loop {c : List Int} (hlen : c.length = 11) (n : Nat) (hn : ix c 0 = n) (hn5 : n ≤ 5) (k : Unit → Option Int) (hk : k () = some 0) : ∀ (m i : Nat), i + m = 5 → ∀ f : Nat, m < f →
    cell_Wrong_l1 k f c (i : Int) ((List.range (min i n)).map (cat c)) = some (wcl c (n - i) i) := by
  intro m
  induction m with
  | zero =>
    intro i hi f hf
    obtain ⟨f, rfl⟩ : ∃ g, f = g + 1 := ⟨f - 1, by omega⟩
    rw [cell_Wrong_l1, decide_eq_false (by omega), cond_false, hk, show n - i = 0 from by omega]
    rfl
  | succ m ih =>
    intro i hi f hf
    obtain ⟨f, rfl⟩ : ∃ g, f = g + 1 := ⟨f - 1, by omega⟩
    rw [cell_Wrong_l1, decide_eq_true (by omega), cond_true]
    simp only [J]
    rw [G_on (by unfold I; omega), G_on (by unfold I; omega), G_on (by omega), G_on (by unfold I; omega), G_on (by unfold I; omega), G_on (by omega), G_on (by omega), hn]
    have hnext := ih (i + 1) (by omega) f (by omega)
    by_cases hin : n ≤ i
    · rw [decide_eq_true (by omega), cond_true, G_on (by unfold I; omega), show ((i : Int) + 1) = ((i + 1 : Nat) : Int) from by omega]
      rw [show min i n = min (i + 1) n from by omega, hnext, show n - i = 0 from by omega, show n - (i + 1) = 0 from by omega]
      rfl
    · rw [decide_eq_false (by omega), cond_false, show n - i = (n - (i + 1)) + 1 from by omega, wcl]
      by_cases hb : 1 ≤ cat c i ∧ cat c i ≤ 255 ∧ -1073741824 ≤ cnum c i ∧ cnum c i ≤ 1073741824
      · have h0 : (((decide (ix c (1 + 2 * (i : Int)) < 1) || decide (255 < ix c (1 + 2 * (i : Int)))) || decide (ix c (2 + 2 * (i : Int)) < -1073741824)) || decide (1073741824 < ix c (2 + 2 * (i : Int)))) = false := by
          simp only [Bool.or_eq_false_iff, decide_eq_false_iff_not]
          unfold cat cnum at hb
          omega
        rw [h0, cond_false, if_neg (by simpa using hb), contains_eq _ _ (by simp; omega), Option.bind_some, show min i n = i from by omega]
        by_cases he : cat c i ∈ (List.range i).map (cat c)
        · rw [decide_eq_true (show ix c (1 + 2 * (i : Int)) ∈ (List.range i).map (cat c) from he), cond_true, if_pos he]
        · rw [decide_eq_false (show ¬ ix c (1 + 2 * (i : Int)) ∈ (List.range i).map (cat c) from he), cond_false, if_neg he, G_on (by simp; omega), G_on (by unfold I; omega), show ((i : Int) + 1) = ((i + 1 : Nat) : Int) from by omega]
          have e : (List.range i).map (cat c) ++ [ix c (1 + 2 * (i : Int))] = (List.range (min (i + 1) n)).map (cat c) := by
            rw [show min (i + 1) n = i + 1 from by omega, List.range_succ, List.map_append]; rfl
          rw [e, hnext]
      · have h0 : (((decide (ix c (1 + 2 * (i : Int)) < 1) || decide (255 < ix c (1 + 2 * (i : Int)))) || decide (ix c (2 + 2 * (i : Int)) < -1073741824)) || decide (1073741824 < ix c (2 + 2 * (i : Int)))) = true := by
          simp only [Bool.or_eq_true, decide_eq_true_eq]
          unfold cat cnum at hb
          omega
        rw [h0, cond_true, if_pos (by simpa using hb)]
theorem cwcells_eq (c : List Int) : cell_Wrong c = some (wcells c) := by
  unfold cell_Wrong wcells
  by_cases hlen : c.length = 11
  · rw [decide_eq_true (by omega), Bool.not_true, cond_false, G_on (by omega), G_on (fun _ => by omega), if_neg (by simpa using hlen)]
    by_cases hr : 0 ≤ ix c 0 ∧ ix c 0 ≤ 5
    · have h0 : (decide (ix c 0 < 0) || decide (5 < ix c 0)) = false := by
        simp only [Bool.or_eq_false_iff, decide_eq_false_iff_not]; omega
      rw [h0, cond_false, if_neg (by omega)]
      simp only [J]
      have h1 := cwc_loop (c := c) hlen (ix c 0).toNat (by omega) (by omega) (fun _ => some 0) rfl 5 0 (by omega) (((5 : Int) - 0).toNat + 1) (by decide)
      simpa using h1
    · have h0 : (decide (ix c 0 < 0) || decide (5 < ix c 0)) = true := by
        simp only [Bool.or_eq_true, decide_eq_true_eq]; omega
      rw [h0, cond_true, if_pos (by omega)]
  · rw [decide_eq_false (by omega), Bool.not_false, cond_true, if_pos hlen]
theorem wcells_rt {c : List Int} (h : wcells c = 0) : Rt c (entries c) := by
  obtain ⟨e, h1, h2⟩ := wc_eq c
  rw [rwcells_eq] at h1
  exact h2 (by rw [← Option.some.inj h1]; exact h)
theorem rt_wcells {c : List Int} {l : List Mk.Write} (h : Rt c l) : wcells c = 0 := by
  have := wc_rt h
  rw [rwcells_eq] at this
  exact Option.some.inj this

/-! ### writes -/
theorem up_wr (c : List Int) (w : Mk.Write) (h : 0 ≤ w.At ∧ w.At < c.length) : up c w.At w.N = wr c w := by
  unfold wr up; rw [if_pos h]
theorem cset_loop (l : List Mk.Write) (hl : l.length ≤ 9223372036854775807) (k : List Int → Option (List Int)) : ∀ (m i : Nat), i + m = l.length → ∀ f : Nat, m < f → ∀ c : List Int,
    cell_Set_l1 k f l (l.length : Int) (i : Int) c = k (wrs c (l.drop i)) := by
  intro m
  induction m with
  | zero =>
    intro i hi f hf c
    obtain ⟨f, rfl⟩ : ∃ g, f = g + 1 := ⟨f - 1, by omega⟩
    rw [cell_Set_l1, decide_eq_false (by omega), cond_false, List.drop_of_length_le (by omega)]; rfl
  | succ m ih =>
    intro i hi f hf c
    obtain ⟨f, rfl⟩ : ∃ g, f = g + 1 := ⟨f - 1, by omega⟩
    rw [cell_Set_l1, decide_eq_true (by omega), cond_true]
    simp only [J]
    rw [G_on (by omega), ix_drop l i (by omega), wrs_cons]
    by_cases h : 0 ≤ (ix l (i : Int)).At ∧ (ix l (i : Int)).At < c.length
    · rw [decide_eq_true h.1, decide_eq_true h.2, Bool.and_self, cond_true, G_on h, up_wr c _ h, G_on (by unfold I; omega), show ((i : Int) + 1) = ((i + 1 : Nat) : Int) from by omega, ih (i + 1) (by omega) f (by omega)]
    · have hb : (decide (0 ≤ (ix l (i : Int)).At) && decide ((ix l (i : Int)).At < (c.length : Int))) = false := by
        simp only [Bool.and_eq_false_iff, decide_eq_false_iff_not]; omega
      have hw : wr c (ix l (i : Int)) = c := by unfold wr; rw [if_neg h]
      rw [hb, cond_false, hw, G_on (by unfold I; omega), show ((i : Int) + 1) = ((i + 1 : Nat) : Int) from by omega, ih (i + 1) (by omega) f (by omega)]
theorem cset_eq (c : List Int) (hc : c.length * 8 ≤ 140737488355328) (l : List Mk.Write) (hl : l.length ≤ 9223372036854775807) : cell_Set c l = some (wrs c l) := by
  unfold cell_Set
  simp only [J]
  rw [cloneI_eq c hc, Option.bind_some]
  have := cset_loop l hl (fun y => some y) l.length 0 (by omega) (((l.length : Int) - 0).toNat + 1) (by omega) c
  rw [show ((0 : Nat) : Int) = 0 from rfl] at this
  rw [this]; simp

/-! ### the other way about -/
theorem up_len {α : Type} (l : List α) (i : Int) (y : α) : (up l i y).length = l.length := by simp [up]
theorem ix_up {α : Type} [Inhabited α] (l : List α) (i j : Int) (y : α) (hi : 0 ≤ i ∧ i < l.length) (hj : 0 ≤ j) : ix (up l i y) j = if i = j then y else ix l j := by
  have h1 : i.toNat < l.length := by omega
  by_cases e : i = j
  · subst e; simp [ix, up, h1]
  · have : i.toNat ≠ j.toNat := by omega
    simp [ix, up, List.getElem?_set, this, e]
theorem rev_loop : ∀ (f : Nat) (i j : Int) (y : List Mk.Write), 0 ≤ i → i ≤ j + 1 → j < y.length → y.length ≤ 9223372036854775807 → (j - i).toNat < f → -1 ≤ j →
    ∃ z, slices_Reverse___api_Write_api_Write__l1 f i j y = some z ∧ z.length = y.length ∧ ∀ k : Int, 0 ≤ k → k < y.length → ix z k = if i ≤ k ∧ k ≤ j then ix y (i + j - k) else ix y k := by
  intro f
  induction f with
  | zero => intro i j y h1 h2 h3 h4 h5; omega
  | succ f ih =>
    intro i j y h1 h2 h3 h4 h5 h6
    rw [slices_Reverse___api_Write_api_Write__l1]
    by_cases h : i < j
    · rw [decide_eq_true h, cond_true, G_on (by omega), G_on (by omega), G_on (by omega), G_on (by rw [up_len]; omega), G_on (by unfold I; omega), G_on (by unfold I; omega)]
      have hl : (up (up y i (ix y j)) j (ix y i)).length = y.length := by rw [up_len, up_len]
      obtain ⟨z, e1, e2, e3⟩ := ih (i + 1) (j - 1) (up (up y i (ix y j)) j (ix y i)) (by omega) (by omega) (by omega) (by omega) (by omega) (by omega)
      refine ⟨z, e1, by omega, fun k hk1 hk2 => ?_⟩
      rw [e3 k hk1 (by omega)]
      have hx : ∀ q : Int, 0 ≤ q → q < y.length → ix (up (up y i (ix y j)) j (ix y i)) q = if j = q then ix y i else if i = q then ix y j else ix y q := fun q hq1 hq2 => by
        rw [ix_up _ _ _ _ (by rw [up_len]; omega) hq1, ix_up _ _ _ _ (by omega) hq1]
      by_cases c1 : i + 1 ≤ k ∧ k ≤ j - 1
      · rw [if_pos c1, if_pos (by omega), show i + 1 + (j - 1) - k = i + j - k from by omega, hx _ (by omega) (by omega), if_neg (by omega), if_neg (by omega)]
      · rw [if_neg c1, hx k hk1 (by omega)]
        by_cases c2 : j = k
        · subst c2; rw [if_pos rfl, if_pos (by omega), show i + j - j = i from by omega]
        · rw [if_neg c2]
          by_cases c3 : i = k
          · subst c3; rw [if_pos rfl, if_pos (by omega), show i + j - i = j from by omega]
          · rw [if_neg c3, if_neg (by omega)]
    · rw [decide_eq_false h, cond_false]
      refine ⟨y, rfl, rfl, fun k hk1 hk2 => ?_⟩
      by_cases c : i ≤ k ∧ k ≤ j
      · rw [if_pos c, show i + j - k = k from by omega]
      · rw [if_neg c]
theorem reverse_eq (l : List Mk.Write) (hl : l.length ≤ 9223372036854775807) : slices_Reverse___api_Write_api_Write_ l = some l.reverse := by
  unfold slices_Reverse___api_Write_api_Write_
  rw [G_on (by unfold I; omega)]
  obtain ⟨z, h1, h2, h3⟩ := rev_loop ((((l.length : Int) - 1) - 0).toNat + 1) 0 ((l.length : Int) - 1) l (by omega) (by omega) (by omega) hl (by omega) (by omega)
  rw [h1]
  congr 1
  apply List.ext_getElem
  · rw [h2]; simp
  · intro i h4 h5
    have h6 : i < l.length := by omega
    have := h3 i (by omega) (by omega)
    rw [if_pos (by omega), ix_nat z i h4, show (0 + ((l.length : Int) - 1) - (i : Int)) = ((l.length - 1 - i : Nat) : Int) from by omega, ix_nat l _ (by omega)] at this
    rw [this, List.getElem_reverse]

/-- what writes had ahead, in the order in which they were made -/
def fwd : List Int → List Mk.Write → List Mk.Write
  | _, [] => []
  | c, w :: l => if 0 ≤ w.At ∧ w.At < c.length then ⟨w.At, ix c w.At⟩ :: fwd (wr c w) l else fwd c l
theorem fwd_len (c : List Int) (l : List Mk.Write) : (fwd c l).length ≤ l.length := by
  induction l generalizing c with
  | nil => simp [fwd]
  | cons w l ih =>
    unfold fwd
    split
    · have := ih (wr c w); simp; omega
    · have := ih c; simp; omega
theorem fwd_at (c : List Int) (l : List Mk.Write) : ∀ u ∈ fwd c l, 0 ≤ u.At ∧ u.At < c.length := by
  induction l generalizing c with
  | nil => simp [fwd]
  | cons w l ih =>
    unfold fwd
    split
    · rename_i h
      intro u hu
      rcases List.mem_cons.1 hu with rfl | hu
      · exact h
      · have := ih _ u hu; rw [wr_len] at this; exact this
    · exact ih c
theorem cundo_loop (l : List Mk.Write) (hl : l.length * 16 ≤ 140737488355328) (k : List Mk.Write → Option (List Mk.Write)) : ∀ (m i : Nat), i + m = l.length → ∀ f : Nat, m < f → ∀ (c : List Int) (acc : List Mk.Write), acc.length ≤ i →
    cell_Undo_l1 k f l (l.length : Int) (i : Int) c acc = k (acc ++ fwd c (l.drop i)) := by
  intro m
  induction m with
  | zero =>
    intro i hi f hf c acc ha
    obtain ⟨f, rfl⟩ : ∃ g, f = g + 1 := ⟨f - 1, by omega⟩
    rw [cell_Undo_l1, decide_eq_false (by omega), cond_false, List.drop_of_length_le (by omega)]; simp [fwd]
  | succ m ih =>
    intro i hi f hf c acc ha
    obtain ⟨f, rfl⟩ : ∃ g, f = g + 1 := ⟨f - 1, by omega⟩
    rw [cell_Undo_l1, decide_eq_true (by omega), cond_true]
    simp only [J]
    rw [G_on (by omega), ix_drop l i (by omega), fwd]
    by_cases h : 0 ≤ (ix l (i : Int)).At ∧ (ix l (i : Int)).At < c.length
    · have hb : (decide ((ix l (i : Int)).At < 0) || decide ((c.length : Int) ≤ (ix l (i : Int)).At)) = false := by
        simp only [Bool.or_eq_false_iff, decide_eq_false_iff_not]; omega
      rw [hb, cond_false, if_pos h, G_on h, G_on (by simp; omega), G_on h, up_wr c _ h, G_on (by unfold I; omega), show ((i : Int) + 1) = ((i + 1 : Nat) : Int) from by omega, ih (i + 1) (by omega) f (by omega) _ _ (by simp; omega)]
      simp
    · have hb : (decide ((ix l (i : Int)).At < 0) || decide ((c.length : Int) ≤ (ix l (i : Int)).At)) = true := by
        simp only [Bool.or_eq_true, decide_eq_true_eq]; omega
      rw [hb, cond_true, if_neg h, G_on (by unfold I; omega), show ((i : Int) + 1) = ((i + 1 : Nat) : Int) from by omega, ih (i + 1) (by omega) f (by omega) _ _ (by omega)]
theorem cundo_eq (c : List Int) (hc : c.length * 8 ≤ 140737488355328) (l : List Mk.Write) (hl : l.length * 16 ≤ 140737488355328) : cell_Undo c l = some (fwd c l).reverse := by
  unfold cell_Undo
  simp only [J]
  rw [cloneI_eq c hc, Option.bind_some]
  have := cundo_loop l hl (fun y => (slices_Reverse___api_Write_api_Write_ y).bind fun v => some v) l.length 0 (by omega) (((l.length : Int) - 0).toNat + 1) (by omega) c [] (by simp)
  rw [show ((0 : Nat) : Int) = 0 from rfl] at this
  have hfl := fwd_len c l
  rw [this]
  simp only [List.drop_zero, List.nil_append]
  rw [reverse_eq _ (by omega), Option.bind_some]
theorem fwd_snoc (c : List Int) (l : List Mk.Write) (w : Mk.Write) : fwd c (l ++ [w]) = fwd c l ++ (if 0 ≤ w.At ∧ w.At < c.length then [⟨w.At, ix (wrs c l) w.At⟩] else []) := by
  induction l generalizing c with
  | nil => simp [fwd, wrs]
  | cons v l ih =>
    rw [List.cons_append, fwd, fwd]
    split
    · rename_i h
      rw [ih, wr_len]; rfl
    · rename_i h
      rw [ih]
      have : wrs c (v :: l) = wrs c l := by rw [wrs_cons]; unfold wr; rw [if_neg h]
      rw [this]
theorem rundo_loop (c : List Int) (hc : c.length * 8 ≤ 140737488355328) (l : List Mk.Write) (hl : l.length * 16 ≤ 140737488355328) (k : List Mk.Write → Option (List Mk.Write)) : ∀ (m i : Nat), i + m = l.length → ∀ f : Nat, m < f →
    mkref1_Undo_l1 k f c l (fwd c (l.take i)).reverse l (l.length : Int) (i : Int) = k (fwd c l).reverse := by
  intro m
  induction m with
  | zero =>
    intro i hi f hf
    obtain ⟨f, rfl⟩ : ∃ g, f = g + 1 := ⟨f - 1, by omega⟩
    rw [mkref1_Undo_l1, decide_eq_false (by omega), cond_false, List.take_of_length_le (by omega)]
  | succ m ih =>
    intro i hi f hf
    obtain ⟨f, rfl⟩ : ∃ g, f = g + 1 := ⟨f - 1, by omega⟩
    rw [mkref1_Undo_l1, decide_eq_true (by omega), cond_true]
    simp only [J]
    have hix : ix l (i : Int) = l[i]'(by omega) := ix_nat l i (by omega)
    have hnext := ih (i + 1) (by omega) f (by omega)
    have htake : l.take (i + 1) = l.take i ++ [ix l (i : Int)] := by rw [hix]; simp
    have hlen := fwd_len c (l.take i)
    rw [List.length_take] at hlen
    rw [G_on (by omega)]
    rw [htake, fwd_snoc] at hnext
    by_cases h : 0 ≤ (ix l (i : Int)).At ∧ (ix l (i : Int)).At < c.length
    · rw [if_pos h] at hnext
      have hsub : sub l 0 (i : Int) = l.take i := by simp
      rw [decide_eq_true h.1, decide_eq_true h.2, Bool.and_self, cond_true, G_on (by omega), hsub, rset_eq c hc _ (by simp; omega), Option.bind_some, G_on (by rw [wrs_len]; omega), G_on (by simp; omega), G_on (by unfold I; omega), show ((i : Int) + 1) = ((i + 1 : Nat) : Int) from by omega]
      rw [List.reverse_append] at hnext
      exact hnext
    · rw [if_neg h, List.append_nil] at hnext
      have hb : (decide (0 ≤ (ix l (i : Int)).At) && decide ((ix l (i : Int)).At < (c.length : Int))) = false := by
        simp only [Bool.and_eq_false_iff, decide_eq_false_iff_not]; omega
      rw [hb, cond_false, G_on (by unfold I; omega), show ((i : Int) + 1) = ((i + 1 : Nat) : Int) from by omega]
      exact hnext
theorem rundo_eq (c : List Int) (hc : c.length * 8 ≤ 140737488355328) (l : List Mk.Write) (hl : l.length * 16 ≤ 140737488355328) : mkref1_Undo c l = some (fwd c l).reverse := by
  unfold mkref1_Undo
  simp only [J]
  have := rundo_loop c hc l hl (fun y => some y) l.length 0 (by omega) (((l.length : Int) - 0).toNat + 1) (by omega)
  rw [show ((0 : Nat) : Int) = 0 from rfl] at this
  simpa [fwd] using this

/-- taken back, it is as it was -/
theorem wrs_back (c : List Int) (l : List Mk.Write) : wrs (wrs c l) (fwd c l).reverse = c := by
  induction l generalizing c with
  | nil => rfl
  | cons w l ih =>
    rw [wrs_cons, fwd]
    split
    · rename_i h
      rw [List.reverse_cons, wrs_append, ih]
      apply ix_ext
      · rw [wrs_len, wr_len]
      · intro i hi
        rw [wrs_len, wr_len] at hi
        show ix (wr (wr c w) ⟨w.At, ix c w.At⟩) i = _
        rw [ix_wr _ _ _ (by rw [wr_len]; omega), ix_wr _ _ _ (by omega)]
        show (if w.At = (i : Int) then ix c w.At else _) = _
        split
        · rename_i e; rw [e]
        · rfl
    · rename_i h
      have : wr c w = c := by unfold wr; rw [if_neg h]
      rw [this, ih]
end Sp
