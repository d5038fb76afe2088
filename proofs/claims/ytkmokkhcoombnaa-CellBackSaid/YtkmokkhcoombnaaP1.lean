/- CELLS, THEIR NAMES, AND THE PLAN OF A CALL, in plain Lean: no program in sight. -/
import Derived.Test.YtkmokkhcoombnaaSpPlan
namespace Sp
set_option linter.unusedVariables false
set_option linter.unusedSimpArgs false

theorem G_on {α : Type} {p : Prop} [Decidable p] {k : Option α} (h : p) : G p k = k := by unfold G; rw [if_pos h]
theorem Cn_yes {α : Type} [Inhabited α] {p : Prop} [Decidable p] {k : Option α} (h : p) : Cn p k = k := by unfold Cn; rw [if_pos h]
theorem Cn_no {α : Type} [Inhabited α] {p : Prop} [Decidable p] {k : Option α} (h : ¬ p) : Cn p k = some default := by unfold Cn; rw [if_neg h]

/-- the place of a name among entries; -1, if there is none -/
def pos : List Mk.Write → Int → Int
  | [], _ => -1
  | w :: l, x => if w.At = x then 0 else (if pos l x < 0 then -1 else pos l x + 1)
theorem pos_range (l : List Mk.Write) (x : Int) : -1 ≤ pos l x ∧ pos l x < l.length := by
  induction l with
  | nil => simp [pos]
  | cons w l ih =>
    simp only [pos, List.length_cons]
    split
    · omega
    · split <;> omega

/-- cells that hold just these entries -/
structure Rt (c : List Int) (l : List Mk.Write) : Prop where
  len : c.length = 11
  n : ix c 0 = l.length
  le : l.length ≤ 5
  ats : ∀ i : Nat, i < l.length → ix c (1 + 2 * (i : Int)) = (ix l i).At ∧ ix c (2 + 2 * (i : Int)) = (ix l i).N
  at1 : ∀ w ∈ l, 1 ≤ w.At ∧ w.At ≤ 255 ∧ -1073741824 ≤ w.N ∧ w.N ≤ 1073741824
  nodup : (l.map (·.At)).Nodup

theorem plan_at_eq {i : Int} (h : -1000 ≤ i ∧ i ≤ 1000) : plan_at i = some (2 + 2 * i) := by
  unfold plan_at
  rw [G_on (by unfold I; omega), G_on (by unfold I; omega)]

theorem ix_drop {α : Type} [Inhabited α] (l : List α) (i : Nat) (h : i < l.length) : l.drop i = ix l i :: l.drop (i + 1) := by
  rw [List.drop_eq_getElem_cons h]
  simp [ix, h]

theorem find_loop {c : List Int} {l : List Mk.Write} (h : Rt c l) (k : Unit → Option Int) (hk : k () = some (-1)) (x : Int) : ∀ (m i : Nat), i + m = l.length →
    cell_Find_l1 k (m + 1) c x (l.length : Int) (i : Int) = some (if pos (l.drop i) x < 0 then -1 else pos (l.drop i) x + i) := by
  intro m
  induction m with
  | zero =>
    intro i hi
    rw [cell_Find_l1, List.drop_of_length_le (by omega)]
    simp [pos, hk, show ¬ ((i : Int) < l.length) from by omega]
  | succ m ih =>
    intro i hi
    have hle := h.le
    have hlen := h.len
    have hat := (h.ats i (by omega)).1
    rw [cell_Find_l1, decide_eq_true (show (i : Int) < l.length from by omega), cond_true, G_on (by unfold I; omega), G_on (by unfold I; omega), G_on (by omega), hat, ix_drop l i (by omega)]
    by_cases e : (ix l i).At = x
    · simp [e, pos]
    · rw [decide_eq_false e, cond_false, G_on (by unfold I; omega)]
      have := ih (i + 1) (by omega)
      rw [show ((i : Int) + 1) = ((i + 1 : Nat) : Int) from by omega, this]
      simp only [pos, e, if_false]
      by_cases h2 : pos (l.drop (i + 1)) x < 0
      · simp [h2]
      · have := (pos_range (l.drop (i + 1)) x)
        rw [if_neg h2, if_neg h2, if_neg (by omega)]
        congr 1; omega
theorem find_eq {c : List Int} {l : List Mk.Write} (h : Rt c l) (x : Int) : cell_Find c x = some (pos l x) := by
  unfold cell_Find
  simp only [J]
  have hlen := h.len
  have hp := pos_range l x
  rw [G_on (by omega), h.n, show ((l.length : Int) - 0).toNat + 1 = l.length + 1 from by omega]
  have := find_loop h (fun _ => some (-1)) rfl x l.length 0 (by omega)
  rw [show ((0 : Int)) = ((0 : Nat) : Int) from rfl, this, List.drop_zero]
  congr 1
  split <;> omega

theorem rfind_loop {c : List Int} {l : List Mk.Write} (h : Rt c l) (k : Unit → Option Int) (hk : k () = some (-1)) (x : Int) : ∀ (m i : Nat), i + m = l.length → ∀ f : Nat, m < f →
    mkref1_Find_l1 k f c x (1 + 2 * (i : Int)) = some (if pos (l.drop i) x < 0 then -1 else pos (l.drop i) x + i) := by
  intro m
  induction m with
  | zero =>
    intro i hi f hf
    have hle := h.le
    have hlen := h.len
    have hn := h.n
    obtain ⟨f, rfl⟩ : ∃ g, f = g + 1 := ⟨f - 1, by omega⟩
    rw [mkref1_Find_l1, G_on (by omega), G_on (by unfold I; omega), G_on (by unfold I; omega), decide_eq_false (by omega), cond_false, hk, List.drop_of_length_le (by omega)]
    simp [pos]
  | succ m ih =>
    intro i hi f hf
    have hle := h.le
    have hlen := h.len
    have hn := h.n
    have hat := (h.ats i (by omega)).1
    obtain ⟨f, rfl⟩ : ∃ g, f = g + 1 := ⟨f - 1, by omega⟩
    rw [mkref1_Find_l1, G_on (by omega), G_on (by unfold I; omega), G_on (by unfold I; omega), decide_eq_true (by omega), cond_true, G_on (by omega), hat, ix_drop l i (by omega)]
    have ht : Int.tdiv (1 + 2 * (i : Int)) 2 = i := by
      rw [Int.tdiv_eq_ediv_of_nonneg (by omega)]; omega
    by_cases e : (ix l i).At = x
    · rw [decide_eq_true e, cond_true, ht, G_on (by unfold I; omega)]
      simp [e, pos]
    · rw [decide_eq_false e, cond_false, G_on (by unfold I; omega)]
      have := ih (i + 1) (by omega) f (by omega)
      rw [show (1 + 2 * (i : Int) + 2) = 1 + 2 * ((i + 1 : Nat) : Int) from by omega, this]
      simp only [pos, e, if_false]
      by_cases h2 : pos (l.drop (i + 1)) x < 0
      · simp [h2]
      · have := (pos_range (l.drop (i + 1)) x)
        rw [if_neg h2, if_neg h2, if_neg (by omega)]
        congr 1; omega
theorem rfind_eq {c : List Int} {l : List Mk.Write} (h : Rt c l) (x : Int) : mkref1_Find c x = some (pos l x) := by
  unfold mkref1_Find
  simp only [J]
  have hn := h.n
  have hp := pos_range l x
  have := rfind_loop h (fun _ => some (-1)) rfl x l.length 0 (by omega) ((1 + 2 * ix c 0 - 1).toNat + 1) (by omega)
  rw [show (1 + 2 * ((0 : Nat) : Int)) = 1 from rfl, List.drop_zero] at this
  rw [this]
  congr 1
  split <;> omega

theorem of_loop {c : List Int} {l : List Mk.Write} (h : Rt c l) (k : List Mk.Write → Option (List Mk.Write)) : ∀ (m i : Nat), i + m = l.length → ∀ (f : Nat), m < f → ∀ acc : List Mk.Write, acc.length = i →
    mkref1_Of_l1 k f c (1 + 2 * (i : Int)) acc = k (acc ++ l.drop i) := by
  intro m
  induction m with
  | zero =>
    intro i hi f hf acc ha
    have hle := h.le
    have hlen := h.len
    have hn := h.n
    obtain ⟨f, rfl⟩ : ∃ g, f = g + 1 := ⟨f - 1, by omega⟩
    rw [mkref1_Of_l1, G_on (by omega), G_on (by unfold I; omega), G_on (by unfold I; omega), decide_eq_false (by omega), cond_false, List.drop_of_length_le (by omega), List.append_nil]
  | succ m ih =>
    intro i hi f hf acc ha
    have hle := h.le
    have hlen := h.len
    have hn := h.n
    obtain ⟨hat, hnn⟩ := h.ats i (by omega)
    obtain ⟨f, rfl⟩ : ∃ g, f = g + 1 := ⟨f - 1, by omega⟩
    have e2 : (1 + 2 * (i : Int) + 1) = 2 + 2 * (i : Int) := by omega
    rw [mkref1_Of_l1, G_on (by omega), G_on (by unfold I; omega), G_on (by unfold I; omega), decide_eq_true (by omega), cond_true, G_on (by omega), G_on (by unfold I; omega), G_on (by omega), G_on (by simp; omega), G_on (by unfold I; omega), e2, hat, hnn,
      show (1 + 2 * (i : Int) + 2) = 1 + 2 * ((i + 1 : Nat) : Int) from by omega, ih (i + 1) (by omega) f (by omega) _ (by simp [ha]), ix_drop l i (by omega)]
    simp
theorem of_eq {c : List Int} {l : List Mk.Write} (h : Rt c l) : mkref1_Of c = some l := by
  unfold mkref1_Of
  simp only [J]
  have hn := h.n
  have := of_loop h (fun y => some y) l.length 0 (by omega) ((1 + 2 * ix c 0 - 1).toNat + 1) (by omega) [] rfl
  rw [show (1 + 2 * ((0 : Nat) : Int)) = 1 from rfl] at this
  rw [this]; simp
end Sp
