/- WRITES TO CELLS, one by one; and the statements PlanModel, PlanLate of what the functions answer. Plain Lean, no program in sight. -/
import Derived.Test.YtkmokkhcoombnaaP6
namespace Sp
set_option linter.unusedVariables false
set_option linter.unusedSimpArgs false
set_option maxHeartbeats 1000000

/-- cells behind a write: one outside is none -/
def wr (c : List Int) (w : Mk.Write) : List Int := if 0 ≤ w.At ∧ w.At < c.length then c.set w.At.toNat w.N else c
/-- cells behind writes, one by one -/
def wrs (c : List Int) (l : List Mk.Write) : List Int := l.foldl wr c
theorem wr_len (c : List Int) (w : Mk.Write) : (wr c w).length = c.length := by unfold wr; split <;> simp
theorem wrs_len (c : List Int) (l : List Mk.Write) : (wrs c l).length = c.length := by
  induction l generalizing c with
  | nil => rfl
  | cons w l ih => rw [wrs, List.foldl_cons, ← wrs, ih, wr_len]
theorem wrs_cons (c : List Int) (w : Mk.Write) (l : List Mk.Write) : wrs c (w :: l) = wrs (wr c w) l := rfl
theorem wrs_append (c : List Int) (l m : List Mk.Write) : wrs c (l ++ m) = wrs (wrs c l) m := by simp [wrs]
theorem ix_wr (c : List Int) (w : Mk.Write) (i : Int) (hi : 0 ≤ i ∧ i < c.length) : ix (wr c w) i = if w.At = i then w.N else ix c i := by
  unfold wr
  by_cases h : w.At = i
  · subst h
    have : w.At.toNat < c.length := by omega
    simp [hi, ix, this]
  · rw [if_neg h]
    split
    · have : w.At.toNat ≠ i.toNat := by omega
      simp [ix, List.getElem?_set, this]
    · rfl
/-- a cell's number behind writes -/
def cellBehind (i : Int) (n : Int) (l : List Mk.Write) : Int := l.foldl (fun n w => if w.At = i then w.N else n) n
theorem ix_wrs (c : List Int) (l : List Mk.Write) (i : Int) (hi : 0 ≤ i ∧ i < c.length) : ix (wrs c l) i = cellBehind i (ix c i) l := by
  induction l generalizing c with
  | nil => rfl
  | cons w l ih =>
    rw [wrs_cons, ih _ (by rw [wr_len]; exact hi), ix_wr _ _ _ hi]
    rfl
theorem ix_ext {c d : List Int} (hl : c.length = d.length) (h : ∀ i : Nat, i < c.length → ix c (i : Int) = ix d (i : Int)) : c = d := by
  apply List.ext_getElem hl
  intro i h1 h2
  have := h i h1
  rwa [ix_nat c i h1, ix_nat d i h2] at this

theorem rset_loop2 (l : List Mk.Write) (hl : l.length ≤ 9223372036854775807) (cs : List Int) (k : List Mk.Write → Int → List Int → Int → Int → List Int → Option (List Int)) (i cn ci : Int) (acc : List Int) : ∀ (m j : Nat), j + m = l.length → ∀ f : Nat, m < f → ∀ n : Int,
    mkref1_Set_l2 k f l i n cs cn ci l (l.length : Int) (j : Int) acc = k l (cellBehind i n (l.drop j)) cs cn ci acc := by
  intro m
  induction m with
  | zero =>
    intro j hj f hf n
    obtain ⟨f, rfl⟩ : ∃ g, f = g + 1 := ⟨f - 1, by omega⟩
    rw [mkref1_Set_l2, decide_eq_false (by omega), cond_false, List.drop_of_length_le (by omega)]
    rfl
  | succ m ih =>
    intro j hj f hf n
    obtain ⟨f, rfl⟩ : ∃ g, f = g + 1 := ⟨f - 1, by omega⟩
    rw [mkref1_Set_l2, decide_eq_true (by omega), cond_true]
    simp only [J]
    rw [G_on (by omega), ix_drop l j (by omega)]
    by_cases h : (ix l (j : Int)).At = i
    · rw [decide_eq_true h, cond_true, G_on (by unfold I; omega), show ((j : Int) + 1) = ((j + 1 : Nat) : Int) from by omega, ih (j + 1) (by omega) f (by omega)]
      simp [cellBehind, h]
    · rw [decide_eq_false h, cond_false, G_on (by unfold I; omega), show ((j : Int) + 1) = ((j + 1 : Nat) : Int) from by omega, ih (j + 1) (by omega) f (by omega)]
      simp [cellBehind, h]
theorem rset_loop1 (c : List Int) (hc : c.length * 8 ≤ 140737488355328) (l : List Mk.Write) (hl : l.length ≤ 9223372036854775807) (k : List Int → Option (List Int)) : ∀ (m i : Nat), i + m = c.length → ∀ f : Nat, m < f → ∀ acc : List Int, acc.length = i →
    mkref1_Set_l1 k f l c (c.length : Int) (i : Int) acc = k (acc ++ (wrs c l).drop i) := by
  intro m
  induction m with
  | zero =>
    intro i hi f hf acc ha
    obtain ⟨f, rfl⟩ : ∃ g, f = g + 1 := ⟨f - 1, by omega⟩
    rw [mkref1_Set_l1, decide_eq_false (by omega), cond_false, List.drop_of_length_le (by rw [wrs_len]; omega), List.append_nil]
  | succ m ih =>
    intro i hi f hf acc ha
    obtain ⟨f, rfl⟩ : ∃ g, f = g + 1 := ⟨f - 1, by omega⟩
    rw [mkref1_Set_l1, decide_eq_true (by omega), cond_true]
    simp only [J]
    rw [G_on (by omega)]
    have h2 := rset_loop2 l hl c (fun x1 x7 x10 x11 x12 y => G (((y.length + ([x7] : List Int).length) * 8 ≤ 140737488355328 ∧ y.length + ([x7] : List Int).length ≤ 9223372036854775807)) (G (I (x12 + 1)) (mkref1_Set_l1 k f x1 x10 x11 (x12 + 1) (y ++ [x7])))) (i : Int) (c.length : Int) (i : Int) acc l.length 0 (by omega) (((l.length : Int) - 0).toNat + 1) (by omega) (ix c (i : Int))
    rw [show ((0 : Nat) : Int) = 0 from rfl] at h2
    rw [h2, G_on (by simp; omega), G_on (by unfold I; omega), show ((i : Int) + 1) = ((i + 1 : Nat) : Int) from by omega, ih (i + 1) (by omega) f (by omega) _ (by simp [ha]), ix_drop (wrs c l) i (by rw [wrs_len]; omega), ix_wrs c l i (by omega)]
    simp
theorem rset_eq (c : List Int) (hc : c.length * 8 ≤ 140737488355328) (l : List Mk.Write) (hl : l.length ≤ 9223372036854775807) : mkref1_Set c l = some (wrs c l) := by
  unfold mkref1_Set
  simp only [J]
  have := rset_loop1 c hc l hl (fun y => some y) c.length 0 (by omega) (((c.length : Int) - 0).toNat + 1) (by omega) [] rfl
  rw [show ((0 : Nat) : Int) = 0 from rfl] at this
  rw [this]; simp

theorem rset2_loop (l : List Mk.Write) (hl : l.length ≤ 9223372036854775807) (k : List Int → Option (List Int)) : ∀ (m i : Nat), i + m = l.length → ∀ f : Nat, m < f → ∀ c : List Int, c.length * 8 ≤ 140737488355328 →
    mkref1_Set2_l1 k f c l (l.length : Int) (i : Int) = k (wrs c (l.drop i)) := by
  intro m
  induction m with
  | zero =>
    intro i hi f hf c hc
    obtain ⟨f, rfl⟩ : ∃ g, f = g + 1 := ⟨f - 1, by omega⟩
    rw [mkref1_Set2_l1, decide_eq_false (by omega), cond_false, List.drop_of_length_le (by omega)]; rfl
  | succ m ih =>
    intro i hi f hf c hc
    obtain ⟨f, rfl⟩ : ∃ g, f = g + 1 := ⟨f - 1, by omega⟩
    rw [mkref1_Set2_l1, decide_eq_true (by omega), cond_true, G_on (by omega), rset_eq c hc _ (by simp), Option.bind_some, G_on (by unfold I; omega), show ((i : Int) + 1) = ((i + 1 : Nat) : Int) from by omega, ih (i + 1) (by omega) f (by omega) _ (by rw [wrs_len]; exact hc), ix_drop l i (by omega)]
    rfl
theorem rset2_eq (c : List Int) (hc : c.length * 8 ≤ 140737488355328) (l : List Mk.Write) (hl : l.length ≤ 9223372036854775807) : mkref1_Set2 c l = some (wrs c l) := by
  unfold mkref1_Set2
  simp only [J]
  have := rset2_loop l hl (fun y => some y) l.length 0 (by omega) (((l.length : Int) - 0).toNat + 1) (by omega) c hc
  rw [show ((0 : Nat) : Int) = 0 from rfl] at this
  rw [this]; simp

/-- right cells, the other way about -/
theorem entries_of {c : List Int} {l : List Mk.Write} (h : Rt c l) : entries c = l := by
  unfold entries
  rw [h.n]
  apply List.ext_getElem
  · simp
  · intro i h1 h2
    simp only [Int.toNat_natCast, List.length_map, List.length_range] at h1
    have := h.ats i h1
    simp only [Int.toNat_natCast, List.getElem_map, List.getElem_range, cat, cnum, this, ix_nat l i h1]
theorem wc_rt {c : List Int} {l : List Mk.Write} (h : Rt c l) : mkref1_WrongCells c = some 0 := by
  have hlen := h.len
  have hle := h.le
  have hn := h.n
  unfold mkref1_WrongCells
  rw [decide_eq_true (by omega), Bool.not_true, cond_false, G_on (by omega), G_on (fun _ => by omega)]
  have h0 : (decide (ix c 0 < 0) || decide (5 < ix c 0)) = false := by
    simp only [Bool.or_eq_false_iff, decide_eq_false_iff_not]; omega
  rw [h0, cond_false]
  simp only [J]
  obtain ⟨e, h1, h2⟩ := wc_loop1 (c := c) (by omega) (ix c 0).toNat (by omega) (by omega) (fun _ => some 0) rfl (ix c 0).toNat 0 (by omega) ((1 + 2 * ix c 0 - 1).toNat + 1) (by omega)
  rw [show (1 + 2 * ((0 : Nat) : Int)) = 1 from rfl] at h1
  rw [h1]
  congr 1
  refine h2.2 fun j _ hj => ?_
  have hj' : j < l.length := by omega
  have ha := h.ats j hj'
  have hm := h.at1 _ (ix_mem l j (by omega))
  refine ⟨by unfold cat cnum; rw [ha.1, ha.2]; exact hm, fun i hi he => ?_⟩
  have hb := h.ats i (by omega)
  unfold cat at he
  rw [hb.1, ha.1, ix_nat l i (by omega), ix_nat l j hj'] at he
  exact absurd (nodup_at h.nodup (by omega) hj' he) (by omega)
end Sp
