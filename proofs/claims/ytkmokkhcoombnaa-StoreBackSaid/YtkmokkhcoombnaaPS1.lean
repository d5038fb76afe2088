/- STORES, in plain Lean: no program in sight. -/
import Derived.Test.YtkmokkhcoombnaaPC1
import Derived.Test.YtkmokkhcoombnaaPW1
import Derived.Test.YtkmokkhcoombnaaSpStore
namespace Sp
set_option linter.unusedVariables false
set_option linter.unusedSimpArgs false
set_option maxHeartbeats 1000000

/-! ### the same store -/
theorem sameStore_loop1 (a b : Mk.Store) (hab : a.Answers.length = b.Answers.length) (hl : a.Answers.length ≤ 9223372036854775807) (k : Mk.Store → Mk.Store → Option Bool) : ∀ (m i : Nat), i + m = a.Answers.length → ∀ f : Nat, m < f →
    mkref1_SameStore_l1 k f (a.Answers.length : Int) (i : Int) a b = if a.Answers.drop i = b.Answers.drop i then k a b else some false := by
  intro m
  induction m with
  | zero =>
    intro i hi f hf
    obtain ⟨f, rfl⟩ : ∃ g, f = g + 1 := ⟨f - 1, by omega⟩
    rw [mkref1_SameStore_l1, decide_eq_false (by omega), cond_false, List.drop_of_length_le (by omega), List.drop_of_length_le (by omega), if_pos rfl]
  | succ m ih =>
    intro i hi f hf
    obtain ⟨f, rfl⟩ : ∃ g, f = g + 1 := ⟨f - 1, by omega⟩
    rw [mkref1_SameStore_l1, decide_eq_true (by omega), cond_true, G_on (by omega), G_on (by omega), ix_drop a.Answers i (by omega), ix_drop b.Answers i (by omega)]
    by_cases h : ix a.Answers (i : Int) = ix b.Answers (i : Int)
    · rw [decide_eq_true h, Bool.not_true, cond_false, G_on (by unfold I; omega), show ((i : Int) + 1) = ((i + 1 : Nat) : Int) from by omega, ih (i + 1) (by omega) f (by omega)]
      simp [h]
    · rw [decide_eq_false h, Bool.not_false, cond_true]
      simp [h]
theorem sameStore_loop2 (a b : Mk.Store) (hab : a.Past.length = b.Past.length) (hl : a.Past.length ≤ 9223372036854775807) (k : Unit → Option Bool) : ∀ (m i : Nat), i + m = a.Past.length → ∀ f : Nat, m < f →
    mkref1_SameStore_l2 k f (a.Past.length : Int) (i : Int) a b = if a.Past.drop i = b.Past.drop i then k () else some false := by
  intro m
  induction m with
  | zero =>
    intro i hi f hf
    obtain ⟨f, rfl⟩ : ∃ g, f = g + 1 := ⟨f - 1, by omega⟩
    rw [mkref1_SameStore_l2, decide_eq_false (by omega), cond_false, List.drop_of_length_le (by omega), List.drop_of_length_le (by omega), if_pos rfl]
  | succ m ih =>
    intro i hi f hf
    obtain ⟨f, rfl⟩ : ∃ g, f = g + 1 := ⟨f - 1, by omega⟩
    rw [mkref1_SameStore_l2, decide_eq_true (by omega), cond_true, G_on (by omega), G_on (by omega), ix_drop a.Past i (by omega), ix_drop b.Past i (by omega)]
    by_cases h : ix a.Past (i : Int) = ix b.Past (i : Int)
    · rw [decide_eq_true h, Bool.not_true, cond_false, G_on (by unfold I; omega), show ((i : Int) + 1) = ((i + 1 : Nat) : Int) from by omega, ih (i + 1) (by omega) f (by omega)]
      simp [h]
    · rw [decide_eq_false h, Bool.not_false, cond_true]
      simp [h]
/-- a store that memory holds -/
structure Sz (s : Mk.Store) : Prop where
  c : s.Cells.length ≤ 1000000
  u : s.Undo.length ≤ 1000000
  a : s.Answers.length ≤ 1000000
  p : s.Past.length ≤ 1000000
theorem sameStore_eq (a b : Mk.Store) (h : Sz a) : mkref1_SameStore a b = some (decide (a = b)) := by
  have hc := h.c; have hu := h.u; have ha := h.a; have hp := h.p
  unfold mkref1_SameStore
  rw [sameInts_eq _ _ (by omega), Option.bind_some, sameWrites_eq _ _ (by omega)]
  have e : (a = b) ↔ (a.Cells = b.Cells ∧ a.Undo = b.Undo ∧ a.Answers = b.Answers ∧ a.Past = b.Past) := by
    obtain ⟨c1, u1, a1, p1⟩ := a
    obtain ⟨c2, u2, a2, p2⟩ := b
    simp
  by_cases h1 : a.Cells = b.Cells
  · by_cases h2 : a.Undo = b.Undo
    · by_cases h3 : a.Answers.length = b.Answers.length
      · by_cases h4 : a.Past.length = b.Past.length
        · have l1 := sameStore_loop1 a b h3 (by omega)
          have l2 := sameStore_loop2 a b h4 (by omega)
          simp only [J, Cn, h1, h2, h3, h4, decide_true, Bool.not_true, if_true, Option.bind_some, Bool.or_false, cond_false]
          rw [← h3]
          have e1 := fun k => l1 k a.Answers.length 0 (by omega) (((a.Answers.length : Int) - 0).toNat + 1) (by omega)
          have e2 := fun k => l2 k a.Past.length 0 (by omega) (((a.Past.length : Int) - 0).toNat + 1) (by omega)
          rw [show ((0 : Nat) : Int) = 0 from rfl] at e1 e2
          rw [e1]
          simp only [List.drop_zero]
          by_cases h5 : a.Answers = b.Answers
          · rw [if_pos h5, e2]
            simp only [List.drop_zero]
            by_cases h6 : a.Past = b.Past
            · rw [if_pos h6]; congr 1; exact (decide_eq_true (e.2 ⟨h1, h2, h5, h6⟩)).symm
            · rw [if_neg h6]; congr 1; exact (decide_eq_false fun hh => h6 (e.1 hh).2.2.2).symm
          · rw [if_neg h5]; congr 1; exact (decide_eq_false fun hh => h5 (e.1 hh).2.2.1).symm
        · have : a ≠ b := fun hh => h4 (by rw [hh])
          have e3 : decide ((a.Past.length : Int) = (b.Past.length : Int)) = false := decide_eq_false (by omega)
          simp only [Cn, h1, h2, h3, decide_true, Bool.not_true, if_true, Option.bind_some, e3, Bool.not_false, Bool.or_true, cond_true, decide_eq_false this]
      · have : a ≠ b := fun hh => h3 (by rw [hh])
        have e3 : decide ((a.Answers.length : Int) = (b.Answers.length : Int)) = false := decide_eq_false (by omega)
        simp only [Cn, h1, h2, decide_true, Bool.not_true, if_true, Option.bind_some, e3, Bool.not_false, Bool.or_true, Bool.true_or, cond_true, decide_eq_false this]
    · have : a ≠ b := fun hh => h2 (by rw [hh])
      simp [Cn, h1, h2, this]
  · have : a ≠ b := fun hh => h1 (by rw [hh])
    simp [Cn, h1, this]

/-! ### a right store -/
/-- are these answers, from one on, right, and each to another client? -/
def okA (l : List Mk.Answer) : Nat → Nat → Bool
  | 0, _ => true
  | m + 1, i => decide (wans (ix l (i : Int)) = 0) && (l.take i).all (fun b => decide ((ix l (i : Int)).Client ≠ b.Client)) && okA l m (i + 1)
structure RS (s : Mk.Store) : Prop where
  len : s.Cells.length = 11
  wc : wcells (wrs s.Cells s.Undo) = 0
  u : s.Undo.length ≤ 100
  a : s.Answers.length ≤ 3
  p : s.Past.length ≤ 100
  ok : okA s.Answers s.Answers.length 0 = true
  at1 : ∀ w ∈ s.Undo, 0 ≤ w.At ∧ w.At ≤ 10
theorem RS.sz {s : Mk.Store} (h : RS s) : Sz s := by
  have h1 := h.len; have h2 := h.u; have h3 := h.a; have h4 := h.p
  exact ⟨by omega, by omega, by omega, by omega⟩
theorem right_loop2 (y : Mk.Store) (x : Mk.Answer) (e : List Mk.Answer) (he : e.length ≤ 1000000) (k : List Mk.Answer → Int → Int → Mk.Store → Option Bool) (l : List Mk.Answer) (n q : Int) : ∀ (m j : Nat), j + m = e.length → ∀ f : Nat, m < f →
    mkref1_RightStore_l2 k f l n q e (e.length : Int) (j : Int) y x = if (e.drop j).all (fun b => decide (x.Client ≠ b.Client)) then k l n q y else some false := by
  intro m
  induction m with
  | zero =>
    intro j hj f hf
    obtain ⟨f, rfl⟩ : ∃ g, f = g + 1 := ⟨f - 1, by omega⟩
    rw [mkref1_RightStore_l2, decide_eq_false (by omega), cond_false, List.drop_of_length_le (by omega)]; simp
  | succ m ih =>
    intro j hj f hf
    obtain ⟨f, rfl⟩ : ∃ g, f = g + 1 := ⟨f - 1, by omega⟩
    rw [mkref1_RightStore_l2, decide_eq_true (by omega), cond_true, G_on (by omega), ix_drop e j (by omega)]
    by_cases h : x.Client = (ix e (j : Int)).Client
    · rw [decide_eq_true h, cond_true]; simp [h]
    · rw [decide_eq_false h, cond_false, G_on (by unfold I; omega), show ((j : Int) + 1) = ((j + 1 : Nat) : Int) from by omega, ih (j + 1) (by omega) f (by omega)]
      simp [h]
theorem right_loop1 (s : Mk.Store) (hl : s.Answers.length ≤ 1000000) (k : Mk.Store → Option Bool) : ∀ (m i : Nat), i + m = s.Answers.length → ∀ f : Nat, m < f →
    mkref1_RightStore_l1 k f s.Answers (s.Answers.length : Int) (i : Int) s = if okA s.Answers m i then k s else some false := by
  intro m
  induction m with
  | zero =>
    intro i hi f hf
    obtain ⟨f, rfl⟩ : ∃ g, f = g + 1 := ⟨f - 1, by omega⟩
    rw [mkref1_RightStore_l1, decide_eq_false (by omega), cond_false]; simp [okA]
  | succ m ih =>
    intro i hi f hf
    obtain ⟨f, rfl⟩ : ∃ g, f = g + 1 := ⟨f - 1, by omega⟩
    rw [mkref1_RightStore_l1, decide_eq_true (by omega), cond_true]
    simp only [J]
    rw [G_on (by omega), rwans_eq, Option.bind_some, okA]
    by_cases h : wans (ix s.Answers (i : Int)) = 0
    · rw [decide_eq_true h, Bool.not_true, cond_false, G_on (by omega)]
      have hs : sub s.Answers 0 (i : Int) = s.Answers.take i := by simp
      rw [hs]
      have h2 := fun k => right_loop2 s (ix s.Answers (i : Int)) (s.Answers.take i) (by simp; omega) k s.Answers (s.Answers.length : Int) (i : Int) (s.Answers.take i).length 0 (by omega) ((((s.Answers.take i).length : Int) - 0).toNat + 1) (by omega)
      rw [show ((0 : Nat) : Int) = 0 from rfl] at h2
      rw [h2, List.drop_zero, G_on (by unfold I; omega), show ((i : Int) + 1) = ((i + 1 : Nat) : Int) from by omega, ih (i + 1) (by omega) f (by omega)]
      by_cases h3 : (s.Answers.take i).all (fun b => decide ((ix s.Answers (i : Int)).Client ≠ b.Client)) = true
      · rw [if_pos h3, h3]; simp
      · rw [if_neg h3]; simp only [Bool.not_eq_true] at h3; rw [h3]; simp
    · rw [decide_eq_false h, Bool.not_false, cond_true]; simp
theorem right_loop3 (l : List Mk.Write) (hl : l.length ≤ 1000000) (k : Unit → Option Bool) : ∀ (m i : Nat), i + m = l.length → ∀ f : Nat, m < f →
    mkref1_RightStore_l3 k f l (l.length : Int) (i : Int) = if (l.drop i).all (fun w => decide (0 ≤ w.At ∧ w.At ≤ 10)) then k () else some false := by
  intro m
  induction m with
  | zero =>
    intro i hi f hf
    obtain ⟨f, rfl⟩ : ∃ g, f = g + 1 := ⟨f - 1, by omega⟩
    rw [mkref1_RightStore_l3, decide_eq_false (by omega), cond_false, List.drop_of_length_le (by omega)]; simp
  | succ m ih =>
    intro i hi f hf
    obtain ⟨f, rfl⟩ : ∃ g, f = g + 1 := ⟨f - 1, by omega⟩
    rw [mkref1_RightStore_l3, decide_eq_true (by omega), cond_true, G_on (by omega), ix_drop l i (by omega)]
    by_cases h : 0 ≤ (ix l (i : Int)).At ∧ (ix l (i : Int)).At ≤ 10
    · have hb : (decide ((ix l (i : Int)).At < 0) || decide (10 < (ix l (i : Int)).At)) = false := by
        simp only [Bool.or_eq_false_iff, decide_eq_false_iff_not]; omega
      rw [hb, cond_false, G_on (by unfold I; omega), show ((i : Int) + 1) = ((i + 1 : Nat) : Int) from by omega, ih (i + 1) (by omega) f (by omega), List.all_cons, decide_eq_true h, Bool.true_and]
    · have hb : (decide ((ix l (i : Int)).At < 0) || decide (10 < (ix l (i : Int)).At)) = true := by
        simp only [Bool.or_eq_true, decide_eq_true_eq]; omega
      rw [hb, cond_true, List.all_cons, decide_eq_false h, Bool.false_and]; simp
theorem rightStore_eq (s : Mk.Store) (hu : s.Undo.length ≤ 9223372036854775807) : ∃ b, mkref1_RightStore s = some b ∧ (b = true ↔ RS s) := by
  unfold mkref1_RightStore
  by_cases h1 : s.Cells.length = 11
  · rw [rset2_eq _ (by omega) _ hu, decide_eq_true (by omega), Bool.not_true, Cn_yes rfl, Option.bind_some, Cn_yes rfl, rwcells_eq, Option.bind_some]
    by_cases h2 : wcells (wrs s.Cells s.Undo) = 0
    · by_cases h3 : s.Undo.length ≤ 100
      · by_cases h4 : s.Answers.length ≤ 3
        · by_cases h5 : s.Past.length ≤ 100
          · rw [decide_eq_true h2, decide_eq_false (by omega), decide_eq_false (by omega), decide_eq_false (by omega)]
            simp only [Bool.not_true, Bool.or_self, cond_false, J]
            have l1 := fun k => right_loop1 s (by omega) k s.Answers.length 0 (by omega) (((s.Answers.length : Int) - 0).toNat + 1) (by omega)
            have l3 := fun k => right_loop3 s.Undo (by omega) k s.Undo.length 0 (by omega) (((s.Undo.length : Int) - 0).toNat + 1) (by omega)
            rw [show ((0 : Nat) : Int) = 0 from rfl] at l1 l3
            rw [l1]
            by_cases h6 : okA s.Answers s.Answers.length 0 = true
            · rw [if_pos h6, l3, List.drop_zero]
              by_cases h7 : (s.Undo.all fun w => decide (0 ≤ w.At ∧ w.At ≤ 10)) = true
              · rw [if_pos h7]
                refine ⟨true, rfl, fun _ => ⟨h1, h2, h3, h4, h5, h6, ?_⟩, fun _ => rfl⟩
                intro w hw
                exact of_decide_eq_true (List.all_eq_true.1 h7 w hw)
              · rw [if_neg h7]
                refine ⟨false, rfl, ⟨fun h => (by cases h), fun h => (h7 ?_).elim⟩⟩
                exact List.all_eq_true.2 fun w hw => decide_eq_true (h.at1 w hw)
            · rw [if_neg h6]
              exact ⟨false, rfl, ⟨fun h => (by cases h), fun h => (h6 h.ok).elim⟩⟩
          · rw [decide_eq_true (show (100 : Int) < s.Past.length from by omega), Bool.or_true, cond_true]
            exact ⟨false, rfl, ⟨fun h => (by cases h), fun h => (h5 h.p).elim⟩⟩
        · rw [decide_eq_true (show (3 : Int) < s.Answers.length from by omega), Bool.or_true, Bool.true_or, cond_true]
          exact ⟨false, rfl, ⟨fun h => (by cases h), fun h => (h4 h.a).elim⟩⟩
      · rw [decide_eq_true (show (100 : Int) < s.Undo.length from by omega), Bool.or_true, Bool.true_or, Bool.true_or, cond_true]
        exact ⟨false, rfl, ⟨fun h => (by cases h), fun h => (h3 h.u).elim⟩⟩
    · rw [decide_eq_false h2]
      simp only [Bool.not_false, Bool.or_true, Bool.true_or, cond_true]
      exact ⟨false, rfl, ⟨fun h => (by cases h), fun h => (h2 h.wc).elim⟩⟩
  · rw [decide_eq_false (by omega), Cn_no (by simp), Option.bind_some, Cn_no (by simp), Option.bind_some]
    simp only [Bool.not_false, Bool.true_or, cond_true]
    exact ⟨false, rfl, ⟨fun h => (by cases h), fun h => (h1 h.len).elim⟩⟩

/-! ### the last answer -/
def last (s : Mk.Store) (c : Int) : Mk.Answer × Bool := match s.Answers.find? (fun a => decide (a.Client = c)) with | some a => (a, true) | none => (ans0, false)
theorem slast_loop (c : Int) (l : List Mk.Answer) (hl : l.length ≤ 1000000) (k : Mk.Answer → Option (Mk.Answer × Bool)) (y : Mk.Answer) (hk : k y = some (ans0, false)) : ∀ (m i : Nat), i + m = l.length → ∀ f : Nat, m < f →
    store_Last_l1 k f c l (l.length : Int) (i : Int) y = some (match (l.drop i).find? (fun a => decide (a.Client = c)) with | some a => (a, true) | none => (ans0, false)) := by
  intro m
  induction m with
  | zero =>
    intro i hi f hf
    obtain ⟨f, rfl⟩ : ∃ g, f = g + 1 := ⟨f - 1, by omega⟩
    rw [store_Last_l1, decide_eq_false (by omega), cond_false, hk, List.drop_of_length_le (by omega)]; rfl
  | succ m ih =>
    intro i hi f hf
    obtain ⟨f, rfl⟩ : ∃ g, f = g + 1 := ⟨f - 1, by omega⟩
    rw [store_Last_l1, decide_eq_true (by omega), cond_true, G_on (by omega), ix_drop l i (by omega), List.find?_cons]
    by_cases h : (ix l (i : Int)).Client = c
    · rw [decide_eq_true h, cond_true]
    · rw [decide_eq_false h, cond_false, G_on (by unfold I; omega), show ((i : Int) + 1) = ((i + 1 : Nat) : Int) from by omega, ih (i + 1) (by omega) f (by omega)]
theorem slast_eq (s : Mk.Store) (c : Int) (hl : s.Answers.length ≤ 1000000) : store_Last s c = some (last s c) := by
  unfold store_Last last
  simp only [J]
  have := slast_loop c s.Answers hl (fun _ => some (ans0, false)) ans0 rfl s.Answers.length 0 (by omega) (((s.Answers.length : Int) - 0).toNat + 1) (by omega)
  rw [show ((0 : Nat) : Int) = 0 from rfl, List.drop_zero] at this
  exact this
theorem rlast_loop (c : Int) (s : Mk.Store) (hl : s.Answers.length ≤ 1000000) (k : Mk.Answer → Option (Mk.Answer × Bool)) (y : Mk.Answer) (hk : k y = some (ans0, false)) : ∀ (m i : Nat), i + m = s.Answers.length → ∀ f : Nat, m < f →
    mkref1_Last_l1 k f c (s.Answers.length : Int) (i : Int) s y = some (match (s.Answers.drop i).find? (fun a => decide (a.Client = c)) with | some a => (a, true) | none => (ans0, false)) := by
  intro m
  induction m with
  | zero =>
    intro i hi f hf
    obtain ⟨f, rfl⟩ : ∃ g, f = g + 1 := ⟨f - 1, by omega⟩
    rw [mkref1_Last_l1, decide_eq_false (by omega), cond_false, hk, List.drop_of_length_le (by omega)]; rfl
  | succ m ih =>
    intro i hi f hf
    obtain ⟨f, rfl⟩ : ∃ g, f = g + 1 := ⟨f - 1, by omega⟩
    rw [mkref1_Last_l1, decide_eq_true (by omega), cond_true, G_on (by omega), ix_drop s.Answers i (by omega), List.find?_cons]
    by_cases h : (ix s.Answers (i : Int)).Client = c
    · rw [decide_eq_true h, cond_true, G_on (by omega)]
    · rw [decide_eq_false h, cond_false, G_on (by unfold I; omega), show ((i : Int) + 1) = ((i + 1 : Nat) : Int) from by omega, ih (i + 1) (by omega) f (by omega)]
theorem rlast_eq (s : Mk.Store) (c : Int) (hl : s.Answers.length ≤ 1000000) : mkref1_Last s c = some (last s c) := by
  unfold mkref1_Last last
  simp only [J]
  have := rlast_loop c s hl (fun _ => some (ans0, false)) ans0 rfl s.Answers.length 0 (by omega) (((s.Answers.length : Int) - 0).toNat + 1) (by omega)
  rw [show ((0 : Nat) : Int) = 0 from rfl, List.drop_zero] at this
  exact this

/-! ### own, write, commit, back -/
theorem cloneA_eq (l : List Mk.Answer) (h : l.length ≤ 1000000) : slices_Clone___api_Answer_api_Answer_ l = some l := by
  unfold slices_Clone___api_Answer_api_Answer_
  rw [G_on (by simp; omega)]; simp
theorem cloneR_eq (l : List Mk.Request) (h : l.length ≤ 1000000) : slices_Clone___api_Request_api_Request_ l = some l := by
  unfold slices_Clone___api_Request_api_Request_
  rw [G_on (by simp; omega)]; simp
theorem own_eq {s : Mk.Store} (h : Sz s) : store_Own s = some s := by
  have hc := h.c; have hu := h.u; have ha := h.a; have hp := h.p
  unfold store_Own
  rw [cloneI_eq _ (by omega), Option.bind_some, cloneW_eq _ (by omega), Option.bind_some, cloneA_eq _ ha, Option.bind_some, cloneR_eq _ hp, Option.bind_some]
/-- a store behind a write -/
def wrS (s : Mk.Store) (w : Mk.Write) : Mk.Store := if 0 ≤ w.At ∧ w.At < s.Cells.length then { s with Cells := wr s.Cells w, Undo := ⟨w.At, ix s.Cells w.At⟩ :: s.Undo } else s
theorem swrite_eq {s : Mk.Store} (h : Sz s) (w : Mk.Write) : store_Write s w = some (wrS s w) := by
  have hc := h.c; have hu := h.u; have ha := h.a; have hp := h.p
  unfold store_Write
  have e : fwd s.Cells [w] = if 0 ≤ w.At ∧ w.At < s.Cells.length then [⟨w.At, ix s.Cells w.At⟩] else [] := by simp [fwd]
  rw [own_eq h, Option.bind_some, cundo_eq _ (by omega) _ (by simp), Option.bind_some, e, cset_eq _ (by simpa using by omega) _ (by simp)]
  unfold wrS
  by_cases hw : 0 ≤ w.At ∧ w.At < s.Cells.length
  · rw [if_pos hw, if_pos hw, G_on (by simp; omega)]
    simp [wrs]
  · have e2 : wr s.Cells w = s.Cells := by unfold wr; rw [if_neg hw]
    rw [if_neg hw, if_neg hw, G_on (by simp; omega)]
    simp [wrs, e2]
theorem rwrite_eq {s : Mk.Store} (h : Sz s) (w : Mk.Write) : mkref1_Write s w = some (wrS s w) := by
  have hc := h.c; have hu := h.u; have ha := h.a; have hp := h.p
  unfold mkref1_Write wrS
  simp only [J]
  by_cases hw : 0 ≤ w.At ∧ w.At < s.Cells.length
  · rw [decide_eq_true hw.1, decide_eq_true hw.2, Bool.and_self, cond_true, G_on hw, G_on (by simp; omega), rset_eq _ (by simpa using by omega) _ (by simp), Option.bind_some, if_pos hw]
    simp [wrs]
  · have hb : (decide (0 ≤ w.At) && decide (w.At < (s.Cells.length : Int))) = false := by
      simp only [Bool.and_eq_false_iff, decide_eq_false_iff_not]; omega
    rw [hb, cond_false, if_neg hw]
/-- answers behind one more: in place of the one to the same client -/
def ansPut : List Mk.Answer → Mk.Answer → List Mk.Answer
  | [], a => [a]
  | x :: l, a => if x.Client = a.Client then a :: l else x :: ansPut l a
theorem ansPut_len (l : List Mk.Answer) (a : Mk.Answer) : (ansPut l a).length ≤ l.length + 1 := by
  induction l with
  | nil => simp [ansPut]
  | cons x l ih => unfold ansPut; split <;> simp <;> omega
/-- a store behind a request that is done -/
def commit (s : Mk.Store) (r : Mk.Request) (says : Mk.Reply) : Mk.Store := ⟨s.Cells, [], ansPut s.Answers ⟨r.Client, r.Token, says⟩, s.Past ++ [r]⟩
theorem scommit_loop (r : Mk.Request) (a : Mk.Answer) (ha : a.Client = r.Client) (y6 y7 : Mk.Store) (P : List Mk.Request) (l : List Mk.Answer) (hl : l.length ≤ 1000000) (k : Mk.Store → Mk.Store → Mk.Answer → List Mk.Answer → List Mk.Request → Option Mk.Store)
    (hk : k y6 y7 a l P = some { y7 with Answers := l ++ [a], Past := P }) : ∀ (m i : Nat), i + m = l.length → ∀ f : Nat, m < f →
    store_Commit_l1 k f (l.length : Int) (i : Int) r y6 y7 a l P = some { y7 with Answers := l.take i ++ ansPut (l.drop i) a, Past := P } := by
  intro m
  induction m with
  | zero =>
    intro i hi f hf
    obtain ⟨f, rfl⟩ : ∃ g, f = g + 1 := ⟨f - 1, by omega⟩
    rw [store_Commit_l1, decide_eq_false (by omega), cond_false, hk, List.drop_of_length_le (by omega), List.take_of_length_le (by omega), ansPut]
  | succ m ih =>
    intro i hi f hf
    obtain ⟨f, rfl⟩ : ∃ g, f = g + 1 := ⟨f - 1, by omega⟩
    have hix : ix l (i : Int) = l[i]'(by omega) := ix_nat l i (by omega)
    rw [store_Commit_l1, decide_eq_true (by omega), cond_true, G_on (by omega), ix_drop l i (by omega), ansPut, ha]
    by_cases h : (ix l (i : Int)).Client = r.Client
    · rw [decide_eq_true h, cond_true, G_on (by omega), if_pos h]
      have : up l (i : Int) a = l.take i ++ a :: l.drop (i + 1) := by
        unfold up; rw [Int.toNat_natCast, List.set_eq_take_append_cons_drop, if_pos (by omega)]
      rw [this]
    · rw [decide_eq_false h, cond_false, G_on (by unfold I; omega), show ((i : Int) + 1) = ((i + 1 : Nat) : Int) from by omega, ih (i + 1) (by omega) f (by omega), if_neg h, hix]
      have : l.take (i + 1) = l.take i ++ [l[i]'(by omega)] := by simp
      rw [this, List.append_assoc]; rfl
theorem scommit_eq {s : Mk.Store} (h : Sz s) (r : Mk.Request) (says : Mk.Reply) : store_Commit s r says = some (commit s r says) := by
  have hc := h.c; have hu := h.u; have ha := h.a; have hp := h.p
  unfold store_Commit
  simp only [J]
  rw [own_eq h, Option.bind_some, G_on (by simp; omega)]
  have := fun y6 k hk => scommit_loop r ⟨r.Client, r.Token, says⟩ rfl y6 ⟨s.Cells, [], [], []⟩ (s.Past ++ [r]) s.Answers ha k hk s.Answers.length 0 (by omega) (((s.Answers.length : Int) - 0).toNat + 1) (by omega)
  rw [show ((0 : Nat) : Int) = 0 from rfl] at this
  rw [this _ _ (by rw [G_on (by simp; omega)])]
  simp [commit]
theorem rcommit_done (s : Mk.Store) (r : Mk.Request) (a : Mk.Answer) (y6 : Mk.Store) (l : List Mk.Answer) (hl : l.length ≤ 1000000) (k : Bool → Mk.Store → Mk.Request → Mk.Store → Mk.Answer → List Mk.Answer → Option Mk.Store) : ∀ (m i : Nat), i + m = l.length → ∀ f : Nat, m < f → ∀ acc : List Mk.Answer, acc.length ≤ i →
    mkref1_Commit_l1 k f true l (l.length : Int) (i : Int) s r y6 a acc = k true s r y6 a (acc ++ l.drop i) := by
  intro m
  induction m with
  | zero =>
    intro i hi f hf acc hacc
    obtain ⟨f, rfl⟩ : ∃ g, f = g + 1 := ⟨f - 1, by omega⟩
    rw [mkref1_Commit_l1, decide_eq_false (by omega), cond_false, List.drop_of_length_le (by omega), List.append_nil]
  | succ m ih =>
    intro i hi f hf acc hacc
    obtain ⟨f, rfl⟩ : ∃ g, f = g + 1 := ⟨f - 1, by omega⟩
    rw [mkref1_Commit_l1, decide_eq_true (by omega), cond_true]
    simp only [J]
    rw [G_on (by omega), Bool.not_true, Bool.and_false, cond_false, G_on (by simp; omega), G_on (by unfold I; omega), show ((i : Int) + 1) = ((i + 1 : Nat) : Int) from by omega, ih (i + 1) (by omega) f (by omega) _ (by simp; omega), ix_drop l i (by omega)]
    simp
theorem rcommit_loop (s : Mk.Store) (r : Mk.Request) (a : Mk.Answer) (ha : a.Client = r.Client) (y6 : Mk.Store) (l : List Mk.Answer) (hl : l.length ≤ 1000000) (k : Bool → Mk.Store → Mk.Request → Mk.Store → Mk.Answer → List Mk.Answer → Option Mk.Store) (F : List Mk.Answer → Option Mk.Store)
    (hk1 : ∀ y, y.length ≤ 2000000 → k true s r y6 a y = F y) (hk0 : ∀ y, y.length ≤ 2000000 → k false s r y6 a y = F (y ++ [a])) : ∀ (m i : Nat), i + m = l.length → ∀ f : Nat, m < f → ∀ acc : List Mk.Answer, acc.length ≤ i →
    mkref1_Commit_l1 k f false l (l.length : Int) (i : Int) s r y6 a acc = F (acc ++ ansPut (l.drop i) a) := by
  intro m
  induction m with
  | zero =>
    intro i hi f hf acc hacc
    obtain ⟨f, rfl⟩ : ∃ g, f = g + 1 := ⟨f - 1, by omega⟩
    rw [mkref1_Commit_l1, decide_eq_false (by omega), cond_false, List.drop_of_length_le (by omega), ansPut, hk0 _ (by omega)]
  | succ m ih =>
    intro i hi f hf acc hacc
    obtain ⟨f, rfl⟩ : ∃ g, f = g + 1 := ⟨f - 1, by omega⟩
    rw [mkref1_Commit_l1, decide_eq_true (by omega), cond_true]
    simp only [J]
    rw [G_on (by omega), ix_drop l i (by omega), ansPut, ha]
    by_cases h : (ix l (i : Int)).Client = r.Client
    · rw [decide_eq_true h, Bool.not_false, Bool.and_true, cond_true, G_on (by simp; omega), G_on (by unfold I; omega), show ((i : Int) + 1) = ((i + 1 : Nat) : Int) from by omega, rcommit_done s r a y6 l hl k m (i + 1) (by omega) f (by omega) _ (by simp; omega), if_pos h, hk1 _ (by simp; omega)]
      simp
    · rw [decide_eq_false h, Bool.false_and, cond_false, G_on (by simp; omega), G_on (by unfold I; omega), show ((i : Int) + 1) = ((i + 1 : Nat) : Int) from by omega, ih (i + 1) (by omega) f (by omega) _ (by simp; omega), if_neg h]
      simp
theorem rcommit_eq {s : Mk.Store} (h : Sz s) (r : Mk.Request) (says : Mk.Reply) : mkref1_Commit s r says = some (commit s r says) := by
  have hc := h.c; have hu := h.u; have ha := h.a; have hp := h.p
  unfold mkref1_Commit
  simp only [J]
  have := fun y6 k hk1 hk0 => rcommit_loop s r ⟨r.Client, r.Token, says⟩ rfl y6 s.Answers ha k (fun y => some ⟨s.Cells, [], y, s.Past ++ [r]⟩) hk1 hk0 s.Answers.length 0 (by omega) (((s.Answers.length : Int) - 0).toNat + 1) (by omega) [] (by simp)
  rw [show ((0 : Nat) : Int) = 0 from rfl] at this
  rw [this]
  · simp [commit]
  · intro y hy
    rw [Bool.not_true, cond_false, G_on (by simp; omega), G_on (by simp; omega)]; simp
  · intro y hy
    rw [Bool.not_false, cond_true, G_on (by simp; omega), G_on (by simp; omega), G_on (by simp; omega)]; simp
/-- a store without what does not stay -/
def back (s : Mk.Store) : Mk.Store := { s with Cells := wrs s.Cells s.Undo, Undo := [] }
theorem sback_eq {s : Mk.Store} (h : Sz s) : store_Back s = some (back s) := by
  have hc := h.c; have hu := h.u; have ha := h.a; have hp := h.p
  unfold store_Back
  rw [own_eq h, Option.bind_some, cset_eq _ (by omega) _ (by omega), Option.bind_some]; rfl
theorem rback_eq {s : Mk.Store} (h : Sz s) : mkref1_Back s = some (back s) := by
  have hc := h.c; have hu := h.u; have ha := h.a; have hp := h.p
  unfold mkref1_Back
  rw [rset2_eq _ (by omega) _ (by omega), Option.bind_some]; rfl
theorem snew_eq : store_New = some ⟨List.replicate 11 0, [], [], []⟩ := by
  unfold store_New cell_New
  rw [G_on (by decide), Option.bind_some]; rfl
theorem wrS_back {s : Mk.Store} (w : Mk.Write) : back (wrS s w) = back s := by
  unfold wrS
  split
  · rename_i h
    have h1 := wrs_back s.Cells [w]
    have e : fwd s.Cells [w] = [⟨w.At, ix s.Cells w.At⟩] := by simp [fwd, h]
    rw [e] at h1
    unfold back
    have h2 : wrs (wr s.Cells w) (⟨w.At, ix s.Cells w.At⟩ :: s.Undo) = wrs s.Cells s.Undo := by
      rw [show (⟨w.At, ix s.Cells w.At⟩ :: s.Undo : List Mk.Write) = [⟨w.At, ix s.Cells w.At⟩] ++ s.Undo from rfl, wrs_append]
      congr 1
    rw [h2]
  · rfl
end Sp
