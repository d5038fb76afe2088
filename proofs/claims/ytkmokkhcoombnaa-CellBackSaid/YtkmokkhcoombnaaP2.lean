/- A CALL AT ONCE (the document's answer to chapter 2), in plain Lean: closed forms of its loops. No program in sight. -/
import Derived.Test.YtkmokkhcoombnaaP1
namespace Sp
set_option linter.unusedVariables false
set_option linter.unusedSimpArgs false

/-- a name's number among entries, and whether there is one -/
def gt : List Mk.Write → Int → Int × Bool
  | [], _ => (0, false)
  | w :: l, x => if w.At = x then (w.N, true) else gt l x
/-- entries with a name's number set, where it is -/
def put (l : List Mk.Write) (x n : Int) : List Mk.Write := l.map fun w => if w.At = x then { w with N := n } else w
/-- is a name there? -/
def has (l : List Mk.Write) (x : Int) : Bool := l.any fun w => decide (w.At = x)
/-- entries with a name's number set -/
def st (l : List Mk.Write) (x n : Int) : List Mk.Write := if has l x then put l x n else put l x n ++ [⟨x, n⟩]
/-- entries without a name: the last takes its place -/
def dp (l : List Mk.Write) (x : Int) : List Mk.Write := (l.map fun w => if w.At = x then ix l ((l.length : Int) - 1) else w).take (l.length - 1)

theorem get_loop (l : List Mk.Write) (x : Int) (hl : l.length ≤ 1000000000) (k : Unit → Option (Int × Bool)) (hk : k () = some (0, false)) : ∀ (m i : Nat), i + m = l.length → ∀ f : Nat, m < f →
    mkref1_get_l1 k f x l (l.length : Int) (i : Int) = some (gt (l.drop i) x) := by
  intro m
  induction m with
  | zero =>
    intro i hi f hf
    obtain ⟨f, rfl⟩ : ∃ g, f = g + 1 := ⟨f - 1, by omega⟩
    rw [mkref1_get_l1, decide_eq_false (by omega), cond_false, hk, List.drop_of_length_le (by omega)]
    rfl
  | succ m ih =>
    intro i hi f hf
    obtain ⟨f, rfl⟩ : ∃ g, f = g + 1 := ⟨f - 1, by omega⟩
    have e : ix l (i : Int) = ix l i := rfl
    rw [mkref1_get_l1, decide_eq_true (by omega), cond_true, G_on (by omega), ix_drop l i (by omega)]
    by_cases h : (ix l (i : Int)).At = x
    · rw [decide_eq_true h, cond_true]; simp only [gt, h, if_true]
    · rw [decide_eq_false h, cond_false, G_on (by unfold I; omega), show ((i : Int) + 1) = ((i + 1 : Nat) : Int) from by omega, ih (i + 1) (by omega) f (by omega)]
      simp only [gt, h, if_false]
theorem get_eq (l : List Mk.Write) (x : Int) (hl : l.length ≤ 1000000000) : mkref1_get l x = some (gt l x) := by
  unfold mkref1_get
  simp only [J]
  have := get_loop l x hl (fun _ => some (0, false)) rfl l.length 0 (by omega) (((l.length : Int) - 0).toNat + 1) (by omega)
  rw [show ((0 : Nat) : Int) = 0 from rfl, List.drop_zero] at this
  exact this

theorem set_loop (l : List Mk.Write) (x n : Int) (hl : l.length ≤ 1000000000) (k : Int → Int → Bool → List Mk.Write → Option (List Mk.Write)) : ∀ (m i : Nat), i + m = l.length → ∀ f : Nat, m < f → ∀ (done : Bool) (acc : List Mk.Write), acc.length = i →
    mkref1_set_l1 k f x n done l (l.length : Int) (i : Int) acc = k x n (done || has (l.drop i) x) (acc ++ put (l.drop i) x n) := by
  intro m
  induction m with
  | zero =>
    intro i hi f hf done acc ha
    obtain ⟨f, rfl⟩ : ∃ g, f = g + 1 := ⟨f - 1, by omega⟩
    rw [mkref1_set_l1, decide_eq_false (by omega), cond_false, List.drop_of_length_le (by omega)]
    simp [has, put]
  | succ m ih =>
    intro i hi f hf done acc ha
    obtain ⟨f, rfl⟩ : ∃ g, f = g + 1 := ⟨f - 1, by omega⟩
    rw [mkref1_set_l1, decide_eq_true (by omega), cond_true, G_on (by omega), ix_drop l i (by omega)]
    simp only [J]
    by_cases h : (ix l (i : Int)).At = x
    · rw [decide_eq_true h, cond_true, G_on (by simp; omega), G_on (by unfold I; omega), show ((i : Int) + 1) = ((i + 1 : Nat) : Int) from by omega, ih (i + 1) (by omega) f (by omega) _ _ (by simp [ha])]
      simp [has, put, h]
    · rw [decide_eq_false h, cond_false, G_on (by simp; omega), G_on (by unfold I; omega), show ((i : Int) + 1) = ((i + 1 : Nat) : Int) from by omega, ih (i + 1) (by omega) f (by omega) _ _ (by simp [ha])]
      simp [has, put, h]
theorem set_eq (l : List Mk.Write) (x n : Int) (hl : l.length ≤ 1000000000) : mkref1_set l x n = some (st l x n) := by
  unfold mkref1_set
  simp only [J]
  have := set_loop l x n hl (fun (x1_k1 : Int) (x2_k1 : Int) (x8_k1 : Bool) (y1007_k1 : List Mk.Write) => (bif (!x8_k1) then (
            G (((y1007_k1.length + ([({ At := x1_k1, N := x2_k1 } : Mk.Write)] : List Mk.Write).length) * 16 ≤ 140737488355328 ∧ y1007_k1.length + ([({ At := x1_k1, N := x2_k1 } : Mk.Write)] : List Mk.Write).length ≤ 9223372036854775807)) (
              some ((y1007_k1 ++ ([({ At := x1_k1, N := x2_k1 } : Mk.Write)] : List Mk.Write))))) else (
            some (y1007_k1)))) l.length 0 (by omega) (((l.length : Int) - 0).toNat + 1) (by omega) false [] rfl
  rw [show ((0 : Nat) : Int) = 0 from rfl, List.drop_zero] at this
  rw [this]
  unfold st
  cases h : has l x with
  | true => simp
  | false => simp [put]; rw [G_on (by omega)]

theorem drop_loop (l : List Mk.Write) (c : Mk.Call) (hl : l.length ≤ 1000000000) (k : Int → Mk.Reply → List Mk.Write → Option (List Mk.Write × Mk.Reply)) (n : Int) (r : Mk.Reply) : ∀ (m i : Nat), i + m = l.length → ∀ f : Nat, m < f → ∀ acc : List Mk.Write, acc.length ≤ i →
    mkref1_Do_l1 k f l n l (l.length : Int) (i : Int) c r acc = k n r (acc ++ ((l.drop i).map fun w => if w.At = c.Name then ix l ((l.length : Int) - 1) else w).take (l.length - 1 - i)) := by
  intro m
  induction m with
  | zero =>
    intro i hi f hf acc ha
    obtain ⟨f, rfl⟩ : ∃ g, f = g + 1 := ⟨f - 1, by omega⟩
    rw [mkref1_Do_l1, decide_eq_false (by omega), cond_false, List.drop_of_length_le (by omega)]
    simp
  | succ m ih =>
    intro i hi f hf acc ha
    obtain ⟨f, rfl⟩ : ∃ g, f = g + 1 := ⟨f - 1, by omega⟩
    rw [mkref1_Do_l1, decide_eq_true (by omega), cond_true]
    simp only [J]
    rw [G_on (by omega), ix_drop l i (by omega)]
    have step : ∀ (w : Mk.Write) (hw : w = if (ix l (i : Int)).At = c.Name then ix l ((l.length : Int) - 1) else ix l (i : Int)),
        (G (I ((l.length : Int) - 1)) (bif decide ((i : Int) < (l.length : Int) - 1) then G (((acc.length + [w].length) * 16 ≤ 140737488355328 ∧ acc.length + [w].length ≤ 9223372036854775807)) (G (I ((i : Int) + 1)) (mkref1_Do_l1 k f l n l (l.length : Int) ((i : Int) + 1) c r (acc ++ [w]))) else (G (I ((i : Int) + 1)) (mkref1_Do_l1 k f l n l (l.length : Int) ((i : Int) + 1) c r acc)))) =
          k n r (acc ++ ((ix l (i : Int) :: l.drop (i + 1)).map fun w => if w.At = c.Name then ix l ((l.length : Int) - 1) else w).take (l.length - 1 - i)) := by
      intro w hw
      rw [G_on (by unfold I; omega)]
      by_cases hlast : (i : Int) < (l.length : Int) - 1
      · rw [decide_eq_true hlast, cond_true, G_on (by simp; omega), G_on (by unfold I; omega), show ((i : Int) + 1) = ((i + 1 : Nat) : Int) from by omega, ih (i + 1) (by omega) f (by omega) _ (by simp; omega)]
        rw [show l.length - 1 - i = (l.length - 1 - (i + 1)) + 1 from by omega, List.map_cons, List.take_succ_cons, ← hw]
        simp
      · rw [decide_eq_false hlast, cond_false, G_on (by unfold I; omega), show ((i : Int) + 1) = ((i + 1 : Nat) : Int) from by omega, ih (i + 1) (by omega) f (by omega) _ (by omega)]
        rw [show l.length - 1 - i = 0 from by omega, show l.length - 1 - (i + 1) = 0 from by omega]
        simp
    by_cases h : (ix l (i : Int)).At = c.Name
    · rw [decide_eq_true h, cond_true, G_on (by unfold I; omega), G_on (by omega)]
      exact step _ (by rw [if_pos h])
    · rw [decide_eq_false h, cond_false]
      exact step _ (by rw [if_neg h])

theorem st_len (l : List Mk.Write) (x n : Int) : (st l x n).length ≤ l.length + 1 := by
  unfold st put
  split <;> simp
/-- a call at once -/
def doR (l : List Mk.Write) (c : Mk.Call) : List Mk.Write × Mk.Reply :=
  if c.Kind = 5 then (l, ⟨0, l.length⟩)
  else if c.Kind = 1 then (if (gt l c.Name).2 = false ∧ 5 ≤ (l.length : Int) then (l, ⟨9, 0⟩) else (st l c.Name c.N, ⟨0, (gt l c.Name).1⟩))
  else if (gt l c.Name).2 = false then (l, ⟨6, 0⟩)
  else if c.Kind = 2 then (l, ⟨0, (gt l c.Name).1⟩)
  else if c.Kind = 3 then (dp l c.Name, ⟨0, (gt l c.Name).1⟩)
  else if c.Kind = 4 then (if 1073741824 < (gt l c.Name).1 + c.N ∨ (gt l c.Name).1 + c.N < -1073741824 then (l, ⟨3, 0⟩) else (st l c.Name ((gt l c.Name).1 + c.N), ⟨0, (gt l c.Name).1 + c.N⟩))
  else if (gt l c.Other).2 = false then (l, ⟨6, 0⟩)
  else (st (st l c.Name (gt l c.Other).1) c.Other (gt l c.Name).1, ⟨0, (gt l c.Other).1⟩)

theorem do_eq (l : List Mk.Write) (c : Mk.Call) (hl : l.length ≤ 100000000) (hI : c.Kind = 4 → I ((gt l c.Name).1 + c.N)) : mkref1_Do l c = some (doR l c) := by
  have hs := fun x n => st_len l x n
  unfold mkref1_Do doR
  rw [get_eq l c.Name (by omega)]
  simp only [Option.bind_some, mkref1_Do_1]
  by_cases k5 : c.Kind = 5
  · simp [k5]
  rw [decide_eq_false k5, cond_false, if_neg k5]
  by_cases k1 : c.Kind = 1
  · rw [if_pos k1, decide_eq_true k1]
    simp only [Bool.true_and, cond_true, set_eq l c.Name c.N (by omega), Option.bind_some]
    by_cases h : (gt l c.Name).2 = false ∧ 5 ≤ (l.length : Int)
    · rw [if_pos h, h.1, decide_eq_true h.2]; rfl
    · rw [if_neg h]
      have : (!(gt l c.Name).2 && decide (5 ≤ (l.length : Int))) = false := by
        cases h1 : (gt l c.Name).2 with
        | true => rfl
        | false =>
          rw [decide_eq_false (fun h2 => h ⟨h1, h2⟩)]; rfl
      rw [this, cond_false]
  rw [if_neg k1, decide_eq_false k1]
  simp only [Bool.false_and, cond_false]
  by_cases h : (gt l c.Name).2 = false
  · rw [if_pos h, h]; rfl
  rw [if_neg h]
  have h' : (gt l c.Name).2 = true := by simpa using h
  rw [h']
  simp only [Bool.not_true, cond_false]
  by_cases k2 : c.Kind = 2
  · rw [if_pos k2, decide_eq_true k2, cond_true]
  rw [if_neg k2, decide_eq_false k2, cond_false]
  by_cases k3 : c.Kind = 3
  · rw [if_pos k3, decide_eq_true k3, cond_true]
    simp only [J]
    have := drop_loop l c (by omega) (fun (x6 : Int) (y5 : Mk.Reply) (y : List Mk.Write) => some (y, ({ Err := 0, N := x6 } : Mk.Reply))) (gt l c.Name).1 ⟨0, 0⟩ l.length 0 (by omega) (((l.length : Int) - 0).toNat + 1) (by omega) [] (Nat.le_refl _)
    rw [show ((0 : Nat) : Int) = 0 from rfl] at this
    rw [this]
    simp [dp]
  rw [if_neg k3, decide_eq_false k3, cond_false]
  by_cases k4 : c.Kind = 4
  · rw [if_pos k4, decide_eq_true k4, cond_true, G_on (hI k4), G_on (fun _ => hI k4)]
    by_cases hb : 1073741824 < (gt l c.Name).1 + c.N ∨ (gt l c.Name).1 + c.N < -1073741824
    · rw [if_pos hb]
      have : (decide (1073741824 < (gt l c.Name).1 + c.N) || decide ((gt l c.Name).1 + c.N < -1073741824)) = true := by simpa using hb
      rw [this]; rfl
    · rw [if_neg hb]
      have : (decide (1073741824 < (gt l c.Name).1 + c.N) || decide ((gt l c.Name).1 + c.N < -1073741824)) = false := by
        rw [Bool.or_eq_false_iff]
        exact ⟨decide_eq_false fun h => hb (.inl h), decide_eq_false fun h => hb (.inr h)⟩
      rw [this, cond_false, G_on (hI k4), set_eq _ _ _ (by omega), Option.bind_some, G_on (hI k4)]
  rw [if_neg k4, decide_eq_false k4, cond_false, get_eq l c.Other (by omega), Option.bind_some]
  by_cases ho : (gt l c.Other).2 = false
  · rw [if_pos ho, ho]; rfl
  have ho' : (gt l c.Other).2 = true := by simpa using ho
  rw [if_neg ho, ho', Bool.not_true, cond_false, set_eq _ _ _ (by omega), Option.bind_some, set_eq _ _ _ (by have := hs c.Name (gt l c.Other).1; omega), Option.bind_some]
end Sp
