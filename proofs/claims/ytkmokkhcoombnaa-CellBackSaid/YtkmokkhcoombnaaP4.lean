/- A CALL AT ONCE, BY PLACES; the plan of a call. Plain Lean, no program in sight. -/
import Derived.Test.YtkmokkhcoombnaaP3
namespace Sp
set_option linter.unusedVariables false
set_option linter.unusedSimpArgs false

/-- names that are unlike, and numbers that may be -/
structure Nm (l : List Mk.Write) : Prop where
  le : l.length ≤ 5
  at1 : ∀ w ∈ l, 1 ≤ w.At ∧ w.At ≤ 255 ∧ -1073741824 ≤ w.N ∧ w.N ≤ 1073741824
  nodup : (l.map (·.At)).Nodup
theorem Rt.nm {c : List Int} {l : List Mk.Write} (h : Rt c l) : Nm l := ⟨h.le, h.at1, h.nodup⟩

/-- a call that is right -/
structure CallOk (c : Mk.Call) : Prop where
  kind : 1 ≤ c.Kind ∧ c.Kind ≤ 6
  name : (c.Kind = 5 → c.Name = 0) ∧ (c.Kind ≠ 5 → 1 ≤ c.Name ∧ c.Name ≤ 255)
  other : (c.Kind = 6 → 1 ≤ c.Other ∧ c.Other ≤ 255) ∧ (c.Kind ≠ 6 → c.Other = 0)
  num : -1073741824 ≤ c.N ∧ c.N ≤ 1073741824 ∧ (c.Kind ≠ 1 → c.Kind ≠ 4 → c.N = 0)

theorem ix_mem {α : Type} [Inhabited α] (l : List α) (i : Int) (h : 0 ≤ i ∧ i < l.length) : ix l i ∈ l := by
  have : i.toNat < l.length := by omega
  simp [ix, this]
theorem ix_nat {α : Type} [Inhabited α] (l : List α) (i : Nat) (h : i < l.length) : ix l (i : Int) = l[i] := by simp [ix, h]
theorem ix_app {α : Type} [Inhabited α] (l m : List α) (i : Int) (h : 0 ≤ i ∧ i < l.length) : ix (l ++ m) i = ix l i := by
  have : i.toNat < l.length := by omega
  simp [ix, List.getElem?_append_left this]

theorem pos_spec (l : List Mk.Write) (x : Int) (h : 0 ≤ pos l x) : (ix l (pos l x)).At = x ∧ ∀ j : Nat, (j : Int) < pos l x → (ix l (j : Int)).At ≠ x := by
  induction l with
  | nil => simp [pos] at h
  | cons w l ih =>
    by_cases e : w.At = x
    · have e0 : pos (w :: l) x = 0 := by simp [pos, e]
      rw [e0]
      refine ⟨by simpa [ix] using e, fun j hj => by omega⟩
    · by_cases h2 : pos l x < 0
      · simp [pos, e, h2] at h
      · have h3 : pos (w :: l) x = pos l x + 1 := by simp [pos, e, h2]
        obtain ⟨h4, h5⟩ := ih (by omega)
        rw [h3]
        have h6 : (pos l x + 1).toNat = (pos l x).toNat + 1 := by omega
        refine ⟨?_, fun j hj => ?_⟩
        · simpa [ix, h6] using h4
        · cases j with
          | zero => simpa [ix] using e
          | succ j =>
            have := h5 j (by omega)
            simpa [ix] using this
theorem pos_neg (l : List Mk.Write) (x : Int) (h : pos l x < 0) : ∀ w ∈ l, w.At ≠ x := by
  induction l with
  | nil => simp
  | cons w l ih =>
    by_cases e : w.At = x
    · simp [pos, e] at h
    · by_cases h2 : pos l x < 0
      · intro v hv
        rcases List.mem_cons.1 hv with rfl | hv
        · exact e
        · exact ih h2 v hv
      · simp [pos, e, h2] at h; omega
theorem gt_eq (l : List Mk.Write) (x : Int) : gt l x = if pos l x < 0 then (0, false) else ((ix l (pos l x)).N, true) := by
  induction l with
  | nil => simp [gt, pos]
  | cons w l ih =>
    by_cases e : w.At = x
    · simp [gt, pos, e, ix]
    · by_cases h2 : pos l x < 0
      · simp [gt, pos, e, ih, h2]
      · have h6 : (pos l x + 1).toNat = (pos l x).toNat + 1 := by omega
        have h7 : ¬ (pos l x + 1 < 0) := by omega
        simp [gt, pos, e, ih, h2, ix, h6, h7]
theorem has_eq (l : List Mk.Write) (x : Int) : has l x = decide (0 ≤ pos l x) := by
  induction l with
  | nil => simp [has, pos]
  | cons w l ih =>
    by_cases e : w.At = x
    · simp [has, pos, e]
    · have : has (w :: l) x = has l x := by simp [has, e]
      rw [this, ih]
      by_cases h2 : pos l x < 0
      · simp [pos, e, h2]
      · have h7 : 0 ≤ pos l x + 1 := by omega
        have h8 : 0 ≤ pos l x := by omega
        simp [pos, e, h2, h7, h8]
theorem nodup_at {l : List Mk.Write} (h : (l.map (·.At)).Nodup) {i j : Nat} (hi : i < l.length) (hj : j < l.length) (e : l[i].At = l[j].At) : i = j := by
  have := List.nodup_iff_pairwise_ne.1 h
  rw [List.pairwise_map, List.pairwise_iff_getElem] at this
  rcases Nat.lt_trichotomy i j with h1 | h1 | h1
  · exact absurd e (this i j hi hj h1)
  · exact h1
  · exact absurd e.symm (this j i hj hi h1)
theorem map_at {l : List Mk.Write} (h : (l.map (·.At)).Nodup) (x : Int) (f : Mk.Write → Mk.Write) (hk : 0 ≤ pos l x) : (l.map fun w => if w.At = x then f w else w) = l.set (pos l x).toNat (f (ix l (pos l x))) := by
  have hr := pos_range l x
  have hs := (pos_spec l x hk).1
  have hp : (pos l x).toNat < l.length := by omega
  have hix : ix l (pos l x) = l[(pos l x).toNat] := by simp [ix, hp]
  rw [hix] at hs ⊢
  apply List.ext_getElem
  · simp
  · intro i h1 h2
    simp only [List.length_map] at h1
    rw [List.getElem_map, List.getElem_set]
    by_cases e : (pos l x).toNat = i
    · subst e; simp [hs]
    · rw [if_neg e, if_neg]
      intro e2
      exact e (nodup_at h hp h1 (hs.trans e2.symm))
theorem st_eq {l : List Mk.Write} (h : (l.map (·.At)).Nodup) (x n : Int) : st l x n = if pos l x < 0 then l ++ [⟨x, n⟩] else l.set (pos l x).toNat ⟨x, n⟩ := by
  unfold st
  rw [has_eq]
  by_cases hk : pos l x < 0
  · have h0 : ¬ (0 ≤ pos l x) := by omega
    have : put l x n = l := by
      unfold put
      conv => rhs; rw [← List.map_id l]
      apply List.map_congr_left
      intro w hw
      rw [if_neg (pos_neg l x hk w hw)]; rfl
    simp [hk, h0, this]
  · have h0 : 0 ≤ pos l x := by omega
    have hs := (pos_spec l x h0).1
    simp only [h0, hk, decide_true, if_true, if_false]
    unfold put
    rw [map_at h x (fun w => { w with N := n }) h0, hs]
theorem dp_eq {l : List Mk.Write} (h : (l.map (·.At)).Nodup) (x : Int) (hk : 0 ≤ pos l x) : dp l x = (l.set (pos l x).toNat (ix l ((l.length : Int) - 1))).take (l.length - 1) := by
  unfold dp
  rw [map_at h x (fun _ => ix l ((l.length : Int) - 1)) hk]

/-- a call at once, by places -/
def doP (l : List Mk.Write) (c : Mk.Call) : List Mk.Write × Mk.Reply :=
  if c.Kind = 5 then (l, ⟨0, l.length⟩)
  else if c.Kind = 1 then
    (if pos l c.Name < 0 then (if 5 ≤ l.length then (l, ⟨9, 0⟩) else (l ++ [⟨c.Name, c.N⟩], ⟨0, 0⟩))
     else (l.set (pos l c.Name).toNat ⟨c.Name, c.N⟩, ⟨0, (ix l (pos l c.Name)).N⟩))
  else if pos l c.Name < 0 then (l, ⟨6, 0⟩)
  else if c.Kind = 2 then (l, ⟨0, (ix l (pos l c.Name)).N⟩)
  else if c.Kind = 3 then ((l.set (pos l c.Name).toNat (ix l ((l.length : Int) - 1))).take (l.length - 1), ⟨0, (ix l (pos l c.Name)).N⟩)
  else if c.Kind = 4 then
    (if 1073741824 < (ix l (pos l c.Name)).N + c.N ∨ (ix l (pos l c.Name)).N + c.N < -1073741824 then (l, ⟨3, 0⟩)
     else (l.set (pos l c.Name).toNat ⟨c.Name, (ix l (pos l c.Name)).N + c.N⟩, ⟨0, (ix l (pos l c.Name)).N + c.N⟩))
  else if pos l c.Other < 0 then (l, ⟨6, 0⟩)
  else ((l.set (pos l c.Name).toNat ⟨c.Name, (ix l (pos l c.Other)).N⟩).set (pos l c.Other).toNat ⟨c.Other, (ix l (pos l c.Name)).N⟩, ⟨0, (ix l (pos l c.Other)).N⟩)

theorem pos_map {l m : List Mk.Write} (h : l.map (·.At) = m.map (·.At)) (x : Int) : pos l x = pos m x := by
  induction l generalizing m with
  | nil => cases m with
    | nil => rfl
    | cons w m => simp at h
  | cons w l ih =>
    cases m with
    | nil => simp at h
    | cons v m =>
      simp only [List.map_cons, List.cons.injEq] at h
      simp only [pos, h.1, ih h.2]
theorem set_names {l : List Mk.Write} {k : Int} {w : Mk.Write} (hk : 0 ≤ k ∧ k < l.length) (h : (ix l k).At = w.At) : (l.set k.toNat w).map (·.At) = l.map (·.At) := by
  have hp : k.toNat < l.length := by omega
  have hix : ix l k = l[k.toNat] := by simp [ix, hp]
  rw [hix] at h
  rw [List.map_set, ← h]
  apply List.ext_getElem
  · simp
  · intro i h1 h2
    rw [List.getElem_set]
    by_cases e : k.toNat = i
    · subst e; simp
    · rw [if_neg e]
theorem Nm.call {l : List Mk.Write} (h : Nm l) {x : Int} (hk : 0 ≤ pos l x) : -1073741824 ≤ (ix l (pos l x)).N ∧ (ix l (pos l x)).N ≤ 1073741824 := by
  have hr := pos_range l x
  have := h.at1 _ (ix_mem l (pos l x) ⟨hk, hr.2⟩)
  omega
theorem do_eqP {l : List Mk.Write} {c : Mk.Call} (h : Nm l) (hc : CallOk c) : mkref1_Do l c = some (doP l c) := by
  have hle := h.le
  have hnum := hc.num
  rw [do_eq l c (by omega)]
  · unfold doR doP
    simp only [gt_eq]
    by_cases k5 : c.Kind = 5
    · simp [k5]
    simp only [if_neg k5]
    by_cases hp : pos l c.Name < 0
    · simp only [hp, if_true, true_and, st_eq h.nodup]
      by_cases k1 : c.Kind = 1
      · by_cases h5 : 5 ≤ l.length
        · have : (5 : Int) ≤ l.length := by omega
          simp [k1, h5, this]
        · have : ¬ (5 : Int) ≤ l.length := by omega
          simp [k1, h5, this]
      · simp [k1]
    · have hr := pos_range l c.Name
      have hp0 : 0 ≤ pos l c.Name := by omega
      simp only [hp, if_false, Bool.true_eq_false, false_and, dp_eq h.nodup c.Name hp0, st_eq h.nodup c.Name]
      by_cases k1 : c.Kind = 1
      · simp [k1]
      by_cases k2 : c.Kind = 2
      · simp [k1, k2]
      by_cases k3 : c.Kind = 3
      · simp [k1, k2, k3]
      by_cases k4 : c.Kind = 4
      · simp [k1, k2, k3, k4]
      simp only [k1, k2, k3, k4, if_false]
      by_cases ho : pos l c.Other < 0
      · simp [ho]
      · have hs := (pos_spec l c.Name hp0).1
        have hnames := set_names (l := l) (k := pos l c.Name) (w := ⟨c.Name, (ix l (pos l c.Other)).N⟩) ⟨hp0, hr.2⟩ hs
        simp only [ho, if_false, Bool.true_eq_false]
        rw [st_eq (by rw [hnames]; exact h.nodup), pos_map hnames, if_neg ho]
  · intro k4
    rw [gt_eq]
    by_cases hp : pos l c.Name < 0
    · simp only [hp, if_true]; unfold I; omega
    · have := h.call (x := c.Name) (by omega)
      simp only [hp, if_false]; unfold I; omega

/-- what is wrong with a call -/
def wcall (c : Mk.Call) : Int :=
  if c.Kind < 1 ∨ 6 < c.Kind then 1
  else if (c.Kind = 5 ∧ c.Name ≠ 0) ∨ (c.Kind ≠ 5 ∧ (c.Name < 1 ∨ 255 < c.Name)) ∨ (c.Kind = 6 ∧ (c.Other < 1 ∨ 255 < c.Other)) ∨ (c.Kind ≠ 6 ∧ c.Other ≠ 0) then 7
  else if c.N < -1073741824 ∨ 1073741824 < c.N ∨ (c.Kind ≠ 1 ∧ c.Kind ≠ 4 ∧ c.N ≠ 0) then 3 else 0
theorem wrongCall_eq (c : Mk.Call) : mkref1_WrongCall c = some (wcall c) := by
  unfold mkref1_WrongCall wcall
  simp only [J, G, I, Bool.cond_eq_ite, Bool.or_eq_true, decide_eq_true_eq]
  repeat' split
  all_goals first | rfl | omega
theorem wcall_ok (c : Mk.Call) : wcall c = 0 ↔ CallOk c := by
  unfold wcall
  constructor
  · intro h
    repeat' split at h
    all_goals first | (exfalso; omega) | (constructor <;> omega)
  · intro h
    have h1 := h.kind
    have h2 := h.name
    have h3 := h.other
    have h4 := h.num
    repeat' split
    all_goals first | rfl | omega
theorem wcall_range (c : Mk.Call) : 0 ≤ wcall c ∧ wcall c ≤ 12 := by
  unfold wcall
  repeat' split
  all_goals omega
theorem G_true {α : Type} (k : Option α) : G True k = k := G_on trivial
theorem G_bind {α β : Type} {p : Prop} [Decidable p] (k : Option α) (f : α → Option β) : (G p k).bind f = G p (k.bind f) := by
  unfold G; split <;> rfl
end Sp
