/- THE PLAN OF A CALL, by places. Plain Lean, no program in sight. -/
import Derived.Test.YtkmokkhcoombnaaP4
namespace Sp
set_option linter.unusedVariables false
set_option linter.unusedSimpArgs false
set_option maxHeartbeats 1000000

/-- the writes that a call is, and what is told -/
def planR (l : List Mk.Write) (c : Mk.Call) : List Mk.Write × Mk.Reply :=
  if c.Kind = 5 then ([], ⟨0, l.length⟩)
  else if pos l c.Name < 0 then
    (if c.Kind = 1 then (if 5 ≤ (l.length : Int) then ([], ⟨9, 0⟩) else ([⟨1 + 2 * (l.length : Int), c.Name⟩, ⟨2 + 2 * (l.length : Int), c.N⟩, ⟨0, (l.length : Int) + 1⟩], ⟨0, 0⟩)) else ([], ⟨6, 0⟩))
  else if c.Kind = 1 then ([⟨2 + 2 * pos l c.Name, c.N⟩], ⟨0, (ix l (pos l c.Name)).N⟩)
  else if c.Kind = 3 then
    (if pos l c.Name < (l.length : Int) - 1 then [⟨1 + 2 * pos l c.Name, (ix l ((l.length : Int) - 1)).At⟩, ⟨2 + 2 * pos l c.Name, (ix l ((l.length : Int) - 1)).N⟩, ⟨0, (l.length : Int) - 1⟩] else [⟨0, (l.length : Int) - 1⟩], ⟨0, (ix l (pos l c.Name)).N⟩)
  else if c.Kind = 4 then
    (if 1073741824 < (ix l (pos l c.Name)).N + c.N ∨ (ix l (pos l c.Name)).N + c.N < -1073741824 then ([], ⟨3, 0⟩) else ([⟨2 + 2 * pos l c.Name, (ix l (pos l c.Name)).N + c.N⟩], ⟨0, (ix l (pos l c.Name)).N + c.N⟩))
  else if c.Kind = 6 then
    (if pos l c.Other < 0 then ([], ⟨6, 0⟩) else ([⟨2 + 2 * pos l c.Name, (ix l (pos l c.Other)).N⟩, ⟨2 + 2 * pos l c.Other, (ix l (pos l c.Name)).N⟩], ⟨0, (ix l (pos l c.Other)).N⟩))
  else ([], ⟨0, (ix l (pos l c.Name)).N⟩)

theorem Rt.at (c : List Int) (l : List Mk.Write) (h : Rt c l) (k : Int) (hk : 0 ≤ k ∧ k < l.length) : ix c (1 + 2 * k) = (ix l k).At ∧ ix c (2 + 2 * k) = (ix l k).N := by
  have := h.ats k.toNat (by omega)
  rwa [show ((k.toNat : Nat) : Int) = k from by omega] at this

theorem make_eq {c : List Int} {l : List Mk.Write} {call : Mk.Call} (h : Rt c l) (hc : CallOk call) : plan_Make c call = some (planR l call) := by
  have hle := h.le
  have hlen := h.len
  have hn := h.n
  have hr := pos_range l call.Name
  have ho := pos_range l call.Other
  have hnum := hc.num
  have hk := hc.kind
  have h1 : 0 ≤ pos l call.Name → ix c (2 + 2 * pos l call.Name) = (ix l (pos l call.Name)).N := fun hp => (h.at c l _ ⟨hp, hr.2⟩).2
  have h2 : 0 ≤ pos l call.Other → ix c (2 + 2 * pos l call.Other) = (ix l (pos l call.Other)).N := fun hp => (h.at c l _ ⟨hp, ho.2⟩).2
  have h3 : 0 ≤ pos l call.Name → ix c (2 + 2 * ((l.length : Int) - 1)) = (ix l ((l.length : Int) - 1)).N := fun hp => (h.at c l _ ⟨by omega, by omega⟩).2
  have h4 : 0 ≤ pos l call.Name → ix c (1 + 2 * ((l.length : Int) - 1)) = (ix l ((l.length : Int) - 1)).At := fun hp => (h.at c l _ ⟨by omega, by omega⟩).1
  have hb : 0 ≤ pos l call.Name → -1073741824 ≤ (ix l (pos l call.Name)).N ∧ (ix l (pos l call.Name)).N ≤ 1073741824 := fun hp => h.nm.call hp
  unfold plan_Make planR
  rw [find_eq h, find_eq h]
  have e1 : (2 + 2 * pos l call.Name - 1) = 1 + 2 * pos l call.Name := by omega
  have e2 : (2 + 2 * ((l.length : Int) - 1) - 1) = 1 + 2 * ((l.length : Int) - 1) := by omega
  have e3 : (2 + 2 * (l.length : Int) - 1) = 1 + 2 * (l.length : Int) := by omega
  have kk : call.Kind = 1 ∨ call.Kind = 2 ∨ call.Kind = 3 ∨ call.Kind = 4 ∨ call.Kind = 5 ∨ call.Kind = 6 := by omega
  by_cases hp : pos l call.Name < 0
  · by_cases h5 : 5 ≤ (l.length : Int)
    all_goals
      rcases kk with k | k | k | k | k | k <;> simp (disch := first | omega | (unfold I; omega)) [k, hp, h5, plan_at, ↓G_on, ↓Bool.cond_eq_ite, ↓reduceIte, J, hn, e3]
  · have hp0 : 0 ≤ pos l call.Name := by omega
    have hb := hb hp0
    rcases kk with k | k | k | k | k | k
    · simp (disch := first | omega | (unfold I; omega)) [k, hp, plan_at, ↓G_on, ↓Bool.cond_eq_ite, ↓reduceIte, J, hn, h1 hp0]
    · simp (disch := first | omega | (unfold I; omega)) [k, hp, plan_at, ↓G_on, ↓Bool.cond_eq_ite, ↓reduceIte, J, hn, h1 hp0]
    · by_cases hl : pos l call.Name < (l.length : Int) - 1 <;>
      simp (disch := first | omega | (unfold I; omega)) [k, hp, plan_at, ↓G_on, ↓Bool.cond_eq_ite, ↓reduceIte, J, hn, h1 hp0, hl, h3 hp0, h4 hp0, e1, e2]
    · generalize hx : (ix l (pos l call.Name)).N + call.N = x
      by_cases l1 : -1073741824 ≤ x
      · by_cases l2 : x ≤ 1073741824
        · have l3 : ¬ 1073741824 < x := by omega
          have l4 : ¬ x < -1073741824 := by omega
          simp (disch := first | omega | (unfold I; omega)) [k, hp, plan_at, ↓G_on, ↓Bool.cond_eq_ite, ↓reduceIte, J, hn, h1 hp0, hx, l1, l2, l3, l4]
        · have l3 : 1073741824 < x := by omega
          simp (disch := first | omega | (unfold I; omega)) [k, hp, plan_at, ↓G_on, ↓Bool.cond_eq_ite, ↓reduceIte, J, hn, h1 hp0, hx, l1, l2, l3]
      · have l4 : x < -1073741824 := by omega
        simp (disch := first | omega | (unfold I; omega)) [k, hp, plan_at, ↓G_on, ↓Bool.cond_eq_ite, ↓reduceIte, J, hn, h1 hp0, hx, l1, l4]
    · simp (disch := first | omega | (unfold I; omega)) [k, hp, plan_at, ↓G_on, ↓Bool.cond_eq_ite, ↓reduceIte, J, hn, h1 hp0]
    · by_cases hl : pos l call.Other < 0
      · simp (disch := first | omega | (unfold I; omega)) [k, hp, plan_at, ↓G_on, ↓Bool.cond_eq_ite, ↓reduceIte, J, hn, h1 hp0, hl, find_eq h]
      · simp (disch := first | omega | (unfold I; omega)) [k, hp, plan_at, ↓G_on, ↓Bool.cond_eq_ite, ↓reduceIte, J, hn, h1 hp0, hl, find_eq h, h2 (by omega)]
end Sp
