/- BIT BY BIT AS AT ONCE: behind all its writes cells hold what the call gives at once. Plain Lean, no program in sight. -/
import Derived.Test.YtpicjflhhgildaaP7
namespace Sp
set_option linter.unusedVariables false
set_option linter.unusedSimpArgs false
set_option maxHeartbeats 1000000

theorem ix_set {l : List Mk.Write} (k j : Int) (w : Mk.Write) (hk : 0 ≤ k ∧ k < l.length) (hj : 0 ≤ j) : ix (l.set k.toNat w) j = if k = j then w else ix l j := by
  by_cases e : k = j
  · subst e; rw [if_pos rfl, ix_set_same k w hk]
  · rw [if_neg e, ix_set_other k j w hk hj e]
theorem ix_snoc {l : List Mk.Write} (w : Mk.Write) (j : Int) (hj : 0 ≤ j ∧ j ≤ l.length) : ix (l ++ [w]) j = if j = l.length then w else ix l j := by
  by_cases e : j = l.length
  · subst e; simp [ix]
  · rw [if_neg e, ix_app l _ j (by omega)]

theorem mem_ix {l : List Mk.Write} {w : Mk.Write} (h : w ∈ l) : ∃ i : Nat, i < l.length ∧ ix l (i : Int) = w := by
  obtain ⟨i, hi, rfl⟩ := List.mem_iff_getElem.1 h
  exact ⟨i, hi, ix_nat l i hi⟩
theorem Nm.ix {l : List Mk.Write} (h : Nm l) (i : Int) (hi : 0 ≤ i ∧ i < l.length) : 1 ≤ (ix l i).At ∧ (ix l i).At ≤ 255 ∧ -1073741824 ≤ (ix l i).N ∧ (ix l i).N ≤ 1073741824 := h.at1 _ (ix_mem l i hi)

/-- names by places -/
theorem nm_of {l : List Mk.Write} (hle : l.length ≤ 5) (h1 : ∀ i : Nat, i < l.length → 1 ≤ (ix l (i : Int)).At ∧ (ix l (i : Int)).At ≤ 255 ∧ -1073741824 ≤ (ix l (i : Int)).N ∧ (ix l (i : Int)).N ≤ 1073741824)
    (h2 : ∀ i j : Nat, i < j → j < l.length → (ix l (i : Int)).At ≠ (ix l (j : Int)).At) : Nm l := by
  refine ⟨hle, fun w hw => ?_, ?_⟩
  · obtain ⟨i, hi, rfl⟩ := mem_ix hw
    exact h1 i hi
  · rw [List.nodup_iff_pairwise_ne, List.pairwise_map, List.pairwise_iff_getElem]
    intro i j hi hj hij
    have := h2 i j hij hj
    rwa [ix_nat l i hi, ix_nat l j hj] at this
theorem Nm.ne {l : List Mk.Write} (h : Nm l) {i j : Nat} (hi : i < l.length) (hj : j < l.length) (hij : i ≠ j) : (Sp.ix l (i : Int)).At ≠ (Sp.ix l (j : Int)).At := by
  rw [ix_nat l i hi, ix_nat l j hj]
  exact fun e => hij (nodup_at h.nodup hi hj e)
theorem nm_set {l : List Mk.Write} (h : Nm l) {k : Int} (hk : 0 ≤ k ∧ k < l.length) {w : Mk.Write} (hw : (Sp.ix l k).At = w.At) (hn : -1073741824 ≤ w.N ∧ w.N ≤ 1073741824) : Nm (l.set k.toNat w) := by
  refine ⟨by simpa using h.le, fun v hv => ?_, by rw [set_names hk hw]; exact h.nodup⟩
  rcases List.mem_or_eq_of_mem_set hv with hv | rfl
  · exact h.at1 v hv
  · have := h.ix k hk
    rw [hw] at this
    exact ⟨this.1, this.2.1, hn⟩
theorem nm_drop {l : List Mk.Write} (h : Nm l) {k : Int} (hk : 0 ≤ k ∧ k < l.length) : Nm ((l.set k.toNat (Sp.ix l ((l.length : Int) - 1))).take (l.length - 1)) := by
  have hle := h.le
  have hl : ((l.set k.toNat (Sp.ix l ((l.length : Int) - 1))).take (l.length - 1)).length = l.length - 1 := by simp
  have hix : ∀ i : Nat, i < l.length - 1 → Sp.ix ((l.set k.toNat (Sp.ix l ((l.length : Int) - 1))).take (l.length - 1)) (i : Int) = if k = i then Sp.ix l ((l.length - 1 : Nat) : Int) else Sp.ix l (i : Int) := by
    intro i hi
    rw [ix_take _ _ (by omega), ix_set _ _ _ hk (by omega), show ((l.length : Int) - 1) = ((l.length - 1 : Nat) : Int) from by omega]
  refine nm_of (by omega) (fun i hi => ?_) (fun i j hij hj => ?_)
  · rw [hl] at hi
    rw [hix i hi]
    split
    · exact h.ix _ (by omega)
    · exact h.ix _ (by omega)
  · rw [hl] at hj
    rw [hix i (by omega), hix j (by omega)]
    split
    · split
      · omega
      · exact h.ne (by omega) (by omega) (by omega)
    · split
      · exact h.ne (by omega) (by omega) (by omega)
      · exact h.ne (by omega) (by omega) (by omega)
theorem nm_snoc {l : List Mk.Write} (h : Nm l) {x n : Int} (hl : l.length < 5) (hp : pos l x < 0) (hx : 1 ≤ x ∧ x ≤ 255) (hn : -1073741824 ≤ n ∧ n ≤ 1073741824) : Nm (l ++ [⟨x, n⟩]) := by
  refine ⟨by simp; omega, fun w hw => ?_, ?_⟩
  · rcases List.mem_append.1 hw with hw | hw
    · exact h.at1 w hw
    · simp at hw; subst hw; exact ⟨hx.1, hx.2, hn⟩
  · rw [List.map_append, List.nodup_append]
    refine ⟨h.nodup, by simp, fun a ha b hb => ?_⟩
    simp only [List.map_cons, List.map_nil, List.mem_singleton] at hb
    simp only [List.mem_map] at ha
    obtain ⟨w, hw, rfl⟩ := ha
    rw [hb]
    exact pos_neg l x hp w hw
theorem nm_doP {l : List Mk.Write} (h : Nm l) {c : Mk.Call} (hc : CallOk c) : Nm (doP l c).1 := by
  have hr := pos_range l c.Name
  have ho := pos_range l c.Other
  have hnum := hc.num
  have hnm := hc.name
  unfold doP
  repeat' split
  all_goals first | exact h | skip
  · exact nm_snoc h (by omega) (by assumption) (by omega) (by omega)
  · exact nm_set h (by omega) (pos_spec l c.Name (by omega)).1 ⟨hnum.1, hnum.2.1⟩
  · exact nm_drop h (by omega)
  · exact nm_set h (by omega) (pos_spec l c.Name (by omega)).1 (by simp only; omega)
  · have h1 := (pos_spec l c.Name (by omega)).1
    have h2 := (pos_spec l c.Other (by omega)).1
    have h3 : Nm (l.set (pos l c.Name).toNat ⟨c.Name, (Sp.ix l (pos l c.Other)).N⟩) := nm_set h (by omega) h1 (h.call (by omega))
    refine nm_set h3 (by simp; omega) ?_ (h.call (by omega))
    rw [ix_set _ _ _ (by omega) (by omega)]
    split
    · rename_i e; rw [← h1, e, h2]
    · exact h2

/-- cells that hold entries, from names and places -/
theorem rt_of {c : List Int} {l : List Mk.Write} (hlen : c.length = 11) (h : Nm l) (hn : Sp.ix c 0 = l.length) (hat : ∀ i : Nat, i < l.length → Sp.ix c (1 + 2 * (i : Int)) = (Sp.ix l i).At ∧ Sp.ix c (2 + 2 * (i : Int)) = (Sp.ix l i).N) : Rt c l :=
  ⟨hlen, hn, h.le, hat, h.at1, h.nodup⟩

theorem plan_rt {c : List Int} {l : List Mk.Write} {call : Mk.Call} (h : Rt c l) (hc : CallOk call) : Rt (wrs c (planR l call).1) (doP l call).1 ∧ (planR l call).2 = (doP l call).2 := by
  have hle := h.le
  have hlen := h.len
  have hn := h.n
  have hr := pos_range l call.Name
  have ho := pos_range l call.Other
  have hk := hc.kind
  have hnm := nm_doP h.nm hc
  have kk : call.Kind = 1 ∨ call.Kind = 2 ∨ call.Kind = 3 ∨ call.Kind = 4 ∨ call.Kind = 5 ∨ call.Kind = 6 := by omega
  have hsame : Rt (wrs c []) l := h
  by_cases hp : pos l call.Name < 0
  · by_cases h5 : 5 ≤ l.length
    · have h5' : 5 ≤ (l.length : Int) := by omega
      rcases kk with k | k | k | k | k | k
      all_goals simp [planR, doP, k, hp, h5, h5', h, wrs]
    · have h5' : ¬ 5 ≤ (l.length : Int) := by omega
      rcases kk with k | k | k | k | k | k
      · have e : (doP l call) = (l ++ [⟨call.Name, call.N⟩], ⟨0, 0⟩) := by simp [doP, k, hp, h5]
        have e2 : planR l call = ([⟨1 + 2 * (l.length : Int), call.Name⟩, ⟨2 + 2 * (l.length : Int), call.N⟩, ⟨0, (l.length : Int) + 1⟩], ⟨0, 0⟩) := by simp [planR, k, hp, h5']
        rw [e] at hnm ⊢
        rw [e2]
        refine ⟨rt_of (by rw [wrs_len]; omega) hnm ?_ fun i hi => ?_, rfl⟩
        · rw [ix_wrs _ _ _ (by omega)]
          simp [cellBehind]
        · simp only [List.length_append, List.length_cons, List.length_nil] at hi
          rw [ix_wrs _ _ _ (by omega), ix_wrs _ _ _ (by omega), ix_snoc _ _ (by omega)]
          simp only [cellBehind, List.foldl_cons, List.foldl_nil]
          by_cases hi2 : (i : Int) = l.length
          · constructor
            · rw [if_neg (by omega), if_neg (by omega), if_pos (by omega), if_pos hi2]
            · rw [if_neg (by omega), if_pos (by omega), if_pos hi2]
          · have := h.ats i (by omega)
            constructor
            · rw [if_neg (by omega), if_neg (by omega), if_neg (by omega), if_neg hi2, this.1]
            · rw [if_neg (by omega), if_neg (by omega), if_neg (by omega), if_neg hi2, this.2]
      all_goals simp [planR, doP, k, hp, h5, h5', h, wrs]
  · have hp0 : 0 ≤ pos l call.Name := by omega
    have hs := (pos_spec l call.Name hp0).1
    have one : ∀ x : Int, Nm (l.set (pos l call.Name).toNat ⟨call.Name, x⟩) → Rt (wrs c [⟨2 + 2 * pos l call.Name, x⟩]) (l.set (pos l call.Name).toNat ⟨call.Name, x⟩) := by
      intro x hm
      refine rt_of (by rw [wrs_len]; omega) hm ?_ fun i hi => ?_
      · rw [ix_wrs _ _ _ (by omega)]
        simp only [cellBehind, List.foldl_cons, List.foldl_nil, List.length_set]
        rw [if_neg (by omega), hn]
      · simp only [List.length_set] at hi
        have := h.ats i hi
        rw [ix_wrs _ _ _ (by omega), ix_wrs _ _ _ (by omega), ix_set _ _ _ (by omega) (by omega)]
        simp only [cellBehind, List.foldl_cons, List.foldl_nil]
        by_cases hi2 : pos l call.Name = i
        · rw [if_pos hi2, if_neg (by omega : ¬ (2 + 2 * pos l call.Name = 1 + 2 * (i : Int))), if_pos (by omega : 2 + 2 * pos l call.Name = 2 + 2 * (i : Int)), this.1, ← hi2, hs]
          exact ⟨rfl, rfl⟩
        · rw [if_neg hi2, if_neg (by omega), if_neg (by omega), this.1, this.2]
          exact ⟨rfl, rfl⟩
    rcases kk with k | k | k | k | k | k
    · have e : doP l call = (l.set (pos l call.Name).toNat ⟨call.Name, call.N⟩, ⟨0, (ix l (pos l call.Name)).N⟩) := by simp [doP, k, hp]
      have e2 : planR l call = ([⟨2 + 2 * pos l call.Name, call.N⟩], ⟨0, (ix l (pos l call.Name)).N⟩) := by simp [planR, k, hp]
      rw [e] at hnm ⊢
      rw [e2]
      exact ⟨one _ hnm, rfl⟩
    · simp [planR, doP, k, hp, h, wrs]
    · have e : doP l call = ((l.set (pos l call.Name).toNat (ix l ((l.length : Int) - 1))).take (l.length - 1), ⟨0, (ix l (pos l call.Name)).N⟩) := by simp [doP, k, hp]
      have hl := h.ats (l.length - 1) (by omega)
      have hcast : ((l.length - 1 : Nat) : Int) = (l.length : Int) - 1 := by omega
      rw [hcast] at hl
      rw [e] at hnm ⊢
      have hl2 : ((l.set (pos l call.Name).toNat (ix l ((l.length : Int) - 1))).take (l.length - 1)).length = l.length - 1 := by simp
      have hix : ∀ i : Nat, i < l.length - 1 → ix ((l.set (pos l call.Name).toNat (ix l ((l.length : Int) - 1))).take (l.length - 1)) (i : Int) = if pos l call.Name = i then ix l ((l.length : Int) - 1) else ix l (i : Int) := by
        intro i hi
        rw [ix_take _ _ (by omega), ix_set _ _ _ (by omega) (by omega)]
      by_cases hlast : pos l call.Name < (l.length : Int) - 1
      · have e2 : planR l call = ([⟨1 + 2 * pos l call.Name, (ix l ((l.length : Int) - 1)).At⟩, ⟨2 + 2 * pos l call.Name, (ix l ((l.length : Int) - 1)).N⟩, ⟨0, (l.length : Int) - 1⟩], ⟨0, (ix l (pos l call.Name)).N⟩) := by simp [planR, k, hp, hlast]
        rw [e2]
        refine ⟨rt_of (by rw [wrs_len]; omega) hnm ?_ fun i hi => ?_, rfl⟩
        · rw [ix_wrs _ _ _ (by omega), hl2, hcast]
          simp [cellBehind]
        · rw [hl2] at hi
          have := h.ats i (by omega)
          rw [ix_wrs _ _ _ (by omega), ix_wrs _ _ _ (by omega), hix i hi]
          simp only [cellBehind, List.foldl_cons, List.foldl_nil]
          by_cases hi2 : pos l call.Name = i
          · rw [if_pos hi2]
            constructor
            · rw [if_neg (by omega), if_neg (by omega), if_pos (by omega)]
            · rw [if_neg (by omega), if_pos (by omega)]
          · rw [if_neg hi2]
            constructor
            · rw [if_neg (by omega), if_neg (by omega), if_neg (by omega), this.1]
            · rw [if_neg (by omega), if_neg (by omega), if_neg (by omega), this.2]
      · have e2 : planR l call = ([⟨0, (l.length : Int) - 1⟩], ⟨0, (ix l (pos l call.Name)).N⟩) := by simp [planR, k, hp, hlast]
        rw [e2]
        refine ⟨rt_of (by rw [wrs_len]; omega) hnm ?_ fun i hi => ?_, rfl⟩
        · rw [ix_wrs _ _ _ (by omega), hl2, hcast]
          simp [cellBehind]
        · rw [hl2] at hi
          have := h.ats i (by omega)
          rw [ix_wrs _ _ _ (by omega), ix_wrs _ _ _ (by omega), hix i hi]
          simp only [cellBehind, List.foldl_cons, List.foldl_nil]
          rw [if_neg (by omega), if_neg (by omega), if_neg (by omega), this.1, this.2]
          exact ⟨rfl, rfl⟩
    · by_cases hb : 1073741824 < (ix l (pos l call.Name)).N + call.N ∨ (ix l (pos l call.Name)).N + call.N < -1073741824
      · have e : doP l call = (l, ⟨3, 0⟩) := by simp [doP, k, hp, hb]
        have e2 : planR l call = ([], ⟨3, 0⟩) := by simp [planR, k, hp, hb]
        rw [e, e2]
        exact ⟨hsame, rfl⟩
      · have e : doP l call = (l.set (pos l call.Name).toNat ⟨call.Name, (ix l (pos l call.Name)).N + call.N⟩, ⟨0, (ix l (pos l call.Name)).N + call.N⟩) := by simp [doP, k, hp, hb]
        have e2 : planR l call = ([⟨2 + 2 * pos l call.Name, (ix l (pos l call.Name)).N + call.N⟩], ⟨0, (ix l (pos l call.Name)).N + call.N⟩) := by simp [planR, k, hp, hb]
        rw [e] at hnm ⊢
        rw [e2]
        exact ⟨one _ hnm, rfl⟩
    · simp [planR, doP, k, hp, h, wrs]
    · by_cases hb : pos l call.Other < 0
      · have e : doP l call = (l, ⟨6, 0⟩) := by simp [doP, k, hp, hb]
        have e2 : planR l call = ([], ⟨6, 0⟩) := by simp [planR, k, hp, hb]
        rw [e, e2]
        exact ⟨hsame, rfl⟩
      · have hso := (pos_spec l call.Other (by omega)).1
        have e : doP l call = ((l.set (pos l call.Name).toNat ⟨call.Name, (ix l (pos l call.Other)).N⟩).set (pos l call.Other).toNat ⟨call.Other, (ix l (pos l call.Name)).N⟩, ⟨0, (ix l (pos l call.Other)).N⟩) := by simp [doP, k, hp, hb]
        have e2 : planR l call = ([⟨2 + 2 * pos l call.Name, (ix l (pos l call.Other)).N⟩, ⟨2 + 2 * pos l call.Other, (ix l (pos l call.Name)).N⟩], ⟨0, (ix l (pos l call.Other)).N⟩) := by simp [planR, k, hp, hb]
        rw [e] at hnm ⊢
        rw [e2]
        refine ⟨rt_of (by rw [wrs_len]; omega) hnm ?_ fun i hi => ?_, rfl⟩
        · rw [ix_wrs _ _ _ (by omega)]
          simp only [cellBehind, List.foldl_cons, List.foldl_nil, List.length_set]
          rw [if_neg (by omega), if_neg (by omega), hn]
        · simp only [List.length_set] at hi
          have := h.ats i (by omega)
          rw [ix_wrs _ _ _ (by omega), ix_wrs _ _ _ (by omega), ix_set _ _ _ (by simp; omega) (by omega), ix_set _ _ _ (by omega) (by omega)]
          simp only [cellBehind, List.foldl_cons, List.foldl_nil]
          by_cases hi3 : pos l call.Other = i
          · rw [if_pos hi3, if_neg (by omega : ¬ (2 + 2 * pos l call.Other = 1 + 2 * (i : Int))), if_neg (by omega : ¬ (2 + 2 * pos l call.Name = 1 + 2 * (i : Int))), if_pos (by omega : 2 + 2 * pos l call.Other = 2 + 2 * (i : Int)), this.1, ← hi3, hso]
            exact ⟨rfl, rfl⟩
          · rw [if_neg hi3, if_neg (by omega : ¬ (2 + 2 * pos l call.Other = 1 + 2 * (i : Int))), if_neg (by omega : ¬ (2 + 2 * pos l call.Name = 1 + 2 * (i : Int))), if_neg (by omega : ¬ (2 + 2 * pos l call.Other = 2 + 2 * (i : Int)))]
            by_cases hi2 : pos l call.Name = i
            · rw [if_pos hi2, if_pos (by omega), this.1, ← hi2, hs]
              exact ⟨rfl, rfl⟩
            · rw [if_neg hi2, if_neg (by omega), this.1, this.2]
              exact ⟨rfl, rfl⟩
end Sp
