/- THE STATEMENTS OF CHAPTER 6, of what the functions answer: plain Lean, no program in sight. -/
import Derived.Test.YtkmokkhcoombnaaPS1
import Derived.Test.YtkmokkhcoombnaaSpStoreL
namespace Sp
set_option linter.unusedVariables false
set_option linter.unusedSimpArgs false
set_option maxHeartbeats 1000000
theorem law6_alive : mklaw6_alive = some true := by decide +kernel
theorem wrS_sz {s : Mk.Store} (w : Mk.Write) (n : Nat) (hn : n < 1000000) (h : s.Undo.length ≤ n) (hs : Sz s) : Sz (wrS s w) ∧ (wrS s w).Undo.length ≤ n + 1 := by
  have hc := hs.c; have hu := hs.u; have ha := hs.a; have hp := hs.p
  unfold wrS
  split
  · exact ⟨⟨by rw [wr_len]; exact hc, by simp; omega, ha, hp⟩, by simp; omega⟩
  · exact ⟨hs, by omega⟩
theorem commit_sz {s : Mk.Store} (r : Mk.Request) (says : Mk.Reply) (h1 : s.Cells.length ≤ 1000000) (h2 : s.Answers.length < 1000000) (h3 : s.Past.length < 1000000) : Sz (commit s r says) := by
  have := ansPut_len s.Answers ⟨r.Client, r.Token, says⟩
  exact ⟨h1, by simp [commit], by unfold commit; show (ansPut _ _).length ≤ _; omega, by simp [commit]; omega⟩
theorem storeTells (s : Mk.Store) (w : Mk.Write) (r : Mk.Request) (says : Mk.Reply) (c : Int) (hu : s.Undo.length ≤ 9223372036854775807) : mklaw6_StoreTells s w r says c = some true := by
  unfold mklaw6_StoreTells
  rw [snew_eq, Option.bind_some, G_on (by decide), sameStore_eq _ _ ⟨by simp, by simp, by simp, by simp⟩, Option.bind_some, decide_eq_true (show ((⟨List.replicate 11 0, [], [], []⟩ : Mk.Store) = ⟨List.replicate (Int.toNat 11) 0, [], [], []⟩) from rfl), Bool.not_true, cond_false]
  obtain ⟨b, hb, hr⟩ := rightStore_eq s hu
  rw [hb, Option.bind_some]
  cases b with
  | false => rfl
  | true =>
    have h := hr.1 rfl
    have hs := h.sz
    have h1 := h.len; have h2 := h.u; have h3 := h.a; have h4 := h.p
    have hw := (wrS_sz w 1000 (by omega) (by omega) hs).1
    have hcm := commit_sz (s := s) r says (by omega) (by omega) (by omega)
    rw [Bool.not_true, cond_false, slast_eq _ _ hs.a, rlast_eq _ _ hs.a, own_eq hs, swrite_eq hs, rwrite_eq hs, scommit_eq hs, rcommit_eq hs, sback_eq hs, rback_eq hs]
    have hbk : Sz (back s) := ⟨by simp [back, wrs_len]; omega, by simp [back], hs.a, hs.p⟩
    simp [Cn, sameStore_eq _ _ hs, sameStore_eq _ _ hw, sameStore_eq _ _ hcm, sameStore_eq _ _ hbk]
theorem find_ansPut (l : List Mk.Answer) (a : Mk.Answer) (c : Int) (h : c ≠ a.Client) : (ansPut l a).find? (fun x => decide (x.Client = c)) = l.find? (fun x => decide (x.Client = c)) := by
  induction l with
  | nil => simp [ansPut, Ne.symm h]
  | cons x l ih =>
    unfold ansPut
    split
    · rename_i e
      rw [List.find?_cons, List.find?_cons, decide_eq_false (by omega), decide_eq_false (by omega)]
    · rw [List.find?_cons, List.find?_cons, ih]
theorem find_ansPut_same (l : List Mk.Answer) (a : Mk.Answer) : (ansPut l a).find? (fun x => decide (x.Client = a.Client)) = some a := by
  induction l with
  | nil => simp [ansPut]
  | cons x l ih =>
    unfold ansPut
    split
    · simp
    · rename_i e
      rw [List.find?_cons, decide_eq_false e, ih]
theorem storeLast (s : Mk.Store) (r : Mk.Request) (says : Mk.Reply) (c : Int) (hu : s.Undo.length ≤ 9223372036854775807) : mklaw6_StoreLast s r says c = some true := by
  unfold mklaw6_StoreLast
  rw [law6_alive, Option.bind_some, Bool.not_true, cond_false]
  obtain ⟨b, hb, hr⟩ := rightStore_eq s hu
  rw [hb, Option.bind_some]
  cases b with
  | false => rfl
  | true =>
    have h := hr.1 rfl
    have hs := h.sz
    have h1 := h.len; have h2 := h.u; have h3 := h.a; have h4 := h.p
    by_cases hc : c = r.Client
    · rw [decide_eq_true hc]; rfl
    · have hcm := commit_sz (s := s) r says (by omega) (by omega) (by omega)
      have hbk : Sz (back s) := ⟨by simp [back, wrs_len]; omega, by simp [back], hs.a, hs.p⟩
      have e1 : last (commit s r says) c = last s c := by
        unfold last commit
        show (match (ansPut s.Answers ⟨r.Client, r.Token, says⟩).find? _ with | some a => (a, true) | none => (ans0, false)) = _
        rw [find_ansPut _ _ _ hc]; rfl
      have e2 : last (back s) c = last s c := rfl
      rw [decide_eq_false hc, Bool.not_true, Bool.or_false, cond_false, slast_eq _ _ hs.a, Option.bind_some, scommit_eq hs, Option.bind_some, slast_eq _ _ hcm.a, Option.bind_some, sback_eq hs, Option.bind_some, slast_eq _ _ hbk.a, Option.bind_some, e1, e2]
      simp
theorem sback_loop (l : List Mk.Write) (hl : l.length ≤ 50) (s : Mk.Store) (r : Mk.Request) (says : Mk.Reply) (k : Mk.Store → Mk.Request → Mk.Reply → Mk.Store → Option Bool) : ∀ (m i : Nat), i + m = l.length → ∀ f : Nat, m < f → ∀ y : Mk.Store, Sz y → y.Undo.length ≤ 100 + i →
    mklaw6_StoreBack_l1 k f l (l.length : Int) (i : Int) s r says y = k s r says ((l.drop i).foldl wrS y) := by
  intro m
  induction m with
  | zero =>
    intro i hi f hf y hy hu
    obtain ⟨f, rfl⟩ : ∃ g, f = g + 1 := ⟨f - 1, by omega⟩
    rw [mklaw6_StoreBack_l1, decide_eq_false (by omega), cond_false, List.drop_of_length_le (by omega)]; rfl
  | succ m ih =>
    intro i hi f hf y hy hu
    obtain ⟨f, rfl⟩ : ∃ g, f = g + 1 := ⟨f - 1, by omega⟩
    have hw := wrS_sz (ix l (i : Int)) (100 + i) (by omega) hu hy
    rw [mklaw6_StoreBack_l1, decide_eq_true (by omega), cond_true, G_on (by omega), swrite_eq hy, Option.bind_some, G_on (by unfold I; omega), show ((i : Int) + 1) = ((i + 1 : Nat) : Int) from by omega, ih (i + 1) (by omega) f (by omega) _ hw.1 (by omega), ix_drop l i (by omega), List.foldl_cons]
theorem foldS (l : List Mk.Write) (s : Mk.Store) (n : Nat) (hn : n + l.length ≤ 1000) (hs : Sz s) (hu : s.Undo.length ≤ n) : Sz (l.foldl wrS s) ∧ (l.foldl wrS s).Answers = s.Answers ∧ (l.foldl wrS s).Past = s.Past ∧ back (l.foldl wrS s) = back s := by
  induction l generalizing s n with
  | nil => exact ⟨hs, rfl, rfl, rfl⟩
  | cons w l ih =>
    simp only [List.length_cons] at hn
    have hw := wrS_sz w n (by omega) hu hs
    have := ih (wrS s w) (n + 1) (by omega) hw.1 hw.2
    rw [List.foldl_cons]
    refine ⟨this.1, this.2.1.trans ?_, this.2.2.1.trans ?_, this.2.2.2.trans (wrS_back w)⟩
    · unfold wrS; split <;> rfl
    · unfold wrS; split <;> rfl
theorem storeBack (s : Mk.Store) (l : List Mk.Write) (r : Mk.Request) (says : Mk.Reply) (hu : s.Undo.length ≤ 9223372036854775807) : mklaw6_StoreBack s l r says = some true := by
  unfold mklaw6_StoreBack
  rw [law6_alive, Option.bind_some, Bool.not_true, cond_false]
  obtain ⟨b, hb, hr⟩ := rightStore_eq s hu
  rw [hb, Option.bind_some]
  cases b with
  | false => rfl
  | true =>
    have h := hr.1 rfl
    have hs := h.sz
    have h1 := h.len; have h2 := h.u; have h3 := h.a; have h4 := h.p
    by_cases hl : l.length ≤ 50
    · rw [decide_eq_false (by omega), Bool.not_true, Bool.or_false, cond_false]
      simp only [J]
      have hloop := fun k => sback_loop l hl s r says k l.length 0 (by omega) (((l.length : Int) - 0).toNat + 1) (by omega) s hs (by omega)
      rw [show ((0 : Nat) : Int) = 0 from rfl, List.drop_zero] at hloop
      obtain ⟨f1, f2, f3, f4⟩ := foldS l s 100 (by omega) hs (by omega)
      rw [hloop]
      generalize l.foldl wrS s = x at f1 f2 f3 f4
      have hbk : Sz (back s) := ⟨by simp [back, wrs_len]; omega, by simp [back], hs.a, hs.p⟩
      have hcm := commit_sz (s := x) r says f1.c (by rw [f2]; omega) (by rw [f3]; omega)
      have e1 : last (commit x r says) r.Client = (⟨r.Client, r.Token, says⟩, true) := by
        unfold last commit
        show (match (ansPut x.Answers ⟨r.Client, r.Token, says⟩).find? _ with | some a => (a, true) | none => (ans0, false)) = _
        rw [find_ansPut_same x.Answers ⟨r.Client, r.Token, says⟩]
      have e2 : back (commit x r says) = commit x r says := by simp [back, commit, wrs]
      have e3 : (commit x r says).Cells = x.Cells := rfl
      rw [sback_eq f1, Option.bind_some, sback_eq hs, Option.bind_some, f4, sameStore_eq _ _ hbk, Option.bind_some, decide_eq_true rfl, Bool.not_true, cond_false, scommit_eq f1, Option.bind_some, slast_eq _ _ hcm.a, Option.bind_some, sback_eq hcm, Option.bind_some, e2, sameStore_eq _ _ hcm, Option.bind_some, decide_eq_true rfl, Cn_yes rfl, e3,
        sameInts_eq _ _ (by have := f1.c; omega), Option.bind_some, e1]
      simp
    · rw [decide_eq_true (show (50 : Int) < l.length from by omega), Bool.or_true, cond_true]
end Sp
