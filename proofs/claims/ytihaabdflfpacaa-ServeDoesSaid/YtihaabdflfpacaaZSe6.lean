/- WHAT THE STATEMENTS OF THIS GROUP NEED, part 6: laid together by prune.py out of own texts. -/
import Derived.Test.YtihaabdflfpacaaZSe5
section
namespace Sp
set_option linter.unusedVariables false
set_option linter.unusedSimpArgs false
set_option maxHeartbeats 1000000
def StepsW : List Int → List Mk.Write → Prop
  | c, [] => ∃ l, RtW c l
  | c, w :: p => (∃ l, RtW c l) ∧ StepsW (wr c w) p
theorem StepsW.here {c : List Int} {p : List Mk.Write} (h : StepsW c p) : ∃ l, RtW c l := by
  cases p with
  | nil => exact h
  | cons w p => exact h.1
theorem StepsW.part {c : List Int} (d p : List Mk.Write) (h : StepsW c (d ++ p)) : StepsW (wrs c d) p := by
  induction d generalizing c with
  | nil => exact h
  | cons w d ih => exact ih h.2
theorem RtW.mem {l : List Mk.Write} (h1 : ∀ i : Nat, i < l.length → 1 ≤ (ix l (i : Int)).At ∧ (ix l (i : Int)).At ≤ 255 ∧ -1073741824 ≤ (ix l (i : Int)).N ∧ (ix l (i : Int)).N ≤ 1073741824) : ∀ w ∈ l, 1 ≤ w.At ∧ w.At ≤ 255 ∧ -1073741824 ≤ w.N ∧ w.N ≤ 1073741824 := fun w hw => by
  obtain ⟨i, hi, rfl⟩ := mem_ix hw
  exact h1 i hi
theorem rtW_wr1 {c : List Int} {l : List Mk.Write} (h : RtW c l) (k : Int) (hk : 0 ≤ k ∧ k < l.length) (x : Int) (hx : 1 ≤ x ∧ x ≤ 255) : RtW (wr c ⟨1 + 2 * k, x⟩) (l.set k.toNat ⟨x, (ix l k).N⟩) := by
  have hle := h.le
  have hlen := h.len
  refine ⟨by rw [wr_len]; exact hlen, ?_, by simpa using hle, fun i hi => ?_, RtW.mem fun i hi => ?_⟩
  · rw [ix_wr _ _ _ (by omega), if_neg (by show ¬ (1 + 2 * k = 0); omega), h.n]; simp
  · simp only [List.length_set] at hi
    have := h.ats i hi
    rw [ix_wr _ _ _ (by omega), ix_wr _ _ _ (by omega), ix_set _ _ _ hk (by omega)]
    show (if 1 + 2 * k = 1 + 2 * (i : Int) then x else _) = _ ∧ (if 1 + 2 * k = 2 + 2 * (i : Int) then x else _) = _
    rw [if_neg (by omega : ¬ (1 + 2 * k = 2 + 2 * (i : Int)))]
    by_cases e : k = i
    · rw [if_pos (by omega), if_pos e, this.2, e]; exact ⟨rfl, rfl⟩
    · rw [if_neg (by omega), if_neg e, this.1, this.2]; exact ⟨rfl, rfl⟩
  · simp only [List.length_set] at hi
    rw [ix_set _ _ _ hk (by omega)]
    split
    · have := h.ixb k hk; exact ⟨hx.1, hx.2, this.2.2⟩
    · exact h.ixb _ (by omega)
theorem rtW_wr2 {c : List Int} {l : List Mk.Write} (h : RtW c l) (k : Int) (hk : 0 ≤ k ∧ k < l.length) (x : Int) (hx : -1073741824 ≤ x ∧ x ≤ 1073741824) : RtW (wr c ⟨2 + 2 * k, x⟩) (l.set k.toNat ⟨(ix l k).At, x⟩) := by
  have hle := h.le
  have hlen := h.len
  refine ⟨by rw [wr_len]; exact hlen, ?_, by simpa using hle, fun i hi => ?_, RtW.mem fun i hi => ?_⟩
  · rw [ix_wr _ _ _ (by omega), if_neg (by show ¬ (2 + 2 * k = 0); omega), h.n]; simp
  · simp only [List.length_set] at hi
    have := h.ats i hi
    rw [ix_wr _ _ _ (by omega), ix_wr _ _ _ (by omega), ix_set _ _ _ hk (by omega)]
    show (if 2 + 2 * k = 1 + 2 * (i : Int) then x else _) = _ ∧ (if 2 + 2 * k = 2 + 2 * (i : Int) then x else _) = _
    rw [if_neg (by omega : ¬ (2 + 2 * k = 1 + 2 * (i : Int)))]
    by_cases e : k = i
    · rw [if_pos e, if_pos (by omega : 2 + 2 * k = 2 + 2 * (i : Int)), this.1, e]; exact ⟨rfl, rfl⟩
    · rw [if_neg e, if_neg (by omega : ¬ (2 + 2 * k = 2 + 2 * (i : Int))), this.1, this.2]; exact ⟨rfl, rfl⟩
  · simp only [List.length_set] at hi
    rw [ix_set _ _ _ hk (by omega)]
    split
    · have := h.ixb k hk; exact ⟨this.1, this.2.1, hx⟩
    · exact h.ixb _ (by omega)
theorem rtW_wrB {c : List Int} {l : List Mk.Write} (h : RtW c l) (w : Mk.Write) (hw : 1 + 2 * (l.length : Int) ≤ w.At) : RtW (wr c w) l := by
  have hle := h.le
  have hlen := h.len
  refine ⟨by rw [wr_len]; exact hlen, ?_, hle, fun i hi => ?_, h.at1⟩
  · rw [ix_wr _ _ _ (by omega), if_neg (by omega), h.n]
  · rw [ix_wr _ _ _ (by omega), ix_wr _ _ _ (by omega), if_neg (by omega), if_neg (by omega)]
    exact h.ats i hi
theorem rtW_less {c : List Int} {l : List Mk.Write} (h : RtW c l) (h0 : 0 < l.length) : RtW (wr c ⟨0, (l.length : Int) - 1⟩) (l.take (l.length - 1)) := by
  have hle := h.le
  have hlen := h.len
  refine ⟨by rw [wr_len]; exact hlen, ?_, by simp; omega, fun i hi => ?_, fun w hw => h.at1 w (List.mem_of_mem_take hw)⟩
  · rw [ix_wr _ _ _ (by omega), if_pos rfl]; simp; omega
  · simp only [List.length_take] at hi
    rw [ix_wr _ _ _ (by omega), ix_wr _ _ _ (by omega), if_neg (by show ¬ (0 = 1 + 2 * (i : Int)); omega), if_neg (by show ¬ (0 = 2 + 2 * (i : Int)); omega), ix_take' _ _ _ (by omega)]
    exact h.ats i (by omega)
theorem rtW_more {c : List Int} {l : List Mk.Write} (h : RtW c l) (h5 : l.length < 5) {x n : Int} (h1 : ix c (1 + 2 * (l.length : Int)) = x) (h2 : ix c (2 + 2 * (l.length : Int)) = n) (hx : 1 ≤ x ∧ x ≤ 255) (hn : -1073741824 ≤ n ∧ n ≤ 1073741824) : RtW (wr c ⟨0, (l.length : Int) + 1⟩) (l ++ [⟨x, n⟩]) := by
  have hle := h.le
  have hlen := h.len
  refine ⟨by rw [wr_len]; exact hlen, ?_, by simp; omega, fun i hi => ?_, fun w hw => ?_⟩
  · rw [ix_wr _ _ _ (by omega), if_pos rfl]; simp
  · simp only [List.length_append, List.length_cons, List.length_nil] at hi
    rw [ix_wr _ _ _ (by omega), ix_wr _ _ _ (by omega), if_neg (by show ¬ (0 = 1 + 2 * (i : Int)); omega), if_neg (by show ¬ (0 = 2 + 2 * (i : Int)); omega), ix_snoc _ _ (by omega)]
    by_cases e : (i : Int) = l.length
    · rw [if_pos e, e, h1, h2]; exact ⟨rfl, rfl⟩
    · rw [if_neg e]; exact h.ats i (by omega)
  · rcases List.mem_append.1 hw with hw | hw
    · exact h.at1 w hw
    · simp only [List.mem_singleton] at hw; subst hw; exact ⟨hx.1, hx.2, hn⟩
theorem steps_plan {c : List Int} {l : List Mk.Write} {call : Mk.Call} (h : RtW c l) (hc : CallOk call) : StepsW c (planR l call).1 := by
  have hle := h.le
  have hlen := h.len
  have hr := pos_range l call.Name
  have ho := pos_range l call.Other
  have hnum := hc.num
  have hnm := hc.name
  have nop : StepsW c [] := ⟨l, h⟩
  unfold planR
  split
  · exact nop
  · split
    · rename_i k5 hp
      split
      · split
        · exact nop
        · rename_i k1 h5
          have a1 := rtW_wrB h ⟨1 + 2 * (l.length : Int), call.Name⟩ (by simp only; omega)
          have a2 := rtW_wrB a1 ⟨2 + 2 * (l.length : Int), call.N⟩ (by simp only; omega)
          have b1 : ix (wr (wr c ⟨1 + 2 * (l.length : Int), call.Name⟩) ⟨2 + 2 * (l.length : Int), call.N⟩) (1 + 2 * (l.length : Int)) = call.Name := by
            rw [ix_wr _ _ _ (by rw [wr_len]; omega), if_neg (by show ¬ (2 + 2 * (l.length : Int) = _); omega), ix_wr _ _ _ (by omega), if_pos rfl]
          have b2 : ix (wr (wr c ⟨1 + 2 * (l.length : Int), call.Name⟩) ⟨2 + 2 * (l.length : Int), call.N⟩) (2 + 2 * (l.length : Int)) = call.N := by
            rw [ix_wr _ _ _ (by rw [wr_len]; omega), if_pos rfl]
          exact ⟨⟨l, h⟩, ⟨l, a1⟩, ⟨l, a2⟩, _, rtW_more a2 (by omega) b1 b2 (by omega) ⟨hnum.1, hnum.2.1⟩⟩
      · exact nop
    · rename_i k5 hp
      have hp0 : 0 ≤ pos l call.Name ∧ pos l call.Name < l.length := by omega
      split
      · exact ⟨⟨l, h⟩, _, rtW_wr2 h _ hp0 _ ⟨hnum.1, hnum.2.1⟩⟩
      · split
        · have hlast := h.ixb ((l.length : Int) - 1) (by omega)
          split
          · have a1 := rtW_wr1 h _ hp0 _ ⟨hlast.1, hlast.2.1⟩
            have a2 := rtW_wr2 a1 _ (by simp; omega) _ hlast.2.2
            have a3 := rtW_less a2 (by simp; omega)
            simp only [List.length_set] at a3
            exact ⟨⟨_, h⟩, ⟨_, a1⟩, ⟨_, a2⟩, _, a3⟩
          · exact ⟨⟨l, h⟩, _, rtW_less h (by omega)⟩
        · split
          · split
            · exact nop
            · exact ⟨⟨l, h⟩, _, rtW_wr2 h _ hp0 _ (by omega)⟩
          · split
            · split
              · exact nop
              · have ho0 : 0 ≤ pos l call.Other ∧ pos l call.Other < l.length := by omega
                have a1 := rtW_wr2 h _ hp0 _ (h.call (x := call.Other) ho0.1)
                have a2 := rtW_wr2 a1 (pos l call.Other) (by simp; omega) _ (h.call (x := call.Name) hp0.1)
                exact ⟨⟨_, h⟩, ⟨_, a1⟩, _, a2⟩
            · exact nop
end Sp
end
section
namespace Sp
set_option linter.unusedVariables false
set_option linter.unusedSimpArgs false
set_option maxHeartbeats 1000000
structure WInv (s : Mk.Store) (v : Mk.Server) (n : Nat) : Prop where
  u : s.Undo.length ≤ n
  a : s.Answers.length ≤ n
  p : s.Past.length ≤ n
  b : Smb v.Box
  pl : v.Plan.length ≤ 1000
  st : StepsW s.Cells (if v.Busy = true then v.Plan else [])
theorem WInv.sz {s : Mk.Store} {v : Mk.Server} {n : Nat} (h : WInv s v n) (hn : n ≤ 1000) : Sz s := by
  obtain ⟨l, hl⟩ := h.st.here
  have h1 := hl.len; have h2 := h.u; have h3 := h.a; have h4 := h.p
  exact ⟨by omega, by omega, by omega, by omega⟩
theorem scome_eq (v : Mk.Server) (hb : Smb v.Box) (hp : v.Plan.length ≤ 1000) (b : List UInt8) (hl : b.length ≤ 140737488355328) : serve_Come v b = some (sCome v b) := by
  have hn := hb.n
  unfold serve_Come sCome
  rw [vown_eq v hb hp, Option.bind_some]
  by_cases h : 3 ≤ v.Box.length
  · rw [decide_eq_true (by omega), cond_true, if_pos h]
  · rw [decide_eq_false (by omega), cond_false, cloneBy_eq _ hl, Option.bind_some, G_on (by simp; omega), if_neg h]
theorem readReq_call {b : List UInt8} (h : (readReq b).2 = 0) : CallOk (readReq b).1.Call := by
  unfold readReq at h ⊢
  split at h
  · cases h
  · split at h
    · rename_i h5 h6; exact (h6 h).elim
    · rename_i h5 h6
      rw [if_neg h5, if_neg h6]
      exact (wreq_ok (Classical.not_not.1 h6)).2.2
theorem stake_eq {s : Mk.Store} {v : Mk.Server} {b : List UInt8} {box : List (List UInt8)} (hB : v.Box = b :: box) (hs : Sz s) (hc : ∃ l, RtW s.Cells l) : serve_take s v = some (take1 s v b box) := by
  obtain ⟨l, hl⟩ := hc
  obtain ⟨g, B, bz, nw, P, sy⟩ := v
  simp only at hB
  subst hB
  have e1 : ix (b :: box) 0 = b := rfl
  have e2 : sub (b :: box) 1 ((b :: box).length : Int) = box := by simp [sub]
  unfold serve_take take1
  simp only [e1, e2]
  rw [G_on (by simp <;> omega), readRequest_eq, Option.bind_some, G_on (by simp <;> omega)]
  by_cases h1 : (readReq b).2 = 0
  · rw [decide_eq_true h1, Bool.not_true, cond_false, slast_eq _ _ hs.a, Option.bind_some]
    simp only [h1, ne_eq, not_true, if_false]
    rw [entries_ofW hl, make_eqW hl (readReq_call h1)]
    cases hq : (last s (readReq b).1.Client).2 with
    | false => simp
    | true =>
      by_cases h3 : (last s (readReq b).1.Client).1.Token = (readReq b).1.Token
      · have h4 : (readReq b).1.Token ≤ (last s (readReq b).1.Client).1.Token := by omega
        rw [decide_eq_true h3, Bool.and_self, cond_true, answer_eq, Option.bind_some, G_on (ansB_ne _), if_pos ⟨rfl, h4⟩, if_pos h3]
      · rw [decide_eq_false h3, Bool.and_false, cond_false]
        by_cases h4 : (readReq b).1.Token ≤ (last s (readReq b).1.Client).1.Token
        · rw [decide_eq_true (by omega), Bool.and_self, cond_true, if_pos ⟨rfl, h4⟩, if_neg h3]
        · rw [decide_eq_false (by omega), Bool.and_false, cond_false, Option.bind_some, if_neg (by simp; omega)]
  · rw [decide_eq_false h1, Bool.not_false, cond_true]
    simp only [ne_eq, h1, not_false_eq_true, if_true]
theorem sgo_eq {s : Mk.Store} {v : Mk.Server} {n : Nat} (h : WInv s v n) (hn : n ≤ 1000) : serve_Go s v = some (serve s v) := by
  have hs := h.sz hn
  have hc := h.st.here
  unfold serve_Go
  rw [vown_eq v h.b h.pl, Option.bind_some]
  unfold serve
  cases hbz : v.Busy with
  | true =>
    simp only [Bool.not_true, Bool.false_and, cond_false, if_true]
    cases hP : v.Plan with
    | cons w p =>
      have e1 : ix (w :: p) 0 = w := rfl
      have e2 : sub (w :: p) 1 ((w :: p).length : Int) = p := by simp [sub]
      rw [decide_eq_true (by simp <;> omega), cond_true, G_on (by simp <;> omega), G_on (by simp <;> omega), e1, e2, swrite_eq hs, Option.bind_some]
    | nil =>
      simp only [List.length_nil]
      rw [decide_eq_false (by decide), cond_false, answer_eq, Option.bind_some, scommit_eq hs, Option.bind_some, G_on (ansB_ne _)]; rfl
  | false =>
    simp only [Bool.not_false, Bool.true_and, cond_true, Bool.false_eq_true, if_false]
    cases hB : v.Box with
    | nil =>
      simp only [List.length_nil]
      rw [decide_eq_true (by decide), cond_true, own_eq hs, Option.bind_some]
    | cons b box =>
      rw [decide_eq_false (by simp <;> omega), cond_false, stake_eq hB hs hc, Option.bind_some, own_eq hs, Option.bind_some]
theorem rserve_eqW {s : Mk.Store} {v : Mk.Server} {n : Nat} (h : WInv s v n) (hn : n ≤ 1000) : mkref6_Serve s v = some (serve s v) := by
  have hs := h.sz hn
  obtain ⟨l, hl⟩ := h.st.here
  obtain ⟨g, B, bz, nw, P, sy⟩ := v
  unfold mkref6_Serve serve
  cases bz with
  | true =>
    cases P with
    | cons w p =>
      have e1 : ix (w :: p) 0 = w := rfl
      have e2 : sub (w :: p) 1 ((w :: p).length : Int) = p := by simp [sub]
      simp only [e1, e2, Bool.true_and, if_true]
      rw [decide_eq_true (by simp <;> omega), cond_true, G_on (by simp <;> omega), rwrite_eq hs, Option.bind_some, G_on (by simp <;> omega)]
    | nil =>
      simp only [List.length_nil, Bool.true_and, if_true]
      rw [decide_eq_false (by decide), cond_false, cond_true, answerBytes_eq, Option.bind_some, rcommit_eq hs, Option.bind_some]; rfl
  | false =>
    simp only [Bool.false_and, cond_false, Bool.false_eq_true, if_false]
    cases B with
    | nil =>
      simp only [List.length_nil]
      rw [decide_eq_true (by decide), cond_true]
    | cons b box =>
      have e1 : ix (b :: box) 0 = b := rfl
      have e2 : sub (b :: box) 1 ((b :: box).length : Int) = box := by simp [sub]
      simp only [e1, e2]
      rw [decide_eq_false (by simp <;> omega), cond_false, G_on (by simp <;> omega), rreadRequest_eq, Option.bind_some, G_on (by simp <;> omega)]
      unfold take1
      by_cases h1 : (readReq b).2 = 0
      · rw [decide_eq_true h1, Bool.not_true, cond_false, rlast_eq _ _ hs.a, Option.bind_some]
        simp only [h1, ne_eq, not_true, if_false]
        by_cases h2 : (last s (readReq b).1.Client).2 = true ∧ (readReq b).1.Token ≤ (last s (readReq b).1.Client).1.Token
        · rw [h2.1, decide_eq_true h2.2, Bool.and_self, cond_true]
          simp only [h2.2, and_self, if_true]
          by_cases h3 : (last s (readReq b).1.Client).1.Token = (readReq b).1.Token
          · rw [decide_eq_true h3, cond_true, answerBytes_eq, Option.bind_some, if_pos h3]
          · rw [decide_eq_false h3, cond_false, if_neg h3]
        · have hf : ((last s (readReq b).1.Client).2 && decide ((readReq b).1.Token ≤ (last s (readReq b).1.Client).1.Token)) = false := by
            cases h4 : (last s (readReq b).1.Client).2 with
            | false => rfl
            | true => simp [h4] at h2; simp; omega
          rw [hf, cond_false, rplan_eqW hl (readReq_call h1), Option.bind_some, if_neg h2, entries_ofW hl]
      · rw [decide_eq_false h1, Bool.not_false, cond_true]
        simp only [ne_eq, h1, not_false_eq_true, if_true]
theorem wr_wrS (s : Mk.Store) (w : Mk.Write) : (wrS s w).Cells = wr s.Cells w ∧ (wrS s w).Undo.length ≤ s.Undo.length + 1 ∧ (wrS s w).Answers = s.Answers ∧ (wrS s w).Past = s.Past := by
  unfold wrS
  split
  · exact ⟨rfl, by simp, rfl, rfl⟩
  · rename_i h
    refine ⟨?_, by omega, rfl, rfl⟩
    unfold wr; rw [if_neg h]
theorem WInv.step {s : Mk.Store} {v : Mk.Server} {n : Nat} (h : WInv s v n) : WInv (serve s v).1 (serve s v).2.1 (n + 1) := by
  have h1 := h.u; have h2 := h.a; have h3 := h.p; have h4 := h.pl
  have hst := h.st
  have hb := h.b
  unfold serve
  cases hbz : v.Busy with
  | true =>
    rw [if_pos rfl]
    rw [hbz, if_pos rfl] at hst
    cases hP : v.Plan with
    | cons w p =>
      rw [hP] at hst h4
      obtain ⟨e1, e2, e3, e4⟩ := wr_wrS s w
      exact ⟨by simp only; omega, by simp only [e3]; omega, by simp only [e4]; omega, hb, by simp at h4 ⊢; omega, by simp only [hbz, if_true, e1]; exact hst.2⟩
    | nil =>
      have := ansPut_len s.Answers ⟨v.Now.Client, v.Now.Token, v.Says⟩
      exact ⟨by simp [commit], by simp only [commit]; omega, by simp [commit]; omega, hb, by simp, by simpa using ⟨_, hst.here.choose_spec⟩⟩
  | false =>
    rw [if_neg (by simp)]
    rw [hbz, if_neg (by simp)] at hst
    cases hB : v.Box with
    | nil => exact ⟨by simp only; omega, by simp only; omega, by simp only; omega, hb, by simp only; omega, by simp only [hbz]; simpa using hst⟩
    | cons b box =>
      have hb2 : Smb box := ⟨by have := hb.n; rw [hB] at this; simp at this; omega, fun x hx => hb.b x (by rw [hB]; simp [hx])⟩
      obtain ⟨l, hl⟩ := hst
      show WInv s (take1 s v b box).1 (n + 1)
      unfold take1
      have keep : WInv s { v with Box := box } (n + 1) := ⟨by omega, by omega, by omega, hb2, h4, by simp only [hbz]; exact ⟨l, hl⟩⟩
      split
      · exact keep
      · rename_i hr
        split
        · split
          · exact keep
          · exact keep
        · have hc := readReq_call (Classical.not_not.1 hr)
          refine ⟨by omega, by omega, by omega, hb2, ?_, ?_⟩
          · have := planR_len (entries s.Cells) (readReq b).1.Call
            simp only; omega
          · simp only [if_true]
            rw [entries_ofW hl]
            exact steps_plan hl hc
theorem Inv.winv {cs : List (List Mk.Call)} {m : Mk.Machine} (hcs : CsOk cs) (h : Inv cs m) : WInv m.Store m.Server 24 := by
  have hsm := h.smm hcs
  obtain ⟨b0, done, hR, hC, hU, ⟨k, rest, hk, hd⟩, _, hp⟩ := h.st
  have h1 := fwd_len b0 done
  have h2 := plan_part hd
  have h3 := h.law.len hcs
  have h4 := h.law.ans_len hcs
  refine ⟨by rw [hU, List.length_reverse]; omega, by rw [h.ans]; omega, h3, hsm.b, hsm.p, ?_⟩
  cases hb : m.Server.Busy with
  | true =>
    rw [if_pos rfl, hC]
    obtain ⟨c, hc, n1, n2, _⟩ := h.now hb
    have hcal : CallOk m.Server.Now.Call := by rw [n1]; exact hcs.call hc (by omega)
    have := steps_plan hR.w hcal
    rw [hp hb] at this
    exact this.part _ _
  | false =>
    rw [if_neg (by simp), hC]
    have := steps_plan hR.w hk
    rw [hd] at this
    exact (this.part _ _).here
end Sp
end
section
namespace Sp
set_option linter.unusedVariables false
set_option linter.unusedSimpArgs false
set_option maxHeartbeats 1000000
theorem law7_alive : mklaw7_alive = some true := by decide +kernel
theorem serve_szs {s : Mk.Store} {v : Mk.Server} {n : Nat} (h : WInv s v n) (hn : n < 1000) : Sz (serve s v).1 ∧ (serve s v).2.1.Box.length ≤ 1000000 ∧ (serve s v).2.1.Plan.length ≤ 1000000 := by
  have := h.step
  have h1 := this.b.n; have h2 := this.pl
  exact ⟨this.sz (by omega), by omega, by omega⟩
theorem st_loop (k : Unit → Option Bool) (hk : k () = some true) : ∀ (m i : Nat), i + m = 9 → ∀ f : Nat, m < f → ∀ (M : Mk.Machine) (v : Mk.Server), WInv M.Store v (100 + i) →
    mklaw7_ServeTells_l1 k f (i : Int) M v = some true := by
  intro m
  induction m with
  | zero =>
    intro i hi f hf M v h
    obtain ⟨f, rfl⟩ : ∃ g, f = g + 1 := ⟨f - 1, by omega⟩
    rw [mklaw7_ServeTells_l1, decide_eq_false (by omega), cond_false, hk]
  | succ m ih =>
    intro i hi f hf M v h
    obtain ⟨f, rfl⟩ : ∃ g, f = g + 1 := ⟨f - 1, by omega⟩
    obtain ⟨z1, z2, z3⟩ := serve_szs h (by omega)
    have hst := h.step
    rw [mklaw7_ServeTells_l1, decide_eq_true (by omega), cond_true, sgo_eq h (by omega), Option.bind_some, rserve_eqW h (by omega), Option.bind_some]
    generalize serve M.Store v = x at z1 z2 z3 hst
    rw [decide_eq_true (p := x.2.2.2 = x.2.2.2) rfl, decide_eq_true (p := bts x.2.2.1 = bts x.2.2.1) rfl, Bool.not_true, Bool.or_self, Cn_yes rfl, sameServer_eq _ _ z2 z3, Option.bind_some, decide_eq_true (p := x.2.1 = x.2.1) rfl, Bool.not_true, Bool.or_self, Cn_yes rfl, sameStore_eq _ _ z1, Option.bind_some, decide_eq_true (p := x.1 = x.1) rfl, Bool.not_true, Bool.or_self, cond_false,
      G_on (by unfold I; omega), show ((i : Int) + 1) = ((i + 1 : Nat) : Int) from by omega, ih (i + 1) (by omega) f (by omega)]
    show WInv x.1 x.2.1 (100 + (i + 1))
    exact hst
theorem WInv.mono {s : Mk.Store} {v : Mk.Server} {n k : Nat} (h : WInv s v n) (hk : n ≤ k) : WInv s v k := by
  have h1 := h.u; have h2 := h.a; have h3 := h.p
  exact ⟨by omega, by omega, by omega, h.b, h.pl, h.st⟩
theorem WInv.come {s : Mk.Store} {v : Mk.Server} {n : Nat} (h : WInv s v n) (b : List UInt8) (hb : b.length ≤ 140737488355328) : WInv s (sCome v b).1 n := by
  have hn := h.b.n
  unfold sCome
  split
  · exact h
  · refine ⟨h.u, h.a, h.p, ⟨by simp; omega, fun x hx => ?_⟩, h.pl, h.st⟩
    rcases List.mem_append.1 hx with hx | hx
    · exact h.b.b x hx
    · simp only [List.mem_singleton] at hx; subst hx; exact hb
theorem serveTells (l : List (List Mk.Call)) (steps : List Mk.Step) (b : List UInt8) (hst : steps.length ≤ 9223372036854775807) (hb : b.length * 1 ≤ 140737488355328) : mklaw7_ServeTells l steps b = some true := by
  unfold mklaw7_ServeTells
  rw [rright_eq, Option.bind_some]
  by_cases h0 : (newM l).2 = 0
  · rw [decide_eq_true h0, Bool.not_true, cond_false, rplay_eq h0 steps hst, Option.bind_some]
    obtain ⟨hcs, hM⟩ := play_inv h0 steps
    simp only
    generalize runM (newM l).1 (steps.take 400) = m at hM
    have hw := hM.winv hcs
    have hc := hw.come b (by omega)
    have hbn := hw.b.n
    have hcn := hc.b.n
    have hcp := hc.pl
    have hpp := hw.pl
    rw [scome_eq _ hw.b hw.pl b (by omega), Option.bind_some, rscome_eq _ _ (by omega), Option.bind_some, vown_eq _ hw.b hw.pl]
    generalize hx : sCome m.Server b = x at hc hcn hcp
    rw [decide_eq_true (p := x.2 = x.2) rfl, Bool.not_true, Cn_yes rfl, sameServer_eq _ _ (by omega) (by omega), Option.bind_some, decide_eq_true (p := x.1 = x.1) rfl, Bool.not_true, Bool.or_self, Cn_yes rfl, Option.bind_some, Cn_yes rfl, sameServer_eq _ _ (by omega) (by omega), Option.bind_some, decide_eq_true (p := m.Server = m.Server) rfl, Bool.not_true, Bool.or_self, cond_false]
    simp only [J]
    exact st_loop (fun _ => some true) rfl 9 0 (by omega) 10 (by omega) m x.1 (hc.mono (by omega))
  · rw [decide_eq_false h0, Bool.not_false, cond_true]
theorem serveOnce (l : List (List Mk.Call)) (steps : List Mk.Step) (q : Mk.Request) (hst : steps.length ≤ 9223372036854775807) : mklaw7_ServeOnce l steps q = some true := by
  unfold mklaw7_ServeOnce
  rw [law7_alive, Option.bind_some, Bool.not_true, cond_false, rright_eq, Option.bind_some]
  by_cases h0 : (newM l).2 = 0
  · rw [decide_eq_true h0, Bool.not_true, Cn_yes rfl, rwreq_eq, Option.bind_some, Bool.false_or]
    by_cases hq : wreq q = 0
    · rw [decide_eq_true hq, Bool.not_true, cond_false, rplay_eq h0 steps hst, Option.bind_some]
      obtain ⟨hcs, hM⟩ := play_inv h0 steps
      simp only
      generalize runM (newM l).1 (steps.take 400) = m at hM
      have hw := hM.winv hcs
      have hs := hM.sz hcs
      rw [rlast_eq _ _ hs.a, Option.bind_some]
      by_cases hc : (last m.Store q.Client).2 = true ∧ q.Token ≤ (last m.Store q.Client).1.Token ∧ m.Server.Busy = false ∧ m.Server.Box = []
      · obtain ⟨c1, c2, c3, c4⟩ := hc
        rw [c1, c3, c4, decide_eq_false (by omega)]
        simp only [Bool.not_true, Bool.or_self, List.length_nil, show decide ((0 : Int) < ((0 : Nat) : Int)) = false from by decide, cond_false]
        have e1 : sCome m.Server (reqB q) = ({ m.Server with Box := [reqB q] }, 0) := by unfold sCome; rw [c4]; rfl
        have hw2 := hw.come (reqB q) (by rw [reqB_len]; decide)
        rw [e1] at hw2
        have e2 : serve m.Store { m.Server with Box := [reqB q] } = (m.Store, (take1 m.Store { m.Server with Box := [reqB q] } (reqB q) []).1, (take1 m.Store { m.Server with Box := [reqB q] } (reqB q) []).2, 0) := by
          unfold serve
          simp only [c3, Bool.false_eq_true, if_false]
        have e3 : take1 m.Store { m.Server with Box := [reqB q] } (reqB q) [] = ({ m.Server with Box := [] }, if (last m.Store q.Client).1.Token = q.Token then ansB (last m.Store q.Client).1 else []) := by
          unfold take1
          rw [readReq_reqB hq]
          simp only [ne_eq, not_true, if_false, c1, c2, and_self, if_true]
          split <;> rfl
        rw [requestBytes_eq, Option.bind_some, scome_eq _ hw.b hw.pl _ (by rw [reqB_len]; decide), Option.bind_some, e1, sgo_eq hw2 (by omega), Option.bind_some, e2, e3]
        simp only [decide_true, Bool.not_true, c3, Bool.or_self, List.length_nil, show decide ((0 : Int) < ((0 : Nat) : Int)) = false from by decide]
        rw [Cn_yes trivial, sameStore_eq _ _ hs, Option.bind_some, decide_eq_true rfl, Bool.not_true, Bool.or_self, cond_false, answerBytes_eq]
        by_cases h3 : (last m.Store q.Client).1.Token = q.Token
        · rw [if_pos h3]
          have h4 : ¬ q.Token < (last m.Store q.Client).1.Token := by omega
          simp [Cn, h4, h3]
        · rw [if_neg h3]
          have h4 : q.Token < (last m.Store q.Client).1.Token := by omega
          simp [Cn, h4]
      · have hf : (((!(last m.Store q.Client).2 || decide ((last m.Store q.Client).1.Token < q.Token)) || m.Server.Busy) || decide ((0 : Int) < (m.Server.Box.length : Int))) = true := by
          cases c1 : (last m.Store q.Client).2 with
          | false => simp
          | true =>
            cases c3 : m.Server.Busy with
            | true => simp
            | false =>
              cases c4 : m.Server.Box with
              | cons b box => simp
              | nil =>
                simp only [c1, c3, c4, true_and, and_true] at hc
                simp; omega
        rw [hf, cond_true]
    · rw [decide_eq_false hq, Bool.not_false, cond_true]
  · rw [decide_eq_false h0, Bool.not_false, Cn_no (by simp), Option.bind_some]; rfl
theorem sd_loop (k : Unit → Option Bool) (now : List Mk.Write) (q : Mk.Request) (M : Mk.Machine) (hM : M.Store.Past.length ≤ 24) (says : Mk.Reply) (hnow : ∀ c, Rt c now → True) : ∀ (p : List Mk.Write) (i : Nat), i + p.length < 5 → ∀ f : Nat, p.length < f → ∀ (v : Mk.Server) (s : Mk.Store), WInv s v (50 + i) → v.Busy = true → v.Plan = p → v.Now = q → v.Says = says → Rt (wrs s.Cells p) now → s.Past.length = M.Store.Past.length →
    mklaw7_ServeDoes_l1 k f now (i : Int) q M says v s = some true := by
  intro p
  induction p with
  | nil =>
    intro i hi f hf v s h hb hp hn hsy hr hpast
    obtain ⟨f, rfl⟩ : ∃ g, f = g + 1 := ⟨f - 1, by simp at hf; omega⟩
    have hle := hr.le
    have e : serve s v = (commit s v.Now v.Says, ⟨v.Gen, v.Box, false, req0, [], rep0⟩, ansB ⟨v.Now.Client, v.Now.Token, v.Says⟩, 0) := by unfold serve; rw [if_pos hb, hp]
    have hl : (0 : Int) < ((ansB ⟨q.Client, q.Token, says⟩).length : Int) := by rw [ansB_len]; decide
    have hr' : Rt (commit s q says).Cells now := hr
    have hpl : ((commit s q says).Past.length : Int) = (M.Store.Past.length : Int) + 1 := by simp [commit, hpast]
    rw [mklaw7_ServeDoes_l1, decide_eq_true (by simp at hi; omega), cond_true, sgo_eq h (by omega), Option.bind_some, e, hn, hsy]
    dsimp only
    rw [decide_eq_true (p := (0 : Int) = 0) rfl, Bool.not_true, cond_false, decide_eq_true hl, cond_true, answerBytes_eq, Option.bind_some, decide_eq_true (p := bts (ansB ⟨q.Client, q.Token, says⟩) = bts (ansB ⟨q.Client, q.Token, says⟩)) rfl, Cn_yes rfl, of_eq hr', Option.bind_some, Cn_yes rfl, sameWrites_eq _ _ (by omega), Option.bind_some, decide_eq_true (p := now = now) rfl, G_on (fun _ => by unfold I; omega), hpl, decide_eq_true (p := ((commit s q says).Undo.length : Int) = 0) rfl, decide_eq_true (p := (M.Store.Past.length : Int) + 1 = (M.Store.Past.length : Int) + 1) rfl]
    rfl
  | cons w p ih =>
    intro i hi f hf v s h hb hp hn hsy hr hpast
    obtain ⟨f, rfl⟩ : ∃ g, f = g + 1 := ⟨f - 1, by simp at hf; omega⟩
    have e : serve s v = (wrS s w, { v with Plan := p }, [], 0) := by unfold serve; rw [if_pos hb, hp]
    have hst := h.step
    rw [e] at hst
    obtain ⟨w1, w2, w3, w4⟩ := wr_wrS s w
    simp only [List.length_cons] at hi hf
    rw [mklaw7_ServeDoes_l1, decide_eq_true (by omega), cond_true, sgo_eq h (by omega), Option.bind_some, e]
    dsimp only
    rw [decide_eq_true (p := (0 : Int) = 0) rfl, Bool.not_true, cond_false, show decide ((0 : Int) < ((([] : List UInt8).length : Nat) : Int)) = false from rfl, cond_false, G_on (by unfold I; omega), show ((i : Int) + 1) = ((i + 1 : Nat) : Int) from by omega]
    exact ih (i + 1) (by omega) f (by omega) _ _ hst hb rfl hn hsy (by rw [w1]; exact hr) (by rw [w4]; exact hpast)
theorem serveDoes (l : List (List Mk.Call)) (steps : List Mk.Step) (q : Mk.Request) (hst : steps.length ≤ 9223372036854775807) : mklaw7_ServeDoes l steps q = some true := by
  unfold mklaw7_ServeDoes
  rw [law7_alive, Option.bind_some, Bool.not_true, cond_false, rright_eq, Option.bind_some]
  by_cases h0 : (newM l).2 = 0
  · rw [decide_eq_true h0, Bool.not_true, Cn_yes rfl, rwreq_eq, Option.bind_some, Bool.false_or]
    by_cases hq : wreq q = 0
    · rw [decide_eq_true hq, Bool.not_true, cond_false, rplay_eq h0 steps hst, Option.bind_some]
      obtain ⟨hcs, hM⟩ := play_inv h0 steps
      simp only
      generalize runM (newM l).1 (steps.take 400) = m at hM
      have hw := hM.winv hcs
      have hs := hM.sz hcs
      have hcall := (wreq_ok hq).2.2
      rw [rlast_eq _ _ hs.a, Option.bind_some]
      by_cases hc : ((last m.Store q.Client).2 && decide (q.Token ≤ (last m.Store q.Client).1.Token)) = false ∧ m.Server.Busy = false ∧ m.Server.Box = [] ∧ m.Up = true
      · obtain ⟨c1, c3, c4, c5⟩ := hc
        rw [c1, c3, c4, c5]
        simp only [Bool.not_true, Bool.or_self, List.length_nil, show decide ((0 : Int) < ((0 : Nat) : Int)) = false from by decide, cond_false]
        obtain ⟨hR, hU⟩ := hM.rest c5 c3
        have hnm := hR.nm
        obtain ⟨r1, r2⟩ := plan_rt hR hcall
        have e1 : sCome m.Server (reqB q) = ({ m.Server with Box := [reqB q] }, 0) := by unfold sCome; rw [c4]; rfl
        have hw2 := hw.come (reqB q) (by rw [reqB_len]; decide)
        rw [e1] at hw2
        have e2 : serve m.Store { m.Server with Box := [reqB q] } = (m.Store, (take1 m.Store { m.Server with Box := [reqB q] } (reqB q) []).1, (take1 m.Store { m.Server with Box := [reqB q] } (reqB q) []).2, 0) := by
          unfold serve
          simp only [c3, Bool.false_eq_true, if_false]
        have e3 : take1 m.Store { m.Server with Box := [reqB q] } (reqB q) [] = (⟨m.Server.Gen, [], true, q, (planR (allN [] m.Store.Past) q.Call).1, (planR (allN [] m.Store.Past) q.Call).2⟩, []) := by
          unfold take1
          rw [readReq_reqB hq, entries_of hR]
          simp only [ne_eq, not_true, if_false]
          rw [if_neg]
          intro hh
          rw [hh.1, decide_eq_true hh.2] at c1
          cases c1
        have hst2 := hw2.step
        rw [e2, e3] at hst2
        have hlen := planR_len (allN [] m.Store.Past) q.Call
        have h24 := hM.law.len hcs
        rw [of_eq hR, Option.bind_some, do_eqP hnm hcall, Option.bind_some, requestBytes_eq, Option.bind_some, scome_eq _ hw.b hw.pl _ (by rw [reqB_len]; decide), Option.bind_some, e1]
        simp only [J]
        have ef : ((((5 : Int) - (0 : Int)).toNat + 1) : Nat) = 5 + 1 := rfl
        rw [ef, mklaw7_ServeDoes_l1, decide_eq_true (by decide), cond_true, sgo_eq hw2 (by omega), Option.bind_some, e2, e3]
        simp only [decide_true, Bool.not_true, cond_false, List.length_nil, show decide ((0 : Int) < ((0 : Nat) : Int)) = false from by decide]
        rw [G_on (by decide), ← r2]
        exact sd_loop _ _ q m h24 _ (fun _ _ => trivial) (planR (allN [] m.Store.Past) q.Call).1 1 (by omega) 5 (by omega) _ _ (hst2.mono (by omega)) rfl rfl rfl rfl r1 rfl
      · have hf : (((((last m.Store q.Client).2 && decide (q.Token ≤ (last m.Store q.Client).1.Token)) || m.Server.Busy) || decide ((0 : Int) < (m.Server.Box.length : Int))) || (!m.Up)) = true := by
          cases c1 : ((last m.Store q.Client).2 && decide (q.Token ≤ (last m.Store q.Client).1.Token)) with
          | true => simp
          | false =>
            cases c3 : m.Server.Busy with
            | true => simp
            | false =>
              cases c4 : m.Server.Box with
              | cons b box => simp
              | nil =>
                cases c5 : m.Up with
                | false => simp
                | true => exact (hc ⟨c1, c3, c4, c5⟩).elim
        rw [hf, cond_true]
    · rw [decide_eq_false hq, Bool.not_false, cond_true]
  · rw [decide_eq_false h0, Bool.not_false, Cn_no (by simp), Option.bind_some]; rfl
end Sp
end
