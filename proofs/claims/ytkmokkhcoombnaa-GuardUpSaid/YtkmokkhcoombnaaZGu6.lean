/- WHAT THE STATEMENTS OF THIS GROUP NEED, part 6: laid together by prune.py out of own texts. -/
import Derived.Test.YtkmokkhcoombnaaZGu5
section
namespace Sp
set_option linter.unusedVariables false
set_option linter.unusedSimpArgs false
set_option maxHeartbeats 1000000
section
variable {cs : List (List Mk.Call)} {m : Mk.Machine}
theorem ansB_at (a : Mk.Answer) (h : 0 ≤ a.Client ∧ a.Client < 3) : ((ix (ansB a) 1).toNat : Int) = a.Client := by
  show ((u8 a.Client).toNat : Int) = a.Client
  exact u8_nat _ (by omega)
theorem ansB_ne (a : Mk.Answer) : ansB a ≠ [] := by unfold ansB; simp
theorem toC_ans (a : Mk.Answer) (hc : 0 ≤ a.Client ∧ a.Client < m.Clients.length) (h3 : m.Clients.length ≤ 3) : toC m (ansB a) = withC m a.Client (cCome (ix m.Clients a.Client) (ansB a)) := by
  unfold toC
  rw [if_neg (ansB_ne a), ansB_at a (by omega), if_pos hc.2]
theorem Inv.toC (h : Inv cs m) {c : Int} (hc : 0 ≤ c ∧ c < cs.length) (hn : cs.length ≤ 3) {t : Int} (ht : 0 ≤ t ∧ t < cnt m.Store.Past c) : Inv cs (Sp.toC m (ansB ⟨c, t, ix (heardF [] m.Store.Past c) t⟩)) := by
  have hk := h.nk
  rw [toC_ans _ (by simp only; omega) (by omega)]
  obtain ⟨o1, o2, o3⟩ := ccome_ok (h.cl c hc) (b := ansB ⟨c, t, ix (heardF [] m.Store.Past c) t⟩) ⟨t, ht, rfl⟩
  exact h.withC hc o1 (by simp only [o2]; omega) (fun _ e => by simp only [o3]; exact e)
theorem Inv.served (hcs : CsOk cs) (h : Inv cs m) (hu : m.Up = true) : Inv cs { m with Store := (serve m.Store m.Server).1, Server := (serve m.Store m.Server).2.1 } ∧
    ((serve m.Store m.Server).2.2.2 = 0 → (serve m.Store m.Server).2.2.1 = [] ∨ ∃ c t : Int, (0 ≤ c ∧ c < cs.length) ∧ (0 ≤ t ∧ t < cnt (serve m.Store m.Server).1.Past c) ∧ (serve m.Store m.Server).2.2.1 = ansB ⟨c, t, ix (heardF [] (serve m.Store m.Server).1.Past c) t⟩) := by
  obtain ⟨b0, done, hR, hC, hU, hd, he, hp⟩ := h.st
  have hn3 := hcs.n
  have hbx := h.box
  cases hb : m.Server.Busy with
  | true =>
    have hplan := hp hb
    obtain ⟨c, hc, n1, n2, n3, n4⟩ := h.now hb
    cases hP : m.Server.Plan with
    | cons w p =>
      have e : serve m.Store m.Server = (wrS m.Store w, { m.Server with Plan := p }, [], 0) := by unfold serve; rw [if_pos hb, hP]
      rw [e]
      refine ⟨?_, fun _ => .inl rfl⟩
      have hlen := planR_len (allN [] m.Store.Past) m.Server.Now.Call
      rw [hplan, hP] at hlen
      simp only [List.length_append, List.length_cons] at hlen
      have e1 : (wrS m.Store w).Past = m.Store.Past := by unfold wrS; split <;> rfl
      have e2 : (wrS m.Store w).Answers = m.Store.Answers := by unfold wrS; split <;> rfl
      have e3 : (wrS m.Store w).Cells = wrs b0 (done ++ [w]) := by
        rw [wrs_append, ← hC]
        unfold wrS
        show _ = wr m.Store.Cells w
        split
        · rfl
        · rename_i h1; unfold wr; rw [if_neg h1]
      have e4 : (wrS m.Store w).Undo = (fwd b0 (done ++ [w])).reverse := by
        have hl : m.Store.Cells.length = b0.length := by rw [hC, wrs_len]
        rw [fwd_snoc, List.reverse_append, ← hU, ← hC, ← hl]
        unfold wrS
        split <;> simp
      refine ⟨by rw [e1]; exact h.law, by rw [e1, e2]; exact h.ans, h.nk, fun c hc => by rw [e1]; exact h.cl c hc, h.falls, h.gen, h.up, fun e => (by rw [hu] at e; cases e), h.box, h.q, ?_, fun _ => ?_, fun e => (by rw [hb] at e; cases e)⟩
      · refine ⟨b0, done ++ [w], by rw [e1]; exact hR, e3, e4, by simp; omega, fun _ e => (by rw [hb] at e; cases e), fun _ => ?_⟩
        rw [e1]
        show planR (allN [] m.Store.Past) m.Server.Now.Call = (done ++ [w] ++ p, m.Server.Says)
        rw [hplan, hP]; simp
      · refine ⟨c, hc, ?_⟩
        rw [e1]; exact ⟨n1, n2, n3, n4⟩
    | nil =>
      have e : serve m.Store m.Server = (commit m.Store m.Server.Now m.Server.Says, ⟨m.Server.Gen, m.Server.Box, false, req0, [], rep0⟩, ansB ⟨m.Server.Now.Client, m.Server.Now.Token, m.Server.Says⟩, 0) := by unfold serve; rw [hb, hP]; rfl
      rw [e]
      rw [hP, List.append_nil] at hplan
      have hcal : CallOk m.Server.Now.Call := by rw [n1]; exact hcs.call hc (by omega)
      obtain ⟨r1, r2⟩ := plan_rt hR hcal
      have hsay : m.Server.Says = (doP (allN [] m.Store.Past) m.Server.Now.Call).2 := by rw [← r2, hplan]
      rw [hplan, ← hC] at r1
      have hlaw : Lawful cs (m.Store.Past ++ [m.Server.Now]) := by
        rw [n1] at *
        exact .snoc h.law hc rfl n2 rfl
      have ecl : m.Server.Now.Client = c := by rw [n1]
      have etk : m.Server.Now.Token = cnt m.Store.Past c := by rw [n1]
      have ecnt : cnt (m.Store.Past ++ [m.Server.Now]) c = cnt m.Store.Past c + 1 := by rw [cnt_snoc, if_pos ecl]
      have ehd : heardF [] (m.Store.Past ++ [m.Server.Now]) c = heardF [] m.Store.Past c ++ [m.Server.Says] := by rw [heardF_snoc, if_pos ecl, hsay]
      refine ⟨⟨hlaw, ?_, h.nk, fun d hd' => ?_, h.falls, h.gen, h.up, fun e => (by rw [hu] at e; cases e), h.box, h.q, ?_, fun e => (by cases e), fun _ => rfl⟩, fun _ => .inr ⟨c, (cnt m.Store.Past c : Int), hc, ?_, ?_⟩⟩
      · show ansPut m.Store.Answers ⟨m.Server.Now.Client, m.Server.Now.Token, m.Server.Says⟩ = ansF [] [] (m.Store.Past ++ [m.Server.Now])
        rw [ansF_snoc, h.ans, hsay]
      · have hx := h.cl d hd'
        show ClOk cs (m.Store.Past ++ [m.Server.Now]) m.Server.Gen d (ix m.Clients d)
        have hat1 := hx.at1
        have hat2 := hx.at2
        have hmon : cnt (m.Store.Past ++ [m.Server.Now]) d = cnt m.Store.Past d + if m.Server.Now.Client = d then 1 else 0 := cnt_snoc _ _ _
        refine ⟨hx.calls, hx.at0, by omega, ?_, ?_, ?_, hx.box, fun b hb' => (hx.ans b hb').snoc, hx.gen, hx.more⟩
        · by_cases ed : m.Server.Now.Client = d
          · rw [if_pos ed] at hmon
            have : c = d := by rw [← ecl, ed]
            subst this
            omega
          · rw [if_neg ed] at hmon; omega
        · by_cases ed : m.Server.Now.Client = d
          · have : c = d := by rw [← ecl, ed]
            subst this
            exact fun _ => n4
          · rw [if_neg ed] at hmon
            intro e; exact hx.sent (by omega)
        · rw [heardF_snoc, List.take_append_of_le_length (by rw [heardF_len]; have := hx.at0; omega)]
          exact hx.got
      · refine ⟨m.Store.Cells, [], ?_, rfl, rfl, by simp, fun _ _ => rfl, fun e => (by cases e)⟩
        show Rt m.Store.Cells (allN [] (m.Store.Past ++ [m.Server.Now]))
        rw [allN_snoc]; exact r1
      · show 0 ≤ (cnt m.Store.Past c : Int) ∧ (cnt m.Store.Past c : Int) < (cnt (m.Store.Past ++ [m.Server.Now]) c : Int)
        rw [ecnt]; omega
      · show ansB ⟨m.Server.Now.Client, m.Server.Now.Token, m.Server.Says⟩ = ansB ⟨c, (cnt m.Store.Past c : Int), ix (heardF [] (m.Store.Past ++ [m.Server.Now]) c) (cnt m.Store.Past c : Int)⟩
        rw [ehd, ix_last _ _ _ (by rw [heardF_len]), ecl, etk]
  | false =>
    have hdn := he hu hb
    subst hdn
    have hid := h.idle hb
    have hC' : m.Store.Cells = b0 := hC
    cases hB : m.Server.Box with
    | nil =>
      have e : serve m.Store m.Server = (m.Store, m.Server, [], 12) := by
        unfold serve
        rw [hb, hB]; rfl
      rw [e]
      exact ⟨h, fun e => by cases e⟩
    | cons b box =>
      have e : serve m.Store m.Server = (m.Store, (take1 m.Store m.Server b box).1, (take1 m.Store m.Server b box).2, 0) := by
        unfold serve
        rw [hb, hB]; rfl
      rw [e]
      obtain ⟨c, t, hc, ht, hbt, q1, q2⟩ := h.q b (by rw [hB]; simp)
      have hx := h.cl c hc
      have h8 := hcs.len hc
      have hread : readReq b = (⟨c, t, call cs c t⟩, 0) := by rw [hbt]; exact readReq_reqB (wreq_of (by omega) (by omega) (hcs.call hc ht))
      have hlast : last m.Store c = if cnt m.Store.Past c = 0 then (ans0, false) else (⟨c, (cnt m.Store.Past c : Int) - 1, ix (heardF [] m.Store.Past c) ((cnt m.Store.Past c : Int) - 1)⟩, true) := by
        unfold last
        rw [h.ans, h.law.find c]
        by_cases h0 : cnt m.Store.Past c = 0
        · rw [if_pos h0, if_pos h0]
        · rw [if_neg h0, if_neg h0]
      have hbx2 : box.length ≤ 3 := by rw [hB] at hbx; simp at hbx; omega
      have hq : ∀ b' ∈ box, QOk cs m.Clients b' := fun b' hb' => h.q b' (by rw [hB]; simp [hb'])
      have keep : Inv cs { m with Server := { m.Server with Box := box } } :=
        ⟨h.law, h.ans, h.nk, h.cl, h.falls, h.gen, h.up, fun e => (by rw [hu] at e; cases e), hbx2, hq, ⟨b0, [], hR, hC, hU, by simp, fun _ _ => rfl, fun e => (by rw [hb] at e; cases e)⟩, fun e => (by rw [hb] at e; cases e), fun _ => (by
          show (⟨m.Server.Gen, box, m.Server.Busy, m.Server.Now, m.Server.Plan, m.Server.Says⟩ : Mk.Server) = _
          rw [hid])⟩
      unfold take1
      rw [hread]
      simp only [ne_eq, not_true, if_false]
      by_cases h1 : (last m.Store c).2 = true ∧ t ≤ (last m.Store c).1.Token
      · rw [if_pos h1]
        have h0 : cnt m.Store.Past c ≠ 0 := by
          intro h0
          rw [hlast, if_pos h0] at h1
          exact absurd h1.1 (by simp)
        rw [hlast, if_neg h0] at h1 ⊢
        simp only at h1 ⊢
        by_cases h2 : (cnt m.Store.Past c : Int) - 1 = t
        · rw [if_pos h2]
          refine ⟨keep, fun _ => .inr ⟨c, (cnt m.Store.Past c : Int) - 1, hc, by omega, rfl⟩⟩
        · rw [if_neg h2]
          exact ⟨keep, fun _ => .inl rfl⟩
      · rw [if_neg h1]
        have htc : t = cnt m.Store.Past c := by
          have := hx.at1
          rw [hlast] at h1
          by_cases h0 : cnt m.Store.Past c = 0
          · omega
          · rw [if_neg h0] at h1
            simp only [true_and] at h1
            omega
        have hat := hx.at1
        refine ⟨?_, fun _ => .inl rfl⟩
        have hent : entries m.Store.Cells = allN [] m.Store.Past := entries_of (by rw [hC']; exact hR)
        refine ⟨h.law, h.ans, h.nk, h.cl, h.falls, h.gen, h.up, fun e => (by rw [hu] at e; cases e), hbx2, hq, ⟨b0, [], hR, hC, hU, by simp, fun _ _ => rfl, fun _ => ?_⟩, fun _ => ⟨c, hc, ?_, (by show (cnt m.Store.Past c : Int) < ((ix cs c).length : Int); omega), (by show (ix m.Clients c).At = (cnt m.Store.Past c : Int); omega), q2 (by omega)⟩, fun e => (by cases e)⟩
        · show planR (allN [] m.Store.Past) (call cs c t) = ([] ++ (planR (entries m.Store.Cells) (call cs c t)).1, (planR (entries m.Store.Cells) (call cs c t)).2)
          rw [hent]; rfl
        · show (⟨c, t, call cs c t⟩ : Mk.Request) = ⟨c, cnt m.Store.Past c, call cs c (cnt m.Store.Past c)⟩
          rw [htc]
theorem doS_eq (hcs : CsOk cs) (h : Inv cs m) (k : Int) : mkref6_Do m ⟨2, k⟩ = some (doS m) ∧ Inv cs (doS m).1 := by
  have hk := h.nk
  have hn3 := hcs.n
  have hs := h.sz hcs
  unfold mkref6_Do doS
  simp only [J, show decide ((2 : Int) = 1) = false from by decide, cond_false, decide_true, cond_true]
  rcases Bool.eq_false_or_eq_true m.Up with hu | hu
  rotate_left
  · rw [if_pos hu]
    refine ⟨?_, h⟩
    rw [hu]; rfl
  · rw [if_neg (by rw [hu]; simp)]
    have hr : m.Server.Busy = false → Rt m.Store.Cells (entries m.Store.Cells) := fun hb => by
      have := (h.rest hu hb).1
      rw [entries_of this]; exact this
    obtain ⟨i1, i2⟩ := h.served hcs hu
    rw [hu] at i1 ⊢
    rw [Bool.not_true, cond_false, rserve_eq hs hr, Option.bind_some]
    by_cases h0 : (serve m.Store m.Server).2.2.2 = 0
    · rw [decide_eq_true h0, Bool.not_true, cond_false, if_neg (by simp [h0])]
      rcases i2 h0 with e | ⟨c, t, hc, ht, e⟩
      · rw [e]
        exact ⟨rfl, by unfold Sp.toC; rw [if_pos rfl]; exact i1⟩
      · have hl : (0 : Int) < ((serve m.Store m.Server).2.2.1.length : Int) := by
          rw [e]; unfold ansB nb; simp <;> omega
        have hl2 : (1 : Int) < ((serve m.Store m.Server).2.2.1.length : Int) := by
          rw [e]; unfold ansB nb; simp <;> omega
        have hat : ((ix (serve m.Store m.Server).2.2.1 1).toNat : Int) = c := by rw [e]; exact ansB_at _ (by simp only; omega)
        have hx := (i1.cl c hc).box
        rw [decide_eq_true hl, cond_true, G_on ⟨by decide, hl2⟩, hat, decide_eq_true (by omega), cond_true, G_on (by omega), rccome_eq _ _ (by simp only at hx; omega), Option.bind_some, rwith_eq _ _ _ (by show m.Clients.length ≤ 1000; omega) (by show 0 ≤ c ∧ c < (m.Clients.length : Int); omega), Option.bind_some]
        have ht2 : Inv cs (Sp.toC { m with Store := (serve m.Store m.Server).1, Server := (serve m.Store m.Server).2.1, Up := true } (serve m.Store m.Server).2.2.1) := by
          rw [e]; exact i1.toC hc hn3 ht
        refine ⟨?_, ht2⟩
        unfold Sp.toC
        rw [if_neg (by rw [e]; exact ansB_ne _), hat, if_pos (by show c < (m.Clients.length : Int); omega)]
    · rw [decide_eq_false h0, Bool.not_false, cond_true, if_pos (by simpa using h0)]
      exact ⟨rfl, h⟩
theorem do_step (hcs : CsOk cs) (h : Inv cs m) (s : Mk.Step) : mkref6_Do m s = some (doM m s) ∧ Inv cs (doM m s).1 := by
  obtain ⟨k, n⟩ := s
  unfold doM
  by_cases h1 : k = 1
  · subst h1; simpa using doC_eq hcs h n 0
  · by_cases h2 : k = 2
    · subst h2; simpa using doS_eq hcs h n
    · by_cases h3 : k = 3
      · subst h3
        refine ⟨?_, by simpa using inv_fall h⟩
        unfold mkref6_Do
        simp only [J, show decide ((3 : Int) = 1) = false from by decide, show decide ((3 : Int) = 2) = false from by decide, cond_false, decide_true, cond_true]
        rw [rfall_eq m h.falls, Option.bind_some]; rfl
      · by_cases h4 : k = 4
        · subst h4
          refine ⟨?_, by simpa using inv_tick h⟩
          unfold mkref6_Do
          simp only [J, show decide ((4 : Int) = 1) = false from by decide, show decide ((4 : Int) = 2) = false from by decide, show decide ((4 : Int) = 3) = false from by decide, cond_false, decide_true, cond_true]
          have hp : 0 ≤ m.Pause ∧ m.Pause ≤ 1000 := by
            rcases Bool.eq_false_or_eq_true m.Up with hu | hu
            · have := (h.up hu).1; omega
            · have := h.down hu; omega
          rw [rtick_eq m (h.sz hcs) hp ⟨h.gen, by have := h.gen6; omega⟩, Option.bind_some]; rfl
        · simp only [h1, h2, h3, h4, if_false]
          refine ⟨?_, h⟩
          unfold mkref6_Do
          rw [decide_eq_false h1, cond_false, decide_eq_false h2, cond_false, decide_eq_false h3, cond_false, decide_eq_false h4, cond_false]
end
end Sp
end
section
namespace Sp
set_option linter.unusedVariables false
set_option linter.unusedSimpArgs false
set_option maxHeartbeats 1000000
def sto0 : Mk.Store := ⟨[], [], [], []⟩
def mach0 : Mk.Machine := ⟨sto0, srv0 0, false, 0, 0, []⟩
def badC : List Mk.Call → Int
  | [] => 0
  | c :: l => if wcall c ≠ 0 then wcall c else badC l
def badL : List (List Mk.Call) → Int
  | [] => 0
  | x :: l => if 8 < x.length then 4 else if badC x ≠ 0 then badC x else badL l
def cl0 (x : List Mk.Call) : Mk.Client := ⟨x, 0, false, 0, [], []⟩
def newM (l : List (List Mk.Call)) : Mk.Machine × Int :=
  if 3 < l.length then (mach0, 5) else if badL l ≠ 0 then (mach0, badL l) else (⟨⟨List.replicate 11 0, [], [], []⟩, srv0 0, true, 0, 0, l.map cl0⟩, 0)
theorem rnew_loop2 (k : List Mk.Call → List (List Mk.Call) → Int → Int → Mk.Machine → Mk.Machine → List Mk.Client → Option (Mk.Machine × Int)) (K : List Mk.Call) (hK : K.length ≤ 1000) (cs : List (List Mk.Call)) (n i : Int) (y2 y4 : Mk.Machine) (acc : List Mk.Client) : ∀ (m j : Nat), j + m = K.length → ∀ f : Nat, m < f →
    mkref6_New_l2 k f K cs n i K (K.length : Int) (j : Int) y2 y4 acc = if badC (K.drop j) ≠ 0 then some (mach0, badC (K.drop j)) else k K cs n i y2 y4 acc := by
  intro m
  induction m with
  | zero =>
    intro j hj f hf
    obtain ⟨f, rfl⟩ : ∃ g, f = g + 1 := ⟨f - 1, by omega⟩
    rw [mkref6_New_l2, decide_eq_false (by omega), cond_false, List.drop_of_length_le (by omega)]; rfl
  | succ m ih =>
    intro j hj f hf
    obtain ⟨f, rfl⟩ : ∃ g, f = g + 1 := ⟨f - 1, by omega⟩
    rw [mkref6_New_l2, decide_eq_true (by omega), cond_true, G_on (by omega), wrongCall_eq, Option.bind_some, ix_drop K j (by omega), badC]
    by_cases h : wcall (ix K (j : Int)) = 0
    · rw [decide_eq_true h, Bool.not_true, cond_false, G_on (by unfold I; omega), show ((j : Int) + 1) = ((j + 1 : Nat) : Int) from by omega, ih (j + 1) (by omega) f (by omega)]
      simp [h]
    · rw [decide_eq_false h, Bool.not_false, cond_true, if_pos (by rw [if_pos h]; exact h), if_pos h]; rfl
theorem rnew_loop1 (cs : List (List Mk.Call)) (hn : cs.length ≤ 3) (k : Mk.Machine → Mk.Machine → List Mk.Client → Option (Mk.Machine × Int)) (y2 y4 : Mk.Machine) : ∀ (m i : Nat), i + m = cs.length → ∀ f : Nat, m < f → ∀ acc : List Mk.Client, acc.length ≤ i →
    mkref6_New_l1 k f cs (cs.length : Int) (i : Int) y2 y4 acc = if badL (cs.drop i) ≠ 0 then some (mach0, badL (cs.drop i)) else k y2 y4 (acc ++ (cs.drop i).map cl0) := by
  intro m
  induction m with
  | zero =>
    intro i hi f hf acc ha
    obtain ⟨f, rfl⟩ : ∃ g, f = g + 1 := ⟨f - 1, by omega⟩
    rw [mkref6_New_l1, decide_eq_false (by omega), cond_false, List.drop_of_length_le (by omega)]; simp [badL]
  | succ m ih =>
    intro i hi f hf acc ha
    obtain ⟨f, rfl⟩ : ∃ g, f = g + 1 := ⟨f - 1, by omega⟩
    rw [mkref6_New_l1, decide_eq_true (by omega), cond_true, G_on (by omega), ix_drop cs i (by omega), badL]
    by_cases h8 : 8 < (ix cs (i : Int)).length
    · rw [decide_eq_true (by omega), cond_true, if_pos (by rw [if_pos h8]; decide), if_pos h8]; rfl
    · rw [decide_eq_false (by omega), cond_false]
      simp only [J]
      have h2 := fun k => rnew_loop2 k (ix cs (i : Int)) (by omega) cs (cs.length : Int) (i : Int) y2 y4 acc (ix cs (i : Int)).length 0 (by omega) ((((ix cs (i : Int)).length : Int) - 0).toNat + 1) (by omega)
      rw [show ((0 : Nat) : Int) = 0 from rfl] at h2
      rw [h2, List.drop_zero, if_neg h8]
      by_cases hb : badC (ix cs (i : Int)) = 0
      · rw [if_neg (by simpa using hb), if_neg (show ¬ badC (ix cs (i : Int)) ≠ 0 from by simpa using hb), G_on (by simp; omega), G_on (by unfold I; omega), show ((i : Int) + 1) = ((i + 1 : Nat) : Int) from by omega, ih (i + 1) (by omega) f (by omega) _ (by simp; omega)]
        rw [List.map_cons, List.append_assoc]; rfl
      · rw [if_pos hb, if_pos hb, if_pos hb]
theorem rnew_eq (l : List (List Mk.Call)) : mkref6_New l = some (newM l) := by
  unfold mkref6_New newM
  by_cases h : 3 < l.length
  · rw [decide_eq_true (by omega), cond_true, if_pos h]; rfl
  · rw [decide_eq_false (by omega), cond_false, G_on (by decide), if_neg h]
    simp only [J]
    have h1 := fun k y2 y4 => rnew_loop1 l (by omega) k y2 y4 l.length 0 (by omega) (((l.length : Int) - 0).toNat + 1) (by omega) [] (by simp)
    rw [show ((0 : Nat) : Int) = 0 from rfl] at h1
    rw [h1, List.drop_zero]
    by_cases hb : badL l = 0
    · rw [if_neg (by simpa using hb), if_neg (by simpa using hb)]; rfl
    · rw [if_pos hb, if_pos hb]
theorem rright_eq (l : List (List Mk.Call)) : mkref6_Right l = some (decide ((newM l).2 = 0)) := by
  unfold mkref6_Right
  rw [rnew_eq, Option.bind_some]
theorem badC_ok (l : List Mk.Call) (h : badC l = 0) : ∀ c ∈ l, CallOk c := by
  induction l with
  | nil => simp
  | cons c l ih =>
    unfold badC at h
    split at h
    · rename_i h1; exact (h1 h).elim
    · rename_i h1
      intro x hx
      rcases List.mem_cons.1 hx with rfl | hx
      · exact (wcall_ok _).1 (Classical.not_not.1 h1)
      · exact ih h x hx
theorem badL_ok (l : List (List Mk.Call)) (h : badL l = 0) : ∀ x ∈ l, x.length ≤ 8 ∧ ∀ c ∈ x, CallOk c := by
  induction l with
  | nil => simp
  | cons x l ih =>
    unfold badL at h
    split at h
    · cases h
    · split at h
      · rename_i h1; exact (h1 h).elim
      · rename_i h1 h2
        intro y hy
        rcases List.mem_cons.1 hy with rfl | hy
        · exact ⟨by omega, badC_ok _ (Classical.not_not.1 h2)⟩
        · exact ih h y hy
theorem rt_zero : Rt (List.replicate 11 0) [] := by
  refine ⟨by simp, rfl, by simp, fun i hi => by simp at hi, by simp, by simp⟩
theorem newM_inv {l : List (List Mk.Call)} (h : (newM l).2 = 0) : CsOk l ∧ Inv l (newM l).1 ∧ (newM l).1 = ⟨⟨List.replicate 11 0, [], [], []⟩, srv0 0, true, 0, 0, l.map cl0⟩ := by
  unfold newM at h ⊢
  split at h
  · cases h
  · split at h
    · rename_i h1 h2; exact (h2 h).elim
    · rename_i h1 h2
      rw [if_neg h1, if_neg h2]
      have hcs : CsOk l := ⟨by omega, badL_ok l (Classical.not_not.1 h2)⟩
      refine ⟨hcs, ⟨.nil, rfl, by simp, fun c hc => ?_, ⟨(show (0 : Int) ≤ 0 by decide), (show (0 : Int) ≤ 6 by decide)⟩, (show (0 : Int) ≤ 0 by decide), fun _ => ⟨rfl, rfl⟩, fun e => (by cases e), by simp [srv0], by simp [srv0], ⟨List.replicate 11 0, [], rt_zero, rfl, rfl, by simp, fun _ _ => rfl, fun e => (by cases e)⟩, fun e => (by cases e), fun _ => rfl⟩, rfl⟩
      have e : ix (l.map cl0) c = cl0 (ix l c) := by
        have : c.toNat < l.length := by omega
        simp [ix, this]
      show ClOk l [] 0 c (ix (l.map cl0) c)
      rw [e]
      exact ⟨rfl, by simp [cl0], by simp [cl0], by simp [cl0, cnt], fun h => (by simp [cl0, cnt] at h), rfl, by simp [cl0], by simp [cl0], by simp [cl0], fun h => (by cases h)⟩
theorem rplay_loop {cs : List (List Mk.Call)} (hcs : CsOk cs) (steps : List Mk.Step) (k : Mk.Machine → Mk.Machine → List Int → Option (Mk.Machine × List Int)) (y : Mk.Machine) : ∀ (m i : Nat), i + m = 400 → i ≤ steps.length → ∀ f : Nat, steps.length - i < f → ∀ (M : Mk.Machine) (es : List Int), es.length ≤ i → Inv cs M → steps.length ≤ 9223372036854775807 →
    mkref6_Play_l1 k f steps (steps.length : Int) (i : Int) y M es = k y (runM M ((steps.drop i).take m)) (es ++ runE M ((steps.drop i).take m)) := by
  intro m
  induction m with
  | zero =>
    intro i hi hle f hf M es he hM hs
    obtain ⟨f, rfl⟩ : ∃ g, f = g + 1 := ⟨f - 1, by omega⟩
    rw [mkref6_Play_l1]
    by_cases h : i < steps.length
    · rw [decide_eq_true (by omega), cond_true, G_on (by omega), decide_eq_true (by omega), cond_true]; simp [runM, runE]
    · rw [decide_eq_false (by omega), cond_false]; simp [runM, runE]
  | succ m ih =>
    intro i hi hle f hf M es he hM hs
    obtain ⟨f, rfl⟩ : ∃ g, f = g + 1 := ⟨f - 1, by omega⟩
    rw [mkref6_Play_l1]
    by_cases h : i < steps.length
    · obtain ⟨d1, d2⟩ := do_step hcs hM (ix steps (i : Int))
      rw [decide_eq_true (by omega), cond_true, G_on (by omega), decide_eq_false (by omega), cond_false, d1, Option.bind_some, G_on (by simp; omega), G_on (by unfold I; omega), show ((i : Int) + 1) = ((i + 1 : Nat) : Int) from by omega,
        ih (i + 1) (by omega) (by omega) f (by omega) _ _ (by simp; omega) d2 hs, ix_drop steps i h, List.take_succ_cons]
      simp [runM, runE]
    · rw [decide_eq_false (by omega), cond_false, List.drop_of_length_le (by omega)]; simp [runM, runE]
theorem inv_run {cs : List (List Mk.Call)} (hcs : CsOk cs) {M : Mk.Machine} (h : Inv cs M) (l : List Mk.Step) : Inv cs (runM M l) := by
  induction l generalizing M with
  | nil => exact h
  | cons s l ih => exact ih (do_step hcs h s).2
theorem rplay_eq {cs : List (List Mk.Call)} (h0 : (newM cs).2 = 0) (steps : List Mk.Step) (hs : steps.length ≤ 9223372036854775807) : mkref6_Play cs steps = some (runM (newM cs).1 (steps.take 400), runE (newM cs).1 (steps.take 400)) := by
  obtain ⟨hcs, hM, _⟩ := newM_inv h0
  unfold mkref6_Play
  rw [rnew_eq, Option.bind_some]
  simp only [J]
  have := fun k y => rplay_loop hcs steps k y 400 0 (by omega) (by omega) (((steps.length : Int) - 0).toNat + 1) (by omega) (newM cs).1 [] (by simp) hM hs
  rw [show ((0 : Nat) : Int) = 0 from rfl] at this
  rw [this, List.drop_zero]; rfl
theorem play_inv {cs : List (List Mk.Call)} (h0 : (newM cs).2 = 0) (steps : List Mk.Step) : CsOk cs ∧ Inv cs (runM (newM cs).1 (steps.take 400)) := by
  obtain ⟨hcs, hM, _⟩ := newM_inv h0
  exact ⟨hcs, inv_run hcs hM _⟩
end Sp
end
section
namespace Sp
set_option linter.unusedVariables false
set_option linter.unusedSimpArgs false
set_option maxHeartbeats 1000000
theorem cloneBy_eq (l : List UInt8) (h : l.length ≤ 140737488355328) : slices_Clone___byte_byte_ l = some l := by
  unfold slices_Clone___byte_byte_
  rw [G_on (by simp; omega)]; simp
theorem cloneRe_eq (l : List Mk.Reply) (h : l.length ≤ 1000000) : slices_Clone___api_Reply_api_Reply_ l = some l := by
  unfold slices_Clone___api_Reply_api_Reply_
  rw [G_on (by simp; omega)]; simp
theorem sameCalls_loop (a b : List Mk.Call) (hab : a.length = b.length) (hl : a.length ≤ 9223372036854775807) (k : Unit → Option Bool) (hk : k () = some true) : ∀ (m i : Nat), i + m = a.length → ∀ f : Nat, m < f →
    mkref1_SameCalls_l1 k f a b (a.length : Int) (i : Int) = some (decide (a.drop i = b.drop i)) := by
  intro m
  induction m with
  | zero =>
    intro i hi f hf
    obtain ⟨f, rfl⟩ : ∃ g, f = g + 1 := ⟨f - 1, by omega⟩
    rw [mkref1_SameCalls_l1, decide_eq_false (by omega), cond_false, hk, List.drop_of_length_le (by omega), List.drop_of_length_le (by omega)]
    simp
  | succ m ih =>
    intro i hi f hf
    obtain ⟨f, rfl⟩ : ∃ g, f = g + 1 := ⟨f - 1, by omega⟩
    rw [mkref1_SameCalls_l1, decide_eq_true (by omega), cond_true, G_on (by omega), G_on (by omega), ix_drop a i (by omega), ix_drop b i (by omega)]
    by_cases h : ix a (i : Int) = ix b (i : Int)
    · rw [decide_eq_true h, Bool.not_true, cond_false, G_on (by unfold I; omega), show ((i : Int) + 1) = ((i + 1 : Nat) : Int) from by omega, ih (i + 1) (by omega) f (by omega)]
      simp [h]
    · rw [decide_eq_false h, Bool.not_false, cond_true]
      simp [h]
theorem sameCalls_eq (a b : List Mk.Call) (hl : a.length ≤ 9223372036854775807) : mkref1_SameCalls a b = some (decide (a = b)) := by
  unfold mkref1_SameCalls
  simp only [J]
  by_cases h : a.length = b.length
  · rw [decide_eq_true (by omega), Bool.not_true, cond_false]
    have := sameCalls_loop a b h hl (fun _ => some true) rfl a.length 0 (by omega) (((a.length : Int) - 0).toNat + 1) (by omega)
    rw [show ((0 : Nat) : Int) = 0 from rfl] at this
    rw [this]; simp
  · rw [decide_eq_false (by omega), Bool.not_false, cond_true]
    congr 1
    exact (decide_eq_false fun e => h (by rw [e])).symm
theorem sameReplies_loop (a b : List Mk.Reply) (hab : a.length = b.length) (hl : a.length ≤ 9223372036854775807) (k : Unit → Option Bool) (hk : k () = some true) : ∀ (m i : Nat), i + m = a.length → ∀ f : Nat, m < f →
    mkref6_SameReplies_l1 k f a b (a.length : Int) (i : Int) = some (decide (a.drop i = b.drop i)) := by
  intro m
  induction m with
  | zero =>
    intro i hi f hf
    obtain ⟨f, rfl⟩ : ∃ g, f = g + 1 := ⟨f - 1, by omega⟩
    rw [mkref6_SameReplies_l1, decide_eq_false (by omega), cond_false, hk, List.drop_of_length_le (by omega), List.drop_of_length_le (by omega)]
    simp
  | succ m ih =>
    intro i hi f hf
    obtain ⟨f, rfl⟩ : ∃ g, f = g + 1 := ⟨f - 1, by omega⟩
    rw [mkref6_SameReplies_l1, decide_eq_true (by omega), cond_true, G_on (by omega), G_on (by omega), ix_drop a i (by omega), ix_drop b i (by omega)]
    by_cases h : ix a (i : Int) = ix b (i : Int)
    · rw [decide_eq_true h, Bool.not_true, cond_false, G_on (by unfold I; omega), show ((i : Int) + 1) = ((i + 1 : Nat) : Int) from by omega, ih (i + 1) (by omega) f (by omega)]
      simp [h]
    · rw [decide_eq_false h, Bool.not_false, cond_true]
      simp [h]
theorem sameReplies_eq (a b : List Mk.Reply) (hl : a.length ≤ 9223372036854775807) : mkref6_SameReplies a b = some (decide (a = b)) := by
  unfold mkref6_SameReplies
  simp only [J]
  by_cases h : a.length = b.length
  · rw [decide_eq_true (by omega), Bool.not_true, cond_false]
    have := sameReplies_loop a b h hl (fun _ => some true) rfl a.length 0 (by omega) (((a.length : Int) - 0).toNat + 1) (by omega)
    rw [show ((0 : Nat) : Int) = 0 from rfl] at this
    rw [this]; simp
  · rw [decide_eq_false (by omega), Bool.not_false, cond_true]
    congr 1
    exact (decide_eq_false fun e => h (by rw [e])).symm
theorem sameBytes_loop (a b : List (List UInt8)) (hab : a.length = b.length) (hl : a.length ≤ 9223372036854775807) (k : Unit → Option Bool) (hk : k () = some true) : ∀ (m i : Nat), i + m = a.length → ∀ f : Nat, m < f →
    mkref6_SameBytes_l1 k f a b (a.length : Int) (i : Int) = some (decide (a.drop i = b.drop i)) := by
  intro m
  induction m with
  | zero =>
    intro i hi f hf
    obtain ⟨f, rfl⟩ : ∃ g, f = g + 1 := ⟨f - 1, by omega⟩
    rw [mkref6_SameBytes_l1, decide_eq_false (by omega), cond_false, hk, List.drop_of_length_le (by omega), List.drop_of_length_le (by omega)]
    simp
  | succ m ih =>
    intro i hi f hf
    obtain ⟨f, rfl⟩ : ∃ g, f = g + 1 := ⟨f - 1, by omega⟩
    rw [mkref6_SameBytes_l1, decide_eq_true (by omega), cond_true, G_on (by omega), G_on (by omega), ix_drop a i (by omega), ix_drop b i (by omega)]
    by_cases h : ix a (i : Int) = ix b (i : Int)
    · rw [decide_eq_true (by rw [h]), Bool.not_true, cond_false, G_on (by unfold I; omega), show ((i : Int) + 1) = ((i + 1 : Nat) : Int) from by omega, ih (i + 1) (by omega) f (by omega)]
      simp [h]
    · rw [decide_eq_false (fun e => h (bts_inj.1 e)), Bool.not_false, cond_true]
      simp [h]
theorem sameBytes_eq (a b : List (List UInt8)) (hl : a.length ≤ 9223372036854775807) : mkref6_SameBytes a b = some (decide (a = b)) := by
  unfold mkref6_SameBytes
  simp only [J]
  by_cases h : a.length = b.length
  · rw [decide_eq_true (by omega), Bool.not_true, cond_false]
    have := sameBytes_loop a b h hl (fun _ => some true) rfl a.length 0 (by omega) (((a.length : Int) - 0).toNat + 1) (by omega)
    rw [show ((0 : Nat) : Int) = 0 from rfl] at this
    rw [this]; simp
  · rw [decide_eq_false (by omega), Bool.not_false, cond_true]
    congr 1
    exact (decide_eq_false fun e => h (by rw [e])).symm
structure Szc (c : Mk.Client) : Prop where
  k : c.Calls.length ≤ 1000000
  b : c.Box.length ≤ 1000000
  g : c.Got.length ≤ 1000000
theorem sameClient_eq (a b : Mk.Client) (h : Szc a) : mkref6_SameClient a b = some (decide (a = b)) := by
  have h1 := h.k; have h2 := h.b; have h3 := h.g
  unfold mkref6_SameClient
  rw [sameCalls_eq _ _ (by omega), Option.bind_some, sameBytes_eq _ _ (by omega), sameReplies_eq _ _ (by omega)]
  obtain ⟨k1, a1, s1, g1, b1, r1⟩ := a
  obtain ⟨k2, a2, s2, g2, b2, r2⟩ := b
  simp only [Mk.Client.mk.injEq]
  by_cases e1 : k1 = k2 <;> by_cases e2 : a1 = a2 <;> by_cases e3 : s1 = s2 <;> by_cases e4 : g1 = g2 <;> by_cases e5 : b1 = b2 <;> simp [Cn, e1, e2, e3, e4, e5]
theorem ClOk.sz {cs : List (List Mk.Call)} (hcs : CsOk cs) {p : List Mk.Request} {g c : Int} {x : Mk.Client} (hl : Lawful cs p) (hc : 0 ≤ c ∧ c < cs.length) (h : ClOk cs p g c x) : Szc x := by
  have h1 := h.le8 hcs hl hc
  have h2 := h.box
  exact ⟨by omega, by omega, by omega⟩
end Sp
end
section
namespace Sp
set_option linter.unusedVariables false
set_option linter.unusedSimpArgs false
set_option maxHeartbeats 1000000
structure Smb (l : List (List UInt8)) : Prop where
  n : l.length ≤ 1000
  b : ∀ x ∈ l, x.length ≤ 1000
structure Smk (c : Mk.Client) : Prop where
  k : c.Calls.length ≤ 1000
  b : Smb c.Box
  g : c.Got.length ≤ 1000
structure Smm (m : Mk.Machine) : Prop where
  s : Sz m.Store
  b : Smb m.Server.Box
  p : m.Server.Plan.length ≤ 1000
  n : m.Clients.length ≤ 1000
  c : ∀ x ∈ m.Clients, Smk x
theorem reqB_len (r : Mk.Request) : (reqB r).length = 10 := by unfold reqB nb; simp
theorem ansB_len (a : Mk.Answer) : (ansB a).length = 8 := by unfold ansB nb; simp
theorem Inv.smm {cs : List (List Mk.Call)} {m : Mk.Machine} (hcs : CsOk cs) (h : Inv cs m) : Smm m := by
  have hn := hcs.n
  have hk := h.nk
  refine ⟨h.sz hcs, ⟨by have := h.box; omega, fun x hx => ?_⟩, ?_, by omega, fun x hx => ?_⟩
  · obtain ⟨c, t, _, _, rfl, _⟩ := h.q x hx
    rw [reqB_len]; decide
  · cases hb : m.Server.Busy with
    | true =>
      obtain ⟨b0, done, _, _, _, _, _, hp⟩ := h.st
      have := planR_len (allN [] m.Store.Past) m.Server.Now.Call
      rw [hp hb, List.length_append] at this
      omega
    | false => rw [h.idle hb]; simp
  · obtain ⟨i, hi, e⟩ := List.mem_iff_getElem.1 hx
    have hc := h.cl (i : Int) (by omega)
    rw [ix_nat _ i hi, e] at hc
    have h8 := hc.le8 hcs h.law (by omega)
    refine ⟨by omega, ⟨by have := hc.box; omega, fun b hb => ?_⟩, by omega⟩
    obtain ⟨t, _, rfl⟩ := hc.ans b hb
    rw [ansB_len]; decide
theorem Smk.sz {c : Mk.Client} (h : Smk c) : Szc c := by
  have h1 := h.k; have h2 := h.g; have h3 := h.b.n
  exact ⟨by omega, by omega, by omega⟩
theorem cloneCa_eq (l : List Mk.Call) (h : l.length ≤ 1000000) : slices_Clone___api_Call_api_Call_ l = some l := by
  unfold slices_Clone___api_Call_api_Call_
  rw [G_on (by simp; omega)]; simp
theorem vown_loop (l : List (List UInt8)) (hl : Smb l) (k : Mk.Server → Mk.Server → Mk.Server → List (List UInt8) → Option Mk.Server) (y1 y2 y3 : Mk.Server) : ∀ (m i : Nat), i + m = l.length → ∀ f : Nat, m < f → ∀ acc : List (List UInt8), acc.length ≤ i →
    serve_Own_l1 k f l (l.length : Int) (i : Int) y1 y2 y3 acc = k y1 y2 y3 (acc ++ l.drop i) := by
  have hn := hl.n
  intro m
  induction m with
  | zero =>
    intro i hi f hf acc ha
    obtain ⟨f, rfl⟩ : ∃ g, f = g + 1 := ⟨f - 1, by omega⟩
    rw [serve_Own_l1, decide_eq_false (by omega), cond_false, List.drop_of_length_le (by omega), List.append_nil]
  | succ m ih =>
    intro i hi f hf acc ha
    obtain ⟨f, rfl⟩ : ∃ g, f = g + 1 := ⟨f - 1, by omega⟩
    have hb := hl.b _ (ix_mem l (i : Int) (by omega))
    rw [serve_Own_l1, decide_eq_true (by omega), cond_true, G_on (by omega), cloneBy_eq _ (by omega), Option.bind_some, G_on (by simp; omega), G_on (by unfold I; omega), show ((i : Int) + 1) = ((i + 1 : Nat) : Int) from by omega, ih (i + 1) (by omega) f (by omega) _ (by simp; omega), ix_drop l i (by omega), List.append_assoc]; rfl
theorem vown_eq (v : Mk.Server) (hb : Smb v.Box) (hp : v.Plan.length ≤ 1000) : serve_Own v = some v := by
  unfold serve_Own
  simp only [J]
  have := fun k y1 y2 y3 => vown_loop v.Box hb k y1 y2 y3 v.Box.length 0 (by omega) (((v.Box.length : Int) - 0).toNat + 1) (by omega) [] (by simp)
  rw [show ((0 : Nat) : Int) = 0 from rfl] at this
  rw [this, cloneW_eq _ (by omega), Option.bind_some]; rfl
theorem gclient_loop (l : List (List UInt8)) (hl : Smb l) (k : Mk.Client → Mk.Client → List (List UInt8) → Option Mk.Client) (y2 y3 : Mk.Client) : ∀ (m i : Nat), i + m = l.length → ∀ f : Nat, m < f → ∀ acc : List (List UInt8), acc.length ≤ i →
    guard_client_l1 k f l (l.length : Int) (i : Int) y2 y3 acc = k y2 y3 (acc ++ l.drop i) := by
  have hn := hl.n
  intro m
  induction m with
  | zero =>
    intro i hi f hf acc ha
    obtain ⟨f, rfl⟩ : ∃ g, f = g + 1 := ⟨f - 1, by omega⟩
    rw [guard_client_l1, decide_eq_false (by omega), cond_false, List.drop_of_length_le (by omega), List.append_nil]
  | succ m ih =>
    intro i hi f hf acc ha
    obtain ⟨f, rfl⟩ : ∃ g, f = g + 1 := ⟨f - 1, by omega⟩
    have hb := hl.b _ (ix_mem l (i : Int) (by omega))
    rw [guard_client_l1, decide_eq_true (by omega), cond_true, G_on (by omega), cloneBy_eq _ (by omega), Option.bind_some, G_on (by simp; omega), G_on (by unfold I; omega), show ((i : Int) + 1) = ((i + 1 : Nat) : Int) from by omega, ih (i + 1) (by omega) f (by omega) _ (by simp; omega), ix_drop l i (by omega), List.append_assoc]; rfl
theorem gclient_eq (c : Mk.Client) (h : Smk c) : guard_client c = some c := by
  have h1 := h.k; have h2 := h.g
  unfold guard_client
  simp only [J]
  have := fun k y2 y3 => gclient_loop c.Box h.b k y2 y3 c.Box.length 0 (by omega) (((c.Box.length : Int) - 0).toNat + 1) (by omega) [] (by simp)
  rw [show ((0 : Nat) : Int) = 0 from rfl] at this
  rw [cloneCa_eq _ (by omega), Option.bind_some, cloneRe_eq _ (by omega), Option.bind_some, this]; rfl
theorem gown_loop (l : List Mk.Client) (hn : l.length ≤ 1000) (hl : ∀ x ∈ l, Smk x) (k : Mk.Machine → Mk.Machine → List Mk.Client → Option Mk.Machine) (y2 y3 : Mk.Machine) : ∀ (m i : Nat), i + m = l.length → ∀ f : Nat, m < f → ∀ acc : List Mk.Client, acc.length ≤ i →
    guard_Own_l1 k f l (l.length : Int) (i : Int) y2 y3 acc = k y2 y3 (acc ++ l.drop i) := by
  intro m
  induction m with
  | zero =>
    intro i hi f hf acc ha
    obtain ⟨f, rfl⟩ : ∃ g, f = g + 1 := ⟨f - 1, by omega⟩
    rw [guard_Own_l1, decide_eq_false (by omega), cond_false, List.drop_of_length_le (by omega), List.append_nil]
  | succ m ih =>
    intro i hi f hf acc ha
    obtain ⟨f, rfl⟩ : ∃ g, f = g + 1 := ⟨f - 1, by omega⟩
    have hb := hl _ (ix_mem l (i : Int) (by omega))
    rw [guard_Own_l1, decide_eq_true (by omega), cond_true, G_on (by omega), gclient_eq _ hb, Option.bind_some, G_on (by simp; omega), G_on (by unfold I; omega), show ((i : Int) + 1) = ((i + 1 : Nat) : Int) from by omega, ih (i + 1) (by omega) f (by omega) _ (by simp; omega), ix_drop l i (by omega), List.append_assoc]; rfl
theorem gown_eq (m : Mk.Machine) (h : Smm m) : guard_Own m = some m := by
  unfold guard_Own
  simp only [J]
  have := fun k y2 y3 => gown_loop m.Clients h.n h.c k y2 y3 m.Clients.length 0 (by omega) (((m.Clients.length : Int) - 0).toNat + 1) (by omega) [] (by simp)
  rw [show ((0 : Nat) : Int) = 0 from rfl] at this
  rw [own_eq h.s, Option.bind_some, vown_eq _ h.b h.p, Option.bind_some, this]; rfl
def pauseG (n : Int) : Int := if 3 < (if n < 1 then 1 else n) then 3 else (if n < 1 then 1 else n)
theorem gpause_eq (n : Int) : guard_Pause n = some (pauseG n) := rfl
theorem pauseG_of (n : Int) : pauseG n = pauseOf n := by
  unfold pauseG pauseOf
  repeat' split
  all_goals omega
theorem gfall_eq (m : Mk.Machine) (h : Smm m) (hf : 0 ≤ m.Falls ∧ m.Falls ≤ 6) : guard_Fall m = some (fall m) := by
  unfold guard_Fall
  rw [gown_eq m h, Option.bind_some]
  obtain ⟨s, v, u, p, f, cl⟩ := m
  simp only at hf
  unfold fall
  cases u with
  | false => rfl
  | true =>
    simp only [Bool.not_true, cond_false, Bool.true_eq_false, if_false]
    by_cases h : 5 < f
    · rw [decide_eq_true (show (6 : Int) ≤ f from by omega), cond_true, if_pos h]
    · rw [decide_eq_false (by omega), cond_false, G_on (by unfold I; omega), gpause_eq, Option.bind_some, if_neg h, pauseG_of]; rfl
theorem gtick_eq (m : Mk.Machine) (h : Smm m) (hp : 0 ≤ m.Pause ∧ m.Pause ≤ 1000) (hg : 0 ≤ m.Server.Gen ∧ m.Server.Gen ≤ 1000) : guard_Tick m = some (tick m) := by
  have hs := h.s
  unfold guard_Tick
  rw [gown_eq m h, Option.bind_some]
  obtain ⟨s, v, u, p, f, cl⟩ := m
  simp only at hs hp hg
  unfold tick
  simp only [J]
  cases u with
  | true => rfl
  | false =>
    simp only [cond_false, Bool.false_eq_true, if_false]
    rw [G_on (by unfold I; omega)]
    by_cases h : 1 < p
    · rw [decide_eq_false (by omega), cond_false, if_pos h]
    · rw [decide_eq_true (by omega), cond_true, sback_eq hs, Option.bind_some, G_on (by unfold I; omega), if_neg h]; rfl
theorem sameServer_eq (a b : Mk.Server) (hb : a.Box.length ≤ 1000000) (hp : a.Plan.length ≤ 1000000) : mkref6_SameServer a b = some (decide (a = b)) := by
  unfold mkref6_SameServer
  rw [sameBytes_eq _ _ (by omega), sameWrites_eq _ _ (by omega)]
  obtain ⟨g1, b1, z1, n1, p1, s1⟩ := a
  obtain ⟨g2, b2, z2, n2, p2, s2⟩ := b
  simp only [Mk.Server.mk.injEq]
  by_cases e1 : g1 = g2 <;> by_cases e2 : b1 = b2 <;> by_cases e3 : z1 = z2 <;> by_cases e4 : n1 = n2 <;> by_cases e5 : p1 = p2 <;> simp [Cn, e1, e2, e3, e4, e5]
theorem sameMachine_loop (a b : Mk.Machine) (hab : a.Clients.length = b.Clients.length) (hn : a.Clients.length ≤ 1000) (hc : ∀ x ∈ a.Clients, Smk x) (k : Unit → Option Bool) (hk : k () = some true) : ∀ (m i : Nat), i + m = a.Clients.length → ∀ f : Nat, m < f →
    mkref6_SameMachine_l1 k f (a.Clients.length : Int) (i : Int) a b = some (decide (a.Clients.drop i = b.Clients.drop i)) := by
  intro m
  induction m with
  | zero =>
    intro i hi f hf
    obtain ⟨f, rfl⟩ : ∃ g, f = g + 1 := ⟨f - 1, by omega⟩
    rw [mkref6_SameMachine_l1, decide_eq_false (by omega), cond_false, hk, List.drop_of_length_le (by omega), List.drop_of_length_le (by omega)]
    simp
  | succ m ih =>
    intro i hi f hf
    obtain ⟨f, rfl⟩ : ∃ g, f = g + 1 := ⟨f - 1, by omega⟩
    have hx := hc _ (ix_mem a.Clients (i : Int) (by omega))
    rw [mkref6_SameMachine_l1, decide_eq_true (by omega), cond_true, G_on (by omega), G_on (by omega), sameClient_eq _ _ hx.sz, Option.bind_some, ix_drop a.Clients i (by omega), ix_drop b.Clients i (by omega)]
    by_cases h : ix a.Clients (i : Int) = ix b.Clients (i : Int)
    · rw [decide_eq_true h, Bool.not_true, cond_false, G_on (by unfold I; omega), show ((i : Int) + 1) = ((i + 1 : Nat) : Int) from by omega, ih (i + 1) (by omega) f (by omega)]
      simp [h]
    · rw [decide_eq_false h, Bool.not_false, cond_true]
      simp [h]
theorem sameMachine_eq (a b : Mk.Machine) (h : Smm a) : mkref6_SameMachine a b = some (decide (a = b)) := by
  have hb := h.b.n; have hp := h.p; have hn := h.n
  unfold mkref6_SameMachine
  rw [sameStore_eq _ _ h.s, Option.bind_some, sameServer_eq _ _ (by omega) (by omega)]
  have e : a = b ↔ (a.Store = b.Store ∧ a.Server = b.Server ∧ a.Up = b.Up ∧ a.Pause = b.Pause ∧ a.Falls = b.Falls ∧ a.Clients = b.Clients) := by
    obtain ⟨s1, v1, u1, p1, f1, c1⟩ := a
    obtain ⟨s2, v2, u2, p2, f2, c2⟩ := b
    simp
  have l1 := fun hab => sameMachine_loop a b hab hn h.c (fun _ => some true) rfl a.Clients.length 0 (by omega) (((a.Clients.length : Int) - 0).toNat + 1) (by omega)
  rw [show ((0 : Nat) : Int) = 0 from rfl, List.drop_zero, List.drop_zero] at l1
  by_cases e1 : a.Store = b.Store
  · rw [decide_eq_true e1, Bool.not_true, Cn_yes rfl, Option.bind_some]
    by_cases e2 : a.Server = b.Server ∧ a.Up = b.Up ∧ a.Pause = b.Pause ∧ a.Falls = b.Falls ∧ a.Clients.length = b.Clients.length
    · obtain ⟨q1, q2, q3, q4, q5⟩ := e2
      rw [decide_eq_true q1, decide_eq_true q2, decide_eq_true q3, decide_eq_true q4, decide_eq_true (show (a.Clients.length : Int) = (b.Clients.length : Int) from by omega)]
      simp only [Bool.not_true, Bool.or_self, cond_false, J]
      rw [l1 q5]
      congr 1
      rw [decide_eq_decide, e]
      exact ⟨fun hh => ⟨e1, q1, q2, q3, q4, hh⟩, fun hh => hh.2.2.2.2.2⟩
    · have hf : (((((false || (!decide (a.Server = b.Server))) || (!decide (a.Up = b.Up))) || (!decide (a.Pause = b.Pause))) || (!decide (a.Falls = b.Falls))) || (!decide ((a.Clients.length : Int) = (b.Clients.length : Int)))) = true := by
        by_cases q1 : a.Server = b.Server <;> by_cases q2 : a.Up = b.Up <;> by_cases q3 : a.Pause = b.Pause <;> by_cases q4 : a.Falls = b.Falls <;> by_cases q5 : a.Clients.length = b.Clients.length <;> (simp_all; try omega)
      rw [hf, cond_true]
      congr 1
      refine (decide_eq_false fun hh => e2 ?_).symm
      have := e.1 hh
      exact ⟨this.2.1, this.2.2.1, this.2.2.2.1, this.2.2.2.2.1, by rw [this.2.2.2.2.2]⟩
  · rw [decide_eq_false e1, Bool.not_false, Cn_no (by simp), Option.bind_some, Bool.true_or, Bool.true_or, Bool.true_or, Bool.true_or, Bool.true_or, cond_true]
    congr 1
    exact (decide_eq_false fun hh => e1 (e.1 hh).1).symm
end Sp
end
section
namespace Sp
set_option linter.unusedVariables false
set_option linter.unusedSimpArgs false
set_option maxHeartbeats 1000000
theorem law8_alive : mklaw8_alive = some true := by decide +kernel
section
variable {cs : List (List Mk.Call)} {m : Mk.Machine}
theorem Inv.pause (h : Inv cs m) : 0 ≤ m.Pause ∧ m.Pause ≤ 1000 := by
  rcases Bool.eq_false_or_eq_true m.Up with hu | hu
  · have := (h.up hu).1; omega
  · have := h.down hu; omega
theorem Inv.gtick (hcs : CsOk cs) (h : Inv cs m) : guard_Tick m = some (tick m) := gtick_eq m (h.smm hcs) h.pause ⟨h.gen, by have := h.gen6; omega⟩
theorem Inv.rtick (hcs : CsOk cs) (h : Inv cs m) : mkref6_Tick m = some (tick m) := rtick_eq m (h.sz hcs) h.pause ⟨h.gen, by have := h.gen6; omega⟩
theorem back_back (s : Mk.Store) : back (back s) = back s := by simp [back, wrs]
theorem tick_keeps (m : Mk.Machine) : (tick m).Clients = m.Clients ∧ back (tick m).Store = back m.Store := by
  unfold tick
  split
  · exact ⟨rfl, rfl⟩
  · split
    · exact ⟨rfl, rfl⟩
    · exact ⟨rfl, back_back _⟩
theorem fall_keeps (m : Mk.Machine) : (fall m).1.Clients = m.Clients ∧ (fall m).1.Store = m.Store := by
  unfold fall
  split
  · exact ⟨rfl, rfl⟩
  · split <;> exact ⟨rfl, rfl⟩
end
theorem guardTells (l : List (List Mk.Call)) (steps : List Mk.Step) (n : Int) (hst : steps.length ≤ 9223372036854775807) : mklaw8_GuardTells l steps n = some true := by
  unfold mklaw8_GuardTells
  rw [rright_eq, Option.bind_some]
  by_cases h0 : (newM l).2 = 0
  · rw [decide_eq_true h0, Bool.not_true, cond_false, rplay_eq h0 steps hst, Option.bind_some]
    obtain ⟨hcs, hM⟩ := play_inv h0 steps
    simp only
    generalize runM (newM l).1 (steps.take 400) = m at hM
    have hF := inv_fall hM
    have hT := inv_tick hM
    have hs := hM.smm hcs
    rw [gfall_eq m hs hM.falls, Option.bind_some, rfall_eq m hM.falls, Option.bind_some]
    simp only [J, hM.gtick hcs, hM.rtick hcs, gown_eq m hs, gpause_eq, sameMachine_eq _ _ (hF.smm hcs), sameMachine_eq _ _ (hT.smm hcs), sameMachine_eq _ _ hs, Option.bind_some, decide_true, Bool.and_self, Bool.true_and, Cn, if_true]
    unfold pauseG
    by_cases c1 : n < 1
    · simp [c1]
    · by_cases c2 : 3 < n
      · simp [c1, c2]
      · simp [c1, c2]
  · rw [decide_eq_false h0, Bool.not_false, cond_true]
def tickN : Nat → Mk.Machine → Mk.Machine
  | 0, m => m
  | k + 1, m => tickN k (tick m)
theorem tickN_keeps (k : Nat) (m : Mk.Machine) : (tickN k m).Clients = m.Clients ∧ back (tickN k m).Store = back m.Store := by
  induction k generalizing m with
  | zero => exact ⟨rfl, rfl⟩
  | succ k ih =>
    have h1 := ih (tick m)
    have h2 := tick_keeps m
    exact ⟨h1.1.trans h2.1, h1.2.trans h2.2⟩
theorem tickN_inv {cs : List (List Mk.Call)} (k : Nat) {m : Mk.Machine} (h : Inv cs m) : Inv cs (tickN k m) := by
  induction k generalizing m with
  | zero => exact h
  | succ k ih => exact ih (inv_tick h)
theorem gk_loop {cs : List (List Mk.Call)} (hcs : CsOk cs) (k : Mk.Machine → Mk.Machine → Option Bool) (y : Mk.Machine) (n : Nat) (hn : n ≤ 1000) : ∀ (m i : Nat), i + m = n → ∀ f : Nat, m < f → ∀ x : Mk.Machine, Inv cs x →
    mklaw8_GuardKeeps_l1 k f (n : Int) (i : Int) y x = k y (tickN m x) := by
  intro m
  induction m with
  | zero =>
    intro i hi f hf x hx
    obtain ⟨f, rfl⟩ : ∃ g, f = g + 1 := ⟨f - 1, by omega⟩
    rw [mklaw8_GuardKeeps_l1, decide_eq_false (by omega), cond_false]; rfl
  | succ m ih =>
    intro i hi f hf x hx
    obtain ⟨f, rfl⟩ : ∃ g, f = g + 1 := ⟨f - 1, by omega⟩
    rw [mklaw8_GuardKeeps_l1, decide_eq_true (by omega), cond_true, hx.gtick hcs, Option.bind_some, G_on (by unfold I; omega), show ((i : Int) + 1) = ((i + 1 : Nat) : Int) from by omega, ih (i + 1) (by omega) f (by omega) _ (inv_tick hx)]; rfl
theorem guardKeeps (l : List (List Mk.Call)) (steps : List Mk.Step) (n : Int) (hst : steps.length ≤ 9223372036854775807) : mklaw8_GuardKeeps l steps n = some true := by
  unfold mklaw8_GuardKeeps
  rw [law8_alive, Option.bind_some, Bool.not_true, cond_false, rright_eq, Option.bind_some]
  by_cases h0 : (newM l).2 = 0
  · rw [decide_eq_true h0, Bool.not_true, Bool.false_or]
    by_cases hn : 0 ≤ n ∧ n ≤ 9
    · have hf : (decide (n < 0) || decide (9 < n)) = false := by
        simp only [Bool.or_eq_false_iff, decide_eq_false_iff_not]; omega
      rw [hf, cond_false, rplay_eq h0 steps hst, Option.bind_some]
      obtain ⟨hcs, hM⟩ := play_inv h0 steps
      simp only
      generalize runM (newM l).1 (steps.take 400) = m at hM
      have hF := inv_fall hM
      rw [gfall_eq m (hM.smm hcs) hM.falls, Option.bind_some]
      simp only [J]
      obtain ⟨N, rfl⟩ : ∃ N : Nat, n = N := ⟨n.toNat, by omega⟩
      have hl := fun k => gk_loop hcs k m N (by omega) N 0 (by omega) (((N : Int) - 0).toNat + 1) (by omega) _ hF
      rw [show ((0 : Nat) : Int) = 0 from rfl] at hl
      rw [hl]
      obtain ⟨k1, k2⟩ := tickN_keeps N (fall m).1
      obtain ⟨f1, f2⟩ := fall_keeps m
      have hx := tickN_inv N hF
      generalize tickN N (fall m).1 = x at k1 k2 hx
      rw [f1] at k1
      rw [f2] at k2
      have e : x = ⟨x.Store, x.Server, x.Up, x.Pause, x.Falls, m.Clients⟩ := by rw [← k1]
      have hb : Sz (back m.Store) := by
        have := hM.sz hcs
        exact ⟨by simp [back, wrs_len]; exact this.c, by simp [back], this.a, this.p⟩
      rw [rback_eq (hM.sz hcs), Option.bind_some, rback_eq (hx.sz hcs), Option.bind_some, sameMachine_eq _ _ (hx.smm hcs), Option.bind_some, decide_eq_true e, Cn_yes rfl, k2, sameStore_eq _ _ hb, Option.bind_some, decide_eq_true rfl]
      rfl
    · have hf : (decide (n < 0) || decide (9 < n)) = true := by
        simp only [Bool.or_eq_true, decide_eq_true_eq]; omega
      rw [Bool.or_eq_true] at hf
      rcases hf with hf | hf <;> rw [hf] <;> simp
  · rw [decide_eq_false h0]; rfl
def rise (m : Mk.Machine) : Mk.Machine := ⟨back m.Store, srv0 (m.Server.Gen + 1), true, 0, m.Falls, m.Clients⟩
theorem gu_loop {cs : List (List Mk.Call)} (hcs : CsOk cs) (k : Mk.Machine → Mk.Machine → Option Bool) (y : Mk.Machine) (n : Nat) (hn : n ≤ 3) : ∀ (m i : Nat), i + (m + 1) = n → ∀ f : Nat, m + 1 < f → ∀ x : Mk.Machine, Inv cs x → x.Up = false → x.Pause = (m : Int) + 1 →
    mklaw8_GuardUp_l1 k f (n : Int) (i : Int) y x = k y (rise x) := by
  intro m
  induction m with
  | zero =>
    intro i hi f hf x hx hu hp
    obtain ⟨f, rfl⟩ : ∃ g, f = g + 2 := ⟨f - 2, by omega⟩
    have ht : tick x = rise x := by
      unfold tick
      rw [if_neg (by rw [hu]; simp), if_neg (by omega)]; rfl
    rw [mklaw8_GuardUp_l1, decide_eq_true (by omega), cond_true, hu, decide_eq_false (by omega), decide_eq_false (by omega)]
    simp only [Bool.or_self, cond_false]
    rw [hx.gtick hcs, Option.bind_some, G_on (by unfold I; omega), mklaw8_GuardUp_l1, decide_eq_false (by omega), cond_false, ht]
  | succ m ih =>
    intro i hi f hf x hx hu hp
    obtain ⟨f, rfl⟩ : ∃ g, f = g + 1 := ⟨f - 1, by omega⟩
    have ht : tick x = { x with Pause := x.Pause - 1 } := by
      unfold tick
      rw [if_neg (by rw [hu]; simp), if_pos (by omega)]
    have hxi := inv_tick hx
    rw [mklaw8_GuardUp_l1, decide_eq_true (by omega), cond_true, hu, decide_eq_false (by omega), decide_eq_false (by omega)]
    simp only [Bool.or_self, cond_false]
    rw [hx.gtick hcs, Option.bind_some, G_on (by unfold I; omega), show ((i : Int) + 1) = ((i + 1 : Nat) : Int) from by omega]
    rw [ht] at hxi ⊢
    rw [ih (i + 1) (by omega) f (by omega) _ hxi hu (by simp only; omega)]; rfl
def fallen (m : Mk.Machine) : Mk.Machine := ⟨m.Store, srv0 m.Server.Gen, false, pauseOf (m.Falls + 1), m.Falls + 1, m.Clients⟩
theorem tickN_rise : ∀ (k : Nat) (x : Mk.Machine), x.Up = false → x.Pause = (k : Int) + 1 → tickN (k + 1) x = rise x := by
  intro k
  induction k with
  | zero =>
    intro x hu hp
    show tick x = rise x
    unfold tick
    rw [if_neg (by rw [hu]; simp), if_neg (by omega)]; rfl
  | succ k ih =>
    intro x hu hp
    show tickN (k + 1) (tick x) = rise x
    have ht : tick x = { x with Pause := x.Pause - 1 } := by
      unfold tick
      rw [if_neg (by rw [hu]; simp), if_pos (by omega)]
    rw [ht]
    exact ih { x with Pause := x.Pause - 1 } hu (by show x.Pause - 1 = _; omega)
theorem tick_rise (m : Mk.Machine) : tick (rise m) = rise m := by unfold tick; exact if_pos rfl
theorem guardUp (l : List (List Mk.Call)) (steps : List Mk.Step) (hst : steps.length ≤ 9223372036854775807) : mklaw8_GuardUp l steps = some true := by
  unfold mklaw8_GuardUp
  rw [law8_alive, Option.bind_some, Bool.not_true, cond_false, rright_eq, Option.bind_some]
  by_cases h0 : (newM l).2 = 0
  · rw [decide_eq_true h0, Bool.not_true, cond_false, rplay_eq h0 steps hst, Option.bind_some]
    obtain ⟨hcs, hM⟩ := play_inv h0 steps
    simp only
    generalize runM (newM l).1 (steps.take 400) = m at hM
    have hF := inv_fall hM
    have hs := hM.smm hcs
    rw [gfall_eq m hs hM.falls, Option.bind_some]
    by_cases c1 : m.Up = false
    · have e : fall m = (m, 11) := by unfold fall; rw [if_pos c1]
      rw [e]
      simp only [show decide ((11 : Int) = 0) = false from by decide, Bool.not_false, cond_true]
      rw [sameMachine_eq _ _ hs, Option.bind_some, decide_eq_true rfl]
    · by_cases c2 : 5 < m.Falls
      · have e : fall m = (m, 5) := by unfold fall; rw [if_neg c1, if_pos c2]
        rw [e]
        simp only [show decide ((5 : Int) = 0) = false from by decide, Bool.not_false, cond_true]
        rw [sameMachine_eq _ _ hs, Option.bind_some, decide_eq_true rfl]
      · have e : fall m = (fallen m, 0) := by unfold fall; rw [if_neg c1, if_neg c2]; rfl
        have hfl := hM.falls
        have hg := hM.gen
        have hg6 := hM.gen6
        rw [e] at hF ⊢
        replace hF : Inv l (fallen m) := hF
        simp only [decide_true, Bool.not_true, cond_false, show (fallen m).Falls = m.Falls + 1 from rfl, show (fallen m).Store = m.Store from rfl, show (fallen m).Pause = pauseOf (m.Falls + 1) from rfl]
        have hsz := hM.sz hcs
        have hb : Sz (back m.Store) := ⟨by simp [back, wrs_len]; exact hsz.c, by simp [back], hsz.a, hsz.p⟩
        have hp : 1 ≤ pauseOf (m.Falls + 1) ∧ pauseOf (m.Falls + 1) ≤ 3 := by unfold pauseOf; split <;> (try split) <;> omega
        rw [G_on (by unfold I; omega), Cn_yes trivial, gpause_eq, Option.bind_some, pauseG_of]
        simp only [decide_true, Bool.not_true, Bool.or_self]
        rw [Cn_yes trivial, sameStore_eq _ _ hsz, Option.bind_some, decide_eq_true rfl]
        simp only [Bool.not_true, Bool.or_self, cond_false, J]
        obtain ⟨N, hN⟩ : ∃ N : Nat, pauseOf (m.Falls + 1) = (N : Int) + 1 := ⟨(pauseOf (m.Falls + 1)).toNat - 1, by omega⟩
        have hl := fun k => gu_loop hcs k m (N + 1) (by omega) N 0 (by omega) (((pauseOf (m.Falls + 1)) - 0).toNat + 1) (by omega) (fallen m) hF rfl hN
        rw [show ((0 : Nat) : Int) = 0 from rfl, show ((N + 1 : Nat) : Int) = pauseOf (m.Falls + 1) from by omega] at hl
        have ep : (fallen m).Pause = pauseOf (m.Falls + 1) := rfl
        have ef : (fallen m).Falls = m.Falls + 1 := rfl
        have es : (fallen m).Store = m.Store := rfl
        rw [hl]
        have hr : Inv l (rise (fallen m)) := by
          have h1 := tickN_inv (N + 1) hF
          rwa [tickN_rise N _ rfl hN] at h1
        have hrs := hr.smm hcs
        have e1 : (rise (fallen m)).Server = srv0 (m.Server.Gen + 1) := rfl
        have e2 : (rise (fallen m)).Store = back m.Store := rfl
        have e3 : (rise (fallen m)).Up = true := rfl
        have e4 : (rise (fallen m)).Pause = 0 := rfl
        rw [hr.gtick hcs, tick_rise, e1, e2, e3, e4, G_on (fun _ => by unfold I; omega), rback_eq hsz, sameServer_eq _ _ (by simp [srv0]) (by simp [srv0])]
        have e5 : srv0 (m.Server.Gen + 1) = ({ Gen := (m.Server.Gen + (1 : Int)), Box := ([] : List (List UInt8)), Busy := false, Now := ({ Client := (0 : Int), Token := (0 : Int), Call := ({ Kind := (0 : Int), Name := (0 : Int), Other := (0 : Int), N := (0 : Int) } : Mk.Call) } : Mk.Request), Plan := ([] : List Mk.Write), Says := ({ Err := (0 : Int), N := (0 : Int) } : Mk.Reply) } : Mk.Server) := rfl
        rw [decide_eq_true e5]
        simp [Cn, sameStore_eq _ _ hb, sameMachine_eq _ _ hrs]
  · rw [decide_eq_false h0]; rfl
end Sp
end
