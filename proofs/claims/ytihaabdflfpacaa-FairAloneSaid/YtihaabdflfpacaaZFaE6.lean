/- WHAT THE STATEMENTS OF THIS GROUP NEED, part 6: laid together by prune.py out of own texts. -/
import Derived.Test.YtihaabdflfpacaaZFaE5
set_option linter.unusedVariables false
set_option linter.unusedSimpArgs false
set_option maxRecDepth 20000
set_option maxHeartbeats 4000000
section
namespace Sp
def QOk (cs : List (List Mk.Call)) (cl : List Mk.Client) (b : List UInt8) : Prop :=
 ∃ c t : Int, (0 ≤ c ∧ c < cs.length) ∧ (0 ≤ t ∧ t < (ix cs c).length) ∧ b = reqB ⟨c, t, call cs c t⟩ ∧ t ≤ (ix cl c).At ∧ (t = (ix cl c).At → (ix cl c).Sent = true)
def AOk (p : List Mk.Request) (c : Int) (b : List UInt8) : Prop := ∃ t : Int, (0 ≤ t ∧ t < cnt p c) ∧ b = ansB ⟨c, t, ix (heardF [] p c) t⟩
structure ClOk (cs : List (List Mk.Call)) (p : List Mk.Request) (g : Int) (c : Int) (x : Mk.Client) : Prop where
 calls : x.Calls = ix cs c
 at0 : 0 ≤ x.At
 at1 : x.At ≤ cnt p c
 at2 : (cnt p c : Int) ≤ x.At + 1
 sent : (cnt p c : Int) = x.At + 1 → x.Sent = true
 got : x.Got = (heardF [] p c).take x.At.toNat
 box : x.Box.length ≤ 3
 ans : ∀ b ∈ x.Box, AOk p c b
 gen : 0 ≤ x.Gen ∧ x.Gen ≤ g
 more : x.Sent = true → x.At < x.Calls.length
structure Inv (cs : List (List Mk.Call)) (m : Mk.Machine) : Prop where
 law : Lawful cs m.Store.Past
 ans : m.Store.Answers = ansF [] [] m.Store.Past
 nk : m.Clients.length = cs.length
 cl : ∀ c : Int, 0 ≤ c ∧ c < cs.length → ClOk cs m.Store.Past m.Server.Gen c (ix m.Clients c)
 falls : 0 ≤ m.Falls ∧ m.Falls ≤ 6
 gen : 0 ≤ m.Server.Gen
 up : m.Up = true → m.Pause = 0 ∧ m.Server.Gen = m.Falls
 down : m.Up = false → m.Server = srv0 m.Server.Gen ∧ 1 ≤ m.Pause ∧ m.Pause ≤ 3 ∧ m.Server.Gen + 1 = m.Falls
 box : m.Server.Box.length ≤ 3
 q : ∀ b ∈ m.Server.Box, QOk cs m.Clients b
 st : ∃ (b0 : List Int) (done : List Mk.Write), Rt b0 (allN [] m.Store.Past) ∧ m.Store.Cells = wrs b0 done ∧ m.Store.Undo = (fwd b0 done).reverse ∧ (∃ (k : Mk.Call) (rest : List Mk.Write), CallOk k ∧ (planR (allN [] m.Store.Past) k).1 = done ++ rest) ∧
  (m.Up = true → m.Server.Busy = false → done = []) ∧ (m.Server.Busy = true → planR (allN [] m.Store.Past) m.Server.Now.Call = (done ++ m.Server.Plan, m.Server.Says))
 now : m.Server.Busy = true → ∃ c : Int, (0 ≤ c ∧ c < cs.length) ∧ m.Server.Now = ⟨c, cnt m.Store.Past c, call cs c (cnt m.Store.Past c)⟩ ∧ (cnt m.Store.Past c : Int) < (ix cs c).length ∧ (ix m.Clients c).At = cnt m.Store.Past c ∧ (ix m.Clients c).Sent = true
 idle : m.Server.Busy = false → m.Server = ⟨m.Server.Gen, m.Server.Box, false, req0, [], rep0⟩
section
variable {cs : List (List Mk.Call)} {m : Mk.Machine}
theorem plan_part {l : List Mk.Write} {k : Mk.Call} {done rest : List Mk.Write} (h : (planR l k).1 = done ++ rest) : done.length ≤ 3 := by
 have := planR_len l k
 rw [h, List.length_append] at this
 omega
theorem no_plan (l : List Mk.Write) : ∃ (k : Mk.Call) (rest : List Mk.Write), CallOk k ∧ (planR l k).1 = [] ++ rest :=
 ⟨⟨5, 0, 0, 0⟩, [], (wcall_ok _).1 (by decide), by simp [planR]⟩
theorem Inv.gen6 (h : Inv cs m) : m.Server.Gen ≤ 6 := by
 have h1 := h.falls; have h2 := h.up; have h3 := h.down
 cases hu : m.Up with
 | true => have := (h2 hu).2; omega
 | false => have := (h3 hu).2.2.2; omega
theorem Inv.sz (hcs : CsOk cs) (h : Inv cs m) : Sz m.Store := by
 obtain ⟨b0, done, hR, hc, hu, ⟨k, rest, _, hd⟩, _⟩ := h.st
 have hd := plan_part hd
 have h1 := hR.len
 have h2 := fwd_len b0 done
 have h3 := h.law.len hcs
 have h4 := h.law.ans_len hcs
 exact ⟨by rw [hc, wrs_len]; omega, by rw [hu, List.length_reverse]; omega, by rw [h.ans]; omega, by omega⟩
theorem Inv.back (h : Inv cs m) : ∃ b0, Rt b0 (allN [] m.Store.Past) ∧ wrs m.Store.Cells m.Store.Undo = b0 := by
 obtain ⟨b0, done, hR, hc, hu, hd, _⟩ := h.st
 exact ⟨b0, hR, by rw [hc, hu, wrs_back]⟩
theorem Inv.rest (h : Inv cs m) (hu : m.Up = true) (hb : m.Server.Busy = false) : Rt m.Store.Cells (allN [] m.Store.Past) ∧ m.Store.Undo = [] := by
 obtain ⟨b0, done, hR, hc, hun, hd, he, _⟩ := h.st
 have := he hu hb
 subst this
 rw [hc, hun]
 exact ⟨hR, rfl⟩
theorem ClOk.le8 (hcs : CsOk cs) {p : List Mk.Request} {g c : Int} {x : Mk.Client} (hl : Lawful cs p) (hc : 0 ≤ c ∧ c < cs.length) (h : ClOk cs p g c x) : x.At ≤ 8 ∧ x.Got.length ≤ 8 ∧ x.Calls.length ≤ 8 := by
 have h1 := hl.cnt_le c hc
 have h2 := hcs.len hc
 have h3 := h.at1
 have h4 := h.got
 have h5 := heardF_len [] p c
 have h6 := h.calls
 refine ⟨by omega, ?_, by rw [h6]; omega⟩
 rw [h4, List.length_take]; omega
theorem ClOk.got_len {p : List Mk.Request} {g c : Int} {x : Mk.Client} (h : ClOk cs p g c x) : (x.Got.length : Int) = x.At := by
 have h1 := h.at0; have h2 := h.at1
 rw [h.got, List.length_take, heardF_len]; omega
theorem ClOk.mono {p : List Mk.Request} {g g' c : Int} {x : Mk.Client} (h : ClOk cs p g c x) (hg : g ≤ g') : ClOk cs p g' c x :=
 ⟨h.calls, h.at0, h.at1, h.at2, h.sent, h.got, h.box, h.ans, ⟨h.gen.1, by have := h.gen.2; omega⟩, h.more⟩
theorem ix_take' {α : Type} [Inhabited α] (l : List α) (n : Nat) (j : Int) (hj : 0 ≤ j ∧ j < n) : ix (l.take n) j = ix l j := by
 have : j.toNat < n := by omega
 simp [ix, List.getElem?_take, this]
theorem AOk.snoc {p : List Mk.Request} {r : Mk.Request} {c : Int} {b : List UInt8} (h : AOk p c b) : AOk (p ++ [r]) c b := by
 obtain ⟨t, ht, rfl⟩ := h
 refine ⟨t, ⟨ht.1, by rw [cnt_snoc]; split <;> omega⟩, ?_⟩
 rw [heardF_snoc, ix_app _ _ _ (by rw [heardF_len]; exact ht)]
theorem QOk.up {cl : List Mk.Client} {n : Int} {x : Mk.Client} (hn : 0 ≤ n ∧ n < cl.length) (h1 : (ix cl n).At ≤ x.At) (h2 : x.At = (ix cl n).At → (ix cl n).Sent = true → x.Sent = true) {b : List UInt8} (h : QOk cs cl b) : QOk cs (up cl n x) b := by
 obtain ⟨c, t, hc, ht, hb, h3, h4⟩ := h
 refine ⟨c, t, hc, ht, hb, ?_⟩
 rw [ix_up _ _ _ _ hn hc.1]
 split
 ·rename_i e
  subst e
  exact ⟨by omega, fun e => h2 (by omega) (h4 (by omega))⟩
 ·exact ⟨h3, h4⟩
theorem Inv.withC (h : Inv cs m) {n : Int} (hn : 0 ≤ n ∧ n < cs.length) {x : Mk.Client} (hx : ClOk cs m.Store.Past m.Server.Gen n x) (h1 : (ix m.Clients n).At ≤ x.At) (h2 : x.At = (ix m.Clients n).At → (ix m.Clients n).Sent = true → x.Sent = true) : Inv cs (withC m n x) := by
 have hk := h.nk
 have hn2 : 0 ≤ n ∧ n < m.Clients.length := by omega
 refine ⟨h.law, h.ans, ?_, fun c hc => ?_, h.falls, h.gen, h.up, h.down, h.box, fun b hb => (h.q b hb).up hn2 h1 h2, h.st, fun hb => ?_, h.idle⟩
 ·show (Sp.up m.Clients n x).length = _
  rw [up_len, hk]
 ·show ClOk cs m.Store.Past m.Server.Gen c (ix (Sp.up m.Clients n x) c)
  rw [ix_up _ _ _ _ hn2 hc.1]
  split
  ·rename_i e; subst e; exact hx
  ·exact h.cl c hc
 ·obtain ⟨c, hc, e1, e2, e3, e4⟩ := h.now hb
  refine ⟨c, hc, e1, e2, ?_⟩
  show (ix (Sp.up m.Clients n x) c).At = cnt m.Store.Past c ∧ (ix (Sp.up m.Clients n x) c).Sent = true
  rw [ix_up _ _ _ _ hn2 hc.1]
  split
  ·rename_i e
   subst e
   have := hx.at1
   exact ⟨by omega, h2 (by omega) e4⟩
  ·exact ⟨e3, e4⟩
theorem inv_fall (h : Inv cs m) : Inv cs (fall m).1 := by
 unfold fall
 split
 ·exact h
 ·split
  ·exact h
  ·rename_i h1 h2
   have hu : m.Up = true := by cases hu : m.Up <;> simp_all
   have h3 := (h.up hu).2
   have h4 := h.falls
   refine ⟨h.law, h.ans, h.nk, h.cl, ⟨by simp only; omega, by simp only; omega⟩, h.gen, fun e => (by cases e), fun _ => ⟨rfl, ?_, ?_, ?_⟩, by simp [srv0], by simp [srv0], ?_, fun e => (by cases e), fun _ => rfl⟩
   ·unfold pauseOf; simp only; split <;> (try split) <;> omega
   ·unfold pauseOf; simp only; split <;> (try split) <;> omega
   ·show m.Server.Gen + 1 = m.Falls + 1; omega
   ·obtain ⟨b0, done, e1, e2, e3, e4, _⟩ := h.st
    exact ⟨b0, done, e1, e2, e3, e4, fun e => (by cases e), fun e => (by cases e)⟩
theorem inv_tick (h : Inv cs m) : Inv cs (tick m) := by
 unfold tick
 split
 ·exact h
 ·rename_i h1
  have hu : m.Up = false := by cases hu : m.Up <;> simp_all
  obtain ⟨d1, d2, d3, d4⟩ := h.down hu
  split
  ·rename_i h2
   refine ⟨h.law, h.ans, h.nk, h.cl, h.falls, h.gen, fun e => (by simp [hu] at e), fun _ => ⟨d1, by simp only; omega, by simp only; omega, d4⟩, h.box, h.q, h.st, h.now, h.idle⟩
  ·obtain ⟨b0, hR, hb⟩ := h.back
   have hg := h.gen
   refine ⟨h.law, h.ans, h.nk, fun c hc => (h.cl c hc).mono (by show m.Server.Gen ≤ m.Server.Gen + 1; omega), h.falls, by show 0 ≤ m.Server.Gen + 1; omega, fun _ => ⟨rfl, d4⟩, fun e => (by cases e), by simp [srv0], by simp [srv0], ?_, fun e => (by cases e), fun _ => rfl⟩
   exact ⟨b0, [], hR, hb, rfl, no_plan _, fun _ _ => rfl, fun e => (by cases e)⟩
theorem hear_ok (hcs : CsOk cs) {p : List Mk.Request} (hl : Lawful cs p) {g c : Int} (hc : 0 ≤ c ∧ c < cs.length) {x : Mk.Client} (h : ClOk cs p g c x) {b : List UInt8} {box : List (List UInt8)} (hb : x.Box = b :: box) :
  ClOk cs p g c (hear x b box c) ∧ x.At ≤ (hear x b box c).At ∧ ((hear x b box c).At = x.At → x.Sent = true → (hear x b box c).Sent = true) := by
 have h8 := h.le8 hcs hl hc
 have hbox : box.length ≤ 3 := by have := h.box; rw [hb] at this; simp at this; omega
 have hans : ∀ b' ∈ box, AOk p c b' := fun b' hb' => h.ans b' (by rw [hb]; simp [hb'])
 obtain ⟨t, ht, hbt⟩ := h.ans b (by rw [hb]; simp)
 have hn := hcs.n
 have h8' := hcs.len hc
 have hcl := hl.cnt_le c hc
 have hok : RepOk (ix (heardF [] p c) t) := hl.heard_ok hcs c _ (ix_mem _ t (by rw [heardF_len]; exact ht))
 have hread : readAns b = (⟨c, t, ix (heardF [] p c) t⟩, 0) := by rw [hbt]; exact readAns_ansB (wans_of (by omega) (by omega) hok)
 unfold hear
 rw [hread]
 simp only [true_and]
 by_cases hh : t = x.At ∧ x.Sent = true
 ·rw [if_pos hh]
  have h1 := h.at0; have h2 := h.at1; have h3 := h.at2
  refine ⟨⟨h.calls, by simp only; omega, by simp only; omega, by simp only; omega, fun e => (by simp only at e; omega), ?_, hbox, hans, h.gen, fun e => (by cases e)⟩, by simp only; omega, fun e => (by simp only at e; omega)⟩
  show x.Got ++ [ix (heardF [] p c) t] = (heardF [] p c).take (x.At + 1).toNat
  have e1 : (x.At + 1).toNat = x.At.toNat + 1 := by omega
  have e2 : x.At.toNat < (heardF [] p c).length := by rw [heardF_len]; omega
  have e3 : ix (heardF [] p c) t = (heardF [] p c)[x.At.toNat] := by rw [hh.1]; simp [ix, e2]
  rw [e1, h.got, e3]; simp
 ·rw [if_neg hh]
  exact ⟨⟨h.calls, h.at0, h.at1, h.at2, h.sent, h.got, hbox, hans, h.gen, h.more⟩, by simp only; omega, fun _ e => e⟩
theorem ccome_ok {p : List Mk.Request} {g c : Int} {x : Mk.Client} (h : ClOk cs p g c x) {b : List UInt8} (hb : AOk p c b) : ClOk cs p g c (cCome x b) ∧ (cCome x b).At = x.At ∧ (cCome x b).Sent = x.Sent := by
 unfold cCome
 split
 ·refine ⟨⟨h.calls, h.at0, h.at1, h.at2, h.sent, h.got, by simp; omega, fun b' hb' => ?_, h.gen, h.more⟩, rfl, rfl⟩
  rcases List.mem_append.1 hb' with hb' | hb'
  ·exact h.ans b' hb'
  ·simp only [List.mem_singleton] at hb'; subst hb'; exact hb
 ·exact ⟨h, rfl, rfl⟩
theorem doC_eq (hcs : CsOk cs) (h : Inv cs m) (n k : Int) : mkref6_Do m ⟨1, n⟩ = some (doC m n) ∧ Inv cs (doC m n).1 := by
 have hk := h.nk
 have hn3 := hcs.n
 have hbx := h.box
 unfold mkref6_Do doC
 simp only [J, decide_true, cT]
 by_cases hn : 0 ≤ n ∧ n < cs.length
 ·have hx := h.cl n hn
  have h8 := hx.le8 hcs h.law hn
  have hcb := hx.box
  have hf : (decide (n < 0) || decide ((m.Clients.length : Int) ≤ n)) = false := by
   simp only [Bool.or_eq_false_iff, decide_eq_false_iff_not]; omega
  rw [hf, cF, G_on (by omega), rgo_eq _ _ _ _ (by omega) (by omega) ⟨hx.at0, by omega⟩, obs, if_neg (show ¬ (n < 0 ∨ (m.Clients.length : Int) ≤ n) from by omega)]
  cases hB : (ix m.Clients n).Box with
  | cons b box =>
   have e : cGo (ix m.Clients n) n m.Server.Gen m.Up = (hear (ix m.Clients n) b box n, [], 0) := by unfold cGo; rw [hB]
   obtain ⟨o1, o2, o3⟩ := hear_ok hcs h.law hn hx hB
   rw [e]
   simp only [decide_true, nT, cF, ne_eq, not_true, if_false, if_true, List.length_nil]
   rw [show decide ((0 : Int) < ((0 : Nat) : Int)) = false from by decide, cF, rwith_eq _ _ _ (by omega) (by omega), obs]
   exact ⟨rfl, h.withC hn o1 o2 o3⟩
  | nil =>
   by_cases c1 : ((ix m.Clients n).Calls.length : Int) ≤ (ix m.Clients n).At
   ·have e : cGo (ix m.Clients n) n m.Server.Gen m.Up = (ix m.Clients n, [], 11) := by unfold cGo; rw [hB]; simp [c1]
    rw [e]
    simp only [show decide ((11 : Int) = 0) = false from by decide, nF, cT, show ((11 : Int) ≠ 0) = True from by simp, if_true]
    exact ⟨by first | rfl | trivial, h⟩
   ·rcases Bool.eq_false_or_eq_true m.Up with hu | hu
    rotate_left
    ·have e : cGo (ix m.Clients n) n m.Server.Gen m.Up = (ix m.Clients n, [], 10) := by unfold cGo; rw [hB]; simp [c1, hu]
     rw [e]
     simp only [show decide ((10 : Int) = 0) = false from by decide, nF, cT, show ((10 : Int) ≠ 0) = True from by simp, if_true]
     exact ⟨by first | rfl | trivial, h⟩
    ·by_cases c2 : (ix m.Clients n).Sent = true ∧ (ix m.Clients n).Gen = m.Server.Gen
     ·have e : cGo (ix m.Clients n) n m.Server.Gen m.Up = (ix m.Clients n, [], 12) := by unfold cGo; rw [hB]; simp [c1, c2, hu, hB]
      rw [e]
      simp only [show decide ((12 : Int) = 0) = false from by decide, nF, cT, show ((12 : Int) ≠ 0) = True from by simp, if_true]
      exact ⟨by first | rfl | trivial, h⟩
     ·have e : cGo (ix m.Clients n) n m.Server.Gen m.Up = ({ (ix m.Clients n) with Sent := true, Gen := m.Server.Gen }, reqB ⟨n, (ix m.Clients n).At, ix (ix m.Clients n).Calls (ix m.Clients n).At⟩, 0) := by unfold cGo; rw [hB]; simp [c1, c2, hu, hB]
      have hne : reqB ⟨n, (ix m.Clients n).At, ix (ix m.Clients n).Calls (ix m.Clients n).At⟩ ≠ [] := by unfold reqB; simp
      have hlen : (0 : Int) < ((reqB ⟨n, (ix m.Clients n).At, ix (ix m.Clients n).Calls (ix m.Clients n).At⟩).length : Int) := by
       have := List.length_pos_iff.2 hne; omega
      rw [e]
      simp only [decide_true, nT, cF, ne_eq, not_true, if_false, hne, dT hlen, cT]
      rw [rscome_eq _ _ (by omega), obs]
      by_cases c3 : 3 ≤ m.Server.Box.length
      ·have e2 : sCome m.Server (reqB ⟨n, (ix m.Clients n).At, ix (ix m.Clients n).Calls (ix m.Clients n).At⟩) = (m.Server, 9) := by unfold sCome; rw [if_pos c3]
       rw [e2]
       simp only [show decide ((9 : Int) = 0) = false from by decide, nF, cT, show ¬ ((9 : Int) = 0) from by decide, not_false_eq_true, if_true]
       exact ⟨by first | rfl | trivial, h⟩
      ·have e2 : sCome m.Server (reqB ⟨n, (ix m.Clients n).At, ix (ix m.Clients n).Calls (ix m.Clients n).At⟩) = ({ m.Server with Box := m.Server.Box ++ [reqB ⟨n, (ix m.Clients n).At, ix (ix m.Clients n).Calls (ix m.Clients n).At⟩] }, 0) := by unfold sCome; rw [if_neg c3]
       rw [e2]
       simp only [decide_true, nT, cF, not_true, if_false]
       rw [rwith_eq _ _ _ (by show m.Clients.length ≤ 1000; omega) (by show 0 ≤ n ∧ n < (m.Clients.length : Int); omega), obs]
       refine ⟨rfl, ?_⟩
       have hm : Inv cs (withC m n { (ix m.Clients n) with Sent := true, Gen := m.Server.Gen }) := by
        refine h.withC hn ⟨hx.calls, hx.at0, hx.at1, hx.at2, fun _ => rfl, hx.got, hx.box, hx.ans, ⟨h.gen, by simp only; omega⟩, fun _ => ?_⟩ (by simp only; omega) (fun _ _ => rfl)
        show (ix m.Clients n).At < ((ix m.Clients n).Calls.length : Int)
        omega
       refine ⟨hm.law, hm.ans, hm.nk, hm.cl, hm.falls, hm.gen, hm.up, fun e => ?_, ?_, fun b hb => ?_, hm.st, hm.now, fun e => ?_⟩
       ·have e' : m.Up = false := e
        rw [hu] at e'
        cases e'
       ·show (m.Server.Box ++ [_]).length ≤ 3
        simp; omega
       ·rcases List.mem_append.1 hb with hb | hb
        ·exact hm.q b hb
        ·simp only [List.mem_singleton] at hb
         subst hb
         have hcal := hx.calls
         refine ⟨n, (ix m.Clients n).At, hn, ⟨hx.at0, by rw [← hcal]; omega⟩, by rw [hcal]; rfl, ?_⟩
         show (ix m.Clients n).At ≤ (ix (up m.Clients n _) n).At ∧ ((ix m.Clients n).At = (ix (up m.Clients n _) n).At → (ix (up m.Clients n _) n).Sent = true)
         rw [ix_up _ _ _ _ (by omega) hn.1, if_pos rfl]
         exact ⟨Int.le_refl _, fun _ => rfl⟩
       ·have := h.idle e
        show (⟨m.Server.Gen, m.Server.Box ++ [_], m.Server.Busy, m.Server.Now, m.Server.Plan, m.Server.Says⟩ : Mk.Server) = _
        rw [this]; rfl
 ·have hf : (decide (n < 0) || decide ((m.Clients.length : Int) ≤ n)) = true := by
   simp only [Bool.or_eq_true, decide_eq_true_eq]; omega
  rw [hf, cT, if_pos (by omega)]
  exact ⟨rfl, h⟩
end
end Sp
end
section
namespace Sp
section
variable {cs : List (List Mk.Call)} {m : Mk.Machine}
theorem ansB_at (a : Mk.Answer) (h : 0 ≤ a.Client ∧ a.Client < 3) : ((ix (ansB a) 1).toNat : Int) = a.Client := by
 show ((u8 a.Client).toNat : Int) = a.Client
 exact u8_nat _ (by omega)
theorem ansB_ne (a : Mk.Answer) : ansB a ≠ [] := by unfold ansB; simp
theorem toC_ans (a : Mk.Answer) (hc : 0 ≤ a.Client ∧ a.Client < m.Clients.length) (h3 : m.Clients.length ≤ 3) : toC m (ansB a) = withC m a.Client (cCome (ix m.Clients a.Client) (ansB a)) := by
 unfold toC
 rw [if_neg (ansB_ne a), ansB_at a (by omega), if_pos hc.2]
theorem Inv.toC (h : Inv cs m) {c : Int} (hc : 0 ≤ c ∧ c < cs.length) (hn : cs.length ≤ 3) {t : Int} (ht : 0 ≤ t ∧ t < cnt m.Store.Past c) : Inv cs (Sp.toC m (ansB ⟨c, t, ix (heardF [] m.Store.Past c) t⟩)) := by
 have hk := h.nk
 rw [toC_ans _ (by simp only; omega) (by omega)]
 obtain ⟨o1, o2, o3⟩ := ccome_ok (h.cl c hc) (b := ansB ⟨c, t, ix (heardF [] m.Store.Past c) t⟩) ⟨t, ht, rfl⟩
 exact h.withC hc o1 (by simp only [o2]; omega) (fun _ e => by simp only [o3]; exact e)
theorem Inv.served (hcs : CsOk cs) (h : Inv cs m) (hu : m.Up = true) : Inv cs { m with Store := (serve m.Store m.Server).1, Server := (serve m.Store m.Server).2.1 } ∧
  ((serve m.Store m.Server).2.2.2 = 0 → (serve m.Store m.Server).2.2.1 = [] ∨ ∃ c t : Int, (0 ≤ c ∧ c < cs.length) ∧ (0 ≤ t ∧ t < cnt (serve m.Store m.Server).1.Past c) ∧ (serve m.Store m.Server).2.2.1 = ansB ⟨c, t, ix (heardF [] (serve m.Store m.Server).1.Past c) t⟩) := by
 obtain ⟨b0, done, hR, hC, hU, hd, he, hp⟩ := h.st
 have hn3 := hcs.n
 have hbx := h.box
 cases hb : m.Server.Busy with
 | true =>
  have hplan := hp hb
  obtain ⟨c, hc, n1, n2, n3, n4⟩ := h.now hb
  cases hP : m.Server.Plan with
  | cons w p =>
   have e : serve m.Store m.Server = (wrS m.Store w, { m.Server with Plan := p }, [], 0) := by unfold serve; rw [if_pos hb, hP]
   rw [e]
   refine ⟨?_, fun _ => .inl rfl⟩
   have hlen := planR_len (allN [] m.Store.Past) m.Server.Now.Call
   rw [hplan, hP] at hlen
   simp only [List.length_append, List.length_cons] at hlen
   have e1 : (wrS m.Store w).Past = m.Store.Past := by unfold wrS; split <;> rfl
   have e2 : (wrS m.Store w).Answers = m.Store.Answers := by unfold wrS; split <;> rfl
   have e3 : (wrS m.Store w).Cells = wrs b0 (done ++ [w]) := by
    rw [wrs_append, ← hC]
    unfold wrS
    show _ = wr m.Store.Cells w
    split
    ·rfl
    ·rename_i h1; unfold wr; rw [if_neg h1]
   have e4 : (wrS m.Store w).Undo = (fwd b0 (done ++ [w])).reverse := by
    have hl : m.Store.Cells.length = b0.length := by rw [hC, wrs_len]
    rw [fwd_snoc, List.reverse_append, ← hU, ← hC, ← hl]
    unfold wrS
    split <;> simp
   refine ⟨by rw [e1]; exact h.law, by rw [e1, e2]; exact h.ans, h.nk, fun c hc => by rw [e1]; exact h.cl c hc, h.falls, h.gen, h.up, fun e => (by rw [hu] at e; cases e), h.box, h.q, ?_, fun _ => ?_, fun e => (by rw [hb] at e; cases e)⟩
   ·refine ⟨b0, done ++ [w], by rw [e1]; exact hR, e3, e4, ⟨m.Server.Now.Call, p, by rw [n1]; exact hcs.call hc (by omega), by rw [e1]; show (planR (allN [] m.Store.Past) m.Server.Now.Call).1 = _; rw [hplan, hP]; simp⟩, fun _ e => (by rw [hb] at e; cases e), fun _ => ?_⟩
    rw [e1]
    show planR (allN [] m.Store.Past) m.Server.Now.Call = (done ++ [w] ++ p, m.Server.Says)
    rw [hplan, hP]; simp
   ·refine ⟨c, hc, ?_⟩
    rw [e1]; exact ⟨n1, n2, n3, n4⟩
  | nil =>
   have e : serve m.Store m.Server = (commit m.Store m.Server.Now m.Server.Says, ⟨m.Server.Gen, m.Server.Box, false, req0, [], rep0⟩, ansB ⟨m.Server.Now.Client, m.Server.Now.Token, m.Server.Says⟩, 0) := by unfold serve; rw [hb, hP]; rfl
   rw [e]
   rw [hP, List.append_nil] at hplan
   have hcal : CallOk m.Server.Now.Call := by rw [n1]; exact hcs.call hc (by omega)
   obtain ⟨r1, r2⟩ := plan_rt hR hcal
   have hsay : m.Server.Says = (doP (allN [] m.Store.Past) m.Server.Now.Call).2 := by rw [← r2, hplan]
   rw [hplan, ← hC] at r1
   have hlaw : Lawful cs (m.Store.Past ++ [m.Server.Now]) := by
    rw [n1] at *
    exact .snoc h.law hc rfl n2 rfl
   have ecl : m.Server.Now.Client = c := by rw [n1]
   have etk : m.Server.Now.Token = cnt m.Store.Past c := by rw [n1]
   have ecnt : cnt (m.Store.Past ++ [m.Server.Now]) c = cnt m.Store.Past c + 1 := by rw [cnt_snoc, if_pos ecl]
   have ehd : heardF [] (m.Store.Past ++ [m.Server.Now]) c = heardF [] m.Store.Past c ++ [m.Server.Says] := by rw [heardF_snoc, if_pos ecl, hsay]
   refine ⟨⟨hlaw, ?_, h.nk, fun d hd' => ?_, h.falls, h.gen, h.up, fun e => (by rw [hu] at e; cases e), h.box, h.q, ?_, fun e => (by cases e), fun _ => rfl⟩, fun _ => .inr ⟨c, (cnt m.Store.Past c : Int), hc, ?_, ?_⟩⟩
   ·show ansPut m.Store.Answers ⟨m.Server.Now.Client, m.Server.Now.Token, m.Server.Says⟩ = ansF [] [] (m.Store.Past ++ [m.Server.Now])
    rw [ansF_snoc, h.ans, hsay]
   ·have hx := h.cl d hd'
    show ClOk cs (m.Store.Past ++ [m.Server.Now]) m.Server.Gen d (ix m.Clients d)
    have hat1 := hx.at1
    have hat2 := hx.at2
    have hmon : cnt (m.Store.Past ++ [m.Server.Now]) d = cnt m.Store.Past d + if m.Server.Now.Client = d then 1 else 0 := cnt_snoc _ _ _
    refine ⟨hx.calls, hx.at0, by omega, ?_, ?_, ?_, hx.box, fun b hb' => (hx.ans b hb').snoc, hx.gen, hx.more⟩
    ·by_cases ed : m.Server.Now.Client = d
     ·rw [if_pos ed] at hmon
      have : c = d := by rw [← ecl, ed]
      subst this
      omega
     ·rw [if_neg ed] at hmon; omega
    ·by_cases ed : m.Server.Now.Client = d
     ·have : c = d := by rw [← ecl, ed]
      subst this
      exact fun _ => n4
     ·rw [if_neg ed] at hmon
      intro e; exact hx.sent (by omega)
    ·rw [heardF_snoc, List.take_append_of_le_length (by rw [heardF_len]; have := hx.at0; omega)]
     exact hx.got
   ·refine ⟨m.Store.Cells, [], ?_, rfl, rfl, no_plan _, fun _ _ => rfl, fun e => (by cases e)⟩
    show Rt m.Store.Cells (allN [] (m.Store.Past ++ [m.Server.Now]))
    rw [allN_snoc]; exact r1
   ·show 0 ≤ (cnt m.Store.Past c : Int) ∧ (cnt m.Store.Past c : Int) < (cnt (m.Store.Past ++ [m.Server.Now]) c : Int)
    rw [ecnt]; omega
   ·show ansB ⟨m.Server.Now.Client, m.Server.Now.Token, m.Server.Says⟩ = ansB ⟨c, (cnt m.Store.Past c : Int), ix (heardF [] (m.Store.Past ++ [m.Server.Now]) c) (cnt m.Store.Past c : Int)⟩
    rw [ehd, ix_last _ _ _ (by rw [heardF_len]), ecl, etk]
 | false =>
  have hdn := he hu hb
  subst hdn
  have hid := h.idle hb
  have hC' : m.Store.Cells = b0 := hC
  cases hB : m.Server.Box with
  | nil =>
   have e : serve m.Store m.Server = (m.Store, m.Server, [], 12) := by
    unfold serve
    rw [hb, hB]; rfl
   rw [e]
   exact ⟨h, fun e => by cases e⟩
  | cons b box =>
   have e : serve m.Store m.Server = (m.Store, (take1 m.Store m.Server b box).1, (take1 m.Store m.Server b box).2, 0) := by
    unfold serve
    rw [hb, hB]; rfl
   rw [e]
   obtain ⟨c, t, hc, ht, hbt, q1, q2⟩ := h.q b (by rw [hB]; simp)
   have hx := h.cl c hc
   have h8 := hcs.len hc
   have hread : readReq b = (⟨c, t, call cs c t⟩, 0) := by rw [hbt]; exact readReq_reqB (wreq_of (by omega) (by omega) (hcs.call hc ht))
   have hlast : last m.Store c = if cnt m.Store.Past c = 0 then (ans0, false) else (⟨c, (cnt m.Store.Past c : Int) - 1, ix (heardF [] m.Store.Past c) ((cnt m.Store.Past c : Int) - 1)⟩, true) := by
    unfold last
    rw [h.ans, h.law.find c]
    by_cases h0 : cnt m.Store.Past c = 0
    ·rw [if_pos h0, if_pos h0]
    ·rw [if_neg h0, if_neg h0]
   have hbx2 : box.length ≤ 3 := by rw [hB] at hbx; simp at hbx; omega
   have hq : ∀ b' ∈ box, QOk cs m.Clients b' := fun b' hb' => h.q b' (by rw [hB]; simp [hb'])
   have keep : Inv cs { m with Server := { m.Server with Box := box } } :=
    ⟨h.law, h.ans, h.nk, h.cl, h.falls, h.gen, h.up, fun e => (by rw [hu] at e; cases e), hbx2, hq, ⟨b0, [], hR, hC, hU, no_plan _, fun _ _ => rfl, fun e => (by rw [hb] at e; cases e)⟩, fun e => (by rw [hb] at e; cases e), fun _ => (by
     show (⟨m.Server.Gen, box, m.Server.Busy, m.Server.Now, m.Server.Plan, m.Server.Says⟩ : Mk.Server) = _
     rw [hid])⟩
   unfold take1
   rw [hread]
   simp only [ne_eq, not_true, if_false]
   by_cases h1 : (last m.Store c).2 = true ∧ t ≤ (last m.Store c).1.Token
   ·rw [if_pos h1]
    have h0 : cnt m.Store.Past c ≠ 0 := by
     intro h0
     rw [hlast, if_pos h0] at h1
     exact absurd h1.1 (by simp)
    rw [hlast, if_neg h0] at h1 ⊢
    simp only at h1 ⊢
    by_cases h2 : (cnt m.Store.Past c : Int) - 1 = t
    ·rw [if_pos h2]
     refine ⟨keep, fun _ => .inr ⟨c, (cnt m.Store.Past c : Int) - 1, hc, by omega, rfl⟩⟩
    ·rw [if_neg h2]
     exact ⟨keep, fun _ => .inl rfl⟩
   ·rw [if_neg h1]
    have htc : t = cnt m.Store.Past c := by
     have := hx.at1
     rw [hlast] at h1
     by_cases h0 : cnt m.Store.Past c = 0
     ·omega
     ·rw [if_neg h0] at h1
      simp only [true_and] at h1
      omega
    have hat := hx.at1
    refine ⟨?_, fun _ => .inl rfl⟩
    have hent : entries m.Store.Cells = allN [] m.Store.Past := entries_of (by rw [hC']; exact hR)
    refine ⟨h.law, h.ans, h.nk, h.cl, h.falls, h.gen, h.up, fun e => (by rw [hu] at e; cases e), hbx2, hq, ⟨b0, [], hR, hC, hU, no_plan _, fun _ _ => rfl, fun _ => ?_⟩, fun _ => ⟨c, hc, ?_, (by show (cnt m.Store.Past c : Int) < ((ix cs c).length : Int); omega), (by show (ix m.Clients c).At = (cnt m.Store.Past c : Int); omega), q2 (by omega)⟩, fun e => (by cases e)⟩
    ·show planR (allN [] m.Store.Past) (call cs c t) = ([] ++ (planR (entries m.Store.Cells) (call cs c t)).1, (planR (entries m.Store.Cells) (call cs c t)).2)
     rw [hent]; rfl
    ·show (⟨c, t, call cs c t⟩ : Mk.Request) = ⟨c, cnt m.Store.Past c, call cs c (cnt m.Store.Past c)⟩
     rw [htc]
theorem doS_eq (hcs : CsOk cs) (h : Inv cs m) (k : Int) : mkref6_Do m ⟨2, k⟩ = some (doS m) ∧ Inv cs (doS m).1 := by
 have hk := h.nk
 have hn3 := hcs.n
 have hs := h.sz hcs
 unfold mkref6_Do doS
 simp only [J, show decide ((2 : Int) = 1) = false from by decide, cF, decide_true, cT]
 rcases Bool.eq_false_or_eq_true m.Up with hu | hu
 rotate_left
 ·rw [if_pos hu]
  refine ⟨?_, h⟩
  rw [hu]; rfl
 ·rw [if_neg (by rw [hu]; simp)]
  have hr : m.Server.Busy = false → Rt m.Store.Cells (entries m.Store.Cells) := fun hb => by
   have := (h.rest hu hb).1
   rw [entries_of this]; exact this
  obtain ⟨i1, i2⟩ := h.served hcs hu
  rw [hu] at i1 ⊢
  rw [nT, cF, rserve_eq hs hr, obs]
  by_cases h0 : (serve m.Store m.Server).2.2.2 = 0
  ·rw [dT h0, nT, cF, if_neg (by simp [h0])]
   rcases i2 h0 with e | ⟨c, t, hc, ht, e⟩
   ·rw [e]
    exact ⟨rfl, by unfold Sp.toC; rw [if_pos rfl]; exact i1⟩
   ·have hl : (0 : Int) < ((serve m.Store m.Server).2.2.1.length : Int) := by
     rw [e]; unfold ansB nb; simp <;> omega
    have hl2 : (1 : Int) < ((serve m.Store m.Server).2.2.1.length : Int) := by
     rw [e]; unfold ansB nb; simp <;> omega
    have hat : ((ix (serve m.Store m.Server).2.2.1 1).toNat : Int) = c := by rw [e]; exact ansB_at _ (by simp only; omega)
    have hx := (i1.cl c hc).box
    rw [dT hl, cT, G_on ⟨by decide, hl2⟩, hat, dT (by omega), cT, G_on (by omega), rccome_eq _ _ (by simp only at hx; omega), obs, rwith_eq _ _ _ (by show m.Clients.length ≤ 1000; omega) (by show 0 ≤ c ∧ c < (m.Clients.length : Int); omega), obs]
    have ht2 : Inv cs (Sp.toC { m with Store := (serve m.Store m.Server).1, Server := (serve m.Store m.Server).2.1, Up := true } (serve m.Store m.Server).2.2.1) := by
     rw [e]; exact i1.toC hc hn3 ht
    refine ⟨?_, ht2⟩
    unfold Sp.toC
    rw [if_neg (by rw [e]; exact ansB_ne _), hat, if_pos (by show c < (m.Clients.length : Int); omega)]
  ·rw [dF h0, nF, cT, if_pos (by simpa using h0)]
   exact ⟨rfl, h⟩
theorem do_step (hcs : CsOk cs) (h : Inv cs m) (s : Mk.Step) : mkref6_Do m s = some (doM m s) ∧ Inv cs (doM m s).1 := by
 obtain ⟨k, n⟩ := s
 unfold doM
 by_cases h1 : k = 1
 ·subst h1; simpa using doC_eq hcs h n 0
 ·by_cases h2 : k = 2
  ·subst h2; simpa using doS_eq hcs h n
  ·by_cases h3 : k = 3
   ·subst h3
    refine ⟨?_, by simpa using inv_fall h⟩
    unfold mkref6_Do
    simp only [J, show decide ((3 : Int) = 1) = false from by decide, show decide ((3 : Int) = 2) = false from by decide, cF, decide_true, cT]
    rw [rfall_eq m h.falls, obs]; rfl
   ·by_cases h4 : k = 4
    ·subst h4
     refine ⟨?_, by simpa using inv_tick h⟩
     unfold mkref6_Do
     simp only [J, show decide ((4 : Int) = 1) = false from by decide, show decide ((4 : Int) = 2) = false from by decide, show decide ((4 : Int) = 3) = false from by decide, cF, decide_true, cT]
     have hp : 0 ≤ m.Pause ∧ m.Pause ≤ 1000 := by
      rcases Bool.eq_false_or_eq_true m.Up with hu | hu
      ·have := (h.up hu).1; omega
      ·have := h.down hu; omega
     rw [rtick_eq m (h.sz hcs) hp ⟨h.gen, by have := h.gen6; omega⟩, obs]; rfl
    ·simp only [h1, h2, h3, h4, if_false]
     refine ⟨?_, h⟩
     unfold mkref6_Do
     rw [dF h1, cF, dF h2, cF, dF h3, cF, dF h4, cF]
end
end Sp
end
section
namespace Sp
def sto0 : Mk.Store := ⟨[], [], [], []⟩
def mach0 : Mk.Machine := ⟨sto0, srv0 0, false, 0, 0, []⟩
def badC : List Mk.Call → Int
 | [] => 0
 | c :: l => if wcall c ≠ 0 then wcall c else badC l
def badL : List (List Mk.Call) → Int
 | [] => 0
 | x :: l => if 8 < x.length then 4 else if badC x ≠ 0 then badC x else badL l
def cl0 (x : List Mk.Call) : Mk.Client := ⟨x, 0, false, 0, [], []⟩
def newM (l : List (List Mk.Call)) : Mk.Machine × Int :=
 if 3 < l.length then (mach0, 5) else if badL l ≠ 0 then (mach0, badL l) else (⟨⟨List.replicate 11 0, [], [], []⟩, srv0 0, true, 0, 0, l.map cl0⟩, 0)
theorem rnew_loop2 (k : List Mk.Call → List (List Mk.Call) → Int → Int → Mk.Machine → Mk.Machine → List Mk.Client → Option (Mk.Machine × Int)) (K : List Mk.Call) (hK : K.length ≤ 1000) (cs : List (List Mk.Call)) (n i : Int) (y2 y4 : Mk.Machine) (acc : List Mk.Client) : ∀ (m j : Nat), j + m = K.length → ∀ f : Nat, m < f →
  mkref6_New_l2 k f K cs n i K (K.length : Int) (j : Int) y2 y4 acc = if badC (K.drop j) ≠ 0 then some (mach0, badC (K.drop j)) else k K cs n i y2 y4 acc := by
 intro m
 induction m with
 | zero =>
  intro j hj f hf
  obtain ⟨f, rfl⟩ : ∃ g, f = g + 1 := ⟨f - 1, by omega⟩
  rw [mkref6_New_l2, dF (by omega), cF, List.drop_of_length_le (by omega)]; rfl
 | succ m ih =>
  intro j hj f hf
  obtain ⟨f, rfl⟩ : ∃ g, f = g + 1 := ⟨f - 1, by omega⟩
  rw [mkref6_New_l2, dT (by omega), cT, G_on (by omega), wrongCall_eq, obs, ix_drop K j (by omega), badC]
  by_cases h : wcall (ix K (j : Int)) = 0
  ·rw [dT h, nT, cF, G_on (by unfold I; omega), show ((j : Int) + 1) = ((j + 1 : Nat) : Int) from by omega, ih (j + 1) (by omega) f (by omega)]
   simp [h]
  ·rw [dF h, nF, cT, if_pos (by rw [if_pos h]; exact h), if_pos h]; rfl
theorem rnew_loop1 (cs : List (List Mk.Call)) (hn : cs.length ≤ 3) (k : Mk.Machine → Mk.Machine → List Mk.Client → Option (Mk.Machine × Int)) (y2 y4 : Mk.Machine) : ∀ (m i : Nat), i + m = cs.length → ∀ f : Nat, m < f → ∀ acc : List Mk.Client, acc.length ≤ i →
  mkref6_New_l1 k f cs (cs.length : Int) (i : Int) y2 y4 acc = if badL (cs.drop i) ≠ 0 then some (mach0, badL (cs.drop i)) else k y2 y4 (acc ++ (cs.drop i).map cl0) := by
 intro m
 induction m with
 | zero =>
  intro i hi f hf acc ha
  obtain ⟨f, rfl⟩ : ∃ g, f = g + 1 := ⟨f - 1, by omega⟩
  rw [mkref6_New_l1, dF (by omega), cF, List.drop_of_length_le (by omega)]; simp [badL]
 | succ m ih =>
  intro i hi f hf acc ha
  obtain ⟨f, rfl⟩ : ∃ g, f = g + 1 := ⟨f - 1, by omega⟩
  rw [mkref6_New_l1, dT (by omega), cT, G_on (by omega), ix_drop cs i (by omega), badL]
  by_cases h8 : 8 < (ix cs (i : Int)).length
  ·rw [dT (by omega), cT, if_pos (by rw [if_pos h8]; decide), if_pos h8]; rfl
  ·rw [dF (by omega), cF]
   simp only [J]
   have h2 := fun k => rnew_loop2 k (ix cs (i : Int)) (by omega) cs (cs.length : Int) (i : Int) y2 y4 acc (ix cs (i : Int)).length 0 (by omega) ((((ix cs (i : Int)).length : Int) - 0).toNat + 1) (by omega)
   rw [show ((0 : Nat) : Int) = 0 from rfl] at h2
   rw [h2, List.drop_zero, if_neg h8]
   by_cases hb : badC (ix cs (i : Int)) = 0
   ·rw [if_neg (by simpa using hb), if_neg (show ¬ badC (ix cs (i : Int)) ≠ 0 from by simpa using hb), G_on (by simp; omega), G_on (by unfold I; omega), show ((i : Int) + 1) = ((i + 1 : Nat) : Int) from by omega, ih (i + 1) (by omega) f (by omega) _ (by simp; omega)]
    rw [List.map_cons, List.append_assoc]; rfl
   ·rw [if_pos hb, if_pos hb, if_pos hb]
theorem rnew_eq (l : List (List Mk.Call)) : mkref6_New l = some (newM l) := by
 unfold mkref6_New newM
 by_cases h : 3 < l.length
 ·rw [dT (by omega), cT, if_pos h]; rfl
 ·rw [dF (by omega), cF, G_on (by decide), if_neg h]
  simp only [J]
  have h1 := fun k y2 y4 => rnew_loop1 l (by omega) k y2 y4 l.length 0 (by omega) (((l.length : Int) - 0).toNat + 1) (by omega) [] (by simp)
  rw [show ((0 : Nat) : Int) = 0 from rfl] at h1
  rw [h1, List.drop_zero]
  by_cases hb : badL l = 0
  ·rw [if_neg (by simpa using hb), if_neg (by simpa using hb)]; rfl
  ·rw [if_pos hb, if_pos hb]
theorem rright_eq (l : List (List Mk.Call)) : mkref6_Right l = some (decide ((newM l).2 = 0)) := by
 unfold mkref6_Right
 rw [rnew_eq, obs]
theorem badC_ok (l : List Mk.Call) (h : badC l = 0) : ∀ c ∈ l, CallOk c := by
 induction l with
 | nil => simp
 | cons c l ih =>
  unfold badC at h
  split at h
  ·rename_i h1; exact (h1 h).elim
  ·rename_i h1
   intro x hx
   rcases List.mem_cons.1 hx with rfl | hx
   ·exact (wcall_ok _).1 (Classical.not_not.1 h1)
   ·exact ih h x hx
theorem badL_ok (l : List (List Mk.Call)) (h : badL l = 0) : ∀ x ∈ l, x.length ≤ 8 ∧ ∀ c ∈ x, CallOk c := by
 induction l with
 | nil => simp
 | cons x l ih =>
  unfold badL at h
  split at h
  ·cases h
  ·split at h
   ·rename_i h1; exact (h1 h).elim
   ·rename_i h1 h2
    intro y hy
    rcases List.mem_cons.1 hy with rfl | hy
    ·exact ⟨by omega, badC_ok _ (Classical.not_not.1 h2)⟩
    ·exact ih h y hy
theorem rt_zero : Rt (List.replicate 11 0) [] := by
 refine ⟨by simp, rfl, by simp, fun i hi => by simp at hi, by simp, by simp⟩
theorem newM_inv {l : List (List Mk.Call)} (h : (newM l).2 = 0) : CsOk l ∧ Inv l (newM l).1 ∧ (newM l).1 = ⟨⟨List.replicate 11 0, [], [], []⟩, srv0 0, true, 0, 0, l.map cl0⟩ := by
 unfold newM at h ⊢
 split at h
 ·cases h
 ·split at h
  ·rename_i h1 h2; exact (h2 h).elim
  ·rename_i h1 h2
   rw [if_neg h1, if_neg h2]
   have hcs : CsOk l := ⟨by omega, badL_ok l (Classical.not_not.1 h2)⟩
   refine ⟨hcs, ⟨.nil, rfl, by simp, fun c hc => ?_, ⟨(show (0 : Int) ≤ 0 by decide), (show (0 : Int) ≤ 6 by decide)⟩, (show (0 : Int) ≤ 0 by decide), fun _ => ⟨rfl, rfl⟩, fun e => (by cases e), by simp [srv0], by simp [srv0], ⟨List.replicate 11 0, [], rt_zero, rfl, rfl, no_plan _, fun _ _ => rfl, fun e => (by cases e)⟩, fun e => (by cases e), fun _ => rfl⟩, rfl⟩
   have e : ix (l.map cl0) c = cl0 (ix l c) := by
    have : c.toNat < l.length := by omega
    simp [ix, this]
   show ClOk l [] 0 c (ix (l.map cl0) c)
   rw [e]
   exact ⟨rfl, by simp [cl0], by simp [cl0], by simp [cl0, cnt], fun h => (by simp [cl0, cnt] at h), rfl, by simp [cl0], by simp [cl0], by simp [cl0], fun h => (by cases h)⟩
theorem rplay_loop {cs : List (List Mk.Call)} (hcs : CsOk cs) (steps : List Mk.Step) (k : Mk.Machine → Mk.Machine → List Int → Option (Mk.Machine × List Int)) (y : Mk.Machine) : ∀ (m i : Nat), i + m = 400 → i ≤ steps.length → ∀ f : Nat, steps.length - i < f → ∀ (M : Mk.Machine) (es : List Int), es.length ≤ i → Inv cs M → steps.length ≤ 9223372036854775807 →
  mkref6_Play_l1 k f steps (steps.length : Int) (i : Int) y M es = k y (runM M ((steps.drop i).take m)) (es ++ runE M ((steps.drop i).take m)) := by
 intro m
 induction m with
 | zero =>
  intro i hi hle f hf M es he hM hs
  obtain ⟨f, rfl⟩ : ∃ g, f = g + 1 := ⟨f - 1, by omega⟩
  rw [mkref6_Play_l1]
  by_cases h : i < steps.length
  ·rw [dT (by omega), cT, G_on (by omega), dT (by omega), cT]; simp [runM, runE]
  ·rw [dF (by omega), cF]; simp [runM, runE]
 | succ m ih =>
  intro i hi hle f hf M es he hM hs
  obtain ⟨f, rfl⟩ : ∃ g, f = g + 1 := ⟨f - 1, by omega⟩
  rw [mkref6_Play_l1]
  by_cases h : i < steps.length
  ·obtain ⟨d1, d2⟩ := do_step hcs hM (ix steps (i : Int))
   rw [dT (by omega), cT, G_on (by omega), dF (by omega), cF, d1, obs, G_on (by simp; omega), G_on (by unfold I; omega), show ((i : Int) + 1) = ((i + 1 : Nat) : Int) from by omega,
    ih (i + 1) (by omega) (by omega) f (by omega) _ _ (by simp; omega) d2 hs, ix_drop steps i h, List.take_succ_cons]
   simp [runM, runE]
  ·rw [dF (by omega), cF, List.drop_of_length_le (by omega)]; simp [runM, runE]
theorem inv_run {cs : List (List Mk.Call)} (hcs : CsOk cs) {M : Mk.Machine} (h : Inv cs M) (l : List Mk.Step) : Inv cs (runM M l) := by
 induction l generalizing M with
 | nil => exact h
 | cons s l ih => exact ih (do_step hcs h s).2
theorem rplay_eq {cs : List (List Mk.Call)} (h0 : (newM cs).2 = 0) (steps : List Mk.Step) (hs : steps.length ≤ 9223372036854775807) : mkref6_Play cs steps = some (runM (newM cs).1 (steps.take 400), runE (newM cs).1 (steps.take 400)) := by
 obtain ⟨hcs, hM, _⟩ := newM_inv h0
 unfold mkref6_Play
 rw [rnew_eq, obs]
 simp only [J]
 have := fun k y => rplay_loop hcs steps k y 400 0 (by omega) (by omega) (((steps.length : Int) - 0).toNat + 1) (by omega) (newM cs).1 [] (by simp) hM hs
 rw [show ((0 : Nat) : Int) = 0 from rfl] at this
 rw [this, List.drop_zero]; rfl
theorem play_inv {cs : List (List Mk.Call)} (h0 : (newM cs).2 = 0) (steps : List Mk.Step) : CsOk cs ∧ Inv cs (runM (newM cs).1 (steps.take 400)) := by
 obtain ⟨hcs, hM, _⟩ := newM_inv h0
 exact ⟨hcs, inv_run hcs hM _⟩
end Sp
end
section
namespace Sp
theorem cloneBx_eq (l : List (List UInt8)) (h : l.length ≤ 1000000) : slices_Clone_____byte___byte_ l = some l := by
 unfold slices_Clone_____byte___byte_
 rw [G_on (by simp; omega)]; simp
theorem cloneBy_eq (l : List UInt8) (h : l.length ≤ 140737488355328) : slices_Clone___byte_byte_ l = some l := by
 unfold slices_Clone___byte_byte_
 rw [G_on (by simp; omega)]; simp
theorem cloneRe_eq (l : List Mk.Reply) (h : l.length ≤ 1000000) : slices_Clone___api_Reply_api_Reply_ l = some l := by
 unfold slices_Clone___api_Reply_api_Reply_
 rw [G_on (by simp; omega)]; simp
theorem ccome_eq (c : Mk.Client) (b : List UInt8) (hb : b.length ≤ 140737488355328) : client_Come c b = some (cCome c b) := by
 unfold client_Come cCome
 simp only [J]
 by_cases h : c.Box.length < 3
 ·rw [dT (by omega), cT, cloneBx_eq _ (by omega), obs, cloneBy_eq _ hb, obs, G_on (by simp; omega), if_pos h]
 ·rw [dF (by omega), cF, if_neg h]
theorem chear_eq (c : Mk.Client) (b : List UInt8) (box : List (List UInt8)) (hB : c.Box = b :: box) (me : Int) (hb : c.Box.length ≤ 1000) (hg : c.Got.length ≤ 1000) (hat : 0 ≤ c.At ∧ c.At ≤ 1000) : client_hear c me = some (hear c b box me) := by
 obtain ⟨K, A, S, g, B, R⟩ := c
 simp only at hB hb hg hat
 subst hB
 have e1 : ix (b :: box) 0 = b := rfl
 have e2 : sub (b :: box) 1 ((b :: box).length : Int) = box := by simp [sub]
 have hbx : box.length ≤ 1000 := by simp at hb; omega
 unfold client_hear hear
 simp only [J, e1, e2]
 rw [G_on (by simp <;> omega), readAnswer_eq, obs, G_on (by simp <;> omega), cloneBx_eq _ (by omega), obs]
 by_cases h : (readAns b).2 = 0 ∧ (readAns b).1.Client = me ∧ (readAns b).1.Token = A ∧ S = true
 ·obtain ⟨h1, h2, h3, h4⟩ := h
  simp only [h1, h2, h3, h4, decide_true, Bool.and_self, cT, and_self, if_true]
  rw [cloneRe_eq _ (by omega), obs, G_on (by simp <;> omega), G_on (by unfold I; omega)]
 ·have hf : (((decide ((readAns b).2 = 0) && decide ((readAns b).1.Client = me)) && decide ((readAns b).1.Token = A)) && S) = false := by
   cases S <;> simp_all
  rw [hf, cF, if_neg h]
theorem reqB_ne (r : Mk.Request) : reqB r ≠ [] := by unfold reqB; simp
theorem cgo_eq (c : Mk.Client) (me gen : Int) (up : Bool) (hb : c.Box.length ≤ 1000) (hg : c.Got.length ≤ 1000) (hat : 0 ≤ c.At ∧ c.At ≤ 1000) : client_Go c me gen up = some (cGo c me gen up) := by
 unfold client_Go cGo
 cases hB : c.Box with
 | cons b box =>
  rw [dT (by simp <;> omega), cT, chear_eq c b box hB me hb hg hat, obs]
 | nil =>
  simp only [List.length_nil]
  rw [dF (by decide), cF]
  by_cases h1 : (c.Calls.length : Int) ≤ c.At
  ·rw [dT h1, cT, if_pos h1]
  ·rw [dF h1, cF, if_neg h1]
   cases up with
   | false => rfl
   | true =>
    simp only [nT, cF]
    by_cases h2 : c.Sent = true ∧ c.Gen = gen
    ·simp [h2.1, h2.2]
    ·have hf : (c.Sent && decide (c.Gen = gen)) = false := by cases hS : c.Sent <;> simp_all
     rw [hf, cF, G_on (by omega), request_eq, obs, G_on (reqB_ne _)]
     simp only [Bool.true_eq_false, if_false, if_neg h2]
theorem sameReplies_loop (a b : List Mk.Reply) (hab : a.length = b.length) (hl : a.length ≤ 9223372036854775807) (k : Unit → Option Bool) (hk : k () = some true) : ∀ (m i : Nat), i + m = a.length → ∀ f : Nat, m < f →
  mkref6_SameReplies_l1 k f a b (a.length : Int) (i : Int) = some (decide (a.drop i = b.drop i)) := by
 intro m
 induction m with
 | zero =>
  intro i hi f hf
  obtain ⟨f, rfl⟩ : ∃ g, f = g + 1 := ⟨f - 1, by omega⟩
  rw [mkref6_SameReplies_l1, dF (by omega), cF, hk, List.drop_of_length_le (by omega), List.drop_of_length_le (by omega)]
  simp
 | succ m ih =>
  intro i hi f hf
  obtain ⟨f, rfl⟩ : ∃ g, f = g + 1 := ⟨f - 1, by omega⟩
  rw [mkref6_SameReplies_l1, dT (by omega), cT, G_on (by omega), G_on (by omega), ix_drop a i (by omega), ix_drop b i (by omega)]
  by_cases h : ix a (i : Int) = ix b (i : Int)
  ·rw [dT h, nT, cF, G_on (by unfold I; omega), show ((i : Int) + 1) = ((i + 1 : Nat) : Int) from by omega, ih (i + 1) (by omega) f (by omega)]
   simp [h]
  ·rw [dF h, nF, cT]
   simp [h]
theorem sameReplies_eq (a b : List Mk.Reply) (hl : a.length ≤ 9223372036854775807) : mkref6_SameReplies a b = some (decide (a = b)) := by
 unfold mkref6_SameReplies
 simp only [J]
 by_cases h : a.length = b.length
 ·rw [dT (by omega), nT, cF]
  have := sameReplies_loop a b h hl (fun _ => some true) rfl a.length 0 (by omega) (((a.length : Int) - 0).toNat + 1) (by omega)
  rw [show ((0 : Nat) : Int) = 0 from rfl] at this
  rw [this]; simp
 ·rw [dF (by omega), nF, cT]
  congr 1
  exact (dF fun e => h (by rw [e])).symm
structure Szc (c : Mk.Client) : Prop where
 k : c.Calls.length ≤ 1000000
 b : c.Box.length ≤ 1000000
 g : c.Got.length ≤ 1000000
theorem ClOk.sz {cs : List (List Mk.Call)} (hcs : CsOk cs) {p : List Mk.Request} {g c : Int} {x : Mk.Client} (hl : Lawful cs p) (hc : 0 ≤ c ∧ c < cs.length) (h : ClOk cs p g c x) : Szc x := by
 have h1 := h.le8 hcs hl hc
 have h2 := h.box
 exact ⟨by omega, by omega, by omega⟩
end Sp
end
section
namespace Sp
structure Smb (l : List (List UInt8)) : Prop where
 n : l.length ≤ 1000
 b : ∀ x ∈ l, x.length ≤ 140737488355328
structure Smk (c : Mk.Client) : Prop where
 k : c.Calls.length ≤ 1000
 b : Smb c.Box
 g : c.Got.length ≤ 1000
structure Smm (m : Mk.Machine) : Prop where
 s : Sz m.Store
 b : Smb m.Server.Box
 p : m.Server.Plan.length ≤ 1000
 n : m.Clients.length ≤ 1000
 c : ∀ x ∈ m.Clients, Smk x
theorem reqB_len (r : Mk.Request) : (reqB r).length = 10 := by unfold reqB nb; simp
theorem ansB_len (a : Mk.Answer) : (ansB a).length = 8 := by unfold ansB nb; simp
theorem Inv.smm {cs : List (List Mk.Call)} {m : Mk.Machine} (hcs : CsOk cs) (h : Inv cs m) : Smm m := by
 have hn := hcs.n
 have hk := h.nk
 refine ⟨h.sz hcs, ⟨by have := h.box; omega, fun x hx => ?_⟩, ?_, by omega, fun x hx => ?_⟩
 ·obtain ⟨c, t, _, _, rfl, _⟩ := h.q x hx
  rw [reqB_len]; decide
 ·cases hb : m.Server.Busy with
  | true =>
   obtain ⟨b0, done, _, _, _, _, _, hp⟩ := h.st
   have := planR_len (allN [] m.Store.Past) m.Server.Now.Call
   rw [hp hb, List.length_append] at this
   omega
  | false => rw [h.idle hb]; simp
 ·obtain ⟨i, hi, e⟩ := List.mem_iff_getElem.1 hx
  have hc := h.cl (i : Int) (by omega)
  rw [ix_nat _ i hi, e] at hc
  have h8 := hc.le8 hcs h.law (by omega)
  refine ⟨by omega, ⟨by have := hc.box; omega, fun b hb => ?_⟩, by omega⟩
  obtain ⟨t, _, rfl⟩ := hc.ans b hb
  rw [ansB_len]; decide
theorem Smk.sz {c : Mk.Client} (h : Smk c) : Szc c := by
 have h1 := h.k; have h2 := h.g; have h3 := h.b.n
 exact ⟨by omega, by omega, by omega⟩
theorem cloneCa_eq (l : List Mk.Call) (h : l.length ≤ 1000000) : slices_Clone___api_Call_api_Call_ l = some l := by
 unfold slices_Clone___api_Call_api_Call_
 rw [G_on (by simp; omega)]; simp
theorem vown_loop (l : List (List UInt8)) (hl : Smb l) (k : Mk.Server → Mk.Server → Mk.Server → List (List UInt8) → Option Mk.Server) (y1 y2 y3 : Mk.Server) : ∀ (m i : Nat), i + m = l.length → ∀ f : Nat, m < f → ∀ acc : List (List UInt8), acc.length ≤ i →
  serve_Own_l1 k f l (l.length : Int) (i : Int) y1 y2 y3 acc = k y1 y2 y3 (acc ++ l.drop i) := by
 have hn := hl.n
 intro m
 induction m with
 | zero =>
  intro i hi f hf acc ha
  obtain ⟨f, rfl⟩ : ∃ g, f = g + 1 := ⟨f - 1, by omega⟩
  rw [serve_Own_l1, dF (by omega), cF, List.drop_of_length_le (by omega), List.append_nil]
 | succ m ih =>
  intro i hi f hf acc ha
  obtain ⟨f, rfl⟩ : ∃ g, f = g + 1 := ⟨f - 1, by omega⟩
  have hb := hl.b _ (ix_mem l (i : Int) (by omega))
  rw [serve_Own_l1, dT (by omega), cT, G_on (by omega), cloneBy_eq _ (by omega), obs, G_on (by simp; omega), G_on (by unfold I; omega), show ((i : Int) + 1) = ((i + 1 : Nat) : Int) from by omega, ih (i + 1) (by omega) f (by omega) _ (by simp; omega), ix_drop l i (by omega), List.append_assoc]; rfl
theorem vown_eq (v : Mk.Server) (hb : Smb v.Box) (hp : v.Plan.length ≤ 1000) : serve_Own v = some v := by
 unfold serve_Own
 simp only [J]
 have := fun k y1 y2 y3 => vown_loop v.Box hb k y1 y2 y3 v.Box.length 0 (by omega) (((v.Box.length : Int) - 0).toNat + 1) (by omega) [] (by simp)
 rw [show ((0 : Nat) : Int) = 0 from rfl] at this
 rw [this, cloneW_eq _ (by omega), obs]; rfl
theorem gclient_loop (l : List (List UInt8)) (hl : Smb l) (k : Mk.Client → Mk.Client → List (List UInt8) → Option Mk.Client) (y2 y3 : Mk.Client) : ∀ (m i : Nat), i + m = l.length → ∀ f : Nat, m < f → ∀ acc : List (List UInt8), acc.length ≤ i →
  guard_client_l1 k f l (l.length : Int) (i : Int) y2 y3 acc = k y2 y3 (acc ++ l.drop i) := by
 have hn := hl.n
 intro m
 induction m with
 | zero =>
  intro i hi f hf acc ha
  obtain ⟨f, rfl⟩ : ∃ g, f = g + 1 := ⟨f - 1, by omega⟩
  rw [guard_client_l1, dF (by omega), cF, List.drop_of_length_le (by omega), List.append_nil]
 | succ m ih =>
  intro i hi f hf acc ha
  obtain ⟨f, rfl⟩ : ∃ g, f = g + 1 := ⟨f - 1, by omega⟩
  have hb := hl.b _ (ix_mem l (i : Int) (by omega))
  rw [guard_client_l1, dT (by omega), cT, G_on (by omega), cloneBy_eq _ (by omega), obs, G_on (by simp; omega), G_on (by unfold I; omega), show ((i : Int) + 1) = ((i + 1 : Nat) : Int) from by omega, ih (i + 1) (by omega) f (by omega) _ (by simp; omega), ix_drop l i (by omega), List.append_assoc]; rfl
theorem gclient_eq (c : Mk.Client) (h : Smk c) : guard_client c = some c := by
 have h1 := h.k; have h2 := h.g
 unfold guard_client
 simp only [J]
 have := fun k y2 y3 => gclient_loop c.Box h.b k y2 y3 c.Box.length 0 (by omega) (((c.Box.length : Int) - 0).toNat + 1) (by omega) [] (by simp)
 rw [show ((0 : Nat) : Int) = 0 from rfl] at this
 rw [cloneCa_eq _ (by omega), obs, cloneRe_eq _ (by omega), obs, this]; rfl
theorem gown_loop (l : List Mk.Client) (hn : l.length ≤ 1000) (hl : ∀ x ∈ l, Smk x) (k : Mk.Machine → Mk.Machine → List Mk.Client → Option Mk.Machine) (y2 y3 : Mk.Machine) : ∀ (m i : Nat), i + m = l.length → ∀ f : Nat, m < f → ∀ acc : List Mk.Client, acc.length ≤ i →
  guard_Own_l1 k f l (l.length : Int) (i : Int) y2 y3 acc = k y2 y3 (acc ++ l.drop i) := by
 intro m
 induction m with
 | zero =>
  intro i hi f hf acc ha
  obtain ⟨f, rfl⟩ : ∃ g, f = g + 1 := ⟨f - 1, by omega⟩
  rw [guard_Own_l1, dF (by omega), cF, List.drop_of_length_le (by omega), List.append_nil]
 | succ m ih =>
  intro i hi f hf acc ha
  obtain ⟨f, rfl⟩ : ∃ g, f = g + 1 := ⟨f - 1, by omega⟩
  have hb := hl _ (ix_mem l (i : Int) (by omega))
  rw [guard_Own_l1, dT (by omega), cT, G_on (by omega), gclient_eq _ hb, obs, G_on (by simp; omega), G_on (by unfold I; omega), show ((i : Int) + 1) = ((i + 1 : Nat) : Int) from by omega, ih (i + 1) (by omega) f (by omega) _ (by simp; omega), ix_drop l i (by omega), List.append_assoc]; rfl
theorem gown_eq (m : Mk.Machine) (h : Smm m) : guard_Own m = some m := by
 unfold guard_Own
 simp only [J]
 have := fun k y2 y3 => gown_loop m.Clients h.n h.c k y2 y3 m.Clients.length 0 (by omega) (((m.Clients.length : Int) - 0).toNat + 1) (by omega) [] (by simp)
 rw [show ((0 : Nat) : Int) = 0 from rfl] at this
 rw [own_eq h.s, obs, vown_eq _ h.b h.p, obs, this]; rfl
def pauseG (n : Int) : Int := if 3 < (if n < 1 then 1 else n) then 3 else (if n < 1 then 1 else n)
theorem gpause_eq (n : Int) : guard_Pause n = some (pauseG n) := rfl
theorem pauseG_of (n : Int) : pauseG n = pauseOf n := by
 unfold pauseG pauseOf
 repeat' split
 all_goals omega
theorem gfall_eq (m : Mk.Machine) (h : Smm m) (hf : 0 ≤ m.Falls ∧ m.Falls ≤ 6) : guard_Fall m = some (fall m) := by
 unfold guard_Fall
 rw [gown_eq m h, obs]
 obtain ⟨s, v, u, p, f, cl⟩ := m
 simp only at hf
 unfold fall
 cases u with
 | false => rfl
 | true =>
  simp only [nT, cF, Bool.true_eq_false, if_false]
  by_cases h : 5 < f
  ·rw [dT (show (6 : Int) ≤ f from by omega), cT, if_pos h]
  ·rw [dF (by omega), cF, G_on (by unfold I; omega), gpause_eq, obs, if_neg h, pauseG_of]; rfl
theorem gtick_eq (m : Mk.Machine) (h : Smm m) (hp : 0 ≤ m.Pause ∧ m.Pause ≤ 1000) (hg : 0 ≤ m.Server.Gen ∧ m.Server.Gen ≤ 1000) : guard_Tick m = some (tick m) := by
 have hs := h.s
 unfold guard_Tick
 rw [gown_eq m h, obs]
 obtain ⟨s, v, u, p, f, cl⟩ := m
 simp only at hs hp hg
 unfold tick
 simp only [J]
 cases u with
 | true => rfl
 | false =>
  simp only [cF, Bool.false_eq_true, if_false]
  rw [G_on (by unfold I; omega)]
  by_cases h : 1 < p
  ·rw [dF (by omega), cF, if_pos h]
  ·rw [dT (by omega), cT, sback_eq hs, obs, G_on (by unfold I; omega), if_neg h]; rfl
end Sp
end
section
namespace Sp
section
variable {cs : List (List Mk.Call)} {m : Mk.Machine}
theorem Inv.pause (h : Inv cs m) : 0 ≤ m.Pause ∧ m.Pause ≤ 1000 := by
 rcases Bool.eq_false_or_eq_true m.Up with hu | hu
 ·have := (h.up hu).1; omega
 ·have := h.down hu; omega
theorem Inv.gtick (hcs : CsOk cs) (h : Inv cs m) : guard_Tick m = some (tick m) := gtick_eq m (h.smm hcs) h.pause ⟨h.gen, by have := h.gen6; omega⟩
end
end Sp
end
section
namespace Sp
structure RtW (c : List Int) (l : List Mk.Write) : Prop where
 len : c.length = 11
 n : ix c 0 = l.length
 le : l.length ≤ 5
 ats : ∀ i : Nat, i < l.length → ix c (1 + 2 * (i : Int)) = (ix l i).At ∧ ix c (2 + 2 * (i : Int)) = (ix l i).N
 at1 : ∀ w ∈ l, 1 ≤ w.At ∧ w.At ≤ 255 ∧ -1073741824 ≤ w.N ∧ w.N ≤ 1073741824
theorem Rt.w {c : List Int} {l : List Mk.Write} (h : Rt c l) : RtW c l := ⟨h.len, h.n, h.le, h.ats, h.at1⟩
theorem RtW.ixb {c : List Int} {l : List Mk.Write} (h : RtW c l) (i : Int) (hi : 0 ≤ i ∧ i < l.length) : 1 ≤ (ix l i).At ∧ (ix l i).At ≤ 255 ∧ -1073741824 ≤ (ix l i).N ∧ (ix l i).N ≤ 1073741824 := h.at1 _ (ix_mem l i hi)
theorem RtW.call {c : List Int} {l : List Mk.Write} (h : RtW c l) {x : Int} (hk : 0 ≤ pos l x) : -1073741824 ≤ (ix l (pos l x)).N ∧ (ix l (pos l x)).N ≤ 1073741824 := by
 have := h.ixb (pos l x) ⟨hk, (pos_range l x).2⟩; omega
theorem find_loopW {c : List Int} {l : List Mk.Write} (h : RtW c l) (k : Unit → Option Int) (hk : k () = some (-1)) (x : Int) : ∀ (m i : Nat), i + m = l.length →
  cell_Find_l1 k (m + 1) c x (l.length : Int) (i : Int) = some (if pos (l.drop i) x < 0 then -1 else pos (l.drop i) x + i) := by
 intro m
 induction m with
 | zero =>
  intro i hi
  rw [cell_Find_l1, List.drop_of_length_le (by omega)]
  simp [pos, hk, show ¬ ((i : Int) < l.length) from by omega]
 | succ m ih =>
  intro i hi
  have hle := h.le
  have hlen := h.len
  have hat := (h.ats i (by omega)).1
  rw [cell_Find_l1, dT (show (i : Int) < l.length from by omega), cT, G_on (by unfold I; omega), G_on (by unfold I; omega), G_on (by omega), hat, ix_drop l i (by omega)]
  by_cases e : (ix l i).At = x
  ·simp [e, pos]
  ·rw [dF e, cF, G_on (by unfold I; omega)]
   have := ih (i + 1) (by omega)
   rw [show ((i : Int) + 1) = ((i + 1 : Nat) : Int) from by omega, this]
   simp only [pos, e, if_false]
   by_cases h2 : pos (l.drop (i + 1)) x < 0
   ·simp [h2]
   ·have := (pos_range (l.drop (i + 1)) x)
    rw [if_neg h2, if_neg h2, if_neg (by omega)]
    congr 1; omega
theorem find_eqW {c : List Int} {l : List Mk.Write} (h : RtW c l) (x : Int) : cell_Find c x = some (pos l x) := by
 unfold cell_Find
 simp only [J]
 have hlen := h.len
 have hp := pos_range l x
 rw [G_on (by omega), h.n, show ((l.length : Int) - 0).toNat + 1 = l.length + 1 from by omega]
 have := find_loopW h (fun _ => some (-1)) rfl x l.length 0 (by omega)
 rw [show ((0 : Int)) = ((0 : Nat) : Int) from rfl, this, List.drop_zero]
 congr 1
 split <;> omega
theorem RtW.at (c : List Int) (l : List Mk.Write) (h : RtW c l) (k : Int) (hk : 0 ≤ k ∧ k < l.length) : ix c (1 + 2 * k) = (ix l k).At ∧ ix c (2 + 2 * k) = (ix l k).N := by
 have := h.ats k.toNat (by omega)
 rwa [show ((k.toNat : Nat) : Int) = k from by omega] at this
theorem make_eqW {c : List Int} {l : List Mk.Write} {call : Mk.Call} (h : RtW c l) (hc : CallOk call) : plan_Make c call = some (planR l call) := by
 have hle := h.le
 have hlen := h.len
 have hn := h.n
 have hr := pos_range l call.Name
 have ho := pos_range l call.Other
 have hnum := hc.num
 have hk := hc.kind
 have h1 : 0 ≤ pos l call.Name → ix c (2 + 2 * pos l call.Name) = (ix l (pos l call.Name)).N := fun hp => (h.at c l _ ⟨hp, hr.2⟩).2
 have h2 : 0 ≤ pos l call.Other → ix c (2 + 2 * pos l call.Other) = (ix l (pos l call.Other)).N := fun hp => (h.at c l _ ⟨hp, ho.2⟩).2
 have h3 : 0 ≤ pos l call.Name → ix c (2 + 2 * ((l.length : Int) - 1)) = (ix l ((l.length : Int) - 1)).N := fun hp => (h.at c l _ ⟨by omega, by omega⟩).2
 have h4 : 0 ≤ pos l call.Name → ix c (1 + 2 * ((l.length : Int) - 1)) = (ix l ((l.length : Int) - 1)).At := fun hp => (h.at c l _ ⟨by omega, by omega⟩).1
 have hb : 0 ≤ pos l call.Name → -1073741824 ≤ (ix l (pos l call.Name)).N ∧ (ix l (pos l call.Name)).N ≤ 1073741824 := fun hp => h.call hp
 unfold plan_Make planR
 rw [find_eqW h, find_eqW h]
 have e1 : (2 + 2 * pos l call.Name - 1) = 1 + 2 * pos l call.Name := by omega
 have e2 : (2 + 2 * ((l.length : Int) - 1) - 1) = 1 + 2 * ((l.length : Int) - 1) := by omega
 have e3 : (2 + 2 * (l.length : Int) - 1) = 1 + 2 * (l.length : Int) := by omega
 have kk : call.Kind = 1 ∨ call.Kind = 2 ∨ call.Kind = 3 ∨ call.Kind = 4 ∨ call.Kind = 5 ∨ call.Kind = 6 := by omega
 by_cases hp : pos l call.Name < 0
 ·by_cases h5 : 5 ≤ (l.length : Int)
  all_goals
   rcases kk with k | k | k | k | k | k <;> simp (disch := first | omega | (unfold I; omega)) [k, hp, h5, plan_at, ↓G_on, ↓Bool.cond_eq_ite, ↓reduceIte, J, hn, e3]
 ·have hp0 : 0 ≤ pos l call.Name := by omega
  have hb := hb hp0
  rcases kk with k | k | k | k | k | k
  ·simp (disch := first | omega | (unfold I; omega)) [k, hp, plan_at, ↓G_on, ↓Bool.cond_eq_ite, ↓reduceIte, J, hn, h1 hp0]
  ·simp (disch := first | omega | (unfold I; omega)) [k, hp, plan_at, ↓G_on, ↓Bool.cond_eq_ite, ↓reduceIte, J, hn, h1 hp0]
  ·by_cases hl : pos l call.Name < (l.length : Int) - 1 <;>
   simp (disch := first | omega | (unfold I; omega)) [k, hp, plan_at, ↓G_on, ↓Bool.cond_eq_ite, ↓reduceIte, J, hn, h1 hp0, hl, h3 hp0, h4 hp0, e1, e2]
  ·generalize hx : (ix l (pos l call.Name)).N + call.N = x
   by_cases l1 : -1073741824 ≤ x
   ·by_cases l2 : x ≤ 1073741824
    ·have l3 : ¬ 1073741824 < x := by omega
     have l4 : ¬ x < -1073741824 := by omega
     simp (disch := first | omega | (unfold I; omega)) [k, hp, plan_at, ↓G_on, ↓Bool.cond_eq_ite, ↓reduceIte, J, hn, h1 hp0, hx, l1, l2, l3, l4]
    ·have l3 : 1073741824 < x := by omega
     simp (disch := first | omega | (unfold I; omega)) [k, hp, plan_at, ↓G_on, ↓Bool.cond_eq_ite, ↓reduceIte, J, hn, h1 hp0, hx, l1, l2, l3]
   ·have l4 : x < -1073741824 := by omega
    simp (disch := first | omega | (unfold I; omega)) [k, hp, plan_at, ↓G_on, ↓Bool.cond_eq_ite, ↓reduceIte, J, hn, h1 hp0, hx, l1, l4]
  ·simp (disch := first | omega | (unfold I; omega)) [k, hp, plan_at, ↓G_on, ↓Bool.cond_eq_ite, ↓reduceIte, J, hn, h1 hp0]
  ·by_cases hl : pos l call.Other < 0
   ·simp (disch := first | omega | (unfold I; omega)) [k, hp, plan_at, ↓G_on, ↓Bool.cond_eq_ite, ↓reduceIte, J, hn, h1 hp0, hl, find_eqW h]
   ·simp (disch := first | omega | (unfold I; omega)) [k, hp, plan_at, ↓G_on, ↓Bool.cond_eq_ite, ↓reduceIte, J, hn, h1 hp0, hl, find_eqW h, h2 (by omega)]
theorem entries_ofW {c : List Int} {l : List Mk.Write} (h : RtW c l) : entries c = l := by
 unfold entries
 rw [h.n]
 apply List.ext_getElem
 ·simp
 ·intro i h1 h2
  simp only [Int.toNat_natCast, List.length_map, List.length_range] at h1
  have := h.ats i h1
  simp only [Int.toNat_natCast, List.getElem_map, List.getElem_range, cat, cnum, this, ix_nat l i h1]
end Sp
end
section
namespace Sp
def StepsW : List Int → List Mk.Write → Prop
 | c, [] => ∃ l, RtW c l
 | c, w :: p => (∃ l, RtW c l) ∧ StepsW (wr c w) p
theorem StepsW.here {c : List Int} {p : List Mk.Write} (h : StepsW c p) : ∃ l, RtW c l := by
 cases p with
 | nil => exact h
 | cons w p => exact h.1
theorem StepsW.part {c : List Int} (d p : List Mk.Write) (h : StepsW c (d ++ p)) : StepsW (wrs c d) p := by
 induction d generalizing c with
 | nil => exact h
 | cons w d ih => exact ih h.2
theorem RtW.mem {l : List Mk.Write} (h1 : ∀ i : Nat, i < l.length → 1 ≤ (ix l (i : Int)).At ∧ (ix l (i : Int)).At ≤ 255 ∧ -1073741824 ≤ (ix l (i : Int)).N ∧ (ix l (i : Int)).N ≤ 1073741824) : ∀ w ∈ l, 1 ≤ w.At ∧ w.At ≤ 255 ∧ -1073741824 ≤ w.N ∧ w.N ≤ 1073741824 := fun w hw => by
 obtain ⟨i, hi, rfl⟩ := mem_ix hw
 exact h1 i hi
theorem rtW_wr1 {c : List Int} {l : List Mk.Write} (h : RtW c l) (k : Int) (hk : 0 ≤ k ∧ k < l.length) (x : Int) (hx : 1 ≤ x ∧ x ≤ 255) : RtW (wr c ⟨1 + 2 * k, x⟩) (l.set k.toNat ⟨x, (ix l k).N⟩) := by
 have hle := h.le
 have hlen := h.len
 refine ⟨by rw [wr_len]; exact hlen, ?_, by simpa using hle, fun i hi => ?_, RtW.mem fun i hi => ?_⟩
 ·rw [ix_wr _ _ _ (by omega), if_neg (by show ¬ (1 + 2 * k = 0); omega), h.n]; simp
 ·simp only [List.length_set] at hi
  have := h.ats i hi
  rw [ix_wr _ _ _ (by omega), ix_wr _ _ _ (by omega), ix_set _ _ _ hk (by omega)]
  show (if 1 + 2 * k = 1 + 2 * (i : Int) then x else _) = _ ∧ (if 1 + 2 * k = 2 + 2 * (i : Int) then x else _) = _
  rw [if_neg (by omega : ¬ (1 + 2 * k = 2 + 2 * (i : Int)))]
  by_cases e : k = i
  ·rw [if_pos (by omega), if_pos e, this.2, e]; exact ⟨rfl, rfl⟩
  ·rw [if_neg (by omega), if_neg e, this.1, this.2]; exact ⟨rfl, rfl⟩
 ·simp only [List.length_set] at hi
  rw [ix_set _ _ _ hk (by omega)]
  split
  ·have := h.ixb k hk; exact ⟨hx.1, hx.2, this.2.2⟩
  ·exact h.ixb _ (by omega)
theorem rtW_wr2 {c : List Int} {l : List Mk.Write} (h : RtW c l) (k : Int) (hk : 0 ≤ k ∧ k < l.length) (x : Int) (hx : -1073741824 ≤ x ∧ x ≤ 1073741824) : RtW (wr c ⟨2 + 2 * k, x⟩) (l.set k.toNat ⟨(ix l k).At, x⟩) := by
 have hle := h.le
 have hlen := h.len
 refine ⟨by rw [wr_len]; exact hlen, ?_, by simpa using hle, fun i hi => ?_, RtW.mem fun i hi => ?_⟩
 ·rw [ix_wr _ _ _ (by omega), if_neg (by show ¬ (2 + 2 * k = 0); omega), h.n]; simp
 ·simp only [List.length_set] at hi
  have := h.ats i hi
  rw [ix_wr _ _ _ (by omega), ix_wr _ _ _ (by omega), ix_set _ _ _ hk (by omega)]
  show (if 2 + 2 * k = 1 + 2 * (i : Int) then x else _) = _ ∧ (if 2 + 2 * k = 2 + 2 * (i : Int) then x else _) = _
  rw [if_neg (by omega : ¬ (2 + 2 * k = 1 + 2 * (i : Int)))]
  by_cases e : k = i
  ·rw [if_pos e, if_pos (by omega : 2 + 2 * k = 2 + 2 * (i : Int)), this.1, e]; exact ⟨rfl, rfl⟩
  ·rw [if_neg e, if_neg (by omega : ¬ (2 + 2 * k = 2 + 2 * (i : Int))), this.1, this.2]; exact ⟨rfl, rfl⟩
 ·simp only [List.length_set] at hi
  rw [ix_set _ _ _ hk (by omega)]
  split
  ·have := h.ixb k hk; exact ⟨this.1, this.2.1, hx⟩
  ·exact h.ixb _ (by omega)
theorem rtW_wrB {c : List Int} {l : List Mk.Write} (h : RtW c l) (w : Mk.Write) (hw : 1 + 2 * (l.length : Int) ≤ w.At) : RtW (wr c w) l := by
 have hle := h.le
 have hlen := h.len
 refine ⟨by rw [wr_len]; exact hlen, ?_, hle, fun i hi => ?_, h.at1⟩
 ·rw [ix_wr _ _ _ (by omega), if_neg (by omega), h.n]
 ·rw [ix_wr _ _ _ (by omega), ix_wr _ _ _ (by omega), if_neg (by omega), if_neg (by omega)]
  exact h.ats i hi
theorem rtW_less {c : List Int} {l : List Mk.Write} (h : RtW c l) (h0 : 0 < l.length) : RtW (wr c ⟨0, (l.length : Int) - 1⟩) (l.take (l.length - 1)) := by
 have hle := h.le
 have hlen := h.len
 refine ⟨by rw [wr_len]; exact hlen, ?_, by simp; omega, fun i hi => ?_, fun w hw => h.at1 w (List.mem_of_mem_take hw)⟩
 ·rw [ix_wr _ _ _ (by omega), if_pos rfl]; simp; omega
 ·simp only [List.length_take] at hi
  rw [ix_wr _ _ _ (by omega), ix_wr _ _ _ (by omega), if_neg (by show ¬ (0 = 1 + 2 * (i : Int)); omega), if_neg (by show ¬ (0 = 2 + 2 * (i : Int)); omega), ix_take' _ _ _ (by omega)]
  exact h.ats i (by omega)
theorem rtW_more {c : List Int} {l : List Mk.Write} (h : RtW c l) (h5 : l.length < 5) {x n : Int} (h1 : ix c (1 + 2 * (l.length : Int)) = x) (h2 : ix c (2 + 2 * (l.length : Int)) = n) (hx : 1 ≤ x ∧ x ≤ 255) (hn : -1073741824 ≤ n ∧ n ≤ 1073741824) : RtW (wr c ⟨0, (l.length : Int) + 1⟩) (l ++ [⟨x, n⟩]) := by
 have hle := h.le
 have hlen := h.len
 refine ⟨by rw [wr_len]; exact hlen, ?_, by simp; omega, fun i hi => ?_, fun w hw => ?_⟩
 ·rw [ix_wr _ _ _ (by omega), if_pos rfl]; simp
 ·simp only [List.length_append, List.length_cons, List.length_nil] at hi
  rw [ix_wr _ _ _ (by omega), ix_wr _ _ _ (by omega), if_neg (by show ¬ (0 = 1 + 2 * (i : Int)); omega), if_neg (by show ¬ (0 = 2 + 2 * (i : Int)); omega), ix_snoc _ _ (by omega)]
  by_cases e : (i : Int) = l.length
  ·rw [if_pos e, e, h1, h2]; exact ⟨rfl, rfl⟩
  ·rw [if_neg e]; exact h.ats i (by omega)
 ·rcases List.mem_append.1 hw with hw | hw
  ·exact h.at1 w hw
  ·simp only [List.mem_singleton] at hw; subst hw; exact ⟨hx.1, hx.2, hn⟩
theorem steps_plan {c : List Int} {l : List Mk.Write} {call : Mk.Call} (h : RtW c l) (hc : CallOk call) : StepsW c (planR l call).1 := by
 have hle := h.le
 have hlen := h.len
 have hr := pos_range l call.Name
 have ho := pos_range l call.Other
 have hnum := hc.num
 have hnm := hc.name
 have nop : StepsW c [] := ⟨l, h⟩
 unfold planR
 split
 ·exact nop
 ·split
  ·rename_i k5 hp
   split
   ·split
    ·exact nop
    ·rename_i k1 h5
     have a1 := rtW_wrB h ⟨1 + 2 * (l.length : Int), call.Name⟩ (by simp only; omega)
     have a2 := rtW_wrB a1 ⟨2 + 2 * (l.length : Int), call.N⟩ (by simp only; omega)
     have b1 : ix (wr (wr c ⟨1 + 2 * (l.length : Int), call.Name⟩) ⟨2 + 2 * (l.length : Int), call.N⟩) (1 + 2 * (l.length : Int)) = call.Name := by
      rw [ix_wr _ _ _ (by rw [wr_len]; omega), if_neg (by show ¬ (2 + 2 * (l.length : Int) = _); omega), ix_wr _ _ _ (by omega), if_pos rfl]
     have b2 : ix (wr (wr c ⟨1 + 2 * (l.length : Int), call.Name⟩) ⟨2 + 2 * (l.length : Int), call.N⟩) (2 + 2 * (l.length : Int)) = call.N := by
      rw [ix_wr _ _ _ (by rw [wr_len]; omega), if_pos rfl]
     exact ⟨⟨l, h⟩, ⟨l, a1⟩, ⟨l, a2⟩, _, rtW_more a2 (by omega) b1 b2 (by omega) ⟨hnum.1, hnum.2.1⟩⟩
   ·exact nop
  ·rename_i k5 hp
   have hp0 : 0 ≤ pos l call.Name ∧ pos l call.Name < l.length := by omega
   split
   ·exact ⟨⟨l, h⟩, _, rtW_wr2 h _ hp0 _ ⟨hnum.1, hnum.2.1⟩⟩
   ·split
    ·have hlast := h.ixb ((l.length : Int) - 1) (by omega)
     split
     ·have a1 := rtW_wr1 h _ hp0 _ ⟨hlast.1, hlast.2.1⟩
      have a2 := rtW_wr2 a1 _ (by simp; omega) _ hlast.2.2
      have a3 := rtW_less a2 (by simp; omega)
      simp only [List.length_set] at a3
      exact ⟨⟨_, h⟩, ⟨_, a1⟩, ⟨_, a2⟩, _, a3⟩
     ·exact ⟨⟨l, h⟩, _, rtW_less h (by omega)⟩
    ·split
     ·split
      ·exact nop
      ·exact ⟨⟨l, h⟩, _, rtW_wr2 h _ hp0 _ (by omega)⟩
     ·split
      ·split
       ·exact nop
       ·have ho0 : 0 ≤ pos l call.Other ∧ pos l call.Other < l.length := by omega
        have a1 := rtW_wr2 h _ hp0 _ (h.call (x := call.Other) ho0.1)
        have a2 := rtW_wr2 a1 (pos l call.Other) (by simp; omega) _ (h.call (x := call.Name) hp0.1)
        exact ⟨⟨_, h⟩, ⟨_, a1⟩, _, a2⟩
      ·exact nop
end Sp
end
section
namespace Sp
structure WInv (s : Mk.Store) (v : Mk.Server) (n : Nat) : Prop where
 u : s.Undo.length ≤ n
 a : s.Answers.length ≤ n
 p : s.Past.length ≤ n
 b : Smb v.Box
 pl : v.Plan.length ≤ 1000
 st : StepsW s.Cells (if v.Busy = true then v.Plan else [])
theorem WInv.sz {s : Mk.Store} {v : Mk.Server} {n : Nat} (h : WInv s v n) (hn : n ≤ 1000) : Sz s := by
 obtain ⟨l, hl⟩ := h.st.here
 have h1 := hl.len; have h2 := h.u; have h3 := h.a; have h4 := h.p
 exact ⟨by omega, by omega, by omega, by omega⟩
theorem scome_eq (v : Mk.Server) (hb : Smb v.Box) (hp : v.Plan.length ≤ 1000) (b : List UInt8) (hl : b.length ≤ 140737488355328) : serve_Come v b = some (sCome v b) := by
 have hn := hb.n
 unfold serve_Come sCome
 rw [vown_eq v hb hp, obs]
 by_cases h : 3 ≤ v.Box.length
 ·rw [dT (by omega), cT, if_pos h]
 ·rw [dF (by omega), cF, cloneBy_eq _ hl, obs, G_on (by simp; omega), if_neg h]
theorem readReq_call {b : List UInt8} (h : (readReq b).2 = 0) : CallOk (readReq b).1.Call := by
 unfold readReq at h ⊢
 split at h
 ·cases h
 ·split at h
  ·rename_i h5 h6; exact (h6 h).elim
  ·rename_i h5 h6
   rw [if_neg h5, if_neg h6]
   exact (wreq_ok (Classical.not_not.1 h6)).2.2
theorem stake_eq {s : Mk.Store} {v : Mk.Server} {b : List UInt8} {box : List (List UInt8)} (hB : v.Box = b :: box) (hs : Sz s) (hc : ∃ l, RtW s.Cells l) : serve_take s v = some (take1 s v b box) := by
 obtain ⟨l, hl⟩ := hc
 obtain ⟨g, B, bz, nw, P, sy⟩ := v
 simp only at hB
 subst hB
 have e1 : ix (b :: box) 0 = b := rfl
 have e2 : sub (b :: box) 1 ((b :: box).length : Int) = box := by simp [sub]
 unfold serve_take take1
 simp only [e1, e2]
 rw [G_on (by simp <;> omega), readRequest_eq, obs, G_on (by simp <;> omega)]
 by_cases h1 : (readReq b).2 = 0
 ·rw [dT h1, nT, cF, slast_eq _ _ hs.a, obs]
  simp only [h1, ne_eq, not_true, if_false]
  rw [entries_ofW hl, make_eqW hl (readReq_call h1)]
  cases hq : (last s (readReq b).1.Client).2 with
  | false => simp
  | true =>
   by_cases h3 : (last s (readReq b).1.Client).1.Token = (readReq b).1.Token
   ·have h4 : (readReq b).1.Token ≤ (last s (readReq b).1.Client).1.Token := by omega
    rw [dT h3, Bool.and_self, cT, answer_eq, obs, G_on (ansB_ne _), if_pos ⟨rfl, h4⟩, if_pos h3]
   ·rw [dF h3, Bool.and_false, cF]
    by_cases h4 : (readReq b).1.Token ≤ (last s (readReq b).1.Client).1.Token
    ·rw [dT (by omega), Bool.and_self, cT, if_pos ⟨rfl, h4⟩, if_neg h3]
    ·rw [dF (by omega), Bool.and_false, cF, obs, if_neg (by simp; omega)]
 ·rw [dF h1, nF, cT]
  simp only [ne_eq, h1, not_false_eq_true, if_true]
theorem sgo_eq {s : Mk.Store} {v : Mk.Server} {n : Nat} (h : WInv s v n) (hn : n ≤ 1000) : serve_Go s v = some (serve s v) := by
 have hs := h.sz hn
 have hc := h.st.here
 unfold serve_Go
 rw [vown_eq v h.b h.pl, obs]
 unfold serve
 cases hbz : v.Busy with
 | true =>
  simp only [nT, Bool.false_and, cF, if_true]
  cases hP : v.Plan with
  | cons w p =>
   have e1 : ix (w :: p) 0 = w := rfl
   have e2 : sub (w :: p) 1 ((w :: p).length : Int) = p := by simp [sub]
   rw [dT (by simp <;> omega), cT, G_on (by simp <;> omega), G_on (by simp <;> omega), e1, e2, swrite_eq hs, obs]
  | nil =>
   simp only [List.length_nil]
   rw [dF (by decide), cF, answer_eq, obs, scommit_eq hs, obs, G_on (ansB_ne _)]; rfl
 | false =>
  simp only [nF, Bool.true_and, cT, Bool.false_eq_true, if_false]
  cases hB : v.Box with
  | nil =>
   simp only [List.length_nil]
   rw [dT (by decide), cT, own_eq hs, obs]
  | cons b box =>
   rw [dF (by simp <;> omega), cF, stake_eq hB hs hc, obs, own_eq hs, obs]
theorem wr_wrS (s : Mk.Store) (w : Mk.Write) : (wrS s w).Cells = wr s.Cells w ∧ (wrS s w).Undo.length ≤ s.Undo.length + 1 ∧ (wrS s w).Answers = s.Answers ∧ (wrS s w).Past = s.Past := by
 unfold wrS
 split
 ·exact ⟨rfl, by simp, rfl, rfl⟩
 ·rename_i h
  refine ⟨?_, by omega, rfl, rfl⟩
  unfold wr; rw [if_neg h]
theorem WInv.step {s : Mk.Store} {v : Mk.Server} {n : Nat} (h : WInv s v n) : WInv (serve s v).1 (serve s v).2.1 (n + 1) := by
 have h1 := h.u; have h2 := h.a; have h3 := h.p; have h4 := h.pl
 have hst := h.st
 have hb := h.b
 unfold serve
 cases hbz : v.Busy with
 | true =>
  rw [if_pos rfl]
  rw [hbz, if_pos rfl] at hst
  cases hP : v.Plan with
  | cons w p =>
   rw [hP] at hst h4
   obtain ⟨e1, e2, e3, e4⟩ := wr_wrS s w
   exact ⟨by simp only; omega, by simp only [e3]; omega, by simp only [e4]; omega, hb, by simp at h4 ⊢; omega, by simp only [hbz, if_true, e1]; exact hst.2⟩
  | nil =>
   have := ansPut_len s.Answers ⟨v.Now.Client, v.Now.Token, v.Says⟩
   exact ⟨by simp [commit], by simp only [commit]; omega, by simp [commit]; omega, hb, by simp, by simpa using ⟨_, hst.here.choose_spec⟩⟩
 | false =>
  rw [if_neg (by simp)]
  rw [hbz, if_neg (by simp)] at hst
  cases hB : v.Box with
  | nil => exact ⟨by simp only; omega, by simp only; omega, by simp only; omega, hb, by simp only; omega, by simp only [hbz]; simpa using hst⟩
  | cons b box =>
   have hb2 : Smb box := ⟨by have := hb.n; rw [hB] at this; simp at this; omega, fun x hx => hb.b x (by rw [hB]; simp [hx])⟩
   obtain ⟨l, hl⟩ := hst
   show WInv s (take1 s v b box).1 (n + 1)
   unfold take1
   have keep : WInv s { v with Box := box } (n + 1) := ⟨by omega, by omega, by omega, hb2, h4, by simp only [hbz]; exact ⟨l, hl⟩⟩
   split
   ·exact keep
   ·rename_i hr
    split
    ·split
     ·exact keep
     ·exact keep
    ·have hc := readReq_call (Classical.not_not.1 hr)
     refine ⟨by omega, by omega, by omega, hb2, ?_, ?_⟩
     ·have := planR_len (entries s.Cells) (readReq b).1.Call
      simp only; omega
     ·simp only [if_true]
      rw [entries_ofW hl]
      exact steps_plan hl hc
theorem Inv.winv {cs : List (List Mk.Call)} {m : Mk.Machine} (hcs : CsOk cs) (h : Inv cs m) : WInv m.Store m.Server 24 := by
 have hsm := h.smm hcs
 obtain ⟨b0, done, hR, hC, hU, ⟨k, rest, hk, hd⟩, _, hp⟩ := h.st
 have h1 := fwd_len b0 done
 have h2 := plan_part hd
 have h3 := h.law.len hcs
 have h4 := h.law.ans_len hcs
 refine ⟨by rw [hU, List.length_reverse]; omega, by rw [h.ans]; omega, h3, hsm.b, hsm.p, ?_⟩
 cases hb : m.Server.Busy with
 | true =>
  rw [if_pos rfl, hC]
  obtain ⟨c, hc, n1, n2, _⟩ := h.now hb
  have hcal : CallOk m.Server.Now.Call := by rw [n1]; exact hcs.call hc (by omega)
  have := steps_plan hR.w hcal
  rw [hp hb] at this
  exact this.part _ _
 | false =>
  rw [if_neg (by simp), hC]
  have := steps_plan hR.w hk
  rw [hd] at this
  exact (this.part _ _).here
end Sp
end
section
namespace Sp
section
variable {cs : List (List Mk.Call)} {m : Mk.Machine}
theorem cl_eta (m : Mk.Machine) : ({ ({ m with Clients := ([] : List Mk.Client) }) with Clients := m.Clients } : Mk.Machine) = m := rfl
theorem reqB_isEmpty (r : Mk.Request) : (reqB r).isEmpty = false := by unfold reqB; rfl
theorem ansB_isEmpty (a : Mk.Answer) : (ansB a).isEmpty = false := by unfold ansB; rfl
theorem mgoes_eq (hcs : CsOk cs) (h : Inv cs m) (n : Int) : machine_goes m n = some (doC m n) := by
 have hk := h.nk
 have hn3 := hcs.n
 have hbx := h.box
 have hsm := h.smm hcs
 unfold machine_goes doC
 simp only [J]
 by_cases hn : 0 ≤ n ∧ n < cs.length
 ·have hx := h.cl n hn
  have h8 := hx.le8 hcs h.law hn
  have hcb := hx.box
  have hf : (decide (n < 0) || decide ((m.Clients.length : Int) ≤ n)) = false := by
   simp only [Bool.or_eq_false_iff, decide_eq_false_iff_not]; omega
  rw [hf, cF, G_on (by omega), cgo_eq _ _ _ _ (by omega) (by omega) ⟨hx.at0, by omega⟩, obs, if_neg (show ¬ (n < 0 ∨ (m.Clients.length : Int) ≤ n) from by omega)]
  cases hB : (ix m.Clients n).Box with
  | cons b box =>
   have e : cGo (ix m.Clients n) n m.Server.Gen m.Up = (hear (ix m.Clients n) b box n, [], 0) := by unfold cGo; rw [hB]
   rw [e]
   dsimp only
   rw [dT (p := (0 : Int) = 0) rfl, nT, cF, List.isEmpty_nil, nT, cF, G_on (by omega), if_neg (by simp), if_pos rfl]; rfl
  | nil =>
   by_cases c1 : ((ix m.Clients n).Calls.length : Int) ≤ (ix m.Clients n).At
   ·have e : cGo (ix m.Clients n) n m.Server.Gen m.Up = (ix m.Clients n, [], 11) := by unfold cGo; rw [hB]; simp [c1]
    rw [e]; rfl
   ·rcases Bool.eq_false_or_eq_true m.Up with hu | hu
    rotate_left
    ·have e : cGo (ix m.Clients n) n m.Server.Gen m.Up = (ix m.Clients n, [], 10) := by unfold cGo; rw [hB]; simp [c1, hu]
     rw [e]; rfl
    ·by_cases c2 : (ix m.Clients n).Sent = true ∧ (ix m.Clients n).Gen = m.Server.Gen
     ·have e : cGo (ix m.Clients n) n m.Server.Gen m.Up = (ix m.Clients n, [], 12) := by unfold cGo; rw [hB]; simp [c1, c2, hu]
      rw [e]; rfl
     ·have e : cGo (ix m.Clients n) n m.Server.Gen m.Up = ({ (ix m.Clients n) with Sent := true, Gen := m.Server.Gen }, reqB ⟨n, (ix m.Clients n).At, ix (ix m.Clients n).Calls (ix m.Clients n).At⟩, 0) := by unfold cGo; rw [hB]; simp [c1, c2, hu, hB]
      rw [e]
      dsimp only
      rw [dT (p := (0 : Int) = 0) rfl, nT, cF, reqB_isEmpty, nF, cT, scome_eq _ hsm.b hsm.p _ (by rw [reqB_len]; decide), obs, if_neg (by simp), if_neg (reqB_ne _)]
      by_cases c3 : 3 ≤ m.Server.Box.length
      ·have e2 : sCome m.Server (reqB ⟨n, (ix m.Clients n).At, ix (ix m.Clients n).Calls (ix m.Clients n).At⟩) = (m.Server, 9) := by unfold sCome; rw [if_pos c3]
       rw [e2]; rfl
      ·have e2 : sCome m.Server (reqB ⟨n, (ix m.Clients n).At, ix (ix m.Clients n).Calls (ix m.Clients n).At⟩) = ({ m.Server with Box := m.Server.Box ++ [reqB ⟨n, (ix m.Clients n).At, ix (ix m.Clients n).Calls (ix m.Clients n).At⟩] }, 0) := by unfold sCome; rw [if_neg c3]
       rw [e2]
       dsimp only
       rw [dT (p := (0 : Int) = 0) rfl, nT, cF, G_on (by omega), if_neg (by simp)]; rfl
 ·have hf : (decide (n < 0) || decide ((m.Clients.length : Int) ≤ n)) = true := by
   simp only [Bool.or_eq_true, decide_eq_true_eq]; omega
  rw [hf, cT, if_pos (by omega)]
theorem mserves_eq (hcs : CsOk cs) (h : Inv cs m) (n : Int) : machine_serves m n = some (doS m) := by
 have hk := h.nk
 have hn3 := hcs.n
 have hw := h.winv hcs
 unfold machine_serves doS
 simp only [J]
 rcases Bool.eq_false_or_eq_true m.Up with hu | hu
 rotate_left
 ·rw [if_pos hu, hu]; simp only [nF, cT]; rw [← hu]
 ·rw [if_neg (by rw [hu]; simp), hu, nT, cF, sgo_eq hw (by omega), obs]
  obtain ⟨i1, i2⟩ := h.served hcs hu
  by_cases h0 : (serve m.Store m.Server).2.2.2 = 0
  ·rw [dT h0, nT, cF, if_neg (by simp [h0])]
   rcases i2 h0 with e | ⟨c, t, hc, ht, e⟩
   ·rw [e]
    simp only [List.isEmpty_nil, cT]
    unfold Sp.toC
    rw [if_pos rfl]
   ·have hok : RepOk (ix (heardF [] (serve m.Store m.Server).1.Past c) t) := i1.law.heard_ok hcs c _ (ix_mem _ t (by rw [heardF_len]; exact ht))
    have h8 := hcs.len hc
    have hcl := i1.law.cnt_le c hc
    simp only at hcl
    have hread : readAns (serve m.Store m.Server).2.2.1 = (⟨c, t, ix (heardF [] (serve m.Store m.Server).1.Past c) t⟩, 0) := by rw [e]; exact readAns_ansB (wans_of (by omega) (by omega) hok)
    have hat : ((ix (serve m.Store m.Server).2.2.1 1).toNat : Int) = c := by rw [e]; exact ansB_at _ (by simp only; omega)
    rw [show (serve m.Store m.Server).2.2.1.isEmpty = false from by rw [e]; exact ansB_isEmpty _, cF, readAnswer_eq, obs, hread]
    dsimp only
    rw [dT (p := (0 : Int) = 0) rfl, dT (show c < (m.Clients.length : Int) from by omega), Bool.and_self, cT, G_on (by omega), ccome_eq _ _ (by rw [e, ansB_len]; decide), obs, G_on (by omega)]
    unfold Sp.toC
    rw [if_neg (by rw [e]; exact ansB_ne _), hat, if_pos (by show c < (m.Clients.length : Int); omega)]
    rw [← hu]; rfl
  ·rw [dF h0, nF, cT, if_pos (by simpa using h0), ← hu]
theorem mdo_eq (hcs : CsOk cs) (h : Inv cs m) (s : Mk.Step) : machine_Do m s = some (doM m s) := by
 have hsm := h.smm hcs
 unfold machine_Do doM
 rw [gown_eq m hsm, obs]
 by_cases h1 : s.Kind = 1
 ·rw [dT h1, cT, if_pos h1, cl_eta, mgoes_eq hcs h, obs]
 ·rw [dF h1, cF, if_neg h1]
  by_cases h2 : s.Kind = 2
  ·rw [dT h2, cT, if_pos h2, cl_eta, mserves_eq hcs h, obs]
  ·rw [dF h2, cF, if_neg h2]
   by_cases h3 : s.Kind = 3
   ·rw [dT h3, cT, if_pos h3, cl_eta]
    unfold machine_falls
    rw [cl_eta, gfall_eq m hsm h.falls]; rfl
   ·rw [dF h3, cF, if_neg h3]
    by_cases h4 : s.Kind = 4
    ·rw [dT h4, cT, if_pos h4, cl_eta]
     unfold machine_ticks
     rw [cl_eta, h.gtick hcs]; rfl
    ·rw [dF h4, cF, if_neg h4]
end
end Sp
end
section
namespace Sp
theorem rall_loop (rs : List Mk.Request) (hl : rs.length * 48 ≤ 140737488355328) (hr : ∀ r ∈ rs, CallOk r.Call) (k : List Mk.Write → List Mk.Reply → Option (List Mk.Write × List Mk.Reply)) : ∀ (m i : Nat), i + m = rs.length → ∀ f : Nat, m < f → ∀ (l : List Mk.Write) (acc : List Mk.Reply), Nm l → acc.length = i →
  mkref1_All_l1 k f l rs (rs.length : Int) (i : Int) acc = k (allN l (rs.drop i)) (acc ++ allR l (rs.drop i)) := by
 intro m
 induction m with
 | zero =>
  intro i hi f hf l acc hn ha
  obtain ⟨f, rfl⟩ : ∃ g, f = g + 1 := ⟨f - 1, by omega⟩
  rw [mkref1_All_l1, dF (by omega), cF, List.drop_of_length_le (by omega)]; simp [allN, allR]
 | succ m ih =>
  intro i hi f hf l acc hn ha
  obtain ⟨f, rfl⟩ : ∃ g, f = g + 1 := ⟨f - 1, by omega⟩
  have hc := hr _ (ix_mem rs (i : Int) (by omega))
  rw [mkref1_All_l1, dT (by omega), cT, G_on (by omega), do_eqP hn hc, obs, G_on (by simp; omega), G_on (by unfold I; omega), show ((i : Int) + 1) = ((i + 1 : Nat) : Int) from by omega,
   ih (i + 1) (by omega) f (by omega) _ _ (nm_doP hn hc) (by simp [ha]), ix_drop rs i (by omega)]
  simp [allN, allR]
theorem rall_eq (rs : List Mk.Request) (hl : rs.length * 48 ≤ 140737488355328) (hr : ∀ r ∈ rs, CallOk r.Call) : mkref1_All rs = some (allN [] rs, allR [] rs) := by
 unfold mkref1_All
 simp only [J]
 have := rall_loop rs hl hr (fun a b => some (a, b)) rs.length 0 (by omega) (((rs.length : Int) - 0).toNat + 1) (by omega) [] [] nm_nil rfl
 rw [show ((0 : Nat) : Int) = 0 from rfl] at this
 rw [this]; simp
end Sp
end
section
namespace Sp
structure Mono (m m' : Mk.Machine) : Prop where
 past : ∃ e, m'.Store.Past = m.Store.Past ++ e
 len : m'.Clients.length = m.Clients.length
 at1 : ∀ c : Int, 0 ≤ c → (ix m.Clients c).At ≤ (ix m'.Clients c).At
theorem Mono.trans {a b c : Mk.Machine} (h1 : Mono a b) (h2 : Mono b c) : Mono a c := by
 obtain ⟨e1, p1⟩ := h1.past
 obtain ⟨e2, p2⟩ := h2.past
 exact ⟨⟨e1 ++ e2, by rw [p2, p1, List.append_assoc]⟩, h2.len.trans h1.len, fun x hx => Int.le_trans (h1.at1 x hx) (h2.at1 x hx)⟩
def pick (n : Int) : List Mk.Request → List Mk.Reply → List Mk.Reply
 | r :: rs, y :: ys => if r.Client = n then y :: pick n rs ys else pick n rs ys
 | _, _ => []
theorem ClOk.got_take {cs : List (List Mk.Call)} {p : List Mk.Request} {g c : Int} {x : Mk.Client} (h : ClOk cs p g c x) : x.Got = (heardF [] p c).take x.Got.length ∧ x.Got.length ≤ cnt p c := by
 have h1 := h.got_len
 have h2 := h.at1
 have e : x.At.toNat = x.Got.length := by omega
 exact ⟨by rw [← e]; exact h.got, by omega⟩
theorem heardF_append (l : List Mk.Write) (p e : List Mk.Request) (c : Int) : heardF l (p ++ e) c = heardF l p c ++ heardF (allN l p) e c := by
 induction p generalizing l with
 | nil => rfl
 | cons r p ih =>
  rw [List.cons_append, heardF, heardF, ih]
  split <;> rfl
theorem Mono.got {cs : List (List Mk.Call)} {m x : Mk.Machine} (h : Inv cs m) (hx : Inv cs x) (hm : Mono m x) (c : Int) (hc : 0 ≤ c ∧ c < cs.length) : (ix m.Clients c).Got.length ≤ (ix x.Clients c).Got.length ∧ (ix x.Clients c).Got.take (ix m.Clients c).Got.length = (ix m.Clients c).Got := by
 obtain ⟨e, he⟩ := hm.past
 have a := h.cl c hc
 have b := hx.cl c hc
 have ga := a.got_len
 have gb := b.got_len
 have hat := hm.at1 c hc.1
 obtain ⟨ta, la⟩ := a.got_take
 obtain ⟨tb, lb⟩ := b.got_take
 have hh := heardF_len [] m.Store.Past c
 refine ⟨by omega, ?_⟩
 rw [he, heardF_append] at tb
 rw [tb, List.take_take, Nat.min_eq_left (by omega), List.take_append_of_le_length (by omega), ← ta]
end Sp
end
section
namespace Sp
def idle (l : List Mk.Client) : Bool := l.all fun c => decide ((c.Calls.length : Int) ≤ c.At)
theorem lidle_loop (l : List Mk.Client) (hl : l.length ≤ 1000) (k : Unit → Option Bool) (hk : k () = some true) : ∀ (m i : Nat), i + m = l.length → ∀ f : Nat, m < f →
  look_Idle_l1 k f l (l.length : Int) (i : Int) = some (idle (l.drop i)) := by
 intro m
 induction m with
 | zero =>
  intro i hi f hf
  obtain ⟨f, rfl⟩ : ∃ g, f = g + 1 := ⟨f - 1, by omega⟩
  rw [look_Idle_l1, dF (by omega), cF, hk, List.drop_of_length_le (by omega)]; rfl
 | succ m ih =>
  intro i hi f hf
  obtain ⟨f, rfl⟩ : ∃ g, f = g + 1 := ⟨f - 1, by omega⟩
  rw [look_Idle_l1, dT (by omega), cT, G_on (by omega), ix_drop l i (by omega)]
  unfold idle
  rw [List.all_cons]
  by_cases h : (ix l (i : Int)).At < ((ix l (i : Int)).Calls.length : Int)
  ·rw [dT h, cT, dF (by omega), Bool.false_and]
  ·rw [dF h, cF, dT (by omega), Bool.true_and, G_on (by unfold I; omega), show ((i : Int) + 1) = ((i + 1 : Nat) : Int) from by omega, ih (i + 1) (by omega) f (by omega)]; rfl
theorem lidle_eq (m : Mk.Machine) (hl : m.Clients.length ≤ 1000) : look_Idle m = some (idle m.Clients) := by
 unfold look_Idle
 simp only [J]
 have := lidle_loop m.Clients hl (fun _ => some true) rfl m.Clients.length 0 (by omega) (((m.Clients.length : Int) - 0).toNat + 1) (by omega)
 rw [show ((0 : Nat) : Int) = 0 from rfl, List.drop_zero] at this
 exact this
end Sp
end
section
namespace Sp
theorem law12_alive : mklaw12_alive = some true := by decide +kernel
def csteps : Nat → Nat → List Mk.Step
 | 0, _ => []
 | m + 1, i => ⟨1, (i : Int)⟩ :: csteps m (i + 1)
def roundM (M : Mk.Machine) : Mk.Machine := (doM (runM (tick M) (csteps M.Clients.length 0)) ⟨2, 0⟩).1
def settle : Nat → Mk.Machine → Mk.Machine
 | 0, M => M
 | m + 1, M => if idle M.Clients = true then M else settle m (roundM M)
def rounds : Nat → Mk.Machine → Nat
 | 0, _ => 0
 | m + 1, M => if idle M.Clients = true then 0 else rounds m (roundM M) + 1
theorem rounds_le (m : Nat) (M : Mk.Machine) : rounds m M ≤ m := by
 induction m generalizing M with
 | zero => exact Nat.le_refl _
 | succ m ih =>
  unfold rounds
  split
  ·omega
  ·have := ih (roundM M); omega
section
variable {cs : List (List Mk.Call)} {M : Mk.Machine}
theorem doM_tick (M : Mk.Machine) : doM M ⟨4, 0⟩ = (tick M, 0) := by simp [doM]
theorem tick_clients (M : Mk.Machine) : (tick M).Clients = M.Clients := by unfold tick; split <;> (try rfl); split <;> rfl
theorem fround_loop (hcs : CsOk cs) (k : Mk.Machine → Mk.Machine → Option Mk.Machine) (n : Nat) (hn : n ≤ 1000) (y : Mk.Machine) : ∀ (m i : Nat), i + m = n → ∀ f : Nat, m < f → ∀ M : Mk.Machine, Inv cs M →
  fair_Round_l1 k f (n : Int) (i : Int) y M = k y (runM M (csteps m i)) := by
 intro m
 induction m with
 | zero =>
  intro i hi f hf M hM
  obtain ⟨f, rfl⟩ : ∃ g, f = g + 1 := ⟨f - 1, by omega⟩
  rw [fair_Round_l1, dF (by omega), cF]; rfl
 | succ m ih =>
  intro i hi f hf M hM
  obtain ⟨f, rfl⟩ : ∃ g, f = g + 1 := ⟨f - 1, by omega⟩
  rw [fair_Round_l1, dT (by omega), cT, mdo_eq hcs hM, obs, G_on (by unfold I; omega), show ((i : Int) + 1) = ((i + 1 : Nat) : Int) from by omega, ih (i + 1) (by omega) f (by omega) _ (do_step hcs hM _).2]; rfl
theorem inv_round (hcs : CsOk cs) (hM : Inv cs M) : Inv cs (roundM M) := by
 unfold roundM
 exact (do_step hcs (inv_run hcs (inv_tick hM) _) _).2
theorem fround_eq (hcs : CsOk cs) (hM : Inv cs M) : fair_Round M = some (roundM M) := by
 have hn := hM.nk
 have hn3 := hcs.n
 have hT := inv_tick hM
 unfold fair_Round roundM
 rw [mdo_eq hcs hM, obs, doM_tick]
 simp only [J]
 rw [tick_clients]
 have h1 := fun k y => fround_loop hcs k M.Clients.length (by omega) y M.Clients.length 0 (by omega) (((M.Clients.length : Int) - 0).toNat + 1) (by omega) _ hT
 rw [show ((0 : Nat) : Int) = 0 from rfl] at h1
 rw [h1, mdo_eq hcs (inv_run hcs hT _), obs]
theorem fsettle_loop (hcs : CsOk cs) (k : Int → Mk.Machine → Mk.Machine → Option (Mk.Machine × Int)) (y : Mk.Machine) : ∀ (m i : Nat), i + m = 300 → ∀ f : Nat, m < f → ∀ M : Mk.Machine, Inv cs M →
  fair_Settle_l1 k f (i : Int) y M = k ((i + rounds m M : Nat) : Int) y (settle m M) := by
 intro m
 induction m with
 | zero =>
  intro i hi f hf M hM
  obtain ⟨f, rfl⟩ : ∃ g, f = g + 1 := ⟨f - 1, by omega⟩
  rw [fair_Settle_l1, dF (by omega), Cn_no (by simp), obs, Bool.false_and, cF]; rfl
 | succ m ih =>
  intro i hi f hf M hM
  have hn := hM.nk
  have hn3 := hcs.n
  obtain ⟨f, rfl⟩ : ∃ g, f = g + 1 := ⟨f - 1, by omega⟩
  rw [fair_Settle_l1, dT (by omega), Cn_yes rfl, lidle_eq M (by omega), obs, Bool.true_and, settle, rounds]
  cases hid : idle M.Clients with
  | true => rfl
  | false =>
   rw [nF, cT, fround_eq hcs hM, obs, G_on (by unfold I; omega), show ((i : Int) + 1) = ((i + 1 : Nat) : Int) from by omega, ih (i + 1) (by omega) f (by omega) _ (inv_round hcs hM)]
   simp only [Bool.false_eq_true, if_false]
   rw [show i + 1 + rounds m (roundM M) = i + (rounds m (roundM M) + 1) from by omega]
theorem fsettle_eq (hcs : CsOk cs) (hM : Inv cs M) : fair_Settle M = some (settle 300 M, ((rounds 300 M : Nat) : Int)) := by
 unfold fair_Settle
 rw [gown_eq M (hM.smm hcs), obs]
 simp only [J]
 have h1 := fun k y => fsettle_loop hcs k y 300 0 (by omega) (((300 : Int) - 0).toNat + 1) (by omega) _ hM
 rw [show ((0 : Nat) : Int) = 0 from rfl, Nat.zero_add] at h1
 rw [h1]
theorem inv_settle (hcs : CsOk cs) (m : Nat) (hM : Inv cs M) : Inv cs (settle m M) := by
 induction m generalizing M with
 | zero => exact hM
 | succ m ih =>
  unfold settle
  split
  ·exact hM
  ·exact ih (inv_round hcs hM)
end
end Sp
end
section
namespace Sp
def own (b : List UInt8) : Int := ((ix b 1).toNat : Int)
theorem own_req {cs : List (List Mk.Call)} (hcs : CsOk cs) {c t : Int} {k : Mk.Call} (hc : 0 ≤ c ∧ c < cs.length) : own (reqB ⟨c, t, k⟩) = c := by
 have := hcs.n
 show ((u8 c).toNat : Int) = c
 exact u8_nat _ (by omega)
def lst (m : Mk.Machine) : List Int := m.Server.Box.map own
structure Wait (cs : List (List Mk.Call)) (m : Mk.Machine) (c : Int) : Prop where
 r : 0 ≤ c ∧ c < cs.length
 b : (ix m.Clients c).Box = []
 s : (ix m.Clients c).Sent = true
 g : (ix m.Clients c).Gen = m.Server.Gen
structure Inv2 (cs : List (List Mk.Call)) (m : Mk.Machine) : Prop where
 nd : (lst m).Nodup
 q : ∀ b ∈ m.Server.Box, ∃ c : Int, Wait cs m c ∧ b = reqB ⟨c, (ix m.Clients c).At, call cs c (ix m.Clients c).At⟩ ∧ (ix m.Clients c).At < (ix cs c).length
 b : m.Server.Busy = true → Wait cs m m.Server.Now.Client ∧ m.Server.Now.Client ∉ lst m
 a : ∀ c : Int, 0 ≤ c ∧ c < cs.length → (ix m.Clients c).Box ≠ [] → (ix m.Clients c).Sent = true ∧ (ix m.Clients c).At < cnt m.Store.Past c ∧ (ix m.Clients c).Box = [ansB ⟨c, (ix m.Clients c).At, ix (heardF [] m.Store.Past c) (ix m.Clients c).At⟩]
 s : m.Up = true → ∀ c : Int, 0 ≤ c ∧ c < cs.length → (ix m.Clients c).Sent = true → (ix m.Clients c).Gen = m.Server.Gen → (ix m.Clients c).Box = [] → c ∈ lst m ∨ (m.Server.Busy = true ∧ m.Server.Now.Client = c)
def todo (m : Mk.Machine) : Prop := m.Server.Busy = true ∨ m.Server.Box ≠ []
def wt (x : Mk.Client) : Int := 6 * ((x.Calls.length : Int) - x.At) - (if x.Box = [] then 0 else 5)
def sumw : List Mk.Client → Int
 | [] => 0
 | x :: l => wt x + sumw l
def pot (m : Mk.Machine) : Int := m.Pause + sumw m.Clients - (if m.Server.Busy = true then 4 - (m.Server.Plan.length : Int) else 0)
theorem sumw_up (l : List Mk.Client) (n : Nat) (x : Mk.Client) (h : n < l.length) : sumw (l.set n x) = sumw l - wt (ix l (n : Int)) + wt x := by
 induction l generalizing n with
 | nil => simp at h
 | cons y l ih =>
  cases n with
  | zero => simp [sumw, ix]; omega
  | succ n =>
   have := ih n (by simpa using h)
   have e : ix (y :: l) ((n + 1 : Nat) : Int) = ix l (n : Int) := by simp [ix]
   rw [List.set_cons_succ, sumw, sumw, this, e]; omega
theorem sumw_up' (l : List Mk.Client) (n : Int) (x : Mk.Client) (h : 0 ≤ n ∧ n < l.length) : sumw (up l n x) = sumw l - wt (ix l n) + wt x := by
 obtain ⟨k, rfl⟩ : ∃ k : Nat, n = k := ⟨n.toNat, by omega⟩
 exact sumw_up l k x (by omega)
theorem pot_withC {m : Mk.Machine} {n : Int} {x : Mk.Client} (h : 0 ≤ n ∧ n < m.Clients.length) : pot (withC m n x) = pot m - wt (ix m.Clients n) + wt x := by
 show m.Pause + sumw (up m.Clients n x) - (if m.Server.Busy = true then 4 - (m.Server.Plan.length : Int) else 0) = _
 rw [sumw_up' _ _ _ h]
 unfold pot
 omega
section
variable {cs : List (List Mk.Call)} {m : Mk.Machine}
theorem Inv2.own_q (hcs : CsOk cs) (h : Inv2 cs m) {c : Int} (hc : c ∈ lst m) : Wait cs m c := by
 obtain ⟨b, hb, rfl⟩ := List.mem_map.1 hc
 obtain ⟨c, w, rfl, _⟩ := h.q b hb
 rw [own_req hcs w.r]; exact w
theorem Inv2.withC (hcs : CsOk cs) (h : Inv2 cs m) (hk : m.Clients.length = cs.length) {n : Int} (hn : 0 ≤ n ∧ n < cs.length) {x : Mk.Client} (hq : n ∉ lst m) (hb : m.Server.Busy = true → m.Server.Now.Client ≠ n)
  (ha : x.Box ≠ [] → x.Sent = true ∧ x.At < cnt m.Store.Past n ∧ x.Box = [ansB ⟨n, x.At, ix (heardF [] m.Store.Past n) x.At⟩])
  (hs : m.Up = true → x.Sent = true → x.Gen = m.Server.Gen → x.Box = [] → False) : Inv2 cs (withC m n x) := by
 have hn2 : 0 ≤ n ∧ n < m.Clients.length := by omega
 have hix : ∀ c : Int, 0 ≤ c → ix (Sp.withC m n x).Clients c = if n = c then x else ix m.Clients c := fun c hc => ix_up _ _ _ _ hn2 hc
 have hw : ∀ c, c ≠ n → Wait cs m c → Wait cs (Sp.withC m n x) c := fun c hc w => by
  have e := hix c w.r.1
  rw [if_neg (fun e => hc e.symm)] at e
  exact ⟨w.r, by rw [e]; exact w.b, by rw [e]; exact w.s, by rw [e]; exact w.g⟩
 refine ⟨h.nd, fun b hb' => ?_, fun hb' => ?_, fun c hc => ?_, fun hu c hc => ?_⟩
 ·obtain ⟨c, w, e1, e2⟩ := h.q b hb'
  have hne : c ≠ n := by
   intro e; subst e
   refine hq (List.mem_map.2 ⟨b, hb', ?_⟩)
   rw [e1]; exact own_req hcs w.r
  have e := hix c w.r.1
  rw [if_neg (fun e => hne e.symm)] at e
  exact ⟨c, hw c hne w, by rw [e]; exact e1, by rw [e]; exact e2⟩
 ·obtain ⟨w, hl⟩ := h.b hb'
  exact ⟨hw _ (hb hb') w, hl⟩
 ·rw [hix c hc.1]
  split
  ·rename_i e; subst e; exact ha
  ·exact h.a c hc
 ·rw [hix c hc.1]
  split
  ·rename_i e; subst e; exact fun a b c => (hs hu a b c).elim
  ·exact h.s hu c hc
theorem inv2_fall (h2 : Inv2 cs m) : Inv2 cs (fall m).1 := by
 unfold fall
 split
 ·exact h2
 ·split
  ·exact h2
  ·exact ⟨by simp [lst, srv0], by simp [srv0], fun e => (by cases e), h2.a, fun e => (by cases e)⟩
theorem inv2_tick (h : Inv cs m) (h2 : Inv2 cs m) : Inv2 cs (tick m) := by
 unfold tick
 split
 ·exact h2
 ·rename_i h1
  split
  ·exact ⟨h2.nd, fun b hb => (by obtain ⟨c, w, e⟩ := h2.q b hb; exact ⟨c, ⟨w.r, w.b, w.s, w.g⟩, e⟩), fun e => (by obtain ⟨w, e⟩ := h2.b e; exact ⟨⟨w.r, w.b, w.s, w.g⟩, e⟩), h2.a, fun e => absurd e h1⟩
  ·refine ⟨by simp [lst, srv0], by simp [srv0], fun e => (by cases e), h2.a, fun _ c hc hs hg => ?_⟩
   have := (h.cl c hc).gen.2
   have hg' : (ix m.Clients c).Gen = m.Server.Gen + 1 := hg
   omega
theorem inv2_doC (hcs : CsOk cs) (h : Inv cs m) (h2 : Inv2 cs m) (n : Int) : Inv2 cs (doC m n).1 ∧ pot (doC m n).1 ≤ pot m ∧ (todo m → todo (doC m n).1) ∧ (∀ c : Int, 0 ≤ c → c ≠ n → ix (doC m n).1.Clients c = ix m.Clients c) ∧
  (0 ≤ n ∧ n < cs.length → m.Up = true → (ix m.Clients n).At < (ix m.Clients n).Calls.length → pot (doC m n).1 < pot m ∨ todo (doC m n).1) := by
 have hk := h.nk
 have hn3 := hcs.n
 unfold doC
 by_cases hn : 0 ≤ n ∧ n < cs.length
 ·have hn2 : 0 ≤ n ∧ n < m.Clients.length := by omega
  have hx := h.cl n hn
  rw [if_neg (show ¬ (n < 0 ∨ (m.Clients.length : Int) ≤ n) from by omega)]
  cases hB : (ix m.Clients n).Box with
  | cons b box =>
   have e : cGo (ix m.Clients n) n m.Server.Gen m.Up = (hear (ix m.Clients n) b box n, [], 0) := by unfold cGo; rw [hB]
   rw [e]
   simp only [ne_eq, not_true, if_false, if_true]
   obtain ⟨a1, a2, a3⟩ := h2.a n hn (by rw [hB]; simp)
   rw [hB] at a3
   obtain ⟨rfl, rfl⟩ : b = ansB ⟨n, (ix m.Clients n).At, ix (heardF [] m.Store.Past n) (ix m.Clients n).At⟩ ∧ box = [] := by simpa using a3
   have h8' := hcs.len hn
   have hcl := h.law.cnt_le n hn
   have h0 := hx.at0
   have hok : RepOk (ix (heardF [] m.Store.Past n) (ix m.Clients n).At) := h.law.heard_ok hcs n _ (ix_mem _ _ (by rw [heardF_len]; omega))
   have hread : readAns (ansB ⟨n, (ix m.Clients n).At, ix (heardF [] m.Store.Past n) (ix m.Clients n).At⟩) = (⟨n, (ix m.Clients n).At, ix (heardF [] m.Store.Past n) (ix m.Clients n).At⟩, 0) := readAns_ansB (wans_of (by omega) (by omega) hok)
   have eh : hear (ix m.Clients n) (ansB ⟨n, (ix m.Clients n).At, ix (heardF [] m.Store.Past n) (ix m.Clients n).At⟩) [] n = ⟨(ix m.Clients n).Calls, (ix m.Clients n).At + 1, false, (ix m.Clients n).Gen, [], (ix m.Clients n).Got ++ [ix (heardF [] m.Store.Past n) (ix m.Clients n).At]⟩ := by
    unfold hear; rw [hread]; simp [a1]
   rw [eh]
   have hpot : pot (withC m n ⟨(ix m.Clients n).Calls, (ix m.Clients n).At + 1, false, (ix m.Clients n).Gen, [], (ix m.Clients n).Got ++ [ix (heardF [] m.Store.Past n) (ix m.Clients n).At]⟩) = pot m - 1 := by
    rw [pot_withC hn2]
    have w1 : wt (ix m.Clients n) = 6 * (((ix m.Clients n).Calls.length : Int) - (ix m.Clients n).At) - 5 := by unfold wt; rw [hB]; simp
    have w2 : wt ⟨(ix m.Clients n).Calls, (ix m.Clients n).At + 1, false, (ix m.Clients n).Gen, [], (ix m.Clients n).Got ++ [ix (heardF [] m.Store.Past n) (ix m.Clients n).At]⟩ = 6 * (((ix m.Clients n).Calls.length : Int) - ((ix m.Clients n).At + 1)) := by unfold wt; simp
    rw [w1, w2]
    omega
   refine ⟨h2.withC hcs hk hn (fun hl => ?_) (fun hb e => ?_) (fun hne => (hne rfl).elim) (fun _ hs => by cases hs), by omega, fun ht => ht, fun c hc hne => ?_, fun _ _ _ => .inl (by omega)⟩
   ·have := (h2.own_q hcs hl).b; rw [hB] at this; cases this
   ·have := (h2.b hb).1.b; rw [e, hB] at this; cases this
   ·show ix (up m.Clients n _) c = _
    rw [ix_up _ _ _ _ hn2 hc, if_neg (fun e => hne e.symm)]
  | nil =>
   by_cases c1 : ((ix m.Clients n).Calls.length : Int) ≤ (ix m.Clients n).At
   ·have e : cGo (ix m.Clients n) n m.Server.Gen m.Up = (ix m.Clients n, [], 11) := by unfold cGo; rw [hB]; simp [c1]
    rw [e]
    rw [if_pos (show ((11 : Int) ≠ 0) from by decide)]
    exact ⟨h2, Int.le_refl _, fun t => t, fun _ _ _ => rfl, fun _ _ hl => by omega⟩
   ·rcases Bool.eq_false_or_eq_true m.Up with hu | hu
    rotate_left
    ·have e : cGo (ix m.Clients n) n m.Server.Gen m.Up = (ix m.Clients n, [], 10) := by unfold cGo; rw [hB]; simp [c1, hu]
     rw [e]
     rw [if_pos (show ((10 : Int) ≠ 0) from by decide)]
     exact ⟨h2, Int.le_refl _, fun t => t, fun _ _ _ => rfl, fun _ hu' => by rw [hu] at hu'; cases hu'⟩
    ·by_cases c2 : (ix m.Clients n).Sent = true ∧ (ix m.Clients n).Gen = m.Server.Gen
     ·have e : cGo (ix m.Clients n) n m.Server.Gen m.Up = (ix m.Clients n, [], 12) := by unfold cGo; rw [hB]; simp [c1, c2, hu, hB]
      rw [e]
      rw [if_pos (show ((12 : Int) ≠ 0) from by decide)]
      refine ⟨h2, Int.le_refl _, fun t => t, fun _ _ _ => rfl, fun _ _ _ => .inr ?_⟩
      rcases h2.s hu n hn c2.1 c2.2 hB with hl | hl
      ·exact .inr (by intro e; unfold lst at hl; rw [e] at hl; simp at hl)
      ·exact .inl hl.1
     ·have e : cGo (ix m.Clients n) n m.Server.Gen m.Up = ({ (ix m.Clients n) with Sent := true, Gen := m.Server.Gen }, reqB ⟨n, (ix m.Clients n).At, ix (ix m.Clients n).Calls (ix m.Clients n).At⟩, 0) := by unfold cGo; rw [hB]; simp [c1, c2, hu, hB]
      have hne : reqB ⟨n, (ix m.Clients n).At, ix (ix m.Clients n).Calls (ix m.Clients n).At⟩ ≠ [] := by unfold reqB; simp
      rw [e]
      simp only [ne_eq, not_true, if_false, hne]
      by_cases c3 : 3 ≤ m.Server.Box.length
      ·have e2 : sCome m.Server (reqB ⟨n, (ix m.Clients n).At, ix (ix m.Clients n).Calls (ix m.Clients n).At⟩) = (m.Server, 9) := by unfold sCome; rw [if_pos c3]
       rw [e2]
       rw [if_pos (show ¬ ((9 : Int) = 0) from by decide)]
       exact ⟨h2, Int.le_refl _, fun t => t, fun _ _ _ => rfl, fun _ _ _ => .inr (.inr (by intro e; rw [e] at c3; simp at c3))⟩
      ·have e2 : sCome m.Server (reqB ⟨n, (ix m.Clients n).At, ix (ix m.Clients n).Calls (ix m.Clients n).At⟩) = ({ m.Server with Box := m.Server.Box ++ [reqB ⟨n, (ix m.Clients n).At, ix (ix m.Clients n).Calls (ix m.Clients n).At⟩] }, 0) := by unfold sCome; rw [if_neg c3]
       rw [e2]
       simp only [not_true, if_false]
       have hcal := hx.calls
       have hq : n ∉ lst m := fun hl => c2 ⟨(h2.own_q hcs hl).s, (h2.own_q hcs hl).g⟩
       have hbn : m.Server.Busy = true → m.Server.Now.Client ≠ n := fun hb e => c2 (by have w := (h2.b hb).1; rw [e] at w; exact ⟨w.s, w.g⟩)
       have hreq : reqB ⟨n, (ix m.Clients n).At, ix (ix m.Clients n).Calls (ix m.Clients n).At⟩ = reqB ⟨n, (ix m.Clients n).At, call cs n (ix m.Clients n).At⟩ := by rw [hcal]; rfl
       rw [hreq]
       have htd : todo (withC { m with Server := { m.Server with Box := m.Server.Box ++ [reqB ⟨n, (ix m.Clients n).At, call cs n (ix m.Clients n).At⟩] } } n { (ix m.Clients n) with Sent := true, Gen := m.Server.Gen }) := .inr (by show m.Server.Box ++ [_] ≠ []; simp)
       have hix : ∀ c : Int, 0 ≤ c → ix (up m.Clients n { (ix m.Clients n) with Sent := true, Gen := m.Server.Gen }) c = if n = c then { (ix m.Clients n) with Sent := true, Gen := m.Server.Gen } else ix m.Clients c := fun c hc => ix_up _ _ _ _ hn2 hc
       have hlst : lst (withC { m with Server := { m.Server with Box := m.Server.Box ++ [reqB ⟨n, (ix m.Clients n).At, call cs n (ix m.Clients n).At⟩] } } n { (ix m.Clients n) with Sent := true, Gen := m.Server.Gen }) = lst m ++ [n] := by
        show (m.Server.Box ++ [_]).map own = _
        rw [List.map_append, List.map_singleton, own_req hcs hn]; rfl
       have hw : ∀ c, Wait cs m c → Wait cs (withC { m with Server := { m.Server with Box := m.Server.Box ++ [reqB ⟨n, (ix m.Clients n).At, call cs n (ix m.Clients n).At⟩] } } n { (ix m.Clients n) with Sent := true, Gen := m.Server.Gen }) c ∧ ix (up m.Clients n { (ix m.Clients n) with Sent := true, Gen := m.Server.Gen }) c = ix m.Clients c := fun c w => by
        have hne2 : n ≠ c := by intro e; subst e; exact c2 ⟨w.s, w.g⟩
        have e := hix c w.r.1
        rw [if_neg hne2] at e
        exact ⟨⟨w.r, by show (ix (up m.Clients n _) c).Box = []; rw [e]; exact w.b, by show (ix (up m.Clients n _) c).Sent = true; rw [e]; exact w.s, by show (ix (up m.Clients n _) c).Gen = _; rw [e]; exact w.g⟩, e⟩
       have hself := hix n hn.1
       rw [if_pos rfl] at hself
       refine ⟨⟨?_, fun b hb => ?_, fun hb => ?_, fun c hc => ?_, fun _ c hc => ?_⟩, ?_, fun _ => htd, fun c hc hne => ?_, fun _ _ _ => .inr htd⟩
       ·rw [hlst]
        exact List.nodup_append.2 ⟨h2.nd, by simp, fun a ha b hb e => hq (by simp at hb; rw [← hb, ← e]; exact ha)⟩
       ·rcases List.mem_append.1 hb with hb | hb
        ·obtain ⟨c, w, e1, e2⟩ := h2.q b hb
         obtain ⟨w2, e3⟩ := hw c w
         refine ⟨c, w2, ?_, ?_⟩
         ·show b = reqB ⟨c, (ix (up m.Clients n _) c).At, call cs c (ix (up m.Clients n _) c).At⟩
          rw [e3]; exact e1
         ·show (ix (up m.Clients n _) c).At < _
          rw [e3]; exact e2
        ·simp only [List.mem_singleton] at hb
         subst hb
         refine ⟨n, ⟨hn, ?_, ?_, ?_⟩, ?_, ?_⟩
         ·show (ix (up m.Clients n _) n).Box = []
          rw [hself]; exact hB
         ·show (ix (up m.Clients n _) n).Sent = true
          rw [hself]
         ·show (ix (up m.Clients n _) n).Gen = _
          rw [hself]; rfl
         ·show _ = reqB ⟨n, (ix (up m.Clients n _) n).At, call cs n (ix (up m.Clients n _) n).At⟩
          rw [hself]
         ·show (ix (up m.Clients n _) n).At < _
          rw [hself, ← hcal]
          show (ix m.Clients n).At < _
          omega
       ·obtain ⟨w, hl⟩ := h2.b hb
        refine ⟨(hw _ w).1, ?_⟩
        rw [hlst]
        intro hm
        rcases List.mem_append.1 hm with hm | hm
        ·exact hl hm
        ·simp only [List.mem_singleton] at hm; exact hbn hb hm
       ·show (ix (up m.Clients n _) c).Box ≠ [] → (ix (up m.Clients n _) c).Sent = true ∧ (ix (up m.Clients n _) c).At < cnt m.Store.Past c ∧ (ix (up m.Clients n _) c).Box = [ansB ⟨c, (ix (up m.Clients n _) c).At, ix (heardF [] m.Store.Past c) (ix (up m.Clients n _) c).At⟩]
        rw [hix c hc.1]
        split
        ·rename_i e; subst e
         intro hne; exact (hne hB).elim
        ·exact h2.a c hc
       ·rw [hlst]
        show (ix (up m.Clients n _) c).Sent = true → (ix (up m.Clients n _) c).Gen = m.Server.Gen → (ix (up m.Clients n _) c).Box = [] → _ ∨ (m.Server.Busy = true ∧ m.Server.Now.Client = c)
        rw [hix c hc.1]
        split
        ·rename_i e; subst e
         exact fun _ _ _ => .inl (by simp)
        ·intro a1 a2 a3
         rcases h2.s hu c hc a1 a2 a3 with hl | hl
         ·exact .inl (by simp [hl])
         ·exact .inr hl
       ·show m.Pause + sumw (up m.Clients n _) - (if m.Server.Busy = true then 4 - (m.Server.Plan.length : Int) else 0) ≤ _
        rw [sumw_up' _ _ _ hn2]
        have : wt { (ix m.Clients n) with Sent := true, Gen := m.Server.Gen } = wt (ix m.Clients n) := rfl
        rw [this]
        unfold pot
        omega
       ·show ix (up m.Clients n _) c = _
        rw [hix c hc, if_neg (fun e => hne e.symm)]
 ·rw [if_pos (show n < 0 ∨ (m.Clients.length : Int) ≤ n from by omega)]
  exact ⟨h2, Int.le_refl _, fun t => t, fun _ _ _ => rfl, fun hh => absurd hh hn⟩
end
end Sp
end
section
namespace Sp
section
variable {cs : List (List Mk.Call)} {m : Mk.Machine}
theorem ans_snoc {p : List Mk.Request} {r : Mk.Request} {c t : Int} {b : List UInt8} (h0 : 0 ≤ t) (ht : t < cnt p c) (h : b = ansB ⟨c, t, ix (heardF [] p c) t⟩) : t < cnt (p ++ [r]) c ∧ b = ansB ⟨c, t, ix (heardF [] (p ++ [r]) c) t⟩ := by
 refine ⟨by rw [cnt_snoc]; split <;> omega, ?_⟩
 rw [heardF_snoc, ix_app _ _ _ (by rw [heardF_len]; exact ⟨h0, ht⟩)]; exact h
theorem told (hcs : CsOk cs) (hk : m.Clients.length = cs.length) {c t : Int} (hc : 0 ≤ c ∧ c < cs.length) (hb : (ix m.Clients c).Box = []) (y : Mk.Reply) : Sp.toC m (ansB ⟨c, t, y⟩) = withC m c { (ix m.Clients c) with Box := [ansB ⟨c, t, y⟩] } := by
 have hn3 := hcs.n
 rw [toC_ans _ (by simp only; omega) (by omega)]
 congr 1
 unfold cCome
 rw [hb]; rfl
theorem wt_told {x : Mk.Client} (b : List UInt8) (hb : x.Box = []) : wt { x with Box := [b] } = wt x - 5 := by
 unfold wt; rw [hb]; simp
theorem pot_same {m : Mk.Machine} {S : Mk.Store} {v : Mk.Server} : pot { m with Store := S, Server := v } = m.Pause + sumw m.Clients - (if v.Busy = true then 4 - (v.Plan.length : Int) else 0) := rfl
theorem pot_withS {m : Mk.Machine} {S : Mk.Store} {v : Mk.Server} {n : Int} {x : Mk.Client} (h : 0 ≤ n ∧ n < m.Clients.length) : pot (withC { m with Store := S, Server := v } n x) = m.Pause + sumw m.Clients - (if v.Busy = true then 4 - (v.Plan.length : Int) else 0) - wt (ix m.Clients n) + wt x := by
 rw [pot_withC (m := { m with Store := S, Server := v }) h]; rfl
theorem Inv2.tail {b : List UInt8} {box : List (List UInt8)} (hB : m.Server.Box = b :: box) (h2 : Inv2 cs m) : (box.map own).Nodup ∧ own b ∉ box.map own := by
 have := h2.nd
 unfold lst at this
 rw [hB, List.map_cons, List.nodup_cons] at this
 exact ⟨this.2, this.1⟩
theorem inv2_doS (hcs : CsOk cs) (h : Inv cs m) (h2 : Inv2 cs m) : Inv2 cs (doS m).1 ∧ pot (doS m).1 ≤ pot m ∧ (m.Up = true → todo m → pot (doS m).1 < pot m) := by
 have hk := h.nk
 have hn3 := hcs.n
 unfold doS
 rcases Bool.eq_false_or_eq_true m.Up with hu | hu
 rotate_left
 ·rw [if_pos hu]
  exact ⟨h2, Int.le_refl _, fun e => (by rw [hu] at e; cases e)⟩
 rw [if_neg (by rw [hu]; simp)]
 cases hb : m.Server.Busy with
 | true =>
  obtain ⟨c, hc, n1, n2, n3, n4⟩ := h.now hb
  obtain ⟨w, hl⟩ := h2.b hb
  cases hP : m.Server.Plan with
  | cons wr p =>
   have e : serve m.Store m.Server = (wrS m.Store wr, { m.Server with Plan := p }, [], 0) := by unfold serve; rw [if_pos hb, hP]
   have e1 : (wrS m.Store wr).Past = m.Store.Past := by unfold wrS; split <;> rfl
   rw [e]
   simp only [ne_eq, not_true, if_false]
   have et : ∀ M : Mk.Machine, Sp.toC M [] = M := fun M => by unfold Sp.toC; rw [if_pos rfl]
   rw [et]
   have hp : pot { m with Store := wrS m.Store wr, Server := { m.Server with Plan := p } } = pot m - 1 := by
    rw [pot_same]
    unfold pot
    simp only [hb, if_true, hP, List.length_cons]
    omega
   have hlt : pot { m with Store := wrS m.Store wr, Server := { m.Server with Plan := p } } < pot m := by omega
   refine ⟨⟨h2.nd, fun b hb' => (by obtain ⟨c, w, e⟩ := h2.q b hb'; exact ⟨c, ⟨w.r, w.b, w.s, w.g⟩, e⟩), fun _ => ⟨⟨w.r, w.b, w.s, w.g⟩, hl⟩, fun c hc hne => ?_, h2.s⟩, Int.le_of_lt hlt, fun _ _ => hlt⟩
   show (ix m.Clients c).Sent = true ∧ (ix m.Clients c).At < cnt (wrS m.Store wr).Past c ∧ (ix m.Clients c).Box = [ansB ⟨c, (ix m.Clients c).At, ix (heardF [] (wrS m.Store wr).Past c) (ix m.Clients c).At⟩]
   rw [e1]; exact h2.a c hc hne
  | nil =>
   have e : serve m.Store m.Server = (commit m.Store m.Server.Now m.Server.Says, ⟨m.Server.Gen, m.Server.Box, false, req0, [], rep0⟩, ansB ⟨m.Server.Now.Client, m.Server.Now.Token, m.Server.Says⟩, 0) := by unfold serve; rw [hb, hP]; rfl
   rw [e]
   simp only [ne_eq, not_true, if_false]
   have ecl : m.Server.Now.Client = c := by rw [n1]
   have etk : m.Server.Now.Token = cnt m.Store.Past c := by rw [n1]
   rw [ecl] at w hl
   obtain ⟨b0, done, hR, hC, hU, hd, he, hpl⟩ := h.st
   have hplan := hpl hb
   rw [hP, List.append_nil] at hplan
   have hcal : CallOk m.Server.Now.Call := by rw [n1]; exact hcs.call hc (by omega)
   have hsay : m.Server.Says = (doP (allN [] m.Store.Past) m.Server.Now.Call).2 := by
    have := (plan_rt hR hcal).2
    rw [← this, hplan]
   have ehd : heardF [] (m.Store.Past ++ [m.Server.Now]) c = heardF [] m.Store.Past c ++ [m.Server.Says] := by rw [heardF_snoc, if_pos ecl, hsay]
   have ecnt : cnt (m.Store.Past ++ [m.Server.Now]) c = cnt m.Store.Past c + 1 := by rw [cnt_snoc, if_pos ecl]
   rw [ecl, etk]
   have ht := told (m := { m with Store := commit m.Store m.Server.Now m.Server.Says, Server := ⟨m.Server.Gen, m.Server.Box, false, req0, [], rep0⟩ }) hcs hk (t := (cnt m.Store.Past c : Int)) hc w.b m.Server.Says
   rw [ht]
   have hn2 : 0 ≤ c ∧ c < m.Clients.length := by omega
   have base : Inv2 cs { m with Store := commit m.Store m.Server.Now m.Server.Says, Server := ⟨m.Server.Gen, m.Server.Box, false, req0, [], rep0⟩, Clients := m.Clients, Up := false } := by
    refine ⟨h2.nd, fun b hb' => (by obtain ⟨c, w, e⟩ := h2.q b hb'; exact ⟨c, ⟨w.r, w.b, w.s, w.g⟩, e⟩), fun e => (by cases e), fun d hd' hne => ?_, fun e => (by cases e)⟩
    obtain ⟨q1, q2, q3⟩ := h2.a d hd' hne
    obtain ⟨q4, q5⟩ := ans_snoc (r := m.Server.Now) (h.cl d hd').at0 q2 rfl
    refine ⟨q1, q4, ?_⟩
    show (ix m.Clients d).Box = [ansB ⟨d, (ix m.Clients d).At, ix (heardF [] (m.Store.Past ++ [m.Server.Now]) d) (ix m.Clients d).At⟩]
    rw [← q5]; exact q3
   have hfin : Inv2 cs (withC { m with Store := commit m.Store m.Server.Now m.Server.Says, Server := ⟨m.Server.Gen, m.Server.Box, false, req0, [], rep0⟩, Clients := m.Clients, Up := false } c { (ix m.Clients c) with Box := [ansB ⟨c, (cnt m.Store.Past c : Int), m.Server.Says⟩] }) := by
    refine base.withC hcs hk hc hl (fun e => (by cases e)) (fun _ => ⟨w.s, ?_, ?_⟩) (fun e => (by cases e))
    ·show (ix m.Clients c).At < (cnt (m.Store.Past ++ [m.Server.Now]) c : Int)
     rw [ecnt, n3]; omega
    ·show [ansB ⟨c, (cnt m.Store.Past c : Int), m.Server.Says⟩] = [ansB ⟨c, (ix m.Clients c).At, ix (heardF [] (m.Store.Past ++ [m.Server.Now]) c) (ix m.Clients c).At⟩]
     rw [n3, ehd, ix_last _ _ _ (by rw [heardF_len])]
   have hp : pot (withC { m with Store := commit m.Store m.Server.Now m.Server.Says, Server := ⟨m.Server.Gen, m.Server.Box, false, req0, [], rep0⟩ } c { (ix m.Clients c) with Box := [ansB ⟨c, (cnt m.Store.Past c : Int), m.Server.Says⟩] }) < pot m := by
    rw [pot_withS hn2, wt_told _ w.b]
    unfold pot
    simp only [hb, if_true, hP, List.length_nil, Bool.false_eq_true, if_false]
    omega
   refine ⟨⟨hfin.nd, fun b hb' => (by obtain ⟨d, w, e⟩ := hfin.q b hb'; exact ⟨d, ⟨w.r, w.b, w.s, w.g⟩, e⟩), fun e => (by obtain ⟨w, e⟩ := hfin.b e; exact ⟨⟨w.r, w.b, w.s, w.g⟩, e⟩), hfin.a, fun _ d hd' => ?_⟩, Int.le_of_lt hp, fun _ _ => hp⟩
   show (ix (up m.Clients c { (ix m.Clients c) with Box := [ansB ⟨c, (cnt m.Store.Past c : Int), m.Server.Says⟩] }) d).Sent = true → (ix (up m.Clients c { (ix m.Clients c) with Box := [ansB ⟨c, (cnt m.Store.Past c : Int), m.Server.Says⟩] }) d).Gen = m.Server.Gen → (ix (up m.Clients c { (ix m.Clients c) with Box := [ansB ⟨c, (cnt m.Store.Past c : Int), m.Server.Says⟩] }) d).Box = [] → d ∈ lst m ∨ (false = true ∧ req0.Client = d)
   rw [ix_up _ _ _ _ hn2 hd'.1]
   split
   ·intro _ _ e3; cases e3
   ·rename_i hne
    intro a1 a2 a3
    rcases h2.s hu d hd' a1 a2 a3 with hq | hq
    ·exact .inl hq
    ·exact (hne (by rw [← ecl]; exact hq.2)).elim
 | false =>
  cases hB : m.Server.Box with
  | nil =>
   have e : serve m.Store m.Server = (m.Store, m.Server, [], 12) := by unfold serve; rw [hb, hB]; rfl
   rw [e, if_pos (show ((12 : Int) ≠ 0) from by decide)]
   exact ⟨h2, Int.le_refl _, fun _ t => by rcases t with t | t <;> simp_all⟩
  | cons b box =>
   have e : serve m.Store m.Server = (m.Store, (take1 m.Store m.Server b box).1, (take1 m.Store m.Server b box).2, 0) := by unfold serve; rw [hb, hB]; rfl
   rw [e]
   simp only [ne_eq, not_true, if_false]
   obtain ⟨c, w, hbt, hlt⟩ := h2.q b (by rw [hB]; simp)
   obtain ⟨nd, hni⟩ := h2.tail hB
   have hc := w.r
   have hn2 : 0 ≤ c ∧ c < m.Clients.length := by omega
   have hx := h.cl c hc
   have h8 := hcs.len hc
   have hat0 := hx.at0; have hat1 := hx.at1; have hat2 := hx.at2
   have hread : readReq b = (⟨c, (ix m.Clients c).At, call cs c (ix m.Clients c).At⟩, 0) := by rw [hbt]; exact readReq_reqB (wreq_of (by omega) (by omega) (hcs.call hc ⟨hat0, hlt⟩))
   have hob : own b = c := by rw [hbt]; exact own_req hcs hc
   rw [hob] at hni
   have hlast : last m.Store c = if cnt m.Store.Past c = 0 then (ans0, false) else (⟨c, (cnt m.Store.Past c : Int) - 1, ix (heardF [] m.Store.Past c) ((cnt m.Store.Past c : Int) - 1)⟩, true) := by
    unfold last
    rw [h.ans, h.law.find c]
    by_cases h0 : cnt m.Store.Past c = 0
    ·rw [if_pos h0, if_pos h0]
    ·rw [if_neg h0, if_neg h0]
   have hq : ∀ b' ∈ box, ∃ d : Int, Wait cs m d ∧ b' = reqB ⟨d, (ix m.Clients d).At, call cs d (ix m.Clients d).At⟩ ∧ (ix m.Clients d).At < (ix cs d).length := fun b' hb' => h2.q b' (by rw [hB]; simp [hb'])
   have hs : ∀ d : Int, 0 ≤ d ∧ d < cs.length → d ≠ c → (ix m.Clients d).Sent = true → (ix m.Clients d).Gen = m.Server.Gen → (ix m.Clients d).Box = [] → d ∈ box.map own := fun d hd hne a1 a2 a3 => by
    rcases h2.s hu d hd a1 a2 a3 with hm | hm
    ·unfold lst at hm
     rw [hB, List.map_cons, hob] at hm
     rcases List.mem_cons.1 hm with hm | hm
     ·exact (hne hm).elim
     ·exact hm
    ·rw [hb] at hm; cases hm.1
   unfold take1
   rw [hread]
   simp only [ne_eq, not_true, if_false]
   by_cases h1 : (last m.Store c).2 = true ∧ (ix m.Clients c).At ≤ (last m.Store c).1.Token
   ·rw [if_pos h1]
    have h0 : cnt m.Store.Past c ≠ 0 := by
     intro h0
     rw [hlast, if_pos h0] at h1
     exact absurd h1.1 (by simp)
    rw [hlast, if_neg h0] at h1 ⊢
    simp only at h1 ⊢
    have hat : (cnt m.Store.Past c : Int) - 1 = (ix m.Clients c).At := by omega
    rw [if_pos hat]
    have ht := told (m := { m with Store := m.Store, Server := { m.Server with Box := box } }) hcs hk (t := (cnt m.Store.Past c : Int) - 1) hc w.b (ix (heardF [] m.Store.Past c) ((cnt m.Store.Past c : Int) - 1))
    rw [ht]
    have base : Inv2 cs { m with Store := m.Store, Server := { m.Server with Box := box }, Clients := m.Clients, Up := false } :=
     ⟨nd, fun b' hb' => (by obtain ⟨d, w, e⟩ := hq b' hb'; exact ⟨d, ⟨w.r, w.b, w.s, w.g⟩, e⟩), fun e => (by have e' : m.Server.Busy = true := e; rw [hb] at e'; cases e'), h2.a, fun e => (by cases e)⟩
    have hfin : Inv2 cs (withC { m with Store := m.Store, Server := { m.Server with Box := box }, Clients := m.Clients, Up := false } c { (ix m.Clients c) with Box := [ansB ⟨c, (cnt m.Store.Past c : Int) - 1, ix (heardF [] m.Store.Past c) ((cnt m.Store.Past c : Int) - 1)⟩] }) := by
     refine base.withC hcs hk hc hni (fun e => (by have e' : m.Server.Busy = true := e; rw [hb] at e'; cases e')) (fun _ => ⟨w.s, ?_, ?_⟩) (fun e => (by cases e))
     ·show (ix m.Clients c).At < (cnt m.Store.Past c : Int)
      omega
     ·show [ansB ⟨c, (cnt m.Store.Past c : Int) - 1, ix (heardF [] m.Store.Past c) ((cnt m.Store.Past c : Int) - 1)⟩] = [ansB ⟨c, (ix m.Clients c).At, ix (heardF [] m.Store.Past c) (ix m.Clients c).At⟩]
      rw [hat]
    have hp : pot (withC { m with Store := m.Store, Server := { m.Server with Box := box } } c { (ix m.Clients c) with Box := [ansB ⟨c, (cnt m.Store.Past c : Int) - 1, ix (heardF [] m.Store.Past c) ((cnt m.Store.Past c : Int) - 1)⟩] }) < pot m := by
     rw [pot_withS hn2, wt_told _ w.b]
     unfold pot
     simp only [hb, Bool.false_eq_true, if_false]
     omega
    refine ⟨⟨hfin.nd, fun b hb' => (by obtain ⟨d, w, e⟩ := hfin.q b hb'; exact ⟨d, ⟨w.r, w.b, w.s, w.g⟩, e⟩), fun e => (by obtain ⟨w, e⟩ := hfin.b e; exact ⟨⟨w.r, w.b, w.s, w.g⟩, e⟩), hfin.a, fun _ d hd' => ?_⟩, Int.le_of_lt hp, fun _ _ => hp⟩
    show (ix (up m.Clients c _) d).Sent = true → (ix (up m.Clients c _) d).Gen = m.Server.Gen → (ix (up m.Clients c _) d).Box = [] → d ∈ box.map own ∨ _
    rw [ix_up _ _ _ _ hn2 hd'.1]
    split
    ·intro _ _ e3; cases e3
    ·rename_i hne
     exact fun a1 a2 a3 => .inl (hs d hd' (fun e => hne e.symm) a1 a2 a3)
   ·rw [if_neg h1]
    have et : ∀ M : Mk.Machine, Sp.toC M [] = M := fun M => by unfold Sp.toC; rw [if_pos rfl]
    rw [et]
    have hpl := planR_len (entries m.Store.Cells) (call cs c (ix m.Clients c).At)
    have hp : pot { m with Store := m.Store, Server := ⟨m.Server.Gen, box, true, ⟨c, (ix m.Clients c).At, call cs c (ix m.Clients c).At⟩, (planR (entries m.Store.Cells) (call cs c (ix m.Clients c).At)).1, (planR (entries m.Store.Cells) (call cs c (ix m.Clients c).At)).2⟩ } < pot m := by
     rw [pot_same]
     unfold pot
     simp only [hb, if_true, Bool.false_eq_true, if_false]
     omega
    refine ⟨⟨nd, fun b' hb' => (by obtain ⟨d, w, e⟩ := hq b' hb'; exact ⟨d, ⟨w.r, w.b, w.s, w.g⟩, e⟩), fun _ => ⟨⟨w.r, w.b, w.s, w.g⟩, hni⟩, h2.a, fun _ d hd' a1 a2 a3 => ?_⟩, Int.le_of_lt hp, fun _ _ => hp⟩
    by_cases hdc : d = c
    ·exact .inr ⟨rfl, hdc.symm⟩
    ·exact .inl (hs d hd' hdc a1 a2 a3)
theorem inv2_do (hcs : CsOk cs) (h : Inv cs m) (h2 : Inv2 cs m) (s : Mk.Step) : Inv2 cs (doM m s).1 := by
 unfold doM
 split
 ·exact (inv2_doC hcs h h2 _).1
 ·split
  ·exact (inv2_doS hcs h h2).1
  ·split
   ·exact inv2_fall h2
   ·split
    ·exact inv2_tick h h2
    ·exact h2
theorem inv2_run (hcs : CsOk cs) (l : List Mk.Step) (h : Inv cs m) (h2 : Inv2 cs m) : Inv2 cs (runM m l) := by
 induction l generalizing m with
 | nil => exact h2
 | cons s l ih => exact ih (do_step hcs h s).2 (inv2_do hcs h h2 s)
theorem doM_client (m : Mk.Machine) (n : Int) : doM m ⟨1, n⟩ = doC m n := by simp [doM]
theorem doM_server (m : Mk.Machine) (n : Int) : doM m ⟨2, n⟩ = doS m := by simp [doM]
theorem doC_up (m : Mk.Machine) (n : Int) : (doC m n).1.Up = m.Up := by
 unfold doC
 split
 ·rfl
 ·split
  ·rfl
  ·split
   ·rfl
   ·split <;> rfl
theorem clients_go (hcs : CsOk cs) (n i : Nat) (hi : i + n ≤ cs.length) (h : Inv cs m) (h2 : Inv2 cs m) : pot (runM m (csteps n i)) ≤ pot m ∧ (todo m → todo (runM m (csteps n i))) ∧ (runM m (csteps n i)).Up = m.Up ∧
  (m.Up = true → ∀ c : Nat, i ≤ c → c < i + n → (ix m.Clients (c : Int)).At < (ix m.Clients (c : Int)).Calls.length → pot (runM m (csteps n i)) < pot m ∨ todo (runM m (csteps n i))) := by
 induction n generalizing m i with
 | zero => exact ⟨Int.le_refl _, fun t => t, rfl, fun _ c h1 h2 => by omega⟩
 | succ n ih =>
  have hd := inv2_doC hcs h h2 (i : Int)
  obtain ⟨d1, d2, d3, d4, d5⟩ := hd
  have hI := (do_step hcs h ⟨1, (i : Int)⟩).2
  have hup := doC_up m (i : Int)
  rw [doM_client] at hI
  obtain ⟨i1, i2, i3, i4⟩ := ih (i + 1) (by omega) hI d1
  rw [csteps, runM, doM_client]
  refine ⟨by omega, fun t => i2 (d3 t), by rw [i3, hup], fun hu c h1 h2' hlt => ?_⟩
  by_cases hci : c = i
  ·subst hci
   rcases d5 ⟨by omega, by omega⟩ hu hlt with hh | hh
   ·exact .inl (by omega)
   ·exact .inr (i2 hh)
  ·have e := d4 (c : Int) (by omega) (by omega)
   rcases i4 (by rw [hup]; exact hu) c (by omega) (by omega) (by rw [e]; exact hlt) with hh | hh
   ·exact .inl (by omega)
   ·exact .inr hh
theorem pot_tick (h : Inv cs m) : pot (tick m) ≤ pot m ∧ (m.Up = false → pot (tick m) < pot m) ∧ (m.Up = true → tick m = m) := by
 unfold tick
 split
 ·rename_i hu
  exact ⟨Int.le_refl _, fun e => (by rw [hu] at e; cases e), fun _ => rfl⟩
 ·rename_i h1
  have hu : m.Up = false := by cases hu : m.Up <;> simp_all
  obtain ⟨d1, d2, d3, d4⟩ := h.down hu
  have hb : m.Server.Busy = false := by rw [d1]; rfl
  split
  ·have hp : pot { m with Pause := m.Pause - 1 } = pot m - 1 := by
    unfold pot; simp only; omega
   exact ⟨by omega, fun _ => by omega, fun e => (by rw [hu] at e; cases e)⟩
  ·have hp : pot ⟨back m.Store, srv0 (m.Server.Gen + 1), true, 0, m.Falls, m.Clients⟩ = pot m - m.Pause := by
    unfold pot
    simp only [hb, srv0, Bool.false_eq_true, if_false]; omega
   exact ⟨by omega, fun _ => by omega, fun e => (by rw [hu] at e; cases e)⟩
theorem not_idle {l : List Mk.Client} (h : idle l = false) : ∃ c : Nat, c < l.length ∧ (ix l (c : Int)).At < (ix l (c : Int)).Calls.length := by
 induction l with
 | nil => cases h
 | cons x l ih =>
  unfold idle at h
  rw [List.all_cons] at h
  by_cases hx : (x.Calls.length : Int) ≤ x.At
  ·rw [dT hx, Bool.true_and] at h
   obtain ⟨c, h1, h2⟩ := ih h
   refine ⟨c + 1, by simp; omega, ?_⟩
   have e : ix (x :: l) ((c + 1 : Nat) : Int) = ix l (c : Int) := by simp [ix]
   rw [e]; exact h2
  ·have e : ix (x :: l) ((0 : Nat) : Int) = x := rfl
   exact ⟨0, by simp, by rw [e]; omega⟩
theorem round_pot (hcs : CsOk cs) (h : Inv cs m) (h2 : Inv2 cs m) (hid : idle m.Clients = false) : Inv2 cs (roundM m) ∧ pot (roundM m) < pot m := by
 have hT := inv_tick h
 have hT2 := inv2_tick h h2
 obtain ⟨p1, p2, p3⟩ := pot_tick h
 have hn := h.nk
 obtain ⟨c1, c2, c3, c4⟩ := clients_go hcs m.Clients.length 0 (by omega) hT hT2
 have hC := inv_run hcs hT (csteps m.Clients.length 0)
 have hC2 := inv2_run hcs (csteps m.Clients.length 0) hT hT2
 obtain ⟨s1, s2, s3⟩ := inv2_doS hcs hC hC2
 unfold roundM
 rw [doM_server]
 refine ⟨s1, ?_⟩
 rcases Bool.eq_false_or_eq_true m.Up with hu | hu
 rotate_left
 ·have := p2 hu; omega
 ·have ht := p3 hu
  obtain ⟨c, hc, hlt⟩ := not_idle hid
  rw [ht] at c1 c2 c3 c4 s2 s3 ⊢
  rcases c4 hu c (by omega) (by omega) hlt with hh | hh
  ·omega
  ·have := s3 (by rw [c3, hu]) hh; omega
theorem sumw_low (l : List Mk.Client) (h : ∀ x ∈ l, -5 ≤ wt x ∧ wt x ≤ 48) : -5 * (l.length : Int) ≤ sumw l ∧ sumw l ≤ 48 * (l.length : Int) := by
 induction l with
 | nil => simp [sumw]
 | cons x l ih =>
  have h1 := ih (fun y hy => h y (by simp [hy]))
  have h2 := h x (by simp)
  rw [sumw, List.length_cons]; omega
theorem pot_range (hcs : CsOk cs) (h : Inv cs m) : -19 ≤ pot m ∧ pot m ≤ 147 := by
 have hn3 := hcs.n
 have hk := h.nk
 have hw : ∀ x ∈ m.Clients, -5 ≤ wt x ∧ wt x ≤ 48 := fun x hx => by
  obtain ⟨i, hi, e⟩ := List.mem_iff_getElem.1 hx
  have hc := h.cl (i : Int) (by omega)
  rw [ix_nat _ i hi, e] at hc
  have h8 := hc.le8 hcs h.law (by omega)
  have h1 := hc.at1
  have h2 := h.law.cnt_le (i : Int) (by omega)
  have h3 := hc.calls
  have h0 := hc.at0
  rw [← h3] at h2
  unfold wt
  split <;> omega
 have hs := sumw_low m.Clients hw
 have hp : 0 ≤ m.Pause ∧ m.Pause ≤ 3 := by
  rcases Bool.eq_false_or_eq_true m.Up with hu | hu
  ·have := (h.up hu).1; omega
  ·have := h.down hu; omega
 have hb : m.Server.Busy = true → m.Server.Plan.length ≤ 3 := fun hb => by
  obtain ⟨b0, done, _, _, _, _, _, hpl⟩ := h.st
  have := planR_len (allN [] m.Store.Past) m.Server.Now.Call
  rw [hpl hb, List.length_append] at this
  omega
 unfold pot
 split
 ·rename_i hh; have := hb hh; omega
 ·omega
theorem settle_idle (hcs : CsOk cs) (k : Nat) (h : Inv cs m) (h2 : Inv2 cs m) (hk : pot m + 20 ≤ (k : Int)) : idle (settle k m).Clients = true := by
 induction k generalizing m with
 | zero => have := (pot_range hcs h).1; omega
 | succ k ih =>
  unfold settle
  cases hid : idle m.Clients with
  | true => simp [hid]
  | false =>
   obtain ⟨r1, r2⟩ := round_pot hcs h h2 hid
   simp only [Bool.false_eq_true, if_false]
   exact ih (inv_round hcs h) r1 (by omega)
theorem inv2_new {l : List (List Mk.Call)} (h0 : (newM l).2 = 0) : Inv2 l (newM l).1 := by
 obtain ⟨_, hM, e⟩ := newM_inv h0
 rw [e]
 have hix : ∀ c : Int, 0 ≤ c ∧ c < l.length → ix (l.map cl0) c = cl0 (ix l c) := fun c hc => by
  have : c.toNat < l.length := by omega
  simp [ix, this]
 refine ⟨by simp [lst, srv0], by simp [srv0], fun e => (by cases e), fun c hc hne => ?_, fun _ c hc hs => ?_⟩
 ·have hne' : (ix (l.map cl0) c).Box ≠ [] := hne
  rw [hix c hc] at hne'; exact (hne' rfl).elim
 ·have hs' : (ix (l.map cl0) c).Sent = true := hs
  rw [hix c hc] at hs'; cases hs'
end
theorem settled {l : List (List Mk.Call)} (h0 : (newM l).2 = 0) (steps : List Mk.Step) : CsOk l ∧ Inv l (settle 300 (runM (newM l).1 (steps.take 400))) ∧ idle (settle 300 (runM (newM l).1 (steps.take 400))).Clients = true := by
 obtain ⟨hcs, hM0, _⟩ := newM_inv h0
 have hM := inv_run hcs hM0 (steps.take 400)
 have hM2 := inv2_run hcs (steps.take 400) hM0 (inv2_new h0)
 have hr := (pot_range hcs hM).2
 exact ⟨hcs, inv_settle hcs 300 hM, settle_idle hcs 300 hM hM2 (by omega)⟩
theorem idle_mem {l : List Mk.Client} (h : idle l = true) (i : Nat) (hi : i < l.length) : ((ix l (i : Int)).Calls.length : Int) ≤ (ix l (i : Int)).At := by
 unfold idle at h
 rw [List.all_eq_true] at h
 have := h (ix l (i : Int)) (ix_mem _ _ (by omega))
 simpa using this
theorem fe_loop {cs : List (List Mk.Call)} {M : Mk.Machine} (hcs : CsOk cs) (h : Inv cs M) (hid : idle M.Clients = true) (k : Unit → Option Bool) (hk : k () = some true) : ∀ (m i : Nat), i + m = M.Clients.length → ∀ f : Nat, m < f →
  mklaw12_FairEnds_l1 k f cs M.Clients (M.Clients.length : Int) (i : Int) = some true := by
 have hn3 := hcs.n
 have hnk := h.nk
 intro m
 induction m with
 | zero =>
  intro i hi f hf
  obtain ⟨f, rfl⟩ : ∃ g, f = g + 1 := ⟨f - 1, by omega⟩
  rw [mklaw12_FairEnds_l1, dF (by omega), cF, hk]
 | succ m ih =>
  intro i hi f hf
  obtain ⟨f, rfl⟩ : ∃ g, f = g + 1 := ⟨f - 1, by omega⟩
  have hx := h.cl (i : Int) (by omega)
  have hg := hx.got_len
  have h1 := hx.at1
  have h2 := h.law.cnt_le (i : Int) (by omega)
  have h3 := idle_mem hid i (by omega)
  rw [hx.calls] at h3
  rw [mklaw12_FairEnds_l1, dT (by omega), cT, G_on (by omega), G_on (by omega), dT (show ((ix M.Clients (i : Int)).Got.length : Int) = ((ix cs (i : Int)).length : Int) from by omega), nT, cF, G_on (by unfold I; omega), show ((i : Int) + 1) = ((i + 1 : Nat) : Int) from by omega, ih (i + 1) (by omega) f (by omega)]
theorem fairEnds (l : List (List Mk.Call)) (steps : List Mk.Step) (hst : steps.length ≤ 9223372036854775807) : mklaw12_FairEnds l steps = some true := by
 unfold mklaw12_FairEnds
 rw [law12_alive, obs, nT, cF, rright_eq, obs]
 by_cases h0 : (newM l).2 = 0
 ·rw [dT h0, nT, cF, rplay_eq h0 steps hst, obs]
  obtain ⟨hcs, hM⟩ := play_inv h0 steps
  obtain ⟨_, hS, hid⟩ := settled h0 steps
  dsimp only
  rw [fsettle_eq hcs hM, obs]
  have hr := rounds_le 300 (runM (newM l).1 (steps.take 400))
  generalize rounds 300 (runM (newM l).1 (steps.take 400)) = r at hr
  generalize settle 300 (runM (newM l).1 (steps.take 400)) = x at hS hid
  have hnk := hS.nk
  dsimp only
  rw [dF (by omega), dT (show (x.Clients.length : Int) = (l.length : Int) from by omega)]
  simp only [nT, Bool.or_self, cF, J]
  exact fe_loop hcs hS hid (fun _ => some true) rfl x.Clients.length 0 (by omega) (((x.Clients.length : Int) - 0).toNat + 1) (by omega)
 ·rw [dF h0, nF, cT]
end Sp
end
section
namespace Sp
theorem allN_calls (l : List Mk.Write) : ∀ (p q : List Mk.Request), p.map (fun r => r.Call) = q.map (fun r => r.Call) → allN l p = allN l q ∧ allR l p = allR l q := by
 intro p
 induction p generalizing l with
 | nil => intro q h; cases q with
  | nil => exact ⟨rfl, rfl⟩
  | cons r q => simp at h
 | cons r p ih =>
  intro q h
  cases q with
  | nil => simp at h
  | cons s q =>
   simp only [List.map_cons, List.cons.injEq] at h
   obtain ⟨h1, h2⟩ := h
   obtain ⟨i1, i2⟩ := ih (doP l r.Call).1 q h2
   rw [allN, allN, allR, allR, i1, i2, h1]
   exact ⟨rfl, rfl⟩
theorem heard_all (l : List Mk.Write) (p : List Mk.Request) (c : Int) (h : ∀ r ∈ p, r.Client = c) : heardF l p c = allR l p := by
 induction p generalizing l with
 | nil => rfl
 | cons r p ih =>
  rw [heardF, allR, if_pos (h r (by simp)), ih _ (fun r hr => h r (by simp [hr]))]
theorem range_ix (l : List Mk.Call) : (List.range l.length).map (fun (t : Nat) => ix l (t : Int)) = l := by
 apply List.ext_getElem
 ·simp
 ·intro i h1 h2
  simp [ix, h2]
theorem fa_loop (K : List Mk.Call) (hK : K.length ≤ 1000) (k : Mk.Machine → List Mk.Request → Option Bool) (y : Mk.Machine) : ∀ (m i : Nat), i + m = K.length → ∀ f : Nat, m < f → ∀ acc : List Mk.Request, acc.length ≤ i →
  mklaw12_FairAlone_l1 k f K (K.length : Int) (i : Int) y acc = k y (acc ++ (K.drop i).map fun c => ⟨0, 0, c⟩) := by
 intro m
 induction m with
 | zero =>
  intro i hi f hf acc ha
  obtain ⟨f, rfl⟩ : ∃ g, f = g + 1 := ⟨f - 1, by omega⟩
  rw [mklaw12_FairAlone_l1, dF (by omega), cF, List.drop_of_length_le (by omega)]; simp
 | succ m ih =>
  intro i hi f hf acc ha
  obtain ⟨f, rfl⟩ : ∃ g, f = g + 1 := ⟨f - 1, by omega⟩
  rw [mklaw12_FairAlone_l1, dT (by omega), cT, G_on (by omega), G_on (by simp; omega), G_on (by unfold I; omega), show ((i : Int) + 1) = ((i + 1 : Nat) : Int) from by omega, ih (i + 1) (by omega) f (by omega) _ (by simp; omega), ix_drop K i (by omega)]
  simp
theorem fairAlone (calls : List Mk.Call) (steps : List Mk.Step) (hst : steps.length ≤ 9223372036854775807) : mklaw12_FairAlone calls steps = some true := by
 unfold mklaw12_FairAlone
 rw [law12_alive, obs, nT, cF, rright_eq, obs]
 by_cases h0 : (newM [calls]).2 = 0
 ·rw [dT h0, nT, cF, rplay_eq h0 steps hst, obs]
  obtain ⟨hcs, hM⟩ := play_inv h0 steps
  obtain ⟨_, hS, hid⟩ := settled h0 steps
  dsimp only
  rw [fsettle_eq hcs hM, obs]
  generalize rounds 300 (runM (newM [calls]).1 (steps.take 400)) = r
  generalize settle 300 (runM (newM [calls]).1 (steps.take 400)) = x at hS hid
  have hnk := hS.nk
  have h8 : calls.length ≤ 8 := by have := hcs.len (c := 0) (by simp); simpa [ix] using this
  have hcal : ∀ c ∈ calls, CallOk c := fun c hc => (hcs.l calls (by simp)).2 c hc
  dsimp only
  simp only [J]
  have h1 := fun k y => fa_loop calls (by omega) k y calls.length 0 (by omega) (((calls.length : Int) - 0).toNat + 1) (by omega) [] (by simp)
  rw [show ((0 : Nat) : Int) = 0 from rfl] at h1
  rw [h1, List.drop_zero, List.nil_append]
  rw [rall_eq _ (by simp; omega) (fun r hr => by obtain ⟨c, hc, rfl⟩ := List.mem_map.1 hr; exact hcal c hc), obs]
  -- what was done
  have hx := hS.cl 0 (by simp)
  have hat := idle_mem hid 0 (by rw [hnk]; simp)
  rw [show ((0 : Nat) : Int) = 0 from rfl, hx.calls] at hat
  have hix : ix [calls] (0 : Int) = calls := rfl
  rw [hix] at hat
  have hc1 := hx.at1
  have hc2 := hS.law.cnt_le 0 (by simp)
  rw [hix] at hc2
  have hcnt : cnt x.Store.Past 0 = calls.length := by omega
  have hall : ∀ r ∈ x.Store.Past, r.Client = 0 := fun r hr => by
   have := (hS.law.req hcs r hr).1
   simp at this; omega
  have hpast : x.Store.Past = (List.range calls.length).map fun (t : Nat) => ⟨0, (t : Int), call [calls] 0 (t : Int)⟩ := by
   have := hS.law.mine 0
   rw [hcnt, List.filter_eq_self.2 (fun r hr => by simp [hall r hr])] at this
   exact this
  have hmap : x.Store.Past.map (fun r => r.Call) = (calls.map fun c => (⟨0, 0, c⟩ : Mk.Request)).map (fun r => r.Call) := by
   rw [hpast, List.map_map, List.map_map]
   show (List.range calls.length).map (fun (t : Nat) => ix calls (t : Int)) = calls.map fun c => c
   rw [range_ix, List.map_id']
  obtain ⟨e1, e2⟩ := allN_calls [] _ _ hmap
  have hgot : (ix x.Clients 0).Got = allR [] (calls.map fun c => (⟨0, 0, c⟩ : Mk.Request)) := by
   rw [← e2, ← heard_all [] _ 0 hall, hx.got, List.take_of_length_le (by rw [heardF_len]; omega)]
  have hgl : (ix x.Clients 0).Got.length ≤ 1000 := by rw [hgot, allR_len]; simp; omega
  obtain ⟨b0, hR, hb⟩ := hS.back
  have hof : mkref1_Of (back x.Store).Cells = some (allN [] x.Store.Past) := of_eq (by show Rt (wrs x.Store.Cells x.Store.Undo) _; rw [hb]; exact hR)
  have hnl : (allN [] x.Store.Past).length ≤ 1000 := by have := hR.le; omega
  have h1l : decide ((x.Clients.length : Int) = 1) = true := dT (by rw [hnk]; rfl)
  dsimp only
  rw [h1l, G_on (fun _ => by rw [hnk]; simp), Cn_yes rfl, sameReplies_eq _ _ (by omega), obs, dT hgot, Bool.and_self, Cn_yes rfl, rback_eq (hS.sz hcs), obs, Cn_yes rfl, hof, obs, Cn_yes rfl, sameWrites_eq _ _ (by omega), obs, dT e1]; rfl
 ·rw [dF h0, nF, cT]
end Sp
end
