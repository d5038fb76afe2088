/- WHAT THE STATEMENTS OF THIS GROUP NEED, part 4: laid together by prune.py out of own texts. -/
import Derived.Test.YtihaabdflfpacaaZFaT3
set_option linter.unusedVariables false
set_option linter.unusedSimpArgs false
set_option maxRecDepth 20000
set_option maxHeartbeats 4000000
section
namespace Go.Gx
open Sp
theorem c_mkref1_SameStore {a0 : Mk.Store} {a1 : Mk.Store} {r : Bool} (hφ : mkref1_SameStore a0 a1 = some r) : Fn Go.Proofs.Try.prog 35 [.val a0, .val a1] (.val r) := by
 unfold mkref1_SameStore at hφ
 refine Fn.mk' Go.Proofs.Try.func35 rfl (by decide) rfl rfl rfl (fun w0 hw0 => ?_)
 refine Q2 (Q1 ?_)
 refine O3 rfl rfl (ox_box (id := 2) .tmp) (.one rfl) .nil rfl (by kernel_rfl) <| O3 rfl rfl (ox_box (id := 3) .tmp) (.one rfl) .nil rfl (by kernel_rfl) <| O5 (ox1 .bool) .nil .nil rfl <| O1 <| Q0 (σ' := ⟨[(2, _), (3, _)], [(2, .var (a0) []), (3, .var (a1) [])]⟩) (j2 rfl rfl) (j2 rfl rfl) ?_
 refine Q2 (Q2 ?_)
 obtain ⟨v1, hv1, hφ⟩ := B_some hφ
 obtain ⟨v2, hv2, hφ⟩ := B_some hφ
 refine Q1 ?_
 refine O5 (ox3 Store_Cells f30_0) (.one rfl) .nil rfl <| O5 (ox2 t25) (.one rfl) (.one rfl) rfl <| O5 (ox3 Store_Cells f30_0) (.one rfl) .nil rfl <| O5 (ox2 t25) (.one rfl) (.one rfl) rfl <| O5 (ox_call (c_mkref1_SameInts hv1) (.cons .tmp (.cons .tmp .nil))) (.app (.one rfl) (.app (.one rfl) .nil)) .nil rfl <| O5 (ox_not .tmp) (.one rfl) .nil rfl ?_
 refine O5 (ox0 .tmp) (.one rfl) .nil rfl <| O4 rfl rfl rfl rfl (.plain .nil) (fun hG => (ox3 Store_Undo f30_1)) (j1 rfl) .nil rfl <| O4 rfl rfl rfl rfl (.cond (fun h => h) .nil) (fun hG => (ox2 t26)) (j1 rfl) (.one rfl) rfl <| O4 rfl rfl rfl rfl (.plain .nil) (fun hG => (ox3 Store_Undo f30_1)) (j1 rfl) .nil rfl <| O4 rfl rfl rfl rfl (.cond (fun h => h) .nil) (fun hG => (ox2 t26)) (j1 rfl) (.one rfl) rfl <| O4 rfl rfl rfl rfl (.cond (fun h => h) (.cond (fun h => h) .nil)) (fun hG => (ox_call (c_mkref1_SameWrites (Cn_on hv2 hG)) (.cons .tmp (.cons .tmp .nil)))) (j2 rfl rfl) .nil rfl ?_
 refine O4 rfl rfl rfl rfl (.cond (fun h => h) .nil) (fun hG => (ox_not .tmp)) (j1 rfl) .nil rfl <| O5 ox9 (j2 rfl rfl) .nil rfl <| O5 (ox0 .tmp) (.one rfl) .nil rfl <| O4 rfl rfl rfl rfl (.plain .nil) (fun hG => (ox3 Store_Answers f30_2)) (j1 rfl) .nil rfl <| O4 rfl rfl rfl rfl (.cond (fun h => h) .nil) (fun hG => (ox2 t27)) (j1 rfl) (.one rfl) rfl <| O4 rfl rfl rfl rfl (.cond (fun h => h) .nil) (fun hG => (ox_len s27 .tmp)) (j1 rfl) .nil rfl ?_
 refine O4 rfl rfl rfl rfl (.plain .nil) (fun hG => (ox3 Store_Answers f30_2)) (j1 rfl) .nil rfl <| O4 rfl rfl rfl rfl (.cond (fun h => h) .nil) (fun hG => (ox2 t27)) (j1 rfl) (.one rfl) rfl <| O4 rfl rfl rfl rfl (.cond (fun h => h) .nil) (fun hG => (ox_len s27 .tmp)) (j1 rfl) .nil rfl <| O4 rfl rfl rfl rfl (.cond (fun h => h) (.cond (fun h => h) .nil)) (fun hG => (ox_neq .tmp .tmp)) (j2 rfl rfl) .nil rfl <| O5 ox9 (j2 rfl rfl) .nil rfl <| O5 (ox0 .tmp) (.one rfl) .nil rfl ?_
 refine O4 rfl rfl rfl rfl (.plain .nil) (fun hG => (ox3 Store_Past f30_3)) (j1 rfl) .nil rfl <| O4 rfl rfl rfl rfl (.cond (fun h => h) .nil) (fun hG => (ox2 t28)) (j1 rfl) (.one rfl) rfl <| O4 rfl rfl rfl rfl (.cond (fun h => h) .nil) (fun hG => (ox_len s28 .tmp)) (j1 rfl) .nil rfl <| O4 rfl rfl rfl rfl (.plain .nil) (fun hG => (ox3 Store_Past f30_3)) (j1 rfl) .nil rfl <| O4 rfl rfl rfl rfl (.cond (fun h => h) .nil) (fun hG => (ox2 t28)) (j1 rfl) (.one rfl) rfl <| O4 rfl rfl rfl rfl (.cond (fun h => h) .nil) (fun hG => (ox_len s28 .tmp)) (j1 rfl) .nil rfl ?_
 refine O4 rfl rfl rfl rfl (.cond (fun h => h) (.cond (fun h => h) .nil)) (fun hG => (ox_neq .tmp .tmp)) (j2 rfl rfl) .nil rfl <| O5 ox9 (j2 rfl rfl) .nil rfl <| O1 <| Q0 (σ' := ⟨[(2, _), (3, _), (38, .val (((((!v1) || (!v2)) || (!decide ((a0.Answers.length : Int) = (a1.Answers.length : Int)))) || (!decide ((a0.Past.length : Int) = (a1.Past.length : Int))))))], [(2, _), (3, _)]⟩) (j3 rfl rfl rfl) (j2 rfl rfl) ?_
 refine Q3 _ rfl (fun hc3 => ?_) (fun hc3 => ?_)
 ·replace hφ := if_then hφ hc3
  refine Q0 (σ' := ⟨[], []⟩) trivial trivial ?_
  refine Q2 (Q1 ?_)
  refine O5 (ox1 .bool) .nil .nil rfl <| O1 <| Q0 (σ' := ⟨[(4, .val (false))], []⟩) (j1 rfl) trivial ?_
  refine Q5 ?_
  obtain rfl := Option.some.inj hφ
  exact Q6 hw0 rfl (.tmp rfl rfl .nil) rfl
 ·replace hφ := if_else hφ hc3
  refine Q0 (σ' := ⟨[(2, _), (3, _)], [(2, _), (3, _)]⟩) (j2 rfl rfl) (j2 rfl rfl) ?_
  refine Q4 ?_
  obtain ⟨k4, hk4, hφ⟩ := J_some hφ
  refine PT.cut (ι := Mk.Store × Mk.Store) (fun p => ⟨[(2, .ptr 2 (Lens.id (α := Mk.Store))), (3, .ptr 3 (Lens.id (α := Mk.Store)))], [(2, .var (p.1) []), (3, .var (p.2) [])]⟩) (fun p => k4 (p.1) (p.2) = some r) ?_ ?_
  ·skip
   refine Q2 (Q1 ?_)
   refine O5 (ox3 Store_Answers f30_2) (.one rfl) .nil rfl <| O5 (ox2 t27) (.one rfl) (.one rfl) rfl <| O5 (ox_len s27 .tmp) (.one rfl) .nil rfl <| O5 (ox0 .int) .nil .nil rfl <| O1 <| Q0 (σ' := ⟨[(2, _), (3, _), (41, .val (a0.Answers.length : Int)), (42, .val (0 : Int))], [(2, _), (3, _)]⟩) (j4 rfl rfl rfl rfl) (j2 rfl rfl) ?_
   refine PT.block ?_
   refine PT.loop (ι := Nat × Int × Int × Mk.Store × Mk.Store) (fun p => ⟨[(2, .ptr 2 (Lens.id (α := Mk.Store))), (3, .ptr 3 (Lens.id (α := Mk.Store))), (41, .val (p.2.1)), (42, .val (p.2.2.1))], [(2, .var (p.2.2.2.1) []), (3, .var (p.2.2.2.2) [])]⟩) (fun p => mkref1_SameStore_l1 k4 p.1 (p.2.1) (p.2.2.1) (p.2.2.2.1) (p.2.2.2.2) = some r) (fun p => p.1) (((a0.Answers.length : Int) - (0 : Int)).toNat + 1, (a0.Answers.length : Int), (0 : Int), a0, a1) hφ (j4 rfl rfl rfl rfl) (j2 rfl rfl) ?_
   rintro ⟨m5, x41_m5, x42_m5, y2_m5, y3_m5⟩ (hφ : mkref1_SameStore_l1 k4 m5 x41_m5 x42_m5 y2_m5 y3_m5 = some r)
   obtain _ | m5 := m5
   ·exact (none_no hφ).elim
   rw [mkref1_SameStore_l1.eq_2] at hφ
   refine Q0 (σ' := ⟨[(2, .ptr 2 (Lens.id (α := Mk.Store))), (3, .ptr 3 (Lens.id (α := Mk.Store))), (41, .val (x41_m5)), (42, .val (x42_m5))], [(2, .var (y2_m5) []), (3, .var (y3_m5) [])]⟩) (j4 rfl rfl rfl rfl) (j2 rfl rfl) ?_
   refine Q2 (Q1 ?_)
   refine O5 (ox_lss .tmp .tmp) (.app (.one rfl) (.one rfl)) .nil rfl <| O1 <| Q0 (σ' := ⟨[(2, _), (3, _), (41, _), (42, _), (43, .val (decide (x42_m5 < x41_m5)))], [(2, _), (3, _)]⟩) (j5 rfl rfl rfl rfl rfl) (j2 rfl rfl) ?_
   refine Q2 ?_
   refine Q3 _ rfl (fun hc6 => ?_) (fun hc6 => ?_)
   ·replace hφ := if_then hφ hc6
    refine Q0 (σ' := ⟨[(2, _), (3, _), (41, _), (42, _)], [(2, _), (3, _)]⟩) (j4 rfl rfl rfl rfl) (j2 rfl rfl) ?_
    refine Q4 ?_
    refine Q2 ?_
    refine PT.block ?_
    refine Q2 (Q1 ?_)
    refine O5 (ox0 .tmp) (.one rfl) .nil rfl <| O5 (ox1 .tmp) (.one rfl) .nil rfl <| O1 <| Q0 (σ' := ⟨[(2, _), (3, _), (5, .val (x42_m5)), (41, _), (42, _)], [(2, _), (3, _)]⟩) (j5 rfl rfl rfl rfl rfl) (j2 rfl rfl) ?_
    refine Q2 ?_
    obtain ⟨hb7, hφ⟩ := G_some hφ
    obtain ⟨hb8, hφ⟩ := G_some hφ
    refine Q8 hMixed (
      .cons (S5 (ox3 Store_Answers f30_2)) ⟨.one rfl, .nil⟩ (by kernel_rfl) rfl <|
      .cons (S5 (ox2 t27)) ⟨.one rfl, .one rfl⟩ (by kernel_rfl) rfl <|
      .cons (S5 (ox0 .tmp)) ⟨.one rfl, .nil⟩ (by kernel_rfl) rfl <|
      .cons (S5 (ox_ix s27 .tmp .tmp hb7.1 hb7.2)) ⟨(.app (.one rfl) (.one rfl)), .nil⟩ (by kernel_rfl) rfl <|
      .cons (S5 (ox_load_elem t74)) ⟨.one rfl, .nil⟩ (by kernel_rfl) rfl <|
      .cons (S5 (ox3 Store_Answers f30_2)) ⟨.one rfl, .nil⟩ (by kernel_rfl) rfl <|
      .cons (S5 (ox2 t27)) ⟨.one rfl, .one rfl⟩ (by kernel_rfl) rfl <|
      .cons (S5 (ox0 .tmp)) ⟨.one rfl, .nil⟩ (by kernel_rfl) rfl <|
      .cons (S5 (ox_ix s27 .tmp .tmp hb8.1 hb8.2)) ⟨(.app (.one rfl) (.one rfl)), .nil⟩ (by kernel_rfl) rfl <|
      .cons (S5 (ox_load_elem t74)) ⟨.one rfl, .nil⟩ (by kernel_rfl) rfl <|
      .cons (S5 (ox_neqT e74 .tmp .tmp)) ⟨(.app (.one rfl) (.one rfl)), .nil⟩ (by kernel_rfl) rfl <|
      .nil) _ [[], [0], [], [0, 1, 2], [0, 1, 2, 3], [], [5], [], [5, 6, 7], [5, 6, 7, 8], [0, 1, 2, 3, 4, 5, 6, 7, 8, 9]] rfl (by kernel_rfl) (by kernel_rfl) ?_
    refine Q0 (σ' := ⟨[(2, _), (3, _), (41, _), (42, _), (55, .val (!decide ((ix y2_m5.Answers x42_m5) = (ix y3_m5.Answers x42_m5))))], [(2, _), (3, _)]⟩) (j5 rfl rfl rfl rfl rfl) (j2 rfl rfl) ?_
    refine Q3 _ rfl (fun hc9 => ?_) (fun hc9 => ?_)
    ·replace hφ := if_then hφ hc9
     refine Q0 (σ' := ⟨[], []⟩) trivial trivial ?_
     refine Q2 (Q1 ?_)
     refine O5 (ox1 .bool) .nil .nil rfl <| O1 <| Q0 (σ' := ⟨[(4, .val (false))], []⟩) (j1 rfl) trivial ?_
     refine Q5 ?_
     obtain rfl := Option.some.inj hφ
     exact Q6 hw0 rfl (.tmp rfl rfl .nil) rfl
    ·replace hφ := if_else hφ hc9
     refine Q0 (σ' := ⟨[(2, _), (3, _), (41, _), (42, _)], [(2, _), (3, _)]⟩) (j4 rfl rfl rfl rfl) (j2 rfl rfl) ?_
     refine Q4 ?_
     obtain ⟨hb10, hφ⟩ := G_some hφ
     refine Q1 ?_
     refine O5 (ox_add .tmp .int hb10) (.app (.one rfl) .nil) .nil rfl <| O5 (ox0 .tmp) (.one rfl) .nil rfl <| O1 <| Q0 (σ' := ⟨[(2, _), (3, _), (41, _), (42, .val (x42_m5 + (1 : Int)))], [(2, _), (3, _)]⟩) (j4 rfl rfl rfl rfl) (j2 rfl rfl) ?_
     exact PT.next (m5, x41_m5, (x42_m5 + (1 : Int)), y2_m5, y3_m5) hφ (Nat.lt_succ_self _) (j4 rfl rfl rfl rfl) (j2 rfl rfl)
   ·replace hφ := if_else hφ hc6
    refine Q0 (σ' := ⟨[(2, _), (3, _)], [(2, _), (3, _)]⟩) (j2 rfl rfl) (j2 rfl rfl) ?_
    refine PT.exit ?_
    exact PT.meet (y2_m5, y3_m5) hφ (j2 rfl rfl) (j2 rfl rfl)
  ·rintro ⟨y2_k4, y3_k4⟩ hφ
   subst hk4
   refine Q0 (σ' := ⟨[(2, .ptr 2 (Lens.id (α := Mk.Store))), (3, .ptr 3 (Lens.id (α := Mk.Store)))], [(2, .var (y2_k4) []), (3, .var (y3_k4) [])]⟩) (j2 rfl rfl) (j2 rfl rfl) ?_
   obtain ⟨k11, hk11, hφ⟩ := J_some hφ
   refine PT.cut (ι := Unit) (fun p => ⟨[], []⟩) (fun p => k11 () = some r) ?_ ?_
   ·skip
    refine Q2 (Q1 ?_)
    refine O5 (ox3 Store_Past f30_3) (.one rfl) .nil rfl <| O5 (ox2 t28) (.one rfl) (.one rfl) rfl <| O5 (ox_len s28 .tmp) (.one rfl) .nil rfl <| O5 (ox0 .int) .nil .nil rfl <| O1 <| Q0 (σ' := ⟨[(2, _), (3, _), (59, .val (y2_k4.Past.length : Int)), (60, .val (0 : Int))], [(2, _), (3, _)]⟩) (j4 rfl rfl rfl rfl) (j2 rfl rfl) ?_
    refine PT.block ?_
    refine PT.loop (ι := Nat × Int × Int × Mk.Store × Mk.Store) (fun p => ⟨[(2, .ptr 2 (Lens.id (α := Mk.Store))), (3, .ptr 3 (Lens.id (α := Mk.Store))), (59, .val (p.2.1)), (60, .val (p.2.2.1))], [(2, .var (p.2.2.2.1) []), (3, .var (p.2.2.2.2) [])]⟩) (fun p => mkref1_SameStore_l2 k11 p.1 (p.2.1) (p.2.2.1) (p.2.2.2.1) (p.2.2.2.2) = some r) (fun p => p.1) (((y2_k4.Past.length : Int) - (0 : Int)).toNat + 1, (y2_k4.Past.length : Int), (0 : Int), y2_k4, y3_k4) hφ (j4 rfl rfl rfl rfl) (j2 rfl rfl) ?_
    rintro ⟨m12, x59_m12, x60_m12, y2_m12, y3_m12⟩ (hφ : mkref1_SameStore_l2 k11 m12 x59_m12 x60_m12 y2_m12 y3_m12 = some r)
    obtain _ | m12 := m12
    ·exact (none_no hφ).elim
    rw [mkref1_SameStore_l2.eq_2] at hφ
    refine Q0 (σ' := ⟨[(2, _), (3, _), (59, .val (x59_m12)), (60, .val (x60_m12))], [(2, .var (y2_m12) []), (3, .var (y3_m12) [])]⟩) (j4 rfl rfl rfl rfl) (j2 rfl rfl) ?_
    refine Q2 (Q1 ?_)
    refine O5 (ox_lss .tmp .tmp) (.app (.one rfl) (.one rfl)) .nil rfl <| O1 <| Q0 (σ' := ⟨[(2, _), (3, _), (59, _), (60, _), (61, .val (decide (x60_m12 < x59_m12)))], [(2, _), (3, _)]⟩) (j5 rfl rfl rfl rfl rfl) (j2 rfl rfl) ?_
    refine Q2 ?_
    refine Q3 _ rfl (fun hc13 => ?_) (fun hc13 => ?_)
    ·replace hφ := if_then hφ hc13
     refine Q0 (σ' := ⟨[(2, _), (3, _), (59, _), (60, _)], [(2, _), (3, _)]⟩) (j4 rfl rfl rfl rfl) (j2 rfl rfl) ?_
     refine Q4 ?_
     refine Q2 ?_
     refine PT.block ?_
     refine Q2 (Q1 ?_)
     refine O5 (ox0 .tmp) (.one rfl) .nil rfl <| O5 (ox1 .tmp) (.one rfl) .nil rfl <| O1 <| Q0 (σ' := ⟨[(2, _), (3, _), (6, .val (x60_m12)), (59, _), (60, _)], [(2, _), (3, _)]⟩) (j5 rfl rfl rfl rfl rfl) (j2 rfl rfl) ?_
     refine Q2 ?_
     obtain ⟨hb14, hφ⟩ := G_some hφ
     obtain ⟨hb15, hφ⟩ := G_some hφ
     refine Q8 hMixed (
       .cons (S5 (ox3 Store_Past f30_3)) ⟨.one rfl, .nil⟩ (by kernel_rfl) rfl <|
       .cons (S5 (ox2 t28)) ⟨.one rfl, .one rfl⟩ (by kernel_rfl) rfl <|
       .cons (S5 (ox0 .tmp)) ⟨.one rfl, .nil⟩ (by kernel_rfl) rfl <|
       .cons (S5 (ox_ix s28 .tmp .tmp hb14.1 hb14.2)) ⟨(.app (.one rfl) (.one rfl)), .nil⟩ (by kernel_rfl) rfl <|
       .cons (S5 (ox_load_elem t35)) ⟨.one rfl, .nil⟩ (by kernel_rfl) rfl <|
       .cons (S5 (ox3 Store_Past f30_3)) ⟨.one rfl, .nil⟩ (by kernel_rfl) rfl <|
       .cons (S5 (ox2 t28)) ⟨.one rfl, .one rfl⟩ (by kernel_rfl) rfl <|
       .cons (S5 (ox0 .tmp)) ⟨.one rfl, .nil⟩ (by kernel_rfl) rfl <|
       .cons (S5 (ox_ix s28 .tmp .tmp hb15.1 hb15.2)) ⟨(.app (.one rfl) (.one rfl)), .nil⟩ (by kernel_rfl) rfl <|
       .cons (S5 (ox_load_elem t35)) ⟨.one rfl, .nil⟩ (by kernel_rfl) rfl <|
       .cons (S5 (ox_neqT e35 .tmp .tmp)) ⟨(.app (.one rfl) (.one rfl)), .nil⟩ (by kernel_rfl) rfl <|
       .nil) _ [[], [0], [], [0, 1, 2], [0, 1, 2, 3], [], [5], [], [5, 6, 7], [5, 6, 7, 8], [0, 1, 2, 3, 4, 5, 6, 7, 8, 9]] rfl (by kernel_rfl) (by kernel_rfl) ?_
     refine Q0 (σ' := ⟨[(2, _), (3, _), (59, _), (60, _), (73, .val (!decide ((ix y2_m12.Past x60_m12) = (ix y3_m12.Past x60_m12))))], [(2, _), (3, _)]⟩) (j5 rfl rfl rfl rfl rfl) (j2 rfl rfl) ?_
     refine Q3 _ rfl (fun hc16 => ?_) (fun hc16 => ?_)
     ·replace hφ := if_then hφ hc16
      refine Q0 (σ' := ⟨[], []⟩) trivial trivial ?_
      refine Q2 (Q1 ?_)
      refine O5 (ox1 .bool) .nil .nil rfl <| O1 <| Q0 (σ' := ⟨[(4, .val (false))], []⟩) (j1 rfl) trivial ?_
      refine Q5 ?_
      obtain rfl := Option.some.inj hφ
      exact Q6 hw0 rfl (.tmp rfl rfl .nil) rfl
     ·replace hφ := if_else hφ hc16
      refine Q0 (σ' := ⟨[(2, _), (3, _), (59, _), (60, _)], [(2, _), (3, _)]⟩) (j4 rfl rfl rfl rfl) (j2 rfl rfl) ?_
      refine Q4 ?_
      obtain ⟨hb17, hφ⟩ := G_some hφ
      refine Q1 ?_
      refine O5 (ox_add .tmp .int hb17) (.app (.one rfl) .nil) .nil rfl <| O5 (ox0 .tmp) (.one rfl) .nil rfl <| O1 <| Q0 (σ' := ⟨[(2, _), (3, _), (59, _), (60, .val (x60_m12 + (1 : Int)))], [(2, _), (3, _)]⟩) (j4 rfl rfl rfl rfl) (j2 rfl rfl) ?_
      exact PT.next (m12, x59_m12, (x60_m12 + (1 : Int)), y2_m12, y3_m12) hφ (Nat.lt_succ_self _) (j4 rfl rfl rfl rfl) (j2 rfl rfl)
    ·replace hφ := if_else hφ hc13
     refine Q0 (σ' := ⟨[], []⟩) trivial trivial ?_
     refine PT.exit ?_
     exact PT.meet () hφ trivial trivial
   ·rintro ⟨⟩ hφ
    subst hk11
    refine Q0 (σ' := ⟨[], []⟩) trivial trivial ?_
    refine Q2 (Q1 ?_)
    refine O5 (ox1 .bool) .nil .nil rfl <| O1 <| Q0 (σ' := ⟨[(4, .val (true))], []⟩) (j1 rfl) trivial ?_
    refine Q5 ?_
    obtain rfl := Option.some.inj hφ
    exact Q6 hw0 rfl (.tmp rfl rfl .nil) rfl
theorem c_store_New  {r : Mk.Store} (hφ : store_New  = some r) : Fn Go.Proofs.Try.prog 79 [] (.val r) := by
 unfold store_New at hφ
 refine Fn.mk' Go.Proofs.Try.func79 rfl (by decide) rfl rfl rfl (fun w0 hw0 => ?_)
 refine Q2 (Q1 ?_)
 refine O3 rfl rfl (ox_alloc (id := 0) z30) .nil .nil rfl (by kernel_rfl) <| O1 <| Q0 (σ' := ⟨[(0, _)], [(0, .var zSt [])]⟩) (j1 rfl) (j1 rfl) ?_
 refine Q2 ?_
 obtain ⟨v1, hv1, hφ⟩ := B_some hφ
 refine Q1 ?_
 refine O5 (ox_call (c_cell_New hv1) .nil) .nil .nil rfl <| O5 (oxa z30 u30 rfl (.cons Store_Cells f30_0 .tmp Bld.nil)) (.app (.one rfl) .nil) .nil rfl <| O2 rfl rfl (ox5 t30 .tmp) (.cons rfl (.one rfl)) (.one rfl) <| O1 <| Q0 (σ' := ⟨[(0, _)], [(0, .var ({ Cells := v1, Undo := ([] : List Mk.Write), Answers := ([] : List Mk.Answer), Past := ([] : List Mk.Request) } : Mk.Store) [])]⟩) (j1 rfl) (j1 rfl) ?_
 refine Q5 ?_
 obtain rfl := Option.some.inj hφ
 exact Q6 hw0 rfl (.cell t30 rfl rfl .nil) rfl
theorem c_store_Last {a0 : Mk.Store} {a1 : Int} {r : (Mk.Answer × Bool)} (hφ : store_Last a0 a1 = some r) : Fn Go.Proofs.Try.prog 100 [.val a0, .val a1] (.tup [.val r.1, .val r.2]) := by
 unfold store_Last at hφ
 refine Fn.mk' Go.Proofs.Try.func100 rfl (by decide) rfl rfl rfl (fun w0 hw0 => ?_)
 refine Q2 (Q1 ?_)
 refine O3 rfl rfl (ox_box (id := 2) .tmp) (.one rfl) .nil rfl (by kernel_rfl) <| O3 rfl rfl (ox_alloc (id := 4) z74) .nil .nil rfl (by kernel_rfl) <| O5 (ox1 .bool) .nil .nil rfl <| O1 <| Q0 (σ' := ⟨[(1, .val (a1)), (2, _), (4, _)], [(2, .var (a0) []), (4, .var ({ Client := (0 : Int), Token := (0 : Int), Reply := zRe } : Mk.Answer) [])]⟩) (j3 rfl rfl rfl) (j2 rfl rfl) ?_
 obtain ⟨k1, hk1, hφ⟩ := J_some hφ
 refine PT.cut (ι := Mk.Answer) (fun p => ⟨[(4, .ptr 4 (Lens.id (α := Mk.Answer)))], [(4, .var (p) [])]⟩) (fun p => k1 (p) = some r) ?_ ?_
 ·skip
  refine Q2 (Q1 ?_)
  refine O5 (ox3 Store_Answers f30_2) (.one rfl) .nil rfl <| O5 (ox2 t27) (.one rfl) (.one rfl) rfl <| O5 (ox_len s27 .tmp) (.one rfl) .nil rfl <| O5 (ox0 .int) .nil .nil rfl <| O1 <| Q0 (σ' := ⟨[(1, _), (4, _), (9, .val (a0.Answers)), (10, .val (a0.Answers.length : Int)), (11, .val (0 : Int))], [(4, _)]⟩) (j5 rfl rfl rfl rfl rfl) (j1 rfl) ?_
  refine PT.block ?_
  refine PT.loop (ι := Nat × Int × (List Mk.Answer) × Int × Int × Mk.Answer) (fun p => ⟨[(1, .val (p.2.1)), (4, .ptr 4 (Lens.id (α := Mk.Answer))), (9, .val (p.2.2.1)), (10, .val (p.2.2.2.1)), (11, .val (p.2.2.2.2.1))], [(4, .var (p.2.2.2.2.2) [])]⟩) (fun p => store_Last_l1 k1 p.1 (p.2.1) (p.2.2.1) (p.2.2.2.1) (p.2.2.2.2.1) (p.2.2.2.2.2) = some r) (fun p => p.1) (((a0.Answers.length : Int) - (0 : Int)).toNat + 1, a1, a0.Answers, (a0.Answers.length : Int), (0 : Int), ({ Client := (0 : Int), Token := (0 : Int), Reply := zRe } : Mk.Answer)) hφ (j5 rfl rfl rfl rfl rfl) (j1 rfl) ?_
  rintro ⟨m2, x1_m2, x9_m2, x10_m2, x11_m2, y4_m2⟩ (hφ : store_Last_l1 k1 m2 x1_m2 x9_m2 x10_m2 x11_m2 y4_m2 = some r)
  obtain _ | m2 := m2
  ·exact (none_no hφ).elim
  rw [store_Last_l1.eq_2] at hφ
  refine Q0 (σ' := ⟨[(1, .val (x1_m2)), (4, .ptr 4 (Lens.id (α := Mk.Answer))), (9, .val (x9_m2)), (10, .val (x10_m2)), (11, .val (x11_m2))], [(4, .var (y4_m2) [])]⟩) (j5 rfl rfl rfl rfl rfl) (j1 rfl) ?_
  refine Q2 (Q1 ?_)
  refine O5 (ox_lss .tmp .tmp) (.app (.one rfl) (.one rfl)) .nil rfl <| O1 <| Q0 (σ' := ⟨[(1, _), (4, _), (9, _), (10, _), (11, _), (12, .val (decide (x11_m2 < x10_m2)))], [(4, _)]⟩) (j6 rfl rfl rfl rfl rfl rfl) (j1 rfl) ?_
  refine Q2 ?_
  refine Q3 _ rfl (fun hc3 => ?_) (fun hc3 => ?_)
  ·replace hφ := if_then hφ hc3
   refine Q0 (σ' := ⟨[(1, _), (4, _), (9, _), (10, _), (11, _)], [(4, _)]⟩) (j5 rfl rfl rfl rfl rfl) (j1 rfl) ?_
   refine Q4 ?_
   refine Q2 ?_
   refine PT.block ?_
   refine Q2 ?_
   obtain ⟨hb4, hφ⟩ := G_some hφ
   refine Q1 ?_
   refine O5 (ox_ix s27 .tmp .tmp hb4.1 hb4.2) (.app (.one rfl) (.one rfl)) .nil rfl <| O5 (ox_load_elem t74) (.one rfl) .nil rfl <| O3 rfl rfl (ox_alloc (id := 7) z74) .nil .nil rfl (by kernel_rfl) <| O2 rfl rfl (ox5 t74 .tmp) (.cons rfl (.one rfl)) (.one rfl) <| O1 <| Q0 (σ' := ⟨[(1, _), (4, _), (7, _), (9, _), (10, _), (11, _)], [(4, _), (7, .var (ix x9_m2 x11_m2) [])]⟩) (j6 rfl rfl rfl rfl rfl rfl) (j2 rfl rfl) ?_
   refine Q2 (Q1 ?_)
   refine O5 (ox3 Answer_Client f74_0) (.one rfl) .nil rfl <| O5 (ox2 t3) (.one rfl) (.one rfl) rfl <| O5 (ox0 .tmp) (.one rfl) .nil rfl <| O5 (ox_eql .tmp .tmp) (.app (.one rfl) (.one rfl)) .nil rfl <| O1 <| Q0 (σ' := ⟨[(1, _), (4, _), (7, _), (9, _), (10, _), (11, _), (18, .val (decide ((ix x9_m2 x11_m2).Client = x1_m2)))], [(4, _), (7, _)]⟩) (j7 rfl rfl rfl rfl rfl rfl rfl) (j2 rfl rfl) ?_
   refine Q3 _ rfl (fun hc5 => ?_) (fun hc5 => ?_)
   ·replace hφ := if_then hφ hc5
    refine Q0 (σ' := ⟨[(4, _), (7, _)], [(4, _), (7, _)]⟩) (j2 rfl rfl) (j2 rfl rfl) ?_
    refine Q2 (Q1 ?_)
    refine O5 (ox4 t74) (.one rfl) (.one rfl) rfl <| O2 rfl rfl (ox5 t74 .tmp) (.cons rfl (.one rfl)) (.one rfl) <| O5 (ox1 .bool) .nil .nil rfl <| O1 <| Q0 (σ' := ⟨[(4, _), (5, .val (true))], [(4, .var (ix x9_m2 x11_m2) [])]⟩) (j2 rfl rfl) (j1 rfl) ?_
    refine Q5 ?_
    obtain rfl := Option.some.inj hφ
    exact Q6 hw0 rfl (.cell t74 rfl rfl (.tmp rfl rfl .nil)) rfl
   ·replace hφ := if_else hφ hc5
    refine Q0 (σ' := ⟨[(1, _), (4, _), (9, _), (10, _), (11, _)], [(4, _)]⟩) (j5 rfl rfl rfl rfl rfl) (j1 rfl) ?_
    refine Q4 ?_
    obtain ⟨hb6, hφ⟩ := G_some hφ
    refine Q1 ?_
    refine O5 (ox_add .tmp .int hb6) (.app (.one rfl) .nil) .nil rfl <| O5 (ox0 .tmp) (.one rfl) .nil rfl <| O1 <| Q0 (σ' := ⟨[(1, _), (4, _), (9, _), (10, _), (11, .val (x11_m2 + (1 : Int)))], [(4, _)]⟩) (j5 rfl rfl rfl rfl rfl) (j1 rfl) ?_
    exact PT.next (m2, x1_m2, x9_m2, x10_m2, (x11_m2 + (1 : Int)), y4_m2) hφ (Nat.lt_succ_self _) (j5 rfl rfl rfl rfl rfl) (j1 rfl)
  ·replace hφ := if_else hφ hc3
   refine Q0 (σ' := ⟨[(4, _)], [(4, _)]⟩) (j1 rfl) (j1 rfl) ?_
   refine PT.exit ?_
   exact PT.meet (y4_m2) hφ (j1 rfl) (j1 rfl)
 ·rintro y4_k1 hφ
  subst hk1
  refine Q0 (σ' := ⟨[(4, .ptr 4 (Lens.id (α := Mk.Answer)))], [(4, .var (y4_k1) [])]⟩) (j1 rfl) (j1 rfl) ?_
  refine Q2 (Q1 ?_)
  refine O5 (oxa z74 u74 rfl Bld.nil) .nil .nil rfl <| O2 rfl rfl (ox5 t74 .tmp) (.cons rfl (.one rfl)) (.one rfl) <| O5 (ox1 .bool) .nil .nil rfl <| O1 <| Q0 (σ' := ⟨[(4, _), (5, .val (false))], [(4, .var ({ Client := (0 : Int), Token := (0 : Int), Reply := zRe } : Mk.Answer) [])]⟩) (j2 rfl rfl) (j1 rfl) ?_
  refine Q5 ?_
  obtain rfl := Option.some.inj hφ
  exact Q6 hw0 rfl (.cell t74 rfl rfl (.tmp rfl rfl .nil)) rfl
theorem c_mkref1_Last {a0 : Mk.Store} {a1 : Int} {r : (Mk.Answer × Bool)} (hφ : mkref1_Last a0 a1 = some r) : Fn Go.Proofs.Try.prog 38 [.val a0, .val a1] (.tup [.val r.1, .val r.2]) := by
 unfold mkref1_Last at hφ
 refine Fn.mk' Go.Proofs.Try.func38 rfl (by decide) rfl rfl rfl (fun w0 hw0 => ?_)
 refine Q2 (Q1 ?_)
 refine O3 rfl rfl (ox_box (id := 2) .tmp) (.one rfl) .nil rfl (by kernel_rfl) <| O3 rfl rfl (ox_alloc (id := 4) z74) .nil .nil rfl (by kernel_rfl) <| O5 (ox1 .bool) .nil .nil rfl <| O1 <| Q0 (σ' := ⟨[(1, .val (a1)), (2, _), (4, _)], [(2, .var (a0) []), (4, .var ({ Client := (0 : Int), Token := (0 : Int), Reply := zRe } : Mk.Answer) [])]⟩) (j3 rfl rfl rfl) (j2 rfl rfl) ?_
 obtain ⟨k1, hk1, hφ⟩ := J_some hφ
 refine PT.cut (ι := Mk.Answer) (fun p => ⟨[(4, .ptr 4 (Lens.id (α := Mk.Answer)))], [(4, .var (p) [])]⟩) (fun p => k1 (p) = some r) ?_ ?_
 ·skip
  refine Q2 (Q1 ?_)
  refine O5 (ox3 Store_Answers f30_2) (.one rfl) .nil rfl <| O5 (ox2 t27) (.one rfl) (.one rfl) rfl <| O5 (ox_len s27 .tmp) (.one rfl) .nil rfl <| O5 (ox0 .int) .nil .nil rfl <| O1 <| Q0 (σ' := ⟨[(1, _), (2, _), (4, _), (9, .val (a0.Answers.length : Int)), (10, .val (0 : Int))], [(2, _), (4, _)]⟩) (j5 rfl rfl rfl rfl rfl) (j2 rfl rfl) ?_
  refine PT.block ?_
  refine PT.loop (ι := Nat × Int × Int × Int × Mk.Store × Mk.Answer) (fun p => ⟨[(1, .val (p.2.1)), (2, .ptr 2 (Lens.id (α := Mk.Store))), (4, .ptr 4 (Lens.id (α := Mk.Answer))), (9, .val (p.2.2.1)), (10, .val (p.2.2.2.1))], [(2, .var (p.2.2.2.2.1) []), (4, .var (p.2.2.2.2.2) [])]⟩) (fun p => mkref1_Last_l1 k1 p.1 (p.2.1) (p.2.2.1) (p.2.2.2.1) (p.2.2.2.2.1) (p.2.2.2.2.2) = some r) (fun p => p.1) (((a0.Answers.length : Int) - (0 : Int)).toNat + 1, a1, (a0.Answers.length : Int), (0 : Int), a0, ({ Client := (0 : Int), Token := (0 : Int), Reply := zRe } : Mk.Answer)) hφ (j5 rfl rfl rfl rfl rfl) (j2 rfl rfl) ?_
  rintro ⟨m2, x1_m2, x9_m2, x10_m2, y2_m2, y4_m2⟩ (hφ : mkref1_Last_l1 k1 m2 x1_m2 x9_m2 x10_m2 y2_m2 y4_m2 = some r)
  obtain _ | m2 := m2
  ·exact (none_no hφ).elim
  rw [mkref1_Last_l1.eq_2] at hφ
  refine Q0 (σ' := ⟨[(1, .val (x1_m2)), (2, .ptr 2 (Lens.id (α := Mk.Store))), (4, .ptr 4 (Lens.id (α := Mk.Answer))), (9, .val (x9_m2)), (10, .val (x10_m2))], [(2, .var (y2_m2) []), (4, .var (y4_m2) [])]⟩) (j5 rfl rfl rfl rfl rfl) (j2 rfl rfl) ?_
  refine Q2 (Q1 ?_)
  refine O5 (ox_lss .tmp .tmp) (.app (.one rfl) (.one rfl)) .nil rfl <| O1 <| Q0 (σ' := ⟨[(1, _), (2, _), (4, _), (9, _), (10, _), (11, .val (decide (x10_m2 < x9_m2)))], [(2, _), (4, _)]⟩) (j6 rfl rfl rfl rfl rfl rfl) (j2 rfl rfl) ?_
  refine Q2 ?_
  refine Q3 _ rfl (fun hc3 => ?_) (fun hc3 => ?_)
  ·replace hφ := if_then hφ hc3
   refine Q0 (σ' := ⟨[(1, _), (2, _), (4, _), (9, _), (10, _)], [(2, _), (4, _)]⟩) (j5 rfl rfl rfl rfl rfl) (j2 rfl rfl) ?_
   refine Q4 ?_
   refine Q2 ?_
   refine PT.block ?_
   refine Q2 (Q1 ?_)
   refine O5 (ox0 .tmp) (.one rfl) .nil rfl <| O5 (ox1 .tmp) (.one rfl) .nil rfl <| O1 <| Q0 (σ' := ⟨[(1, _), (2, _), (4, _), (6, .val (x10_m2)), (9, _), (10, _)], [(2, _), (4, _)]⟩) (j6 rfl rfl rfl rfl rfl rfl) (j2 rfl rfl) ?_
   refine Q2 ?_
   obtain ⟨hb4, hφ⟩ := G_some hφ
   refine Q1 ?_
   refine O5 (ox3 Store_Answers f30_2) (.one rfl) .nil rfl <| O5 (ox2 t27) (.one rfl) (.one rfl) rfl <| O5 (ox0 .tmp) (.one rfl) .nil rfl <| O5 (ox_ix s27 .tmp .tmp hb4.1 hb4.2) (.app (.one rfl) (.one rfl)) .nil rfl <| O5 (ox_fieldAddr_elem Answer_Client f74_0) (.one rfl) .nil rfl <| O5 (ox_load_elem t3) (.one rfl) .nil rfl ?_
   refine O5 (ox0 .tmp) (.one rfl) .nil rfl <| O5 (ox_eql .tmp .tmp) (.app (.one rfl) (.one rfl)) .nil rfl <| O1 <| Q0 (σ' := ⟨[(1, _), (2, _), (4, _), (6, _), (9, _), (10, _), (20, .val (decide ((ix y2_m2.Answers x10_m2).Client = x1_m2)))], [(2, _), (4, _)]⟩) (j7 rfl rfl rfl rfl rfl rfl rfl) (j2 rfl rfl) ?_
   refine Q3 _ rfl (fun hc5 => ?_) (fun hc5 => ?_)
   ·replace hφ := if_then hφ hc5
    refine Q0 (σ' := ⟨[(2, _), (4, _), (6, _)], [(2, _), (4, _)]⟩) (j3 rfl rfl rfl) (j2 rfl rfl) ?_
    refine Q2 ?_
    obtain ⟨hb6, hφ⟩ := G_some hφ
    refine Q1 ?_
    refine O5 (ox3 Store_Answers f30_2) (.one rfl) .nil rfl <| O5 (ox2 t27) (.one rfl) (.one rfl) rfl <| O5 (ox0 .tmp) (.one rfl) .nil rfl <| O5 (ox_ix s27 .tmp .tmp hb6.1 hb6.2) (.app (.one rfl) (.one rfl)) .nil rfl <| O5 (ox_load_elem t74) (.one rfl) .nil rfl <| O2 rfl rfl (ox5 t74 .tmp) (.cons rfl (.one rfl)) (.one rfl) ?_
    refine O5 (ox1 .bool) .nil .nil rfl <| O1 <| Q0 (σ' := ⟨[(4, _), (5, .val (true))], [(4, .var (ix y2_m2.Answers x10_m2) [])]⟩) (j2 rfl rfl) (j1 rfl) ?_
    refine Q5 ?_
    obtain rfl := Option.some.inj hφ
    exact Q6 hw0 rfl (.cell t74 rfl rfl (.tmp rfl rfl .nil)) rfl
   ·replace hφ := if_else hφ hc5
    refine Q0 (σ' := ⟨[(1, _), (2, _), (4, _), (9, _), (10, _)], [(2, _), (4, _)]⟩) (j5 rfl rfl rfl rfl rfl) (j2 rfl rfl) ?_
    refine Q4 ?_
    obtain ⟨hb7, hφ⟩ := G_some hφ
    refine Q1 ?_
    refine O5 (ox_add .tmp .int hb7) (.app (.one rfl) .nil) .nil rfl <| O5 (ox0 .tmp) (.one rfl) .nil rfl <| O1 <| Q0 (σ' := ⟨[(1, _), (2, _), (4, _), (9, _), (10, .val (x10_m2 + (1 : Int)))], [(2, _), (4, _)]⟩) (j5 rfl rfl rfl rfl rfl) (j2 rfl rfl) ?_
    exact PT.next (m2, x1_m2, x9_m2, (x10_m2 + (1 : Int)), y2_m2, y4_m2) hφ (Nat.lt_succ_self _) (j5 rfl rfl rfl rfl rfl) (j2 rfl rfl)
  ·replace hφ := if_else hφ hc3
   refine Q0 (σ' := ⟨[(4, _)], [(4, _)]⟩) (j1 rfl) (j1 rfl) ?_
   refine PT.exit ?_
   exact PT.meet (y4_m2) hφ (j1 rfl) (j1 rfl)
 ·rintro y4_k1 hφ
  subst hk1
  refine Q0 (σ' := ⟨[(4, .ptr 4 (Lens.id (α := Mk.Answer)))], [(4, .var (y4_k1) [])]⟩) (j1 rfl) (j1 rfl) ?_
  refine Q2 (Q1 ?_)
  refine O5 (oxa z74 u74 rfl Bld.nil) .nil .nil rfl <| O2 rfl rfl (ox5 t74 .tmp) (.cons rfl (.one rfl)) (.one rfl) <| O5 (ox1 .bool) .nil .nil rfl <| O1 <| Q0 (σ' := ⟨[(4, _), (5, .val (false))], [(4, .var ({ Client := (0 : Int), Token := (0 : Int), Reply := zRe } : Mk.Answer) [])]⟩) (j2 rfl rfl) (j1 rfl) ?_
  refine Q5 ?_
  obtain rfl := Option.some.inj hφ
  exact Q6 hw0 rfl (.cell t74 rfl rfl (.tmp rfl rfl .nil)) rfl
theorem c_slices_Clone___api_Answer_api_Answer_ {a0 : List Mk.Answer} {r : (List Mk.Answer)} (hφ : slices_Clone___api_Answer_api_Answer_ a0 = some r) : Fn Go.Proofs.Try.prog 97 [.val a0] (.val r) := by
 unfold slices_Clone___api_Answer_api_Answer_ at hφ
 refine Fn.mk' Go.Proofs.Try.func97 rfl (by decide) rfl rfl rfl (fun w0 hw0 => ?_)
 refine Q2 (Q1 ?_)
 refine O5 (ox1 .nilS) .nil .nil rfl <| O1 <| Q0 (σ' := ⟨[(0, .val (a0))], []⟩) (j1 rfl) trivial ?_
 refine Q2 ?_
 refine Q2 (Q1 ?_)
 refine O5 (ox0 .tmp) (.one rfl) .nil rfl <| O5 (ox_isNil (by kernel_rfl) .tmp .nilS) (.app (.one rfl) .nil) .nil rfl <| O1 <| Q0 (σ' := ⟨[(0, _), (4, _)], []⟩) (j2 rfl rfl) trivial ?_
 refine PT.condB _ rfl (fun hc1 => ?_) (fun _ => ?_)
 ·have hc1e := hc1 rfl
  refine Q0 (σ' := ⟨[], []⟩) trivial trivial ?_
  refine Q2 (Q1 ?_)
  refine O5 (ox1 .nilS) .nil .nil rfl <| O1 <| Q0 (σ' := ⟨[(2, .nilS)], []⟩) (j1 rfl) trivial ?_
  refine Q5 ?_
  refine PT.asNil 2 (Mk.Answer) rfl ?_
  rw [hc1e] at hφ
  obtain ⟨_, hφ⟩ := G_some hφ
  obtain rfl := Option.some.inj hφ
  exact Q6 hw0 rfl (.tmp rfl rfl .nil) rfl
 ·skip
  refine Q0 (σ' := ⟨[(0, _)], []⟩) (j1 rfl) trivial ?_
  refine Q4 ?_
  refine Q2 ?_
  obtain ⟨hb2, hφ⟩ := G_some hφ
  refine Q1 ?_
  refine O3 rfl rfl (ox_buildSlice_arr (id := 5) s27 z74 Parts.nil rfl (by decide)) .nil .nil rfl (by kernel_rfl) <| O5 (ox0 .tmp) (.one rfl) .nil rfl ?_
  refine Ops.putK [5] rfl rfl (ox_append a27 .tmp .tmp hb2.1 hb2.2) (.app (.one rfl) (.one rfl)) (.one rfl) rfl (by kernel_rfl) ?_
  refine O5 (ox1 .tmp) (.one rfl) .nil rfl <| O1 <| Q0 (σ' := ⟨[(2, _)], [(5, .arr 74 (([] : List Mk.Answer) ++ a0))]⟩) (j1 rfl) (j1 rfl) ?_
  refine Q5 ?_
  refine PT.freeze 5 [2] rfl (j1 rfl) ?_
  obtain rfl := Option.some.inj hφ
  exact Q6 hw0 rfl (.tmp rfl rfl .nil) rfl
theorem x_slices_Clone___api_Answer_api_Answer_ {a0 : List Mk.Answer} {r : (List Mk.Answer)} (hφ : slices_Clone___api_Answer_api_Answer_ a0 = some r) : FnX Go.Proofs.Try.prog 97 [.val a0] [] (.sl 5) [(5, .arr 74 r)] [] := by
 unfold slices_Clone___api_Answer_api_Answer_ at hφ
 refine FnX.mk' Go.Proofs.Try.func97 rfl (by decide) rfl (fun w0 m0 => ?_)
 refine Q2 (Q1 ?_)
 refine O5 (ox1 .nilS) .nil .nil rfl <| O1 <| Q0 (σ' := ⟨[(0, .val (a0))], []⟩) (j1 rfl) trivial ?_
 refine Q2 ?_
 refine Q2 (Q1 ?_)
 refine O5 (ox0 .tmp) (.one rfl) .nil rfl <| O5 (ox_isNil (by kernel_rfl) .tmp .nilS) (.app (.one rfl) .nil) .nil rfl <| O1 <| Q0 (σ' := ⟨[(0, _), (4, _)], []⟩) (j2 rfl rfl) trivial ?_
 refine PT.condB _ rfl (fun hc1 => ?_) (fun _ => ?_)
 ·have hc1e := hc1 rfl
  refine Q0 (σ' := ⟨[], []⟩) trivial trivial ?_
  refine Q2 (Q1 ?_)
  refine O5 (ox1 .nilS) .nil .nil rfl <| O1 <| Q0 (σ' := ⟨[(2, .nilS)], []⟩) (j1 rfl) trivial ?_
  refine Q5 ?_
  refine PT.nilArr 5 2 74 (Mk.Answer) rfl (by kernel_rfl) ?_
  rw [hc1e] at hφ
  obtain ⟨_, hφ⟩ := G_some hφ
  obtain rfl := Option.some.inj hφ
  exact Q7 rfl (.tmp rfl .nil) rfl (j1 rfl) trivial
 ·skip
  refine Q0 (σ' := ⟨[(0, _)], []⟩) (j1 rfl) trivial ?_
  refine Q4 ?_
  refine Q2 ?_
  obtain ⟨hb2, hφ⟩ := G_some hφ
  refine Q1 ?_
  refine O3 rfl rfl (ox_buildSlice_arr (id := 5) s27 z74 Parts.nil rfl (by decide)) .nil .nil rfl (by kernel_rfl) <| O5 (ox0 .tmp) (.one rfl) .nil rfl ?_
  refine Ops.putK [5] rfl rfl (ox_append a27 .tmp .tmp hb2.1 hb2.2) (.app (.one rfl) (.one rfl)) (.one rfl) rfl (by kernel_rfl) ?_
  refine O5 (ox1 .tmp) (.one rfl) .nil rfl <| O1 <| Q0 (σ' := ⟨[(2, _)], [(5, .arr 74 (([] : List Mk.Answer) ++ a0))]⟩) (j1 rfl) (j1 rfl) ?_
  refine Q5 ?_
  obtain rfl := Option.some.inj hφ
  exact Q7 rfl (.tmp rfl .nil) rfl (j1 rfl) trivial
theorem c_slices_Clone___api_Request_api_Request_ {a0 : List Mk.Request} {r : (List Mk.Request)} (hφ : slices_Clone___api_Request_api_Request_ a0 = some r) : Fn Go.Proofs.Try.prog 98 [.val a0] (.val r) := by
 unfold slices_Clone___api_Request_api_Request_ at hφ
 refine Fn.mk' Go.Proofs.Try.func98 rfl (by decide) rfl rfl rfl (fun w0 hw0 => ?_)
 refine Q2 (Q1 ?_)
 refine O5 (ox1 .nilS) .nil .nil rfl <| O1 <| Q0 (σ' := ⟨[(0, .val (a0))], []⟩) (j1 rfl) trivial ?_
 refine Q2 ?_
 refine Q2 (Q1 ?_)
 refine O5 (ox0 .tmp) (.one rfl) .nil rfl <| O5 (ox_isNil (by kernel_rfl) .tmp .nilS) (.app (.one rfl) .nil) .nil rfl <| O1 <| Q0 (σ' := ⟨[(0, _), (4, _)], []⟩) (j2 rfl rfl) trivial ?_
 refine PT.condB _ rfl (fun hc1 => ?_) (fun _ => ?_)
 ·have hc1e := hc1 rfl
  refine Q0 (σ' := ⟨[], []⟩) trivial trivial ?_
  refine Q2 (Q1 ?_)
  refine O5 (ox1 .nilS) .nil .nil rfl <| O1 <| Q0 (σ' := ⟨[(2, .nilS)], []⟩) (j1 rfl) trivial ?_
  refine Q5 ?_
  refine PT.asNil 2 (Mk.Request) rfl ?_
  rw [hc1e] at hφ
  obtain ⟨_, hφ⟩ := G_some hφ
  obtain rfl := Option.some.inj hφ
  exact Q6 hw0 rfl (.tmp rfl rfl .nil) rfl
 ·skip
  refine Q0 (σ' := ⟨[(0, _)], []⟩) (j1 rfl) trivial ?_
  refine Q4 ?_
  refine Q2 ?_
  obtain ⟨hb2, hφ⟩ := G_some hφ
  refine Q1 ?_
  refine O3 rfl rfl (ox_buildSlice_arr (id := 5) s28 z35 Parts.nil rfl (by decide)) .nil .nil rfl (by kernel_rfl) <| O5 (ox0 .tmp) (.one rfl) .nil rfl ?_
  refine Ops.putK [5] rfl rfl (ox_append a28 .tmp .tmp hb2.1 hb2.2) (.app (.one rfl) (.one rfl)) (.one rfl) rfl (by kernel_rfl) ?_
  refine O5 (ox1 .tmp) (.one rfl) .nil rfl <| O1 <| Q0 (σ' := ⟨[(2, _)], [(5, .arr 35 (([] : List Mk.Request) ++ a0))]⟩) (j1 rfl) (j1 rfl) ?_
  refine Q5 ?_
  refine PT.freeze 5 [2] rfl (j1 rfl) ?_
  obtain rfl := Option.some.inj hφ
  exact Q6 hw0 rfl (.tmp rfl rfl .nil) rfl
theorem x_slices_Clone___api_Request_api_Request_ {a0 : List Mk.Request} {r : (List Mk.Request)} (hφ : slices_Clone___api_Request_api_Request_ a0 = some r) : FnX Go.Proofs.Try.prog 98 [.val a0] [] (.sl 5) [(5, .arr 35 r)] [] := by
 unfold slices_Clone___api_Request_api_Request_ at hφ
 refine FnX.mk' Go.Proofs.Try.func98 rfl (by decide) rfl (fun w0 m0 => ?_)
 refine Q2 (Q1 ?_)
 refine O5 (ox1 .nilS) .nil .nil rfl <| O1 <| Q0 (σ' := ⟨[(0, .val (a0))], []⟩) (j1 rfl) trivial ?_
 refine Q2 ?_
 refine Q2 (Q1 ?_)
 refine O5 (ox0 .tmp) (.one rfl) .nil rfl <| O5 (ox_isNil (by kernel_rfl) .tmp .nilS) (.app (.one rfl) .nil) .nil rfl <| O1 <| Q0 (σ' := ⟨[(0, _), (4, _)], []⟩) (j2 rfl rfl) trivial ?_
 refine PT.condB _ rfl (fun hc1 => ?_) (fun _ => ?_)
 ·have hc1e := hc1 rfl
  refine Q0 (σ' := ⟨[], []⟩) trivial trivial ?_
  refine Q2 (Q1 ?_)
  refine O5 (ox1 .nilS) .nil .nil rfl <| O1 <| Q0 (σ' := ⟨[(2, .nilS)], []⟩) (j1 rfl) trivial ?_
  refine Q5 ?_
  refine PT.nilArr 5 2 35 (Mk.Request) rfl (by kernel_rfl) ?_
  rw [hc1e] at hφ
  obtain ⟨_, hφ⟩ := G_some hφ
  obtain rfl := Option.some.inj hφ
  exact Q7 rfl (.tmp rfl .nil) rfl (j1 rfl) trivial
 ·skip
  refine Q0 (σ' := ⟨[(0, _)], []⟩) (j1 rfl) trivial ?_
  refine Q4 ?_
  refine Q2 ?_
  obtain ⟨hb2, hφ⟩ := G_some hφ
  refine Q1 ?_
  refine O3 rfl rfl (ox_buildSlice_arr (id := 5) s28 z35 Parts.nil rfl (by decide)) .nil .nil rfl (by kernel_rfl) <| O5 (ox0 .tmp) (.one rfl) .nil rfl ?_
  refine Ops.putK [5] rfl rfl (ox_append a28 .tmp .tmp hb2.1 hb2.2) (.app (.one rfl) (.one rfl)) (.one rfl) rfl (by kernel_rfl) ?_
  refine O5 (ox1 .tmp) (.one rfl) .nil rfl <| O1 <| Q0 (σ' := ⟨[(2, _)], [(5, .arr 35 (([] : List Mk.Request) ++ a0))]⟩) (j1 rfl) (j1 rfl) ?_
  refine Q5 ?_
  obtain rfl := Option.some.inj hφ
  exact Q7 rfl (.tmp rfl .nil) rfl (j1 rfl) trivial
theorem c_store_Own {a0 : Mk.Store} {r : Mk.Store} (hφ : store_Own a0 = some r) : Fn Go.Proofs.Try.prog 63 [.val a0] (.val r) := by
 unfold store_Own at hφ
 refine Fn.mk' Go.Proofs.Try.func63 rfl (by decide) rfl rfl rfl (fun w0 hw0 => ?_)
 refine Q2 (Q1 ?_)
 refine O3 rfl rfl (ox_box (id := 1) .tmp) (.one rfl) .nil rfl (by kernel_rfl) <| O3 rfl rfl (ox_alloc (id := 2) z30) .nil .nil rfl (by kernel_rfl) <| O1 <| Q0 (σ' := ⟨[(1, _), (2, _)], [(1, .var (a0) []), (2, .var zSt [])]⟩) (j2 rfl rfl) (j2 rfl rfl) ?_
 refine Q2 ?_
 obtain ⟨v1, hv1, hφ⟩ := B_some hφ
 obtain ⟨v2, hv2, hφ⟩ := B_some hφ
 obtain ⟨v3, hv3, hφ⟩ := B_some hφ
 obtain ⟨v4, hv4, hφ⟩ := B_some hφ
 refine Q8 hMixed (
   .cons (S5 (ox3 Store_Cells f30_0)) ⟨.one rfl, .nil⟩ (by kernel_rfl) rfl <|
   .cons (S5 (ox2 t25)) ⟨.one rfl, .one rfl⟩ (by kernel_rfl) rfl <|
   .cons (S5 (ox_call (c_slices_Clone___int_int_ hv1) (.cons .tmp .nil))) ⟨(.app (.one rfl) .nil), .nil⟩ (by kernel_rfl) rfl <|
   .cons (S5 (ox3 Store_Undo f30_1)) ⟨.one rfl, .nil⟩ (by kernel_rfl) rfl <|
   .cons (S5 (ox2 t26)) ⟨.one rfl, .one rfl⟩ (by kernel_rfl) rfl <|
   .cons (S5 (ox_call (c_slices_Clone___api_Write_api_Write_ hv2) (.cons .tmp .nil))) ⟨(.app (.one rfl) .nil), .nil⟩ (by kernel_rfl) rfl <|
   .cons (S5 (ox3 Store_Answers f30_2)) ⟨.one rfl, .nil⟩ (by kernel_rfl) rfl <|
   .cons (S5 (ox2 t27)) ⟨.one rfl, .one rfl⟩ (by kernel_rfl) rfl <|
   .cons (S5 (ox_call (c_slices_Clone___api_Answer_api_Answer_ hv3) (.cons .tmp .nil))) ⟨(.app (.one rfl) .nil), .nil⟩ (by kernel_rfl) rfl <|
   .cons (S5 (ox3 Store_Past f30_3)) ⟨.one rfl, .nil⟩ (by kernel_rfl) rfl <|
   .cons (S5 (ox2 t28)) ⟨.one rfl, .one rfl⟩ (by kernel_rfl) rfl <|
   .cons (S5 (ox_call (c_slices_Clone___api_Request_api_Request_ hv4) (.cons .tmp .nil))) ⟨(.app (.one rfl) .nil), .nil⟩ (by kernel_rfl) rfl <|
   .cons (S5 (oxa z30 u30 rfl (.cons Store_Cells f30_0 .tmp (.cons Store_Undo f30_1 .tmp (.cons Store_Answers f30_2 .tmp (.cons Store_Past f30_3 .tmp Bld.nil)))))) ⟨(.app (.one rfl) (.app (.one rfl) (.app (.one rfl) (.app (.one rfl) .nil)))), .nil⟩ (by kernel_rfl) rfl <|
   .cons (S4 rfl rfl (ox5 t30 .tmp)) ⟨(.cons rfl (.one rfl)), .one rfl⟩ (by kernel_rfl) rfl <|
   .nil) _ [[], [0], [0, 1], [], [3], [0, 1, 2, 3, 4], [], [6], [0, 1, 2, 3, 4, 5, 6, 7], [], [9], [0, 1, 2, 3, 4, 5, 6, 7, 8, 9, 10], [0, 1, 2, 3, 4, 5, 6, 7, 8, 9, 10, 11], [0, 1, 2, 3, 4, 5, 6, 7, 8, 9, 10, 11, 12]] rfl (by kernel_rfl) (by kernel_rfl) ?_
 refine Q0 (σ' := ⟨[(2, _)], [(2, .var ({ Cells := v1, Undo := v2, Answers := v3, Past := v4 } : Mk.Store) [])]⟩) (j1 rfl) (j1 rfl) ?_
 refine Q5 ?_
 obtain rfl := Option.some.inj hφ
 exact Q6 hw0 rfl (.cell t30 rfl rfl .nil) rfl
theorem x_store_Own {a0 : Mk.Store} {r : Mk.Store} (hφ : store_Own a0 = some r) : FnX Go.Proofs.Try.prog 63 [.val a0] [] (.hole ({ ({ r with Answers := ([] : List Mk.Answer) }) with Past := ([] : List Mk.Request) }) [(2, 11), (3, 14)]) [(11, .arr 74 r.Answers), (14, .arr 35 r.Past)] [] := by
 unfold store_Own at hφ
 refine FnX.mk' Go.Proofs.Try.func63 rfl (by decide) rfl (fun w0 m0 => ?_)
 refine Q2 (Q1 ?_)
 refine O3 rfl rfl (ox_box (id := 1) .tmp) (.one rfl) .nil rfl (by kernel_rfl) <| O3 rfl rfl (ox_alloc (id := 2) z30) .nil .nil rfl (by kernel_rfl) <| O1 <| Q0 (σ' := ⟨[(1, _), (2, _)], [(1, .var (a0) []), (2, .var zSt [])]⟩) (j2 rfl rfl) (j2 rfl rfl) ?_
 refine Q2 ?_
 obtain ⟨v1, hv1, hφ⟩ := B_some hφ
 obtain ⟨v2, hv2, hφ⟩ := B_some hφ
 obtain ⟨v3, hv3, hφ⟩ := B_some hφ
 obtain ⟨v4, hv4, hφ⟩ := B_some hφ
 refine Q8 hMixed (
   .cons (S5 (ox3 Store_Cells f30_0)) ⟨.one rfl, .nil⟩ (by kernel_rfl) rfl <|
   .cons (S5 (ox2 t25)) ⟨.one rfl, .one rfl⟩ (by kernel_rfl) rfl <|
   .cons (S5 (ox_call (c_slices_Clone___int_int_ hv1) (.cons .tmp .nil))) ⟨(.app (.one rfl) .nil), .nil⟩ (by kernel_rfl) rfl <|
   .cons (S5 (ox3 Store_Undo f30_1)) ⟨.one rfl, .nil⟩ (by kernel_rfl) rfl <|
   .cons (S5 (ox2 t26)) ⟨.one rfl, .one rfl⟩ (by kernel_rfl) rfl <|
   .cons (S5 (ox_call (c_slices_Clone___api_Write_api_Write_ hv2) (.cons .tmp .nil))) ⟨(.app (.one rfl) .nil), .nil⟩ (by kernel_rfl) rfl <|
   .cons (S5 (ox3 Store_Answers f30_2)) ⟨.one rfl, .nil⟩ (by kernel_rfl) rfl <|
   .cons (S5 (ox2 t27)) ⟨.one rfl, .one rfl⟩ (by kernel_rfl) rfl <|
   .cons (S5 (ox_callX (x_slices_Clone___api_Answer_api_Answer_ hv3) [] [(5, 11)] [(5, 11)] [] (.cons .tmp .nil) rfl rfl rfl rfl rfl rfl rfl rfl trivial rfl rfl rfl rfl)) ⟨(.app (.one rfl) .nil), .nil⟩ (by kernel_rfl) rfl <|
   .cons (S5 (ox3 Store_Past f30_3)) ⟨.one rfl, .nil⟩ (by kernel_rfl) rfl <|
   .cons (S5 (ox2 t28)) ⟨.one rfl, .one rfl⟩ (by kernel_rfl) rfl <|
   .cons (S5 (ox_callX (x_slices_Clone___api_Request_api_Request_ hv4) [] [(5, 14)] [(5, 14)] [] (.cons .tmp .nil) rfl rfl rfl rfl rfl rfl rfl rfl trivial rfl rfl rfl rfl)) ⟨(.app (.one rfl) .nil), .nil⟩ (by kernel_rfl) rfl <|
   .cons (S5 (ox_buildH z30 u30 rfl (.cons Store_Cells f30_0 .tmp (.cons Store_Undo f30_1 .tmp (.sl Store_Answers f30_2 .tmp (.sl Store_Past f30_3 .tmp .nil)))))) ⟨(.app (.one rfl) (.app (.one rfl) (.app (.one rfl) (.app (.one rfl) .nil)))), (.cons rfl (.cons rfl .nil))⟩ (by kernel_rfl) rfl <|
   .cons (S4 rfl rfl (ox_store_varH t30 rfl .tmp)) ⟨(.cons rfl (.one rfl)), .one rfl⟩ (by kernel_rfl) rfl <|
   .nil) _ [[], [0], [0, 1], [], [3], [0, 1, 2, 3, 4], [], [6], [0, 1, 2, 3, 4, 5, 6, 7], [], [9], [0, 1, 2, 3, 4, 5, 6, 7, 8, 9, 10], [0, 1, 2, 3, 4, 5, 6, 7, 8, 9, 10, 11], [0, 1, 2, 3, 4, 5, 6, 7, 8, 9, 10, 11, 12]] rfl (by kernel_rfl) (by kernel_rfl) ?_
 refine Q0 (σ' := ⟨[(2, _)], [(2, .var ({ Cells := v1, Undo := v2, Answers := ([] : List Mk.Answer), Past := ([] : List Mk.Request) } : Mk.Store) [(2, 11), (3, 14)]), (11, .arr 74 (v3)), (14, .arr 35 (v4))]⟩) (j1 rfl) (j3 rfl rfl rfl) ?_
 refine Q5 ?_
 obtain rfl := Option.some.inj hφ
 exact Q7 rfl (.cellH t30 rfl rfl rfl .nil) rfl (j2 rfl rfl) trivial
theorem c_store_Write {a0 : Mk.Store} {a1 : Mk.Write} {r : Mk.Store} (hφ : store_Write a0 a1 = some r) : Fn Go.Proofs.Try.prog 65 [.val a0, .val a1] (.val r) := by
 unfold store_Write at hφ
 refine Fn.mk' Go.Proofs.Try.func65 rfl (by decide) rfl rfl rfl (fun w0 hw0 => ?_)
 refine Q2 (Q1 ?_)
 refine O3 rfl rfl (ox_box (id := 2) .tmp) (.one rfl) .nil rfl (by kernel_rfl) <| O3 rfl rfl (ox_box (id := 3) .tmp) (.one rfl) .nil rfl (by kernel_rfl) <| O3 rfl rfl (ox_alloc (id := 4) z30) .nil .nil rfl (by kernel_rfl) <| O1 <| Q0 (σ' := ⟨[(2, _), (3, _), (4, _)], [(2, .var (a0) []), (3, .var (a1) []), (4, .var zSt [])]⟩) (j3 rfl rfl rfl) (j3 rfl rfl rfl) ?_
 refine Q2 ?_
 obtain ⟨v1, hv1, hφ⟩ := B_some hφ
 refine Q1 ?_
 refine O5 (ox4 t30) (.one rfl) (.one rfl) rfl <| O5 (ox_call (c_store_Own hv1) (.cons .tmp .nil)) (.app (.one rfl) .nil) .nil rfl <| O3 rfl rfl (ox_alloc (id := 5) z30) .nil .nil rfl (by kernel_rfl) <| O2 rfl rfl (ox5 t30 .tmp) (.cons rfl (.one rfl)) (.one rfl) <| O1 <| Q0 (σ' := ⟨[(2, _), (3, _), (4, _), (5, _)], [(2, _), (3, _), (4, _), (5, .var (v1) [])]⟩) (j4 rfl rfl rfl rfl) (j4 rfl rfl rfl rfl) ?_
 refine Q2 ?_
 obtain ⟨v2, hv2, hφ⟩ := B_some hφ
 obtain ⟨hb3, hφ⟩ := G_some hφ
 refine Q8 hMixed (
   .cons (S5 (ox3 Store_Cells f30_0)) ⟨.one rfl, .nil⟩ (by kernel_rfl) rfl <|
   .cons (S5 (ox2 t25)) ⟨.one rfl, .one rfl⟩ (by kernel_rfl) rfl <|
   .cons (S5 (ox4 t99)) ⟨.one rfl, .one rfl⟩ (by kernel_rfl) rfl <|
   .cons (S5 (ox_buildSlice_val s26 z99 (.cons .tmp Parts.nil) rfl (by decide))) ⟨(.app (.one rfl) .nil), .nil⟩ (by kernel_rfl) rfl <|
   .cons (S5 (ox_callX (x_cell_Undo hv2) [] [(1006, 12)] [(1006, 12)] [] (.cons .tmp (.cons .tmp .nil)) rfl rfl rfl rfl rfl rfl rfl rfl trivial rfl rfl rfl rfl)) ⟨(.app (.one rfl) (.app (.one rfl) .nil)), .nil⟩ (by kernel_rfl) rfl <|
   .cons (S5 (ox3 Store_Undo f30_1)) ⟨.one rfl, .nil⟩ (by kernel_rfl) rfl <|
   .cons (S5 (ox2 t26)) ⟨.one rfl, .one rfl⟩ (by kernel_rfl) rfl <|
   .cons (Step.putK [12] rfl rfl (ox_appendV a26 .tmp .tmp hb3.1 hb3.2)) ⟨(.app (.one rfl) (.one rfl)), .one rfl⟩ (by kernel_rfl) rfl <|
   .cons (S5 (ox3 Store_Undo f30_1)) ⟨.one rfl, .nil⟩ (by kernel_rfl) rfl <|
   .cons (S4 rfl rfl (ox_store_fld t26 .tmp)) ⟨(.cons rfl (.one rfl)), .one rfl⟩ (by kernel_rfl) rfl <|
   .nil) _ [[], [0], [], [2], [0, 1, 2, 3], [], [5], [0, 1, 2, 3, 4, 5, 6], [0, 1, 2, 3, 4, 5, 6, 7], [0, 1, 2, 3, 4, 5, 6, 7, 8]] rfl (by kernel_rfl) (by kernel_rfl) ?_
 refine Q0 (σ' := ⟨[(3, _), (4, _), (5, _)], [(3, _), (4, _), (5, .var ({ v1 with Undo := (v2 ++ v1.Undo) }) [])]⟩) (j3 rfl rfl rfl) (j3 rfl rfl rfl) ?_
 refine Q2 ?_
 obtain ⟨v4, hv4, hφ⟩ := B_some hφ
 refine Q1 ?_
 refine O5 (ox3 Store_Cells f30_0) (.one rfl) .nil rfl <| O5 (ox2 t25) (.one rfl) (.one rfl) rfl <| O5 (ox4 t99) (.one rfl) (.one rfl) rfl <| O5 (ox_buildSlice_val s26 z99 (.cons .tmp Parts.nil) rfl (by decide)) (.app (.one rfl) .nil) .nil rfl <| O5 (ox_call (c_cell_Set hv4) (.cons .tmp (.cons .tmp .nil))) (.app (.one rfl) (.app (.one rfl) .nil)) .nil rfl <| O5 (ox3 Store_Cells f30_0) (.one rfl) .nil rfl ?_
 refine O2 rfl rfl (ox_store_fld t25 .tmp) (.cons rfl (.one rfl)) (.one rfl) <| O1 <| Q0 (σ' := ⟨[(4, _), (5, _)], [(4, _), (5, .var ({ ({ v1 with Undo := (v2 ++ v1.Undo) }) with Cells := v4 }) [])]⟩) (j2 rfl rfl) (j2 rfl rfl) ?_
 refine Q2 (Q1 ?_)
 refine O5 (ox4 t30) (.one rfl) (.one rfl) rfl <| O2 rfl rfl (ox5 t30 .tmp) (.cons rfl (.one rfl)) (.one rfl) <| O1 <| Q0 (σ' := ⟨[(4, _)], [(4, .var ({ ({ v1 with Undo := (v2 ++ v1.Undo) }) with Cells := v4 }) [])]⟩) (j1 rfl) (j1 rfl) ?_
 refine Q5 ?_
 obtain rfl := Option.some.inj hφ
 exact Q6 hw0 rfl (.cell t30 rfl rfl .nil) rfl
theorem c_mkref1_Write {a0 : Mk.Store} {a1 : Mk.Write} {r : Mk.Store} (hφ : mkref1_Write a0 a1 = some r) : Fn Go.Proofs.Try.prog 68 [.val a0, .val a1] (.val r) := by
 unfold mkref1_Write at hφ
 refine Fn.mk' Go.Proofs.Try.func68 rfl (by decide) rfl rfl rfl (fun w0 hw0 => ?_)
 refine Q2 (Q1 ?_)
 refine O3 rfl rfl (ox_box (id := 2) .tmp) (.one rfl) .nil rfl (by kernel_rfl) <| O3 rfl rfl (ox_box (id := 3) .tmp) (.one rfl) .nil rfl (by kernel_rfl) <| O3 rfl rfl (ox_alloc (id := 4) z30) .nil .nil rfl (by kernel_rfl) <| O1 <| Q0 (σ' := ⟨[(2, _), (3, _), (4, _)], [(2, .var (a0) []), (3, .var (a1) []), (4, .var zSt [])]⟩) (j3 rfl rfl rfl) (j3 rfl rfl rfl) ?_
 obtain ⟨k1, hk1, hφ⟩ := J_some hφ
 refine PT.cut (ι := Mk.Store × Mk.Store) (fun p => ⟨[(2, .ptr 2 (Lens.id (α := Mk.Store))), (4, .ptr 4 (Lens.id (α := Mk.Store)))], [(2, .var (p.1) []), (4, .var (p.2) [])]⟩) (fun p => k1 (p.1) (p.2) = some r) ?_ ?_
 ·skip
  refine Q2 (Q1 ?_)
  refine O5 (ox3 Write_At f99_0) (.one rfl) .nil rfl <| O5 (ox2 t3) (.one rfl) (.one rfl) rfl <| O5 (ox_geq .tmp .int) (.app (.one rfl) .nil) .nil rfl <| O5 (ox0 .tmp) (.one rfl) .nil rfl <| O4 rfl rfl rfl rfl (.plain .nil) (fun hG => (ox3 Write_At f99_0)) (j1 rfl) .nil rfl <| O4 rfl rfl rfl rfl (.cond (fun h => h) .nil) (fun hG => (ox2 t3)) (j1 rfl) (.one rfl) rfl ?_
  refine O4 rfl rfl rfl rfl (.plain .nil) (fun hG => (ox3 Store_Cells f30_0)) (j1 rfl) .nil rfl <| O4 rfl rfl rfl rfl (.cond (fun h => h) .nil) (fun hG => (ox2 t25)) (j1 rfl) (.one rfl) rfl <| O4 rfl rfl rfl rfl (.cond (fun h => h) .nil) (fun hG => (ox_len s25 .tmp)) (j1 rfl) .nil rfl <| O4 rfl rfl rfl rfl (.cond (fun h => h) (.cond (fun h => h) .nil)) (fun hG => (ox_lss .tmp .tmp)) (j2 rfl rfl) .nil rfl <| O5 ox8 (j2 rfl rfl) .nil rfl <| O1 <| Q0 (σ' := ⟨[(2, _), (3, _), (4, _), (15, .val ((decide ((0 : Int) ≤ a1.At)) && (decide (a1.At < (a0.Cells.length : Int)))))], [(2, _), (3, _), (4, _)]⟩) (j4 rfl rfl rfl rfl) (j3 rfl rfl rfl) ?_
  refine Q3 _ rfl (fun hc2 => ?_) (fun hc2 => ?_)
  ·replace hφ := if_then hφ hc2
   refine Q0 (σ' := ⟨[(2, _), (3, _), (4, _)], [(2, _), (3, _), (4, _)]⟩) (j3 rfl rfl rfl) (j3 rfl rfl rfl) ?_
   refine Q2 ?_
   obtain ⟨hb3, hφ⟩ := G_some hφ
   obtain ⟨hb4, hφ⟩ := G_some hφ
   refine Q8 hMixed (
     .cons (S5 (ox3 Write_At f99_0)) ⟨.one rfl, .nil⟩ (by kernel_rfl) rfl <|
     .cons (S5 (ox2 t3)) ⟨.one rfl, .one rfl⟩ (by kernel_rfl) rfl <|
     .cons (S5 (ox3 Store_Cells f30_0)) ⟨.one rfl, .nil⟩ (by kernel_rfl) rfl <|
     .cons (S5 (ox2 t25)) ⟨.one rfl, .one rfl⟩ (by kernel_rfl) rfl <|
     .cons (S5 (ox3 Write_At f99_0)) ⟨.one rfl, .nil⟩ (by kernel_rfl) rfl <|
     .cons (S5 (ox2 t3)) ⟨.one rfl, .one rfl⟩ (by kernel_rfl) rfl <|
     .cons (S5 (ox_ix s25 .tmp .tmp hb3.1 hb3.2)) ⟨(.app (.one rfl) (.one rfl)), .nil⟩ (by kernel_rfl) rfl <|
     .cons (S5 (ox_load_elem t3)) ⟨.one rfl, .nil⟩ (by kernel_rfl) rfl <|
     .cons (S5 (oxa z99 u99 rfl (.cons Write_At f99_0 .tmp (.cons Write_N f99_1 .tmp Bld.nil)))) ⟨(.app (.one rfl) (.app (.one rfl) .nil)), .nil⟩ (by kernel_rfl) rfl <|
     .cons (S5 (ox_buildSlice_arr (id := 25) s26 z99 (.cons .tmp Parts.nil) rfl (by decide))) ⟨(.app (.one rfl) .nil), .nil⟩ (by kernel_rfl) rfl <|
     .cons (S5 (ox3 Store_Undo f30_1)) ⟨.one rfl, .nil⟩ (by kernel_rfl) rfl <|
     .cons (S5 (ox2 t26)) ⟨.one rfl, .one rfl⟩ (by kernel_rfl) rfl <|
     .cons (Step.putK [25] rfl rfl (ox_appendV a26 .tmp .tmp hb4.1 hb4.2)) ⟨(.app (.one rfl) (.one rfl)), .one rfl⟩ (by kernel_rfl) rfl <|
     .cons (S5 (ox3 Store_Undo f30_1)) ⟨.one rfl, .nil⟩ (by kernel_rfl) rfl <|
     .cons (S4 rfl rfl (ox_store_fld t26 .tmp)) ⟨(.cons rfl (.one rfl)), .one rfl⟩ (by kernel_rfl) rfl <|
     .nil) _ [[], [0], [], [2], [], [4], [2, 3, 4, 5], [2, 3, 4, 5, 6], [0, 1, 2, 3, 4, 5, 6, 7], [0, 1, 2, 3, 4, 5, 6, 7, 8], [], [10], [0, 1, 2, 3, 4, 5, 6, 7, 8, 9, 10, 11], [0, 1, 2, 3, 4, 5, 6, 7, 8, 9, 10, 11, 12], [0, 1, 2, 3, 4, 5, 6, 7, 8, 9, 10, 11, 12, 13]] rfl (by kernel_rfl) (by kernel_rfl) ?_
   refine Q0 (σ' := ⟨[(2, _), (3, _), (4, _)], [(2, .var ({ a0 with Undo := (([({ At := a1.At, N := (ix a0.Cells a1.At) } : Mk.Write)] : List Mk.Write) ++ a0.Undo) }) []), (3, _), (4, _)]⟩) (j3 rfl rfl rfl) (j3 rfl rfl rfl) ?_
   obtain ⟨v5, hv5, hφ⟩ := B_some hφ
   refine Q1 ?_
   refine O5 (ox3 Store_Cells f30_0) (.one rfl) .nil rfl <| O5 (ox2 t25) (.one rfl) (.one rfl) rfl <| O5 (ox4 t99) (.one rfl) (.one rfl) rfl <| O5 (ox_buildSlice_val s26 z99 (.cons .tmp Parts.nil) rfl (by decide)) (.app (.one rfl) .nil) .nil rfl <| O5 (ox_call (c_mkref1_Set hv5) (.cons .tmp (.cons .tmp .nil))) (.app (.one rfl) (.app (.one rfl) .nil)) .nil rfl <| O5 (ox3 Store_Cells f30_0) (.one rfl) .nil rfl ?_
   refine O2 rfl rfl (ox_store_fld t25 .tmp) (.cons rfl (.one rfl)) (.one rfl) <| O1 <| Q0 (σ' := ⟨[(2, _), (4, _)], [(2, .var ({ ({ a0 with Undo := (([({ At := a1.At, N := (ix a0.Cells a1.At) } : Mk.Write)] : List Mk.Write) ++ a0.Undo) }) with Cells := v5 }) []), (4, _)]⟩) (j2 rfl rfl) (j2 rfl rfl) ?_
   exact PT.meet ({ ({ a0 with Undo := (([({ At := a1.At, N := (ix a0.Cells a1.At) } : Mk.Write)] : List Mk.Write) ++ a0.Undo) }) with Cells := v5 }, zSt) hφ (j2 rfl rfl) (j2 rfl rfl)
  ·replace hφ := if_else hφ hc2
   refine Q0 (σ' := ⟨[(2, _), (4, _)], [(2, _), (4, _)]⟩) (j2 rfl rfl) (j2 rfl rfl) ?_
   refine Q4 ?_
   exact PT.meet (a0, zSt) hφ (j2 rfl rfl) (j2 rfl rfl)
 ·rintro ⟨y2_k1, y4_k1⟩ hφ
  subst hk1
  refine Q0 (σ' := ⟨[(2, .ptr 2 (Lens.id (α := Mk.Store))), (4, .ptr 4 (Lens.id (α := Mk.Store)))], [(2, .var (y2_k1) []), (4, .var (y4_k1) [])]⟩) (j2 rfl rfl) (j2 rfl rfl) ?_
  refine Q2 (Q1 ?_)
  refine O5 (ox4 t30) (.one rfl) (.one rfl) rfl <| O2 rfl rfl (ox5 t30 .tmp) (.cons rfl (.one rfl)) (.one rfl) <| O1 <| Q0 (σ' := ⟨[(4, _)], [(4, .var (y2_k1) [])]⟩) (j1 rfl) (j1 rfl) ?_
  refine Q5 ?_
  obtain rfl := Option.some.inj hφ
  exact Q6 hw0 rfl (.cell t30 rfl rfl .nil) rfl
theorem c_store_Commit {a0 : Mk.Store} {a1 : Mk.Request} {a2 : Mk.Reply} {r : Mk.Store} (hφ : store_Commit a0 a1 a2 = some r) : Fn Go.Proofs.Try.prog 67 [.val a0, .val a1, .val a2] (.val r) := by
 unfold store_Commit at hφ
 refine Fn.mk' Go.Proofs.Try.func67 rfl (by decide) rfl rfl rfl (fun w0 hw0 => ?_)
 refine Q2 (Q1 ?_)
 refine O3 rfl rfl (ox_box (id := 3) .tmp) (.one rfl) .nil rfl (by kernel_rfl) <| O3 rfl rfl (ox_box (id := 4) .tmp) (.one rfl) .nil rfl (by kernel_rfl) <| O3 rfl rfl (ox_box (id := 5) .tmp) (.one rfl) .nil rfl (by kernel_rfl) <| O3 rfl rfl (ox_alloc (id := 6) z30) .nil .nil rfl (by kernel_rfl) <| O1 <| Q0 (σ' := ⟨[(3, _), (4, _), (5, _), (6, _)], [(3, .var (a0) []), (4, .var (a1) []), (5, .var (a2) []), (6, .var zSt [])]⟩) (j4 rfl rfl rfl rfl) (j4 rfl rfl rfl rfl) ?_
 refine Q2 ?_
 obtain ⟨v1, hv1, hφ⟩ := B_some hφ
 refine Q1 ?_
 refine O5 (ox4 t30) (.one rfl) (.one rfl) rfl <| O3 rfl rfl (ox_callX (x_store_Own hv1) [] [(11, 40122), (14, 40123)] [(11, 40122), (14, 40123)] [] (.cons .tmp .nil) rfl rfl rfl rfl rfl rfl rfl rfl trivial rfl rfl rfl rfl) (.app (.one rfl) .nil) .nil rfl (by kernel_rfl) <| O3 rfl rfl (ox_alloc (id := 7) z30) .nil .nil rfl (by kernel_rfl) <| O2 rfl rfl (ox_store_varH t30 rfl .tmp) (.cons rfl (.one rfl)) (.one rfl) <| O1 <| Q0 (σ' := ⟨[(4, _), (5, _), (6, _), (7, _)], [(4, _), (5, _), (6, _), (7, .var ({ ({ v1 with Answers := ([] : List Mk.Answer) }) with Past := ([] : List Mk.Request) }) [(2, 40122), (3, 40123)]), (40122, .arr 74 (v1.Answers)), (40123, .arr 35 (v1.Past))]⟩) (j4 rfl rfl rfl rfl) (j6 rfl rfl rfl rfl rfl rfl) ?_
 refine Q2 (Q1 ?_)
 refine O5 (ox3 Store_Undo f30_1) (.one rfl) .nil rfl <| O2 rfl rfl (ox_store_over t26 (.nilL (α := Mk.Write)) rfl) (.cons rfl .nil) (.one rfl) <| O1 <| Q0 (σ' := ⟨[(4, _), (5, _), (6, _), (7, _)], [(4, _), (5, _), (6, _), (7, .var ({ ({ ({ v1 with Answers := ([] : List Mk.Answer) }) with Past := ([] : List Mk.Request) }) with Undo := ([] : List Mk.Write) }) [(2, 40122), (3, 40123)]), (40122, _), (40123, _)]⟩) (j4 rfl rfl rfl rfl) (j6 rfl rfl rfl rfl rfl rfl) ?_
 refine Q2 ?_
 obtain ⟨hb2, hφ⟩ := G_some hφ
 refine Q1 ?_
 refine O5 (ox3 Store_Past f30_3) (.one rfl) .nil rfl <| O3 rfl rfl (ox_take_hole (k' := 20015) t28 rfl rfl rfl rfl rfl) (.one rfl) (.cons rfl (.one rfl)) rfl (by kernel_rfl) <| O5 (ox4 t35) (.one rfl) (.one rfl) rfl <| O5 (ox_buildSlice_val s28 z35 (.cons .tmp Parts.nil) rfl (by decide)) (.app (.one rfl) .nil) .nil rfl ?_
 refine Ops.putK [15] rfl rfl (ox_append a28 .tmp .tmp hb2.1 hb2.2) (.app (.one rfl) (.one rfl)) (.one rfl) rfl (by kernel_rfl) ?_
 refine O5 (ox3 Store_Past f30_3) (.one rfl) .nil rfl <| O2 rfl rfl (ox_store_sl t28 .tmp rfl) (.cons rfl (.one rfl)) (.cons rfl (.one rfl)) <| O1 <| Q0 (σ' := ⟨[(4, _), (5, _), (6, _), (7, _)], [(4, _), (5, _), (6, _), (7, _), (40122, _), (40123, .arr 35 (v1.Past ++ ([a1] : List Mk.Request)))]⟩) (j4 rfl rfl rfl rfl) (j6 rfl rfl rfl rfl rfl rfl) ?_
 refine Q2 (Q1 ?_)
 refine O5 (ox3 Request_Client f35_0) (.one rfl) .nil rfl <| O5 (ox2 t3) (.one rfl) (.one rfl) rfl <| O5 (ox3 Request_Token f35_1) (.one rfl) .nil rfl <| O5 (ox2 t3) (.one rfl) (.one rfl) rfl <| O5 (ox4 t38) (.one rfl) (.one rfl) rfl <| O5 (oxa z74 u74 rfl (.cons Answer_Client f74_0 .tmp (.cons Answer_Token f74_1 .tmp (.cons Answer_Reply f74_2 .tmp Bld.nil)))) (.app (.one rfl) (.app (.one rfl) (.app (.one rfl) .nil))) .nil rfl ?_
 refine O3 rfl rfl (ox_alloc (id := 8) z74) .nil .nil rfl (by kernel_rfl) <| O2 rfl rfl (ox5 t74 .tmp) (.cons rfl (.one rfl)) (.one rfl) <| O1 <| Q0 (σ' := ⟨[(4, _), (6, _), (7, _), (8, _)], [(4, _), (6, _), (7, _), (8, .var ({ Client := a1.Client, Token := a1.Token, Reply := a2 } : Mk.Answer) []), (40122, _), (40123, _)]⟩) (j4 rfl rfl rfl rfl) (j6 rfl rfl rfl rfl rfl rfl) ?_
 obtain ⟨k3, hk3, hφ⟩ := J_some hφ
 refine PT.cut (ι := Mk.Store × Mk.Store × Mk.Answer × (List Mk.Answer) × (List Mk.Request)) (fun p => ⟨[(6, .ptr 6 (Lens.id (α := Mk.Store))), (7, .ptr 7 (Lens.id (α := Mk.Store))), (8, .ptr 8 (Lens.id (α := Mk.Answer)))], [(6, .var (p.1) []), (7, .var (p.2.1) [(2, 40122), (3, 40123)]), (8, .var (p.2.2.1) []), (40122, .arr 74 (p.2.2.2.1)), (40123, .arr 35 (p.2.2.2.2))]⟩) (fun p => k3 (p.1) (p.2.1) (p.2.2.1) (p.2.2.2.1) (p.2.2.2.2) = some r) ?_ ?_
 ·skip
  refine Q2 (Q1 ?_)
  refine O5 (ox3 Store_Answers f30_2) (.one rfl) .nil rfl <| O5 (ox_load_hole t27 rfl) (.one rfl) (.cons rfl (.one rfl)) rfl <| O5 (ox_len_arr s27 .tmp) (.one rfl) (.one rfl) rfl <| O5 (ox0 .int) .nil .nil rfl <| O1 <| Q0 (σ' := ⟨[(4, _), (6, _), (7, _), (8, _), (27, _), (28, .val (v1.Answers.length : Int)), (29, .val (0 : Int))], [(4, _), (6, _), (7, _), (8, _), (40122, _), (40123, _)]⟩) (j7 rfl rfl rfl rfl rfl rfl rfl) (j6 rfl rfl rfl rfl rfl rfl) ?_
  refine PT.block ?_
  refine PT.loop (ι := Nat × Int × Int × Mk.Request × Mk.Store × Mk.Store × Mk.Answer × (List Mk.Answer) × (List Mk.Request)) (fun p => ⟨[(4, .ptr 4 (Lens.id (α := Mk.Request))), (6, .ptr 6 (Lens.id (α := Mk.Store))), (7, .ptr 7 (Lens.id (α := Mk.Store))), (8, .ptr 8 (Lens.id (α := Mk.Answer))), (27, .sl 40122), (28, .val (p.2.1)), (29, .val (p.2.2.1))], [(4, .var (p.2.2.2.1) []), (6, .var (p.2.2.2.2.1) []), (7, .var (p.2.2.2.2.2.1) [(2, 40122), (3, 40123)]), (8, .var (p.2.2.2.2.2.2.1) []), (40122, .arr 74 (p.2.2.2.2.2.2.2.1)), (40123, .arr 35 (p.2.2.2.2.2.2.2.2))]⟩) (fun p => store_Commit_l1 k3 p.1 (p.2.1) (p.2.2.1) (p.2.2.2.1) (p.2.2.2.2.1) (p.2.2.2.2.2.1) (p.2.2.2.2.2.2.1) (p.2.2.2.2.2.2.2.1) (p.2.2.2.2.2.2.2.2) = some r) (fun p => p.1) (((v1.Answers.length : Int) - (0 : Int)).toNat + 1, (v1.Answers.length : Int), (0 : Int), a1, zSt, { ({ ({ v1 with Answers := ([] : List Mk.Answer) }) with Past := ([] : List Mk.Request) }) with Undo := ([] : List Mk.Write) }, ({ Client := a1.Client, Token := a1.Token, Reply := a2 } : Mk.Answer), v1.Answers, (v1.Past ++ ([a1] : List Mk.Request))) hφ (j7 rfl rfl rfl rfl rfl rfl rfl) (j6 rfl rfl rfl rfl rfl rfl) ?_
  rintro ⟨m4, x28_m4, x29_m4, y4_m4, y6_m4, y7_m4, y8_m4, y40122_m4, y40123_m4⟩ (hφ : store_Commit_l1 k3 m4 x28_m4 x29_m4 y4_m4 y6_m4 y7_m4 y8_m4 y40122_m4 y40123_m4 = some r)
  obtain _ | m4 := m4
  ·exact (none_no hφ).elim
  rw [store_Commit_l1.eq_2] at hφ
  refine Q0 (σ' := ⟨[(4, .ptr 4 (Lens.id (α := Mk.Request))), (6, .ptr 6 (Lens.id (α := Mk.Store))), (7, .ptr 7 (Lens.id (α := Mk.Store))), (8, .ptr 8 (Lens.id (α := Mk.Answer))), (27, .sl 40122), (28, .val (x28_m4)), (29, .val (x29_m4))], [(4, .var (y4_m4) []), (6, .var (y6_m4) []), (7, .var (y7_m4) [(2, 40122), (3, 40123)]), (8, .var (y8_m4) []), (40122, .arr 74 (y40122_m4)), (40123, .arr 35 (y40123_m4))]⟩) (j7 rfl rfl rfl rfl rfl rfl rfl) (j6 rfl rfl rfl rfl rfl rfl) ?_
  refine Q2 (Q1 ?_)
  refine O5 (ox_lss .tmp .tmp) (.app (.one rfl) (.one rfl)) .nil rfl <| O1 <| Q0 (σ' := ⟨[(4, _), (6, _), (7, _), (8, _), (27, _), (28, _), (29, _), (30, .val (decide (x29_m4 < x28_m4)))], [(4, _), (6, _), (7, _), (8, _), (40122, _), (40123, _)]⟩) (j8 rfl rfl rfl rfl rfl rfl rfl rfl) (j6 rfl rfl rfl rfl rfl rfl) ?_
  refine Q2 ?_
  refine Q3 _ rfl (fun hc5 => ?_) (fun hc5 => ?_)
  ·replace hφ := if_then hφ hc5
   refine Q0 (σ' := ⟨[(4, _), (6, _), (7, _), (8, _), (27, _), (28, _), (29, _)], [(4, _), (6, _), (7, _), (8, _), (40122, _), (40123, _)]⟩) (j7 rfl rfl rfl rfl rfl rfl rfl) (j6 rfl rfl rfl rfl rfl rfl) ?_
   refine Q4 ?_
   refine Q2 ?_
   refine PT.block ?_
   refine Q2 ?_
   obtain ⟨hb6, hφ⟩ := G_some hφ
   refine Q1 ?_
   refine O5 (ox0 .tmp) (.one rfl) .nil rfl <| O5 (ox_index_arr s27 .tmp .tmp hb6.1 hb6.2) (.app (.one rfl) (.one rfl)) (.one rfl) rfl <| O5 (ox_load_ax t74 hb6) (.one rfl) (.one rfl) rfl <| O3 rfl rfl (ox_alloc (id := 10) z74) .nil .nil rfl (by kernel_rfl) <| O5 (ox1 .tmp) (.one rfl) .nil rfl <| O2 rfl rfl (ox5 t74 .tmp) (.cons rfl (.one rfl)) (.one rfl) <| O1 <| Q0 (σ' := ⟨[(4, _), (6, _), (7, _), (8, _), (9, .val (x29_m4)), (10, _), (27, _), (28, _), (29, _)], [(4, _), (6, _), (7, _), (8, _), (10, .var (ix y40122_m4 x29_m4) []), (40122, _), (40123, _)]⟩) (j9 rfl rfl rfl rfl rfl rfl rfl rfl rfl) (j7 rfl rfl rfl rfl rfl rfl rfl) ?_
   refine Q2 (Q1 ?_)
   refine O5 (ox3 Answer_Client f74_0) (.one rfl) .nil rfl <| O5 (ox2 t3) (.one rfl) (.one rfl) rfl <| O5 (ox3 Request_Client f35_0) (.one rfl) .nil rfl <| O5 (ox2 t3) (.one rfl) (.one rfl) rfl <| O5 (ox_eql .tmp .tmp) (.app (.one rfl) (.one rfl)) .nil rfl <| O1 <| Q0 (σ' := ⟨[(4, _), (6, _), (7, _), (8, _), (9, _), (27, _), (28, _), (29, _), (38, .val (decide ((ix y40122_m4 x29_m4).Client = y4_m4.Client)))], [(4, _), (6, _), (7, _), (8, _), (40122, _), (40123, _)]⟩) (j9 rfl rfl rfl rfl rfl rfl rfl rfl rfl) (j6 rfl rfl rfl rfl rfl rfl) ?_
   refine Q3 _ rfl (fun hc7 => ?_) (fun hc7 => ?_)
   ·replace hφ := if_then hφ hc7
    refine Q0 (σ' := ⟨[(6, _), (7, _), (8, _), (9, _)], [(6, _), (7, _), (8, _), (40122, _), (40123, _)]⟩) (j4 rfl rfl rfl rfl) (j5 rfl rfl rfl rfl rfl) ?_
    refine Q2 ?_
    obtain ⟨hb8, hφ⟩ := G_some hφ
    refine Q1 ?_
    refine O5 (ox3 Store_Answers f30_2) (.one rfl) .nil rfl <| O5 (ox_load_hole t27 rfl) (.one rfl) (.cons rfl (.one rfl)) rfl <| O5 (ox0 .tmp) (.one rfl) .nil rfl <| O5 (ox4 t74) (.one rfl) (.one rfl) rfl <| O5 (ox_index_arr s27 .tmp .tmp hb8.1 hb8.2) (.app (.one rfl) (.one rfl)) (.one rfl) rfl <| O2 rfl rfl (ox_store_ax t74 .tmp hb8) (.cons rfl (.one rfl)) (.one rfl) <| O1 <| Q0 (σ' := ⟨[(6, _), (7, _)], [(6, _), (7, _), (40122, .arr 74 (up y40122_m4 x29_m4 y8_m4)), (40123, _)]⟩) (j2 rfl rfl) (j4 rfl rfl rfl rfl) ?_
    refine Q2 ?_
    refine PT.freezeHole 7 40122 [] Store_Answers rfl rfl rfl rfl trivial ?_
    refine PT.freezeHole 7 40123 [] Store_Past rfl rfl rfl rfl trivial ?_
    refine Q1 ?_
    refine O5 (ox4 t30) (.one rfl) (.one rfl) rfl <| O2 rfl rfl (ox5 t30 .tmp) (.cons rfl (.one rfl)) (.one rfl) <| O1 <| Q0 (σ' := ⟨[(6, _)], [(6, .var ({ ({ y7_m4 with Answers := (up y40122_m4 x29_m4 y8_m4) }) with Past := y40123_m4 }) [])]⟩) (j1 rfl) (j1 rfl) ?_
    refine Q5 ?_
    obtain rfl := Option.some.inj hφ
    exact Q6 hw0 rfl (.cell t30 rfl rfl .nil) rfl
   ·replace hφ := if_else hφ hc7
    refine Q0 (σ' := ⟨[(4, _), (6, _), (7, _), (8, _), (27, _), (28, _), (29, _)], [(4, _), (6, _), (7, _), (8, _), (40122, _), (40123, _)]⟩) (j7 rfl rfl rfl rfl rfl rfl rfl) (j6 rfl rfl rfl rfl rfl rfl) ?_
    refine Q4 ?_
    obtain ⟨hb9, hφ⟩ := G_some hφ
    refine Q1 ?_
    refine O5 (ox_add .tmp .int hb9) (.app (.one rfl) .nil) .nil rfl <| O5 (ox0 .tmp) (.one rfl) .nil rfl <| O1 <| Q0 (σ' := ⟨[(4, _), (6, _), (7, _), (8, _), (27, _), (28, _), (29, .val (x29_m4 + (1 : Int)))], [(4, _), (6, _), (7, _), (8, _), (40122, _), (40123, _)]⟩) (j7 rfl rfl rfl rfl rfl rfl rfl) (j6 rfl rfl rfl rfl rfl rfl) ?_
    exact PT.next (m4, x28_m4, (x29_m4 + (1 : Int)), y4_m4, y6_m4, y7_m4, y8_m4, y40122_m4, y40123_m4) hφ (Nat.lt_succ_self _) (j7 rfl rfl rfl rfl rfl rfl rfl) (j6 rfl rfl rfl rfl rfl rfl)
  ·replace hφ := if_else hφ hc5
   refine Q0 (σ' := ⟨[(6, _), (7, _), (8, _)], [(6, _), (7, _), (8, _), (40122, _), (40123, _)]⟩) (j3 rfl rfl rfl) (j5 rfl rfl rfl rfl rfl) ?_
   refine PT.exit ?_
   exact PT.meet (y6_m4, y7_m4, y8_m4, y40122_m4, y40123_m4) hφ (j3 rfl rfl rfl) (j5 rfl rfl rfl rfl rfl)
 ·rintro ⟨y6_k3, y7_k3, y8_k3, y40122_k3, y40123_k3⟩ hφ
  subst hk3
  refine Q0 (σ' := ⟨[(6, .ptr 6 (Lens.id (α := Mk.Store))), (7, .ptr 7 (Lens.id (α := Mk.Store))), (8, .ptr 8 (Lens.id (α := Mk.Answer)))], [(6, .var (y6_k3) []), (7, .var (y7_k3) [(2, 40122), (3, 40123)]), (8, .var (y8_k3) []), (40122, .arr 74 (y40122_k3)), (40123, .arr 35 (y40123_k3))]⟩) (j3 rfl rfl rfl) (j5 rfl rfl rfl rfl rfl) ?_
  refine Q2 ?_
  obtain ⟨hb10, hφ⟩ := G_some hφ
  refine Q1 ?_
  refine O5 (ox3 Store_Answers f30_2) (.one rfl) .nil rfl <| O3 rfl rfl (ox_take_hole (k' := 20047) t27 rfl rfl rfl rfl rfl) (.one rfl) (.cons rfl (.one rfl)) rfl (by kernel_rfl) <| O5 (ox4 t74) (.one rfl) (.one rfl) rfl <| O5 (ox_buildSlice_val s27 z74 (.cons .tmp Parts.nil) rfl (by decide)) (.app (.one rfl) .nil) .nil rfl ?_
  refine Ops.putK [47] rfl rfl (ox_append a27 .tmp .tmp hb10.1 hb10.2) (.app (.one rfl) (.one rfl)) (.one rfl) rfl (by kernel_rfl) ?_
  refine O5 (ox3 Store_Answers f30_2) (.one rfl) .nil rfl <| O2 rfl rfl (ox_store_sl t27 .tmp rfl) (.cons rfl (.one rfl)) (.cons rfl (.one rfl)) <| O1 <| Q0 (σ' := ⟨[(6, _), (7, _)], [(6, _), (7, .var (y7_k3) [(3, 40123), (2, 40122)]), (40122, .arr 74 (y40122_k3 ++ ([y8_k3] : List Mk.Answer))), (40123, _)]⟩) (j2 rfl rfl) (j4 rfl rfl rfl rfl) ?_
  refine Q2 ?_
  refine PT.freezeHole 7 40123 [] Store_Past rfl rfl rfl rfl trivial ?_
  refine PT.freezeHole 7 40122 [] Store_Answers rfl rfl rfl rfl trivial ?_
  refine Q1 ?_
  refine O5 (ox4 t30) (.one rfl) (.one rfl) rfl <| O2 rfl rfl (ox5 t30 .tmp) (.cons rfl (.one rfl)) (.one rfl) <| O1 <| Q0 (σ' := ⟨[(6, _)], [(6, .var ({ ({ y7_k3 with Past := y40123_k3 }) with Answers := (y40122_k3 ++ ([y8_k3] : List Mk.Answer)) }) [])]⟩) (j1 rfl) (j1 rfl) ?_
  refine Q5 ?_
  obtain rfl := Option.some.inj hφ
  exact Q6 hw0 rfl (.cell t30 rfl rfl .nil) rfl
theorem c_mkref1_Commit {a0 : Mk.Store} {a1 : Mk.Request} {a2 : Mk.Reply} {r : Mk.Store} (hφ : mkref1_Commit a0 a1 a2 = some r) : Fn Go.Proofs.Try.prog 69 [.val a0, .val a1, .val a2] (.val r) := by
 unfold mkref1_Commit at hφ
 refine Fn.mk' Go.Proofs.Try.func69 rfl (by decide) rfl rfl rfl (fun w0 hw0 => ?_)
 refine Q2 (Q1 ?_)
 refine O3 rfl rfl (ox_box (id := 3) .tmp) (.one rfl) .nil rfl (by kernel_rfl) <| O3 rfl rfl (ox_box (id := 4) .tmp) (.one rfl) .nil rfl (by kernel_rfl) <| O3 rfl rfl (ox_box (id := 5) .tmp) (.one rfl) .nil rfl (by kernel_rfl) <| O3 rfl rfl (ox_alloc (id := 6) z30) .nil .nil rfl (by kernel_rfl) <| O1 <| Q0 (σ' := ⟨[(3, _), (4, _), (5, _), (6, _)], [(3, .var (a0) []), (4, .var (a1) []), (5, .var (a2) []), (6, .var zSt [])]⟩) (j4 rfl rfl rfl rfl) (j4 rfl rfl rfl rfl) ?_
 refine Q2 (Q1 ?_)
 refine O5 (ox3 Request_Client f35_0) (.one rfl) .nil rfl <| O5 (ox2 t3) (.one rfl) (.one rfl) rfl <| O5 (ox3 Request_Token f35_1) (.one rfl) .nil rfl <| O5 (ox2 t3) (.one rfl) (.one rfl) rfl <| O5 (ox4 t38) (.one rfl) (.one rfl) rfl <| O5 (oxa z74 u74 rfl (.cons Answer_Client f74_0 .tmp (.cons Answer_Token f74_1 .tmp (.cons Answer_Reply f74_2 .tmp Bld.nil)))) (.app (.one rfl) (.app (.one rfl) (.app (.one rfl) .nil))) .nil rfl ?_
 refine O3 rfl rfl (ox_alloc (id := 7) z74) .nil .nil rfl (by kernel_rfl) <| O2 rfl rfl (ox5 t74 .tmp) (.cons rfl (.one rfl)) (.one rfl) <| O1 <| Q0 (σ' := ⟨[(3, _), (4, _), (6, _), (7, _)], [(3, _), (4, _), (6, _), (7, .var ({ Client := a1.Client, Token := a1.Token, Reply := a2 } : Mk.Answer) [])]⟩) (j4 rfl rfl rfl rfl) (j4 rfl rfl rfl rfl) ?_
 refine Q2 (Q1 ?_)
 refine O5 (ox1 .nilS) .nil .nil rfl <| O1 <| Q0 (σ' := ⟨[(3, _), (4, _), (6, _), (7, _), (8, .nilS)], [(3, _), (4, _), (6, _), (7, _)]⟩) (j5 rfl rfl rfl rfl rfl) (j4 rfl rfl rfl rfl) ?_
 refine Q2 (Q1 ?_)
 refine O5 (ox1 .bool) .nil .nil rfl <| O1 <| Q0 (σ' := ⟨[(3, _), (4, _), (6, _), (7, _), (8, _), (9, .val (false))], [(3, _), (4, _), (6, _), (7, _)]⟩) (j6 rfl rfl rfl rfl rfl rfl) (j4 rfl rfl rfl rfl) ?_
 obtain ⟨k1, hk1, hφ⟩ := J_some hφ
 refine PT.cut (ι := Bool × Mk.Store × Mk.Request × Mk.Store × Mk.Answer × (List Mk.Answer)) (fun p => ⟨[(3, .ptr 3 (Lens.id (α := Mk.Store))), (4, .ptr 4 (Lens.id (α := Mk.Request))), (6, .ptr 6 (Lens.id (α := Mk.Store))), (7, .ptr 7 (Lens.id (α := Mk.Answer))), (8, .sl 1008), (9, .val (p.1))], [(3, .var (p.2.1) []), (4, .var (p.2.2.1) []), (6, .var (p.2.2.2.1) []), (7, .var (p.2.2.2.2.1) []), (1008, .arr 74 (p.2.2.2.2.2))]⟩) (fun p => k1 (p.1) (p.2.1) (p.2.2.1) (p.2.2.2.1) (p.2.2.2.2.1) (p.2.2.2.2.2) = some r) ?_ ?_
 ·skip
  refine Q2 (Q1 ?_)
  refine O5 (ox3 Store_Answers f30_2) (.one rfl) .nil rfl <| O5 (ox2 t27) (.one rfl) (.one rfl) rfl <| O5 (ox_len s27 .tmp) (.one rfl) .nil rfl <| O5 (ox0 .int) .nil .nil rfl <| O1 <| Q0 (σ' := ⟨[(3, _), (4, _), (6, _), (7, _), (8, _), (9, _), (19, .val (a0.Answers)), (20, .val (a0.Answers.length : Int)), (21, .val (0 : Int))], [(3, _), (4, _), (6, _), (7, _)]⟩) (j9 rfl rfl rfl rfl rfl rfl rfl rfl rfl) (j4 rfl rfl rfl rfl) ?_
  refine PT.block ?_
  refine PT.nilArr 1008 8 74 (Mk.Answer) rfl (by kernel_rfl) ?_
  refine PT.loop (ι := Nat × Bool × (List Mk.Answer) × Int × Int × Mk.Store × Mk.Request × Mk.Store × Mk.Answer × (List Mk.Answer)) (fun p => ⟨[(3, .ptr 3 (Lens.id (α := Mk.Store))), (4, .ptr 4 (Lens.id (α := Mk.Request))), (6, .ptr 6 (Lens.id (α := Mk.Store))), (7, .ptr 7 (Lens.id (α := Mk.Answer))), (8, .sl 1008), (9, .val (p.2.1)), (19, .val (p.2.2.1)), (20, .val (p.2.2.2.1)), (21, .val (p.2.2.2.2.1))], [(3, .var (p.2.2.2.2.2.1) []), (4, .var (p.2.2.2.2.2.2.1) []), (6, .var (p.2.2.2.2.2.2.2.1) []), (7, .var (p.2.2.2.2.2.2.2.2.1) []), (1008, .arr 74 (p.2.2.2.2.2.2.2.2.2))]⟩) (fun p => mkref1_Commit_l1 k1 p.1 (p.2.1) (p.2.2.1) (p.2.2.2.1) (p.2.2.2.2.1) (p.2.2.2.2.2.1) (p.2.2.2.2.2.2.1) (p.2.2.2.2.2.2.2.1) (p.2.2.2.2.2.2.2.2.1) (p.2.2.2.2.2.2.2.2.2) = some r) (fun p => p.1) (((a0.Answers.length : Int) - (0 : Int)).toNat + 1, false, a0.Answers, (a0.Answers.length : Int), (0 : Int), a0, a1, zSt, ({ Client := a1.Client, Token := a1.Token, Reply := a2 } : Mk.Answer), ([] : List Mk.Answer)) hφ (j9 rfl rfl rfl rfl rfl rfl rfl rfl rfl) (j5 rfl rfl rfl rfl rfl) ?_
  rintro ⟨m2, x9_m2, x19_m2, x20_m2, x21_m2, y3_m2, y4_m2, y6_m2, y7_m2, y1008_m2⟩ (hφ : mkref1_Commit_l1 k1 m2 x9_m2 x19_m2 x20_m2 x21_m2 y3_m2 y4_m2 y6_m2 y7_m2 y1008_m2 = some r)
  obtain _ | m2 := m2
  ·exact (none_no hφ).elim
  rw [mkref1_Commit_l1.eq_2] at hφ
  refine Q0 (σ' := ⟨[(3, .ptr 3 (Lens.id (α := Mk.Store))), (4, .ptr 4 (Lens.id (α := Mk.Request))), (6, .ptr 6 (Lens.id (α := Mk.Store))), (7, .ptr 7 (Lens.id (α := Mk.Answer))), (8, .sl 1008), (9, .val (x9_m2)), (19, .val (x19_m2)), (20, .val (x20_m2)), (21, .val (x21_m2))], [(3, .var (y3_m2) []), (4, .var (y4_m2) []), (6, .var (y6_m2) []), (7, .var (y7_m2) []), (1008, .arr 74 (y1008_m2))]⟩) (j9 rfl rfl rfl rfl rfl rfl rfl rfl rfl) (j5 rfl rfl rfl rfl rfl) ?_
  refine Q2 (Q1 ?_)
  refine O5 (ox_lss .tmp .tmp) (.app (.one rfl) (.one rfl)) .nil rfl <| O1 <| Q0 (σ' := ⟨[(3, _), (4, _), (6, _), (7, _), (8, _), (9, _), (19, _), (20, _), (21, _), (22, .val (decide (x21_m2 < x20_m2)))], [(3, _), (4, _), (6, _), (7, _), (1008, _)]⟩) (j10 rfl rfl rfl rfl rfl rfl rfl rfl rfl rfl) (j5 rfl rfl rfl rfl rfl) ?_
  refine Q2 ?_
  refine Q3 _ rfl (fun hc3 => ?_) (fun hc3 => ?_)
  ·replace hφ := if_then hφ hc3
   refine Q0 (σ' := ⟨[(3, _), (4, _), (6, _), (7, _), (8, _), (9, _), (19, _), (20, _), (21, _)], [(3, _), (4, _), (6, _), (7, _), (1008, _)]⟩) (j9 rfl rfl rfl rfl rfl rfl rfl rfl rfl) (j5 rfl rfl rfl rfl rfl) ?_
   refine Q4 ?_
   refine Q2 ?_
   refine PT.block ?_
   refine Q2 ?_
   obtain ⟨hb4, hφ⟩ := G_some hφ
   refine Q1 ?_
   refine O5 (ox_ix s27 .tmp .tmp hb4.1 hb4.2) (.app (.one rfl) (.one rfl)) .nil rfl <| O5 (ox_load_elem t74) (.one rfl) .nil rfl <| O3 rfl rfl (ox_alloc (id := 11) z74) .nil .nil rfl (by kernel_rfl) <| O2 rfl rfl (ox5 t74 .tmp) (.cons rfl (.one rfl)) (.one rfl) <| O1 <| Q0 (σ' := ⟨[(3, _), (4, _), (6, _), (7, _), (8, _), (9, _), (11, _), (19, _), (20, _), (21, _)], [(3, _), (4, _), (6, _), (7, _), (11, .var (ix x19_m2 x21_m2) []), (1008, _)]⟩) (j10 rfl rfl rfl rfl rfl rfl rfl rfl rfl rfl) (j6 rfl rfl rfl rfl rfl rfl) ?_
   obtain ⟨k5, hk5, hφ⟩ := J_some hφ
   refine PT.cut (ι := Bool × (List Mk.Answer) × Int × Int × Mk.Store × Mk.Request × Mk.Store × Mk.Answer × Mk.Answer × (List Mk.Answer)) (fun p => ⟨[(3, .ptr 3 (Lens.id (α := Mk.Store))), (4, .ptr 4 (Lens.id (α := Mk.Request))), (6, .ptr 6 (Lens.id (α := Mk.Store))), (7, .ptr 7 (Lens.id (α := Mk.Answer))), (8, .sl 1008), (9, .val (p.1)), (11, .ptr 11 (Lens.id (α := Mk.Answer))), (19, .val (p.2.1)), (20, .val (p.2.2.1)), (21, .val (p.2.2.2.1))], [(3, .var (p.2.2.2.2.1) []), (4, .var (p.2.2.2.2.2.1) []), (6, .var (p.2.2.2.2.2.2.1) []), (7, .var (p.2.2.2.2.2.2.2.1) []), (11, .var (p.2.2.2.2.2.2.2.2.1) []), (1008, .arr 74 (p.2.2.2.2.2.2.2.2.2))]⟩) (fun p => k5 (p.1) (p.2.1) (p.2.2.1) (p.2.2.2.1) (p.2.2.2.2.1) (p.2.2.2.2.2.1) (p.2.2.2.2.2.2.1) (p.2.2.2.2.2.2.2.1) (p.2.2.2.2.2.2.2.2.1) (p.2.2.2.2.2.2.2.2.2) = some r) ?_ ?_
   ·skip
    refine Q2 (Q1 ?_)
    refine O5 (ox3 Answer_Client f74_0) (.one rfl) .nil rfl <| O5 (ox2 t3) (.one rfl) (.one rfl) rfl <| O5 (ox3 Request_Client f35_0) (.one rfl) .nil rfl <| O5 (ox2 t3) (.one rfl) (.one rfl) rfl <| O5 (ox_eql .tmp .tmp) (.app (.one rfl) (.one rfl)) .nil rfl <| O5 (ox0 .tmp) (.one rfl) .nil rfl ?_
    refine O4 rfl rfl rfl rfl (.plain .nil) (fun hG => (ox0 .tmp)) (j1 rfl) .nil rfl <| O4 rfl rfl rfl rfl (.cond (fun h => h) .nil) (fun hG => (ox_not .tmp)) (j1 rfl) .nil rfl <| O5 ox8 (j2 rfl rfl) .nil rfl <| O1 <| Q0 (σ' := ⟨[(3, _), (4, _), (6, _), (7, _), (8, _), (9, _), (11, _), (19, _), (20, _), (21, _), (33, .val ((decide ((ix x19_m2 x21_m2).Client = y4_m2.Client)) && (!x9_m2)))], [(3, _), (4, _), (6, _), (7, _), (11, _), (1008, _)]⟩) (j11 rfl rfl rfl rfl rfl rfl rfl rfl rfl rfl rfl) (j6 rfl rfl rfl rfl rfl rfl) ?_
    refine Q3 _ rfl (fun hc6 => ?_) (fun hc6 => ?_)
    ·replace hφ := if_then hφ hc6
     refine Q0 (σ' := ⟨[(3, _), (4, _), (6, _), (7, _), (8, _), (11, _), (19, _), (20, _), (21, _)], [(3, _), (4, _), (6, _), (7, _), (11, _), (1008, _)]⟩) (j9 rfl rfl rfl rfl rfl rfl rfl rfl rfl) (j6 rfl rfl rfl rfl rfl rfl) ?_
     refine Q2 (Q1 ?_)
     refine O5 (ox4 t74) (.one rfl) (.one rfl) rfl <| O2 rfl rfl (ox5 t74 .tmp) (.cons rfl (.one rfl)) (.one rfl) <| O1 <| Q0 (σ' := ⟨[(3, _), (4, _), (6, _), (7, _), (8, _), (11, _), (19, _), (20, _), (21, _)], [(3, _), (4, _), (6, _), (7, _), (11, .var (y7_m2) []), (1008, _)]⟩) (j9 rfl rfl rfl rfl rfl rfl rfl rfl rfl) (j6 rfl rfl rfl rfl rfl rfl) ?_
     refine Q1 ?_
     refine O5 (ox1 .bool) .nil .nil rfl <| O1 <| Q0 (σ' := ⟨[(3, _), (4, _), (6, _), (7, _), (8, _), (9, .val (true)), (11, _), (19, _), (20, _), (21, _)], [(3, _), (4, _), (6, _), (7, _), (11, _), (1008, _)]⟩) (j10 rfl rfl rfl rfl rfl rfl rfl rfl rfl rfl) (j6 rfl rfl rfl rfl rfl rfl) ?_
     exact PT.meet (true, x19_m2, x20_m2, x21_m2, y3_m2, y4_m2, y6_m2, y7_m2, y7_m2, y1008_m2) hφ (j10 rfl rfl rfl rfl rfl rfl rfl rfl rfl rfl) (j6 rfl rfl rfl rfl rfl rfl)
    ·replace hφ := if_else hφ hc6
     refine Q0 (σ' := ⟨[(3, _), (4, _), (6, _), (7, _), (8, _), (9, _), (11, _), (19, _), (20, _), (21, _)], [(3, _), (4, _), (6, _), (7, _), (11, _), (1008, _)]⟩) (j10 rfl rfl rfl rfl rfl rfl rfl rfl rfl rfl) (j6 rfl rfl rfl rfl rfl rfl) ?_
     refine Q4 ?_
     exact PT.meet (x9_m2, x19_m2, x20_m2, x21_m2, y3_m2, y4_m2, y6_m2, y7_m2, (ix x19_m2 x21_m2), y1008_m2) hφ (j10 rfl rfl rfl rfl rfl rfl rfl rfl rfl rfl) (j6 rfl rfl rfl rfl rfl rfl)
   ·rintro ⟨x9_k5, x19_k5, x20_k5, x21_k5, y3_k5, y4_k5, y6_k5, y7_k5, y11_k5, y1008_k5⟩ hφ
    subst hk5
    refine Q0 (σ' := ⟨[(3, _), (4, _), (6, _), (7, _), (8, _), (9, .val (x9_k5)), (11, .ptr 11 (Lens.id (α := Mk.Answer))), (19, .val (x19_k5)), (20, .val (x20_k5)), (21, .val (x21_k5))], [(3, .var (y3_k5) []), (4, .var (y4_k5) []), (6, .var (y6_k5) []), (7, .var (y7_k5) []), (11, .var (y11_k5) []), (1008, .arr 74 (y1008_k5))]⟩) (j10 rfl rfl rfl rfl rfl rfl rfl rfl rfl rfl) (j6 rfl rfl rfl rfl rfl rfl) ?_
    obtain ⟨hb7, hφ⟩ := G_some hφ
    refine Q1 ?_
    refine O5 (ox0 .tmp) (.one rfl) .nil rfl <| O5 (ox4 t74) (.one rfl) (.one rfl) rfl <| O5 (ox_buildSlice_val s27 z74 (.cons .tmp Parts.nil) rfl (by decide)) (.app (.one rfl) .nil) .nil rfl ?_
    refine Ops.putK [8, 35] rfl rfl (ox_append a27 .tmp .tmp hb7.1 hb7.2) (.app (.one rfl) (.one rfl)) (.one rfl) rfl (by kernel_rfl) ?_
    refine O5 (ox1 .tmp) (.one rfl) .nil rfl <| O1 <| Q0 (σ' := ⟨[(3, _), (4, _), (6, _), (7, _), (8, _), (9, _), (19, _), (20, _), (21, _)], [(3, _), (4, _), (6, _), (7, _), (1008, .arr 74 (y1008_k5 ++ ([y11_k5] : List Mk.Answer)))]⟩) (j9 rfl rfl rfl rfl rfl rfl rfl rfl rfl) (j5 rfl rfl rfl rfl rfl) ?_
    obtain ⟨hb8, hφ⟩ := G_some hφ
    refine Q1 ?_
    refine O5 (ox_add .tmp .int hb8) (.app (.one rfl) .nil) .nil rfl <| O5 (ox0 .tmp) (.one rfl) .nil rfl <| O1 <| Q0 (σ' := ⟨[(3, _), (4, _), (6, _), (7, _), (8, _), (9, _), (19, _), (20, _), (21, .val (x21_k5 + (1 : Int)))], [(3, _), (4, _), (6, _), (7, _), (1008, _)]⟩) (j9 rfl rfl rfl rfl rfl rfl rfl rfl rfl) (j5 rfl rfl rfl rfl rfl) ?_
    exact PT.next (m2, x9_k5, x19_k5, x20_k5, (x21_k5 + (1 : Int)), y3_k5, y4_k5, y6_k5, y7_k5, (y1008_k5 ++ ([y11_k5] : List Mk.Answer))) hφ (Nat.lt_succ_self _) (j9 rfl rfl rfl rfl rfl rfl rfl rfl rfl) (j5 rfl rfl rfl rfl rfl)
  ·replace hφ := if_else hφ hc3
   refine Q0 (σ' := ⟨[(3, _), (4, _), (6, _), (7, _), (8, _), (9, _)], [(3, _), (4, _), (6, _), (7, _), (1008, _)]⟩) (j6 rfl rfl rfl rfl rfl rfl) (j5 rfl rfl rfl rfl rfl) ?_
   refine PT.exit ?_
   exact PT.meet (x9_m2, y3_m2, y4_m2, y6_m2, y7_m2, y1008_m2) hφ (j6 rfl rfl rfl rfl rfl rfl) (j5 rfl rfl rfl rfl rfl)
 ·rintro ⟨x9_k1, y3_k1, y4_k1, y6_k1, y7_k1, y1008_k1⟩ hφ
  subst hk1
  refine Q0 (σ' := ⟨[(3, .ptr 3 (Lens.id (α := Mk.Store))), (4, .ptr 4 (Lens.id (α := Mk.Request))), (6, .ptr 6 (Lens.id (α := Mk.Store))), (7, .ptr 7 (Lens.id (α := Mk.Answer))), (8, .sl 1008), (9, .val (x9_k1))], [(3, .var (y3_k1) []), (4, .var (y4_k1) []), (6, .var (y6_k1) []), (7, .var (y7_k1) []), (1008, .arr 74 (y1008_k1))]⟩) (j6 rfl rfl rfl rfl rfl rfl) (j5 rfl rfl rfl rfl rfl) ?_
  obtain ⟨k9, hk9, hφ⟩ := J_some hφ
  refine PT.cut (ι := Mk.Store × Mk.Request × Mk.Store × (List Mk.Answer)) (fun p => ⟨[(3, .ptr 3 (Lens.id (α := Mk.Store))), (4, .ptr 4 (Lens.id (α := Mk.Request))), (6, .ptr 6 (Lens.id (α := Mk.Store))), (8, .sl 1008)], [(3, .var (p.1) []), (4, .var (p.2.1) []), (6, .var (p.2.2.1) []), (1008, .arr 74 (p.2.2.2))]⟩) (fun p => k9 (p.1) (p.2.1) (p.2.2.1) (p.2.2.2) = some r) ?_ ?_
  ·skip
   refine Q2 (Q1 ?_)
   refine O5 (ox0 .tmp) (.one rfl) .nil rfl <| O5 (ox_not .tmp) (.one rfl) .nil rfl <| O1 <| Q0 (σ' := ⟨[(3, _), (4, _), (6, _), (7, _), (8, _), (41, .val (!x9_k1))], [(3, _), (4, _), (6, _), (7, _), (1008, _)]⟩) (j6 rfl rfl rfl rfl rfl rfl) (j5 rfl rfl rfl rfl rfl) ?_
   refine Q3 _ rfl (fun hc10 => ?_) (fun hc10 => ?_)
   ·replace hφ := if_then hφ hc10
    refine Q0 (σ' := ⟨[(3, _), (4, _), (6, _), (7, _), (8, _)], [(3, _), (4, _), (6, _), (7, _), (1008, _)]⟩) (j5 rfl rfl rfl rfl rfl) (j5 rfl rfl rfl rfl rfl) ?_
    obtain ⟨hb11, hφ⟩ := G_some hφ
    refine Q1 ?_
    refine O5 (ox0 .tmp) (.one rfl) .nil rfl <| O5 (ox4 t74) (.one rfl) (.one rfl) rfl <| O5 (ox_buildSlice_val s27 z74 (.cons .tmp Parts.nil) rfl (by decide)) (.app (.one rfl) .nil) .nil rfl ?_
    refine Ops.putK [8, 42] rfl rfl (ox_append a27 .tmp .tmp hb11.1 hb11.2) (.app (.one rfl) (.one rfl)) (.one rfl) rfl (by kernel_rfl) ?_
    refine O5 (ox1 .tmp) (.one rfl) .nil rfl <| O1 <| Q0 (σ' := ⟨[(3, _), (4, _), (6, _), (8, _)], [(3, _), (4, _), (6, _), (1008, .arr 74 (y1008_k1 ++ ([y7_k1] : List Mk.Answer)))]⟩) (j4 rfl rfl rfl rfl) (j4 rfl rfl rfl rfl) ?_
    exact PT.meet (y3_k1, y4_k1, y6_k1, (y1008_k1 ++ ([y7_k1] : List Mk.Answer))) hφ (j4 rfl rfl rfl rfl) (j4 rfl rfl rfl rfl)
   ·replace hφ := if_else hφ hc10
    refine Q0 (σ' := ⟨[(3, _), (4, _), (6, _), (8, _)], [(3, _), (4, _), (6, _), (1008, _)]⟩) (j4 rfl rfl rfl rfl) (j4 rfl rfl rfl rfl) ?_
    refine Q4 ?_
    exact PT.meet (y3_k1, y4_k1, y6_k1, y1008_k1) hφ (j4 rfl rfl rfl rfl) (j4 rfl rfl rfl rfl)
  ·rintro ⟨y3_k9, y4_k9, y6_k9, y1008_k9⟩ hφ
   subst hk9
   refine Q0 (σ' := ⟨[(3, _), (4, _), (6, _), (8, _)], [(3, .var (y3_k9) []), (4, .var (y4_k9) []), (6, .var (y6_k9) []), (1008, .arr 74 (y1008_k9))]⟩) (j4 rfl rfl rfl rfl) (j4 rfl rfl rfl rfl) ?_
   refine Q2 ?_
   refine PT.freeze 1008 [8] rfl (j1 rfl) ?_
   obtain ⟨hb12, hφ⟩ := G_some hφ
   obtain ⟨hb13, hφ⟩ := G_some hφ
   refine Q8 hMixed (
     .cons (S5 (ox3 Store_Cells f30_0)) ⟨.one rfl, .nil⟩ (by kernel_rfl) rfl <|
     .cons (S5 (ox2 t25)) ⟨.one rfl, .one rfl⟩ (by kernel_rfl) rfl <|
     .cons (S5 (ox0 .tmp)) ⟨.one rfl, .nil⟩ (by kernel_rfl) rfl <|
     .cons (S5 (ox_buildSlice_arr (id := 49) s28 z35 Parts.nil rfl (by decide))) ⟨.nil, .nil⟩ (by kernel_rfl) rfl <|
     .cons (S5 (ox3 Store_Past f30_3)) ⟨.one rfl, .nil⟩ (by kernel_rfl) rfl <|
     .cons (S5 (ox2 t28)) ⟨.one rfl, .one rfl⟩ (by kernel_rfl) rfl <|
     .cons (Step.putK [49] rfl rfl (ox_append a28 .tmp .tmp hb12.1 hb12.2)) ⟨(.app (.one rfl) (.one rfl)), .one rfl⟩ (by kernel_rfl) rfl <|
     .cons (S5 (ox4 t35)) ⟨.one rfl, .one rfl⟩ (by kernel_rfl) rfl <|
     .cons (S5 (ox_buildSlice_val s28 z35 (.cons .tmp Parts.nil) rfl (by decide))) ⟨(.app (.one rfl) .nil), .nil⟩ (by kernel_rfl) rfl <|
     .cons (Step.putK [49, 52] rfl rfl (ox_appendV a28 .tmp .tmp hb13.1 hb13.2)) ⟨(.app (.one rfl) (.one rfl)), .one rfl⟩ (by kernel_rfl) rfl <|
     .cons (S5 (oxa z30 u30 rfl (.cons Store_Cells f30_0 .tmp (.cons Store_Answers f30_2 .tmp (.cons Store_Past f30_3 .tmp Bld.nil))))) ⟨(.app (.one rfl) (.app (.one rfl) (.app (.one rfl) .nil))), .nil⟩ (by kernel_rfl) rfl <|
     .cons (S4 rfl rfl (ox5 t30 .tmp)) ⟨(.cons rfl (.one rfl)), .one rfl⟩ (by kernel_rfl) rfl <|
     .nil) _ [[], [0], [], [], [], [4], [3, 4, 5], [], [7], [3, 4, 5, 6, 7, 8], [0, 1, 2, 3, 4, 5, 6, 7, 8, 9], [0, 1, 2, 3, 4, 5, 6, 7, 8, 9, 10]] rfl (by kernel_rfl) (by kernel_rfl) ?_
   refine Q0 (σ' := ⟨[(6, _)], [(6, .var ({ Cells := y3_k9.Cells, Undo := ([] : List Mk.Write), Answers := y1008_k9, Past := ((([] : List Mk.Request) ++ y3_k9.Past) ++ ([y4_k9] : List Mk.Request)) } : Mk.Store) [])]⟩) (j1 rfl) (j1 rfl) ?_
   refine Q5 ?_
   obtain rfl := Option.some.inj hφ
   exact Q6 hw0 rfl (.cell t30 rfl rfl .nil) rfl
theorem c_store_Back {a0 : Mk.Store} {r : Mk.Store} (hφ : store_Back a0 = some r) : Fn Go.Proofs.Try.prog 56 [.val a0] (.val r) := by
 unfold store_Back at hφ
 refine Fn.mk' Go.Proofs.Try.func56 rfl (by decide) rfl rfl rfl (fun w0 hw0 => ?_)
 refine Q2 (Q1 ?_)
 refine O3 rfl rfl (ox_box (id := 1) .tmp) (.one rfl) .nil rfl (by kernel_rfl) <| O3 rfl rfl (ox_alloc (id := 2) z30) .nil .nil rfl (by kernel_rfl) <| O1 <| Q0 (σ' := ⟨[(1, _), (2, _)], [(1, .var (a0) []), (2, .var zSt [])]⟩) (j2 rfl rfl) (j2 rfl rfl) ?_
 refine Q2 ?_
 obtain ⟨v1, hv1, hφ⟩ := B_some hφ
 refine Q1 ?_
 refine O5 (ox4 t30) (.one rfl) (.one rfl) rfl <| O5 (ox_call (c_store_Own hv1) (.cons .tmp .nil)) (.app (.one rfl) .nil) .nil rfl <| O3 rfl rfl (ox_alloc (id := 3) z30) .nil .nil rfl (by kernel_rfl) <| O2 rfl rfl (ox5 t30 .tmp) (.cons rfl (.one rfl)) (.one rfl) <| O1 <| Q0 (σ' := ⟨[(2, _), (3, _)], [(2, _), (3, .var (v1) [])]⟩) (j2 rfl rfl) (j2 rfl rfl) ?_
 refine Q2 ?_
 obtain ⟨v2, hv2, hφ⟩ := B_some hφ
 refine Q1 ?_
 refine O5 (ox3 Store_Cells f30_0) (.one rfl) .nil rfl <| O5 (ox2 t25) (.one rfl) (.one rfl) rfl <| O5 (ox3 Store_Undo f30_1) (.one rfl) .nil rfl <| O5 (ox2 t26) (.one rfl) (.one rfl) rfl <| O5 (ox_call (c_cell_Set hv2) (.cons .tmp (.cons .tmp .nil))) (.app (.one rfl) (.app (.one rfl) .nil)) .nil rfl <| O5 (ox3 Store_Cells f30_0) (.one rfl) .nil rfl ?_
 refine O2 rfl rfl (ox_store_fld t25 .tmp) (.cons rfl (.one rfl)) (.one rfl) <| O1 <| Q0 (σ' := ⟨[(2, _), (3, _)], [(2, _), (3, .var ({ v1 with Cells := v2 }) [])]⟩) (j2 rfl rfl) (j2 rfl rfl) ?_
 refine Q2 (Q1 ?_)
 refine O5 (ox3 Store_Undo f30_1) (.one rfl) .nil rfl <| O2 rfl rfl (ox_store_fld t26 (.nilL (α := Mk.Write))) (.cons rfl .nil) (.one rfl) <| O1 <| Q0 (σ' := ⟨[(2, _), (3, _)], [(2, _), (3, .var ({ ({ v1 with Cells := v2 }) with Undo := ([] : List Mk.Write) }) [])]⟩) (j2 rfl rfl) (j2 rfl rfl) ?_
 refine Q2 (Q1 ?_)
 refine O5 (ox4 t30) (.one rfl) (.one rfl) rfl <| O2 rfl rfl (ox5 t30 .tmp) (.cons rfl (.one rfl)) (.one rfl) <| O1 <| Q0 (σ' := ⟨[(2, _)], [(2, .var ({ ({ v1 with Cells := v2 }) with Undo := ([] : List Mk.Write) }) [])]⟩) (j1 rfl) (j1 rfl) ?_
 refine Q5 ?_
 obtain rfl := Option.some.inj hφ
 exact Q6 hw0 rfl (.cell t30 rfl rfl .nil) rfl
theorem c_mkref1_Back {a0 : Mk.Store} {r : Mk.Store} (hφ : mkref1_Back a0 = some r) : Fn Go.Proofs.Try.prog 26 [.val a0] (.val r) := by
 unfold mkref1_Back at hφ
 refine Fn.mk' Go.Proofs.Try.func26 rfl (by decide) rfl rfl rfl (fun w0 hw0 => ?_)
 refine Q2 (Q1 ?_)
 refine O3 rfl rfl (ox_box (id := 1) .tmp) (.one rfl) .nil rfl (by kernel_rfl) <| O3 rfl rfl (ox_alloc (id := 2) z30) .nil .nil rfl (by kernel_rfl) <| O1 <| Q0 (σ' := ⟨[(1, _), (2, _)], [(1, .var (a0) []), (2, .var zSt [])]⟩) (j2 rfl rfl) (j2 rfl rfl) ?_
 refine Q2 ?_
 obtain ⟨v1, hv1, hφ⟩ := B_some hφ
 refine Q1 ?_
 refine O5 (ox3 Store_Cells f30_0) (.one rfl) .nil rfl <| O5 (ox2 t25) (.one rfl) (.one rfl) rfl <| O5 (ox3 Store_Undo f30_1) (.one rfl) .nil rfl <| O5 (ox2 t26) (.one rfl) (.one rfl) rfl <| O5 (ox_call (c_mkref1_Set2 hv1) (.cons .tmp (.cons .tmp .nil))) (.app (.one rfl) (.app (.one rfl) .nil)) .nil rfl <| O5 (ox3 Store_Cells f30_0) (.one rfl) .nil rfl ?_
 refine O2 rfl rfl (ox_store_fld t25 .tmp) (.cons rfl (.one rfl)) (.one rfl) <| O1 <| Q0 (σ' := ⟨[(1, _), (2, _)], [(1, .var ({ a0 with Cells := v1 }) []), (2, _)]⟩) (j2 rfl rfl) (j2 rfl rfl) ?_
 refine Q2 (Q1 ?_)
 refine O5 (ox3 Store_Undo f30_1) (.one rfl) .nil rfl <| O2 rfl rfl (ox_store_fld t26 (.nilL (α := Mk.Write))) (.cons rfl .nil) (.one rfl) <| O1 <| Q0 (σ' := ⟨[(1, _), (2, _)], [(1, .var ({ ({ a0 with Cells := v1 }) with Undo := ([] : List Mk.Write) }) []), (2, _)]⟩) (j2 rfl rfl) (j2 rfl rfl) ?_
 refine Q2 (Q1 ?_)
 refine O5 (ox4 t30) (.one rfl) (.one rfl) rfl <| O2 rfl rfl (ox5 t30 .tmp) (.cons rfl (.one rfl)) (.one rfl) <| O1 <| Q0 (σ' := ⟨[(2, _)], [(2, .var ({ ({ a0 with Cells := v1 }) with Undo := ([] : List Mk.Write) }) [])]⟩) (j1 rfl) (j1 rfl) ?_
 refine Q5 ?_
 obtain rfl := Option.some.inj hφ
 exact Q6 hw0 rfl (.cell t30 rfl rfl .nil) rfl
end Go.Gx
end
section
namespace Go.Gx
open Sp
theorem c_mkref6_New {a0 : List (List Mk.Call)} {r : (Mk.Machine × Int)} (hφ : mkref6_New a0 = some r) : Fn Go.Proofs.Try.prog 43 [.val a0] (.tup [.val r.1, .val r.2]) := by
 unfold mkref6_New at hφ
 refine Fn.mk' Go.Proofs.Try.func43 rfl (by decide) rfl rfl rfl (fun w0 hw0 => ?_)
 refine Q2 (Q1 ?_)
 refine O3 rfl rfl (ox_alloc (id := 2) z43) .nil .nil rfl (by kernel_rfl) <| O5 (ox1 .int) .nil .nil rfl <| O1 <| Q0 (σ' := ⟨[(0, .val (a0)), (2, _)], [(2, .var (zMa) [])]⟩) (j2 rfl rfl) (j1 rfl) ?_
 refine Q2 ?_
 refine Q2 (Q1 ?_)
 refine O5 (ox0 .tmp) (.one rfl) .nil rfl <| O5 (ox_len s22 .tmp) (.one rfl) .nil rfl <| O5 (ox_gtr .tmp .int) (.app (.one rfl) .nil) .nil rfl <| O1 <| Q0 (σ' := ⟨[(0, _), (2, _), (12, .val (decide ((3 : Int) < (a0.length : Int))))], [(2, _)]⟩) (j3 rfl rfl rfl) (j1 rfl) ?_
 refine Q3 _ rfl (fun hc1 => ?_) (fun hc1 => ?_)
 ·replace hφ := if_then hφ hc1
  refine Q0 (σ' := ⟨[(2, _)], [(2, _)]⟩) (j1 rfl) (j1 rfl) ?_
  refine Q2 (Q1 ?_)
  refine O5 (oxa z43 u43 rfl Bld.nil) .nil .nil rfl <| O2 rfl rfl (ox5 t43 .tmp) (.cons rfl (.one rfl)) (.one rfl) <| O5 (ox1 .int) .nil .nil rfl <| O1 <| Q0 (σ' := ⟨[(2, _), (3, .val (5 : Int))], [(2, _)]⟩) (j2 rfl rfl) (j1 rfl) ?_
  refine Q5 ?_
  obtain rfl := Option.some.inj hφ
  exact Q6 hw0 rfl (.cell t43 rfl rfl (.tmp rfl rfl .nil)) rfl
 ·replace hφ := if_else hφ hc1
  refine Q0 (σ' := ⟨[(0, _), (2, _)], [(2, _)]⟩) (j2 rfl rfl) (j1 rfl) ?_
  refine Q4 ?_
  refine Q2 ?_
  obtain ⟨hb2, hφ⟩ := G_some hφ
  refine Q1 ?_
  refine O5 (ox_makeIntsV s25 (by kernel_rfl) (by kernel_rfl) .int .int hb2) (.app .nil .nil) .nil rfl <| O5 (oxa z30 u30 rfl (.cons Store_Cells f30_0 .tmp Bld.nil)) (.app (.one rfl) .nil) .nil rfl <| O3 rfl rfl (ox_buildHZ (off := 19) (k := 50165) (E := 61) (γ := Mk.Client) z43 u43 rfl (by kernel_rfl) (.cons Machine_Store f43_0 .tmp (.cons Machine_Up f43_2 .bool .nil))) (.app (.one rfl) (.app .nil .nil)) .nil rfl (by kernel_rfl) <| O3 rfl rfl (ox_alloc (id := 4) z43) .nil .nil rfl (by kernel_rfl) <| O2 rfl rfl (ox_store_varH t43 rfl .tmp) (.cons rfl (.one rfl)) (.one rfl) <| O1 <| Q0 (σ' := ⟨[(0, _), (2, _), (4, _)], [(2, _), (4, .var (({ Store := ({ Cells := (List.replicate (Int.toNat (11 : Int)) (0 : Int)), Undo := ([] : List Mk.Write), Answers := ([] : List Mk.Answer), Past := ([] : List Mk.Request) } : Mk.Store), Server := zSv, Up := true, Pause := (0 : Int), Falls := (0 : Int), Clients := ([] : List Mk.Client) } : Mk.Machine)) [(19, 50165)]), (50165, .arr 61 ([] : List Mk.Client))]⟩) (j3 rfl rfl rfl) (j3 rfl rfl rfl) ?_
  obtain ⟨k3, hk3, hφ⟩ := J_some hφ
  refine PT.cut (ι := Mk.Machine × Mk.Machine × (List Mk.Client)) (fun p => ⟨[(2, .ptr 2 (Lens.id (α := Mk.Machine))), (4, .ptr 4 (Lens.id (α := Mk.Machine)))], [(2, .var (p.1) []), (4, .var (p.2.1) [(19, 50165)]), (50165, .arr 61 (p.2.2))]⟩) (fun p => k3 (p.1) (p.2.1) (p.2.2) = some r) ?_ ?_
  ·skip
   refine Q2 (Q1 ?_)
   refine O5 (ox0 .tmp) (.one rfl) .nil rfl <| O5 (ox_len s22 .tmp) (.one rfl) .nil rfl <| O5 (ox0 .int) .nil .nil rfl <| O1 <| Q0 (σ' := ⟨[(2, _), (4, _), (17, .val (a0)), (18, .val (a0.length : Int)), (19, .val (0 : Int))], [(2, _), (4, _), (50165, _)]⟩) (j5 rfl rfl rfl rfl rfl) (j3 rfl rfl rfl) ?_
   refine PT.block ?_
   refine PT.loop (ι := Nat × (List (List Mk.Call)) × Int × Int × Mk.Machine × Mk.Machine × (List Mk.Client)) (fun p => ⟨[(2, .ptr 2 (Lens.id (α := Mk.Machine))), (4, .ptr 4 (Lens.id (α := Mk.Machine))), (17, .val (p.2.1)), (18, .val (p.2.2.1)), (19, .val (p.2.2.2.1))], [(2, .var (p.2.2.2.2.1) []), (4, .var (p.2.2.2.2.2.1) [(19, 50165)]), (50165, .arr 61 (p.2.2.2.2.2.2))]⟩) (fun p => mkref6_New_l1 k3 p.1 (p.2.1) (p.2.2.1) (p.2.2.2.1) (p.2.2.2.2.1) (p.2.2.2.2.2.1) (p.2.2.2.2.2.2) = some r) (fun p => p.1) (((a0.length : Int) - (0 : Int)).toNat + 1, a0, (a0.length : Int), (0 : Int), zMa, ({ Store := ({ Cells := (List.replicate (Int.toNat (11 : Int)) (0 : Int)), Undo := ([] : List Mk.Write), Answers := ([] : List Mk.Answer), Past := ([] : List Mk.Request) } : Mk.Store), Server := zSv, Up := true, Pause := (0 : Int), Falls := (0 : Int), Clients := ([] : List Mk.Client) } : Mk.Machine), ([] : List Mk.Client)) hφ (j5 rfl rfl rfl rfl rfl) (j3 rfl rfl rfl) ?_
   rintro ⟨m4, x17_m4, x18_m4, x19_m4, y2_m4, y4_m4, y50165_m4⟩ (hφ : mkref6_New_l1 k3 m4 x17_m4 x18_m4 x19_m4 y2_m4 y4_m4 y50165_m4 = some r)
   obtain _ | m4 := m4
   ·exact (none_no hφ).elim
   rw [mkref6_New_l1.eq_2] at hφ
   refine Q0 (σ' := ⟨[(2, .ptr 2 (Lens.id (α := Mk.Machine))), (4, .ptr 4 (Lens.id (α := Mk.Machine))), (17, .val (x17_m4)), (18, .val (x18_m4)), (19, .val (x19_m4))], [(2, .var (y2_m4) []), (4, .var (y4_m4) [(19, 50165)]), (50165, .arr 61 (y50165_m4))]⟩) (j5 rfl rfl rfl rfl rfl) (j3 rfl rfl rfl) ?_
   refine Q2 (Q1 ?_)
   refine O5 (ox_lss .tmp .tmp) (.app (.one rfl) (.one rfl)) .nil rfl <| O1 <| Q0 (σ' := ⟨[(2, _), (4, _), (17, _), (18, _), (19, _), (20, .val (decide (x19_m4 < x18_m4)))], [(2, _), (4, _), (50165, _)]⟩) (j6 rfl rfl rfl rfl rfl rfl) (j3 rfl rfl rfl) ?_
   refine Q2 ?_
   refine Q3 _ rfl (fun hc5 => ?_) (fun hc5 => ?_)
   ·replace hφ := if_then hφ hc5
    refine Q0 (σ' := ⟨[(2, _), (4, _), (17, _), (18, _), (19, _)], [(2, _), (4, _), (50165, _)]⟩) (j5 rfl rfl rfl rfl rfl) (j3 rfl rfl rfl) ?_
    refine Q4 ?_
    refine Q2 ?_
    refine PT.block ?_
    refine Q2 ?_
    obtain ⟨hb6, hφ⟩ := G_some hφ
    refine Q1 ?_
    refine O5 (ox_ix s22 .tmp .tmp hb6.1 hb6.2) (.app (.one rfl) (.one rfl)) .nil rfl <| O5 (ox_load_elem t59) (.one rfl) .nil rfl <| O5 (ox1 .tmp) (.one rfl) .nil rfl <| O1 <| Q0 (σ' := ⟨[(2, _), (4, _), (6, .val (ix x17_m4 x19_m4)), (17, _), (18, _), (19, _)], [(2, _), (4, _), (50165, _)]⟩) (j6 rfl rfl rfl rfl rfl rfl) (j3 rfl rfl rfl) ?_
    refine Q2 ?_
    refine Q2 (Q1 ?_)
    refine O5 (ox0 .tmp) (.one rfl) .nil rfl <| O5 (ox_len s59 .tmp) (.one rfl) .nil rfl <| O5 (ox_gtr .tmp .int) (.app (.one rfl) .nil) .nil rfl <| O1 <| Q0 (σ' := ⟨[(2, _), (4, _), (6, _), (17, _), (18, _), (19, _), (25, .val (decide ((8 : Int) < ((ix x17_m4 x19_m4).length : Int))))], [(2, _), (4, _), (50165, _)]⟩) (j7 rfl rfl rfl rfl rfl rfl rfl) (j3 rfl rfl rfl) ?_
    refine Q3 _ rfl (fun hc7 => ?_) (fun hc7 => ?_)
    ·replace hφ := if_then hφ hc7
     refine Q0 (σ' := ⟨[(2, _)], [(2, _)]⟩) (j1 rfl) (j1 rfl) ?_
     refine Q2 (Q1 ?_)
     refine O5 (oxa z43 u43 rfl Bld.nil) .nil .nil rfl <| O2 rfl rfl (ox5 t43 .tmp) (.cons rfl (.one rfl)) (.one rfl) <| O5 (ox1 .int) .nil .nil rfl <| O1 <| Q0 (σ' := ⟨[(2, _), (3, .val (4 : Int))], [(2, .var (zMa) [])]⟩) (j2 rfl rfl) (j1 rfl) ?_
     refine Q5 ?_
     obtain rfl := Option.some.inj hφ
     exact Q6 hw0 rfl (.cell t43 rfl rfl (.tmp rfl rfl .nil)) rfl
    ·replace hφ := if_else hφ hc7
     refine Q0 (σ' := ⟨[(2, _), (4, _), (6, _), (17, _), (18, _), (19, _)], [(2, _), (4, _), (50165, _)]⟩) (j6 rfl rfl rfl rfl rfl rfl) (j3 rfl rfl rfl) ?_
     refine Q4 ?_
     obtain ⟨k8, hk8, hφ⟩ := J_some hφ
     refine PT.cut (ι := (List Mk.Call) × (List (List Mk.Call)) × Int × Int × Mk.Machine × Mk.Machine × (List Mk.Client)) (fun p => ⟨[(2, .ptr 2 (Lens.id (α := Mk.Machine))), (4, .ptr 4 (Lens.id (α := Mk.Machine))), (6, .val (p.1)), (17, .val (p.2.1)), (18, .val (p.2.2.1)), (19, .val (p.2.2.2.1))], [(2, .var (p.2.2.2.2.1) []), (4, .var (p.2.2.2.2.2.1) [(19, 50165)]), (50165, .arr 61 (p.2.2.2.2.2.2))]⟩) (fun p => k8 (p.1) (p.2.1) (p.2.2.1) (p.2.2.2.1) (p.2.2.2.2.1) (p.2.2.2.2.2.1) (p.2.2.2.2.2.2) = some r) ?_ ?_
     ·skip
      refine Q2 (Q1 ?_)
      refine O5 (ox0 .tmp) (.one rfl) .nil rfl <| O5 (ox_len s59 .tmp) (.one rfl) .nil rfl <| O5 (ox0 .int) .nil .nil rfl <| O1 <| Q0 (σ' := ⟨[(2, _), (4, _), (6, _), (17, _), (18, _), (19, _), (27, .val (ix x17_m4 x19_m4)), (28, .val ((ix x17_m4 x19_m4).length : Int)), (29, .val (0 : Int))], [(2, _), (4, _), (50165, _)]⟩) (j9 rfl rfl rfl rfl rfl rfl rfl rfl rfl) (j3 rfl rfl rfl) ?_
      refine PT.block ?_
      refine PT.loop (ι := Nat × (List Mk.Call) × (List (List Mk.Call)) × Int × Int × (List Mk.Call) × Int × Int × Mk.Machine × Mk.Machine × (List Mk.Client)) (fun p => ⟨[(2, .ptr 2 (Lens.id (α := Mk.Machine))), (4, .ptr 4 (Lens.id (α := Mk.Machine))), (6, .val (p.2.1)), (17, .val (p.2.2.1)), (18, .val (p.2.2.2.1)), (19, .val (p.2.2.2.2.1)), (27, .val (p.2.2.2.2.2.1)), (28, .val (p.2.2.2.2.2.2.1)), (29, .val (p.2.2.2.2.2.2.2.1))], [(2, .var (p.2.2.2.2.2.2.2.2.1) []), (4, .var (p.2.2.2.2.2.2.2.2.2.1) [(19, 50165)]), (50165, .arr 61 (p.2.2.2.2.2.2.2.2.2.2))]⟩) (fun p => mkref6_New_l2 k8 p.1 (p.2.1) (p.2.2.1) (p.2.2.2.1) (p.2.2.2.2.1) (p.2.2.2.2.2.1) (p.2.2.2.2.2.2.1) (p.2.2.2.2.2.2.2.1) (p.2.2.2.2.2.2.2.2.1) (p.2.2.2.2.2.2.2.2.2.1) (p.2.2.2.2.2.2.2.2.2.2) = some r) (fun p => p.1) ((((ix x17_m4 x19_m4).length : Int) - (0 : Int)).toNat + 1, (ix x17_m4 x19_m4), x17_m4, x18_m4, x19_m4, (ix x17_m4 x19_m4), ((ix x17_m4 x19_m4).length : Int), (0 : Int), y2_m4, y4_m4, y50165_m4) hφ (j9 rfl rfl rfl rfl rfl rfl rfl rfl rfl) (j3 rfl rfl rfl) ?_
      rintro ⟨m9, x6_m9, x17_m9, x18_m9, x19_m9, x27_m9, x28_m9, x29_m9, y2_m9, y4_m9, y50165_m9⟩ (hφ : mkref6_New_l2 k8 m9 x6_m9 x17_m9 x18_m9 x19_m9 x27_m9 x28_m9 x29_m9 y2_m9 y4_m9 y50165_m9 = some r)
      obtain _ | m9 := m9
      ·exact (none_no hφ).elim
      rw [mkref6_New_l2.eq_2] at hφ
      refine Q0 (σ' := ⟨[(2, _), (4, _), (6, .val (x6_m9)), (17, .val (x17_m9)), (18, .val (x18_m9)), (19, .val (x19_m9)), (27, .val (x27_m9)), (28, .val (x28_m9)), (29, .val (x29_m9))], [(2, .var (y2_m9) []), (4, .var (y4_m9) [(19, 50165)]), (50165, .arr 61 (y50165_m9))]⟩) (j9 rfl rfl rfl rfl rfl rfl rfl rfl rfl) (j3 rfl rfl rfl) ?_
      refine Q2 (Q1 ?_)
      refine O5 (ox_lss .tmp .tmp) (.app (.one rfl) (.one rfl)) .nil rfl <| O1 <| Q0 (σ' := ⟨[(2, _), (4, _), (6, _), (17, _), (18, _), (19, _), (27, _), (28, _), (29, _), (30, .val (decide (x29_m9 < x28_m9)))], [(2, _), (4, _), (50165, _)]⟩) (j10 rfl rfl rfl rfl rfl rfl rfl rfl rfl rfl) (j3 rfl rfl rfl) ?_
      refine Q2 ?_
      refine Q3 _ rfl (fun hc10 => ?_) (fun hc10 => ?_)
      ·replace hφ := if_then hφ hc10
       refine Q0 (σ' := ⟨[(2, _), (4, _), (6, _), (17, _), (18, _), (19, _), (27, _), (28, _), (29, _)], [(2, _), (4, _), (50165, _)]⟩) (j9 rfl rfl rfl rfl rfl rfl rfl rfl rfl) (j3 rfl rfl rfl) ?_
       refine Q4 ?_
       refine Q2 ?_
       refine PT.block ?_
       refine Q2 ?_
       obtain ⟨hb11, hφ⟩ := G_some hφ
       refine Q1 ?_
       refine O5 (ox_ix s59 .tmp .tmp hb11.1 hb11.2) (.app (.one rfl) (.one rfl)) .nil rfl <| O5 (ox_load_elem t33) (.one rfl) .nil rfl <| O3 rfl rfl (ox_alloc (id := 8) z33) .nil .nil rfl (by kernel_rfl) <| O2 rfl rfl (ox5 t33 .tmp) (.cons rfl (.one rfl)) (.one rfl) <| O1 <| Q0 (σ' := ⟨[(2, _), (4, _), (6, _), (8, _), (17, _), (18, _), (19, _), (27, _), (28, _), (29, _)], [(2, _), (4, _), (8, .var (ix x27_m9 x29_m9) []), (50165, _)]⟩) (j10 rfl rfl rfl rfl rfl rfl rfl rfl rfl rfl) (j4 rfl rfl rfl rfl) ?_
       refine Q2 ?_
       obtain ⟨v12, hv12, hφ⟩ := B_some hφ
       refine Q1 ?_
       refine O5 (ox4 t33) (.one rfl) (.one rfl) rfl <| O5 (ox_call (c_mkref1_WrongCall hv12) (.cons .tmp .nil)) (.app (.one rfl) .nil) .nil rfl <| O5 (ox1 .tmp) (.one rfl) .nil rfl <| O1 <| Q0 (σ' := ⟨[(2, _), (4, _), (6, _), (9, .val (v12)), (17, _), (18, _), (19, _), (27, _), (28, _), (29, _)], [(2, _), (4, _), (50165, _)]⟩) (j10 rfl rfl rfl rfl rfl rfl rfl rfl rfl rfl) (j3 rfl rfl rfl) ?_
       refine Q2 (Q1 ?_)
       refine O5 (ox0 .tmp) (.one rfl) .nil rfl <| O5 (ox_neq .tmp .int) (.app (.one rfl) .nil) .nil rfl <| O1 <| Q0 (σ' := ⟨[(2, _), (4, _), (6, _), (9, _), (17, _), (18, _), (19, _), (27, _), (28, _), (29, _), (36, .val (!decide (v12 = (0 : Int))))], [(2, _), (4, _), (50165, _)]⟩) (j11 rfl rfl rfl rfl rfl rfl rfl rfl rfl rfl rfl) (j3 rfl rfl rfl) ?_
       refine Q3 _ rfl (fun hc13 => ?_) (fun hc13 => ?_)
       ·replace hφ := if_then hφ hc13
        refine Q0 (σ' := ⟨[(2, _), (9, _)], [(2, _)]⟩) (j2 rfl rfl) (j1 rfl) ?_
        refine Q2 (Q1 ?_)
        refine O5 (oxa z43 u43 rfl Bld.nil) .nil .nil rfl <| O5 (ox0 .tmp) (.one rfl) .nil rfl <| O2 rfl rfl (ox5 t43 .tmp) (.cons rfl (.one rfl)) (.one rfl) <| O5 (ox1 .tmp) (.one rfl) .nil rfl <| O1 <| Q0 (σ' := ⟨[(2, _), (3, .val (v12))], [(2, .var (zMa) [])]⟩) (j2 rfl rfl) (j1 rfl) ?_
        refine Q5 ?_
        obtain rfl := Option.some.inj hφ
        exact Q6 hw0 rfl (.cell t43 rfl rfl (.tmp rfl rfl .nil)) rfl
       ·replace hφ := if_else hφ hc13
        refine Q0 (σ' := ⟨[(2, _), (4, _), (6, _), (17, _), (18, _), (19, _), (27, _), (28, _), (29, _)], [(2, _), (4, _), (50165, _)]⟩) (j9 rfl rfl rfl rfl rfl rfl rfl rfl rfl) (j3 rfl rfl rfl) ?_
        refine Q4 ?_
        obtain ⟨hb14, hφ⟩ := G_some hφ
        refine Q1 ?_
        refine O5 (ox_add .tmp .int hb14) (.app (.one rfl) .nil) .nil rfl <| O5 (ox0 .tmp) (.one rfl) .nil rfl <| O1 <| Q0 (σ' := ⟨[(2, _), (4, _), (6, _), (17, _), (18, _), (19, _), (27, _), (28, _), (29, .val (x29_m9 + (1 : Int)))], [(2, _), (4, _), (50165, _)]⟩) (j9 rfl rfl rfl rfl rfl rfl rfl rfl rfl) (j3 rfl rfl rfl) ?_
        exact PT.next (m9, x6_m9, x17_m9, x18_m9, x19_m9, x27_m9, x28_m9, (x29_m9 + (1 : Int)), y2_m9, y4_m9, y50165_m9) hφ (Nat.lt_succ_self _) (j9 rfl rfl rfl rfl rfl rfl rfl rfl rfl) (j3 rfl rfl rfl)
      ·replace hφ := if_else hφ hc10
       refine Q0 (σ' := ⟨[(2, _), (4, _), (6, _), (17, _), (18, _), (19, _)], [(2, _), (4, _), (50165, _)]⟩) (j6 rfl rfl rfl rfl rfl rfl) (j3 rfl rfl rfl) ?_
       refine PT.exit ?_
       exact PT.meet (x6_m9, x17_m9, x18_m9, x19_m9, y2_m9, y4_m9, y50165_m9) hφ (j6 rfl rfl rfl rfl rfl rfl) (j3 rfl rfl rfl)
     ·rintro ⟨x6_k8, x17_k8, x18_k8, x19_k8, y2_k8, y4_k8, y50165_k8⟩ hφ
      subst hk8
      refine Q0 (σ' := ⟨[(2, _), (4, _), (6, .val (x6_k8)), (17, .val (x17_k8)), (18, .val (x18_k8)), (19, .val (x19_k8))], [(2, .var (y2_k8) []), (4, .var (y4_k8) [(19, 50165)]), (50165, .arr 61 (y50165_k8))]⟩) (j6 rfl rfl rfl rfl rfl rfl) (j3 rfl rfl rfl) ?_
      obtain ⟨hb15, hφ⟩ := G_some hφ
      refine Q1 ?_
      refine O5 (ox3 Machine_Clients f43_5) (.one rfl) .nil rfl <| O3 rfl rfl (ox_take_hole (k' := 20041) t41 rfl rfl rfl rfl rfl) (.one rfl) (.cons rfl (.one rfl)) rfl (by kernel_rfl) <| O5 (ox0 .tmp) (.one rfl) .nil rfl <| O5 (oxa z61 u61 rfl (.cons Client_Calls f61_0 .tmp Bld.nil)) (.app (.one rfl) .nil) .nil rfl <| O5 (ox_buildSlice_val s41 z61 (.cons .tmp Parts.nil) rfl (by decide)) (.app (.one rfl) .nil) .nil rfl ?_
      refine Ops.putK [41] rfl rfl (ox_append a41 .tmp .tmp hb15.1 hb15.2) (.app (.one rfl) (.one rfl)) (.one rfl) rfl (by kernel_rfl) ?_
      refine O5 (ox3 Machine_Clients f43_5) (.one rfl) .nil rfl <| O2 rfl rfl (ox_store_sl t41 .tmp rfl) (.cons rfl (.one rfl)) (.cons rfl (.one rfl)) <| O1 <| Q0 (σ' := ⟨[(2, _), (4, _), (17, _), (18, _), (19, _)], [(2, _), (4, _), (50165, .arr 61 ((y50165_k8 ++ ([({ Calls := x6_k8, At := (0 : Int), Sent := false, Gen := (0 : Int), Box := ([] : List (List UInt8)), Got := ([] : List Mk.Reply) } : Mk.Client)] : List Mk.Client))))]⟩) (j5 rfl rfl rfl rfl rfl) (j3 rfl rfl rfl) ?_
      obtain ⟨hb16, hφ⟩ := G_some hφ
      refine Q1 ?_
      refine O5 (ox_add .tmp .int hb16) (.app (.one rfl) .nil) .nil rfl <| O5 (ox0 .tmp) (.one rfl) .nil rfl <| O1 <| Q0 (σ' := ⟨[(2, _), (4, _), (17, _), (18, _), (19, .val (x19_k8 + (1 : Int)))], [(2, _), (4, _), (50165, _)]⟩) (j5 rfl rfl rfl rfl rfl) (j3 rfl rfl rfl) ?_
      exact PT.next (m4, x17_k8, x18_k8, (x19_k8 + (1 : Int)), y2_k8, y4_k8, (y50165_k8 ++ ([({ Calls := x6_k8, At := (0 : Int), Sent := false, Gen := (0 : Int), Box := ([] : List (List UInt8)), Got := ([] : List Mk.Reply) } : Mk.Client)] : List Mk.Client))) hφ (Nat.lt_succ_self _) (j5 rfl rfl rfl rfl rfl) (j3 rfl rfl rfl)
   ·replace hφ := if_else hφ hc5
    refine Q0 (σ' := ⟨[(2, _), (4, _)], [(2, _), (4, _), (50165, _)]⟩) (j2 rfl rfl) (j3 rfl rfl rfl) ?_
    refine PT.exit ?_
    exact PT.meet (y2_m4, y4_m4, y50165_m4) hφ (j2 rfl rfl) (j3 rfl rfl rfl)
  ·rintro ⟨y2_k3, y4_k3, y50165_k3⟩ hφ
   subst hk3
   refine Q0 (σ' := ⟨[(2, .ptr 2 (Lens.id (α := Mk.Machine))), (4, .ptr 4 (Lens.id (α := Mk.Machine)))], [(2, .var (y2_k3) []), (4, .var (y4_k3) [(19, 50165)]), (50165, .arr 61 (y50165_k3))]⟩) (j2 rfl rfl) (j3 rfl rfl rfl) ?_
   refine Q2 ?_
   refine PT.freezeHole 4 50165 [] Machine_Clients rfl rfl rfl rfl trivial ?_
   refine Q1 ?_
   refine O5 (ox4 t43) (.one rfl) (.one rfl) rfl <| O2 rfl rfl (ox5 t43 .tmp) (.cons rfl (.one rfl)) (.one rfl) <| O5 (ox1 .int) .nil .nil rfl <| O1 <| Q0 (σ' := ⟨[(2, _), (3, .val (0 : Int))], [(2, .var ({ y4_k3 with Clients := y50165_k3 }) [])]⟩) (j2 rfl rfl) (j1 rfl) ?_
   refine Q5 ?_
   obtain rfl := Option.some.inj hφ
   exact Q6 hw0 rfl (.cell t43 rfl rfl (.tmp rfl rfl .nil)) rfl
theorem c_mkref6_ClientGo {a0 : Mk.Client} {a1 : Int} {a2 : Int} {a3 : Bool} {r : (Mk.Client × (List UInt8) × Int)} (hφ : mkref6_ClientGo a0 a1 a2 a3 = some r) : Fn Go.Proofs.Try.prog 88 [.val a0, .val a1, .val a2, .val a3] (.tup [.val r.1, .val r.2.1, .val r.2.2]) := by
 unfold mkref6_ClientGo at hφ
 refine Fn.mk' Go.Proofs.Try.func88 rfl (by decide) rfl rfl rfl (fun w0 hw0 => ?_)
 refine Q2 (Q1 ?_)
 refine O3 rfl rfl (ox_box (id := 4) .tmp) (.one rfl) .nil rfl (by kernel_rfl) <| O3 rfl rfl (ox_alloc (id := 8) z61) .nil .nil rfl (by kernel_rfl) <| O5 (ox1 .nilS) .nil .nil rfl <| O5 (ox1 .int) .nil .nil rfl <| O1 <| Q0 (σ' := ⟨[(1, .val (a1)), (2, .val (a2)), (3, .val (a3)), (4, _), (8, _)], [(4, .var (a0) []), (8, .var zCl [])]⟩) (j5 rfl rfl rfl rfl rfl) (j2 rfl rfl) ?_
 refine Q2 ?_
 refine Q2 (Q1 ?_)
 refine O5 (ox3 Client_Box f61_4) (.one rfl) .nil rfl <| O5 (ox2 t31) (.one rfl) (.one rfl) rfl <| O5 (ox_len s31 .tmp) (.one rfl) .nil rfl <| O5 (ox_gtr .tmp .int) (.app (.one rfl) .nil) .nil rfl <| O1 <| Q0 (σ' := ⟨[(1, _), (2, _), (3, _), (4, _), (8, _), (16, .val (decide ((0 : Int) < (a0.Box.length : Int))))], [(4, _), (8, _)]⟩) (j6 rfl rfl rfl rfl rfl rfl) (j2 rfl rfl) ?_
 refine Q3 _ rfl (fun hc1 => ?_) (fun hc1 => ?_)
 ·replace hφ := if_then hφ hc1
  refine Q0 (σ' := ⟨[(1, _), (4, _), (8, _)], [(4, _), (8, _)]⟩) (j3 rfl rfl rfl) (j2 rfl rfl) ?_
  refine Q2 ?_
  obtain ⟨hb2, hφ⟩ := G_some hφ
  obtain ⟨v3, hv3, hφ⟩ := B_some hφ
  refine Q1 ?_
  refine O5 (ox3 Client_Box f61_4) (.one rfl) .nil rfl <| O5 (ox2 t31) (.one rfl) (.one rfl) rfl <| O5 (ox_ix s31 .tmp .int hb2.1 hb2.2) (.app (.one rfl) .nil) .nil rfl <| O5 (ox_load_elem t63) (.one rfl) .nil rfl <| O5 (ox_call (c_mkref1_ReadAnswer hv3) (.cons .tmp .nil)) (.app (.one rfl) .nil) .nil rfl <| O5 (ox0 .tmp) (.one rfl) .nil rfl ?_
  refine O5 (ox7 rfl) (.one rfl) .nil rfl <| O5 (ox7 rfl) (.one rfl) .nil rfl <| O3 rfl rfl (ox_alloc (id := 11) z74) .nil .nil rfl (by kernel_rfl) <| O2 rfl rfl (ox5 t74 .tmp) (.cons rfl (.one rfl)) (.one rfl) <| O5 (ox1 .tmp) (.one rfl) .nil rfl <| O1 <| Q0 (σ' := ⟨[(1, _), (4, _), (8, _), (11, _), (12, .val (v3.2))], [(4, _), (8, _), (11, .var (v3.1) [])]⟩) (j5 rfl rfl rfl rfl rfl) (j3 rfl rfl rfl) ?_
  refine Q2 ?_
  obtain ⟨hb4, hφ⟩ := G_some hφ
  refine Q1 ?_
  refine O5 (ox3 Client_Box f61_4) (.one rfl) .nil rfl <| O5 (ox2 t31) (.one rfl) (.one rfl) rfl <| O5 (ox_slice s31 .tmp (.some .int) .none hb4.1 hb4.2.1 hb4.2.2) (.app (.one rfl) (.app .nil .nil)) .nil rfl <| O5 (ox3 Client_Box f61_4) (.one rfl) .nil rfl <| O2 rfl rfl (ox_store_fld t31 .tmp) (.cons rfl (.one rfl)) (.one rfl) <| O1 <| Q0 (σ' := ⟨[(1, _), (4, _), (8, _), (11, _), (12, _)], [(4, .var ({ a0 with Box := (sub a0.Box (1 : Int) (a0.Box.length : Int)) }) []), (8, _), (11, _)]⟩) (j5 rfl rfl rfl rfl rfl) (j3 rfl rfl rfl) ?_
  obtain ⟨k5, hk5, hφ⟩ := J_some hφ
  refine PT.cut (ι := Mk.Client × Mk.Client) (fun p => ⟨[(4, .ptr 4 (Lens.id (α := Mk.Client))), (8, .ptr 8 (Lens.id (α := Mk.Client)))], [(4, .var (p.1) []), (8, .var (p.2) [])]⟩) (fun p => k5 (p.1) (p.2) = some r) ?_ ?_
  ·skip
   refine Q2 (Q1 ?_)
   refine O5 (ox0 .tmp) (.one rfl) .nil rfl <| O5 (ox_eql .tmp .int) (.app (.one rfl) .nil) .nil rfl <| O5 (ox0 .tmp) (.one rfl) .nil rfl <| O4 rfl rfl rfl rfl (.plain .nil) (fun hG => (ox3 Answer_Client f74_0)) (j1 rfl) .nil rfl <| O4 rfl rfl rfl rfl (.cond (fun h => h) .nil) (fun hG => (ox2 t3)) (j1 rfl) (.one rfl) rfl <| O4 rfl rfl rfl rfl (.plain .nil) (fun hG => (ox0 .tmp)) (j1 rfl) .nil rfl ?_
   refine O4 rfl rfl rfl rfl (.cond (fun h => h) (.cond (fun h => h) .nil)) (fun hG => (ox_eql .tmp .tmp)) (j2 rfl rfl) .nil rfl <| O5 ox8 (j2 rfl rfl) .nil rfl <| O5 (ox0 .tmp) (.one rfl) .nil rfl <| O4 rfl rfl rfl rfl (.plain .nil) (fun hG => (ox3 Answer_Token f74_1)) (j1 rfl) .nil rfl <| O4 rfl rfl rfl rfl (.cond (fun h => h) .nil) (fun hG => (ox2 t3)) (j1 rfl) (.one rfl) rfl <| O4 rfl rfl rfl rfl (.plain .nil) (fun hG => (ox3 Client_At f61_1)) (j1 rfl) .nil rfl ?_
   refine O4 rfl rfl rfl rfl (.cond (fun h => h) .nil) (fun hG => (ox2 t3)) (j1 rfl) (.one rfl) rfl <| O4 rfl rfl rfl rfl (.cond (fun h => h) (.cond (fun h => h) .nil)) (fun hG => (ox_eql .tmp .tmp)) (j2 rfl rfl) .nil rfl <| O5 ox8 (j2 rfl rfl) .nil rfl <| O5 (ox0 .tmp) (.one rfl) .nil rfl <| O4 rfl rfl rfl rfl (.plain .nil) (fun hG => (ox3 Client_Sent f61_2)) (j1 rfl) .nil rfl <| O4 rfl rfl rfl rfl (.cond (fun h => h) .nil) (fun hG => (ox2 t4)) (j1 rfl) (.one rfl) rfl ?_
   refine O5 ox8 (j2 rfl rfl) .nil rfl <| O1 <| Q0 (σ' := ⟨[(4, _), (8, _), (11, _), (47, .val (((((decide (v3.2 = (0 : Int))) && (decide (v3.1.Client = a1))) && (decide (v3.1.Token = { a0 with Box := (sub a0.Box (1 : Int) (a0.Box.length : Int)) }.At))) && { a0 with Box := (sub a0.Box (1 : Int) (a0.Box.length : Int)) }.Sent)))], [(4, _), (8, _), (11, _)]⟩) (j4 rfl rfl rfl rfl) (j3 rfl rfl rfl) ?_
   refine Q3 _ rfl (fun hc6 => ?_) (fun hc6 => ?_)
   ·replace hφ := if_then hφ hc6
    refine Q0 (σ' := ⟨[(4, _), (8, _), (11, _)], [(4, _), (8, _), (11, _)]⟩) (j3 rfl rfl rfl) (j3 rfl rfl rfl) ?_
    refine Q2 ?_
    obtain ⟨hb7, hφ⟩ := G_some hφ
    obtain ⟨hb8, hφ⟩ := G_some hφ
    refine Q8 hMixed (
      .cons (S5 (ox_buildSlice_arr (id := 48) s47 z38 Parts.nil rfl (by decide))) ⟨.nil, .nil⟩ (by kernel_rfl) rfl <|
      .cons (S5 (ox3 Client_Got f61_5)) ⟨.one rfl, .nil⟩ (by kernel_rfl) rfl <|
      .cons (S5 (ox2 t47)) ⟨.one rfl, .one rfl⟩ (by kernel_rfl) rfl <|
      .cons (Step.putK [48] rfl rfl (ox_append a47 .tmp .tmp hb7.1 hb7.2)) ⟨(.app (.one rfl) (.one rfl)), .one rfl⟩ (by kernel_rfl) rfl <|
      .cons (S5 (ox3 Answer_Reply f74_2)) ⟨.one rfl, .nil⟩ (by kernel_rfl) rfl <|
      .cons (S5 (ox2 t38)) ⟨.one rfl, .one rfl⟩ (by kernel_rfl) rfl <|
      .cons (S5 (ox_buildSlice_val s47 z38 (.cons .tmp Parts.nil) rfl (by decide))) ⟨(.app (.one rfl) .nil), .nil⟩ (by kernel_rfl) rfl <|
      .cons (Step.putK [48, 51] rfl rfl (ox_appendV a47 .tmp .tmp hb8.1 hb8.2)) ⟨(.app (.one rfl) (.one rfl)), .one rfl⟩ (by kernel_rfl) rfl <|
      .cons (S5 (ox3 Client_Got f61_5)) ⟨.one rfl, .nil⟩ (by kernel_rfl) rfl <|
      .cons (S4 rfl rfl (ox_store_fld t47 .tmp)) ⟨(.cons rfl (.one rfl)), .one rfl⟩ (by kernel_rfl) rfl <|
      .nil) _ [[], [], [1], [0, 1, 2], [], [4], [4, 5], [0, 1, 2, 3, 4, 5, 6], [0, 1, 2, 3, 4, 5, 6, 7], [0, 1, 2, 3, 4, 5, 6, 7, 8]] rfl (by kernel_rfl) (by kernel_rfl) ?_
    refine Q0 (σ' := ⟨[(4, _), (8, _)], [(4, .var ({ ({ a0 with Box := (sub a0.Box (1 : Int) (a0.Box.length : Int)) }) with Got := ((([] : List Mk.Reply) ++ { a0 with Box := (sub a0.Box (1 : Int) (a0.Box.length : Int)) }.Got) ++ ([v3.1.Reply] : List Mk.Reply)) }) []), (8, _)]⟩) (j2 rfl rfl) (j2 rfl rfl) ?_
    obtain ⟨hb9, hφ⟩ := G_some hφ
    refine Q1 ?_
    refine O5 (ox3 Client_At f61_1) (.one rfl) .nil rfl <| O5 (ox2 t3) (.one rfl) (.one rfl) rfl <| O5 (ox_add .tmp .int hb9) (.app (.one rfl) .nil) .nil rfl <| O5 (ox3 Client_At f61_1) (.one rfl) .nil rfl <| O2 rfl rfl (ox_store_fld t3 .tmp) (.cons rfl (.one rfl)) (.one rfl) <| O5 (ox3 Client_Sent f61_2) (.one rfl) .nil rfl ?_
    refine O2 rfl rfl (ox_store_fld t4 .bool) (.cons rfl .nil) (.one rfl) <| O1 <| Q0 (σ' := ⟨[(4, _), (8, _)], [(4, .var ({ ({ ({ ({ a0 with Box := (sub a0.Box (1 : Int) (a0.Box.length : Int)) }) with Got := ((([] : List Mk.Reply) ++ { a0 with Box := (sub a0.Box (1 : Int) (a0.Box.length : Int)) }.Got) ++ ([v3.1.Reply] : List Mk.Reply)) }) with At := ({ ({ a0 with Box := (sub a0.Box (1 : Int) (a0.Box.length : Int)) }) with Got := ((([] : List Mk.Reply) ++ { a0 with Box := (sub a0.Box (1 : Int) (a0.Box.length : Int)) }.Got) ++ ([v3.1.Reply] : List Mk.Reply)) }.At + (1 : Int)) }) with Sent := false }) []), (8, _)]⟩) (j2 rfl rfl) (j2 rfl rfl) ?_
    exact PT.meet ({ ({ ({ ({ a0 with Box := (sub a0.Box (1 : Int) (a0.Box.length : Int)) }) with Got := ((([] : List Mk.Reply) ++ { a0 with Box := (sub a0.Box (1 : Int) (a0.Box.length : Int)) }.Got) ++ ([v3.1.Reply] : List Mk.Reply)) }) with At := ({ ({ a0 with Box := (sub a0.Box (1 : Int) (a0.Box.length : Int)) }) with Got := ((([] : List Mk.Reply) ++ { a0 with Box := (sub a0.Box (1 : Int) (a0.Box.length : Int)) }.Got) ++ ([v3.1.Reply] : List Mk.Reply)) }.At + (1 : Int)) }) with Sent := false }, zCl) hφ (j2 rfl rfl) (j2 rfl rfl)
   ·replace hφ := if_else hφ hc6
    refine Q0 (σ' := ⟨[(4, _), (8, _)], [(4, _), (8, _)]⟩) (j2 rfl rfl) (j2 rfl rfl) ?_
    refine Q4 ?_
    exact PT.meet ({ a0 with Box := (sub a0.Box (1 : Int) (a0.Box.length : Int)) }, zCl) hφ (j2 rfl rfl) (j2 rfl rfl)
  ·rintro ⟨y4_k5, y8_k5⟩ hφ
   subst hk5
   refine Q0 (σ' := ⟨[(4, .ptr 4 (Lens.id (α := Mk.Client))), (8, .ptr 8 (Lens.id (α := Mk.Client)))], [(4, .var (y4_k5) []), (8, .var (y8_k5) [])]⟩) (j2 rfl rfl) (j2 rfl rfl) ?_
   refine Q2 (Q1 ?_)
   refine O5 (ox4 t61) (.one rfl) (.one rfl) rfl <| O2 rfl rfl (ox5 t61 .tmp) (.cons rfl (.one rfl)) (.one rfl) <| O5 (ox1 .nilS) .nil .nil rfl <| O5 (ox1 .int) .nil .nil rfl <| O1 <| Q0 (σ' := ⟨[(8, _), (9, .nilS), (10, .val (0 : Int))], [(8, .var (y4_k5) [])]⟩) (j3 rfl rfl rfl) (j1 rfl) ?_
   refine Q5 ?_
   refine PT.asNil 9 (UInt8) rfl ?_
   obtain rfl := Option.some.inj hφ
   exact Q6 hw0 rfl (.cell t61 rfl rfl (.tmp rfl rfl (.tmp rfl rfl .nil))) rfl
 ·replace hφ := if_else hφ hc1
  refine Q0 (σ' := ⟨[(1, _), (2, _), (3, _), (4, _), (8, _)], [(4, _), (8, _)]⟩) (j5 rfl rfl rfl rfl rfl) (j2 rfl rfl) ?_
  refine Q4 ?_
  refine Q2 ?_
  refine Q2 (Q1 ?_)
  refine O5 (ox3 Client_At f61_1) (.one rfl) .nil rfl <| O5 (ox2 t3) (.one rfl) (.one rfl) rfl <| O5 (ox3 Client_Calls f61_0) (.one rfl) .nil rfl <| O5 (ox2 t59) (.one rfl) (.one rfl) rfl <| O5 (ox_len s59 .tmp) (.one rfl) .nil rfl <| O5 (ox_geq .tmp .tmp) (.app (.one rfl) (.one rfl)) .nil rfl <| O1 <| Q0 (σ' := ⟨[(1, _), (2, _), (3, _), (4, _), (8, _), (68, .val (decide ((a0.Calls.length : Int) ≤ a0.At)))], [(4, _), (8, _)]⟩) (j6 rfl rfl rfl rfl rfl rfl) (j2 rfl rfl) ?_
  refine Q3 _ rfl (fun hc10 => ?_) (fun hc10 => ?_)
  ·replace hφ := if_then hφ hc10
   refine Q0 (σ' := ⟨[(4, _), (8, _)], [(4, _), (8, _)]⟩) (j2 rfl rfl) (j2 rfl rfl) ?_
   refine Q2 (Q1 ?_)
   refine O5 (ox4 t61) (.one rfl) (.one rfl) rfl <| O2 rfl rfl (ox5 t61 .tmp) (.cons rfl (.one rfl)) (.one rfl) <| O5 (ox1 .nilS) .nil .nil rfl <| O5 (ox1 .int) .nil .nil rfl <| O1 <| Q0 (σ' := ⟨[(8, _), (9, .nilS), (10, .val (11 : Int))], [(8, .var (a0) [])]⟩) (j3 rfl rfl rfl) (j1 rfl) ?_
   refine Q5 ?_
   refine PT.asNil 9 (UInt8) rfl ?_
   obtain rfl := Option.some.inj hφ
   exact Q6 hw0 rfl (.cell t61 rfl rfl (.tmp rfl rfl (.tmp rfl rfl .nil))) rfl
  ·replace hφ := if_else hφ hc10
   refine Q0 (σ' := ⟨[(1, _), (2, _), (3, _), (4, _), (8, _)], [(4, _), (8, _)]⟩) (j5 rfl rfl rfl rfl rfl) (j2 rfl rfl) ?_
   refine Q4 ?_
   refine Q2 ?_
   refine Q2 (Q1 ?_)
   refine O5 (ox0 .tmp) (.one rfl) .nil rfl <| O5 (ox_not .tmp) (.one rfl) .nil rfl <| O1 <| Q0 (σ' := ⟨[(1, _), (2, _), (4, _), (8, _), (71, .val (!a3))], [(4, _), (8, _)]⟩) (j5 rfl rfl rfl rfl rfl) (j2 rfl rfl) ?_
   refine Q3 _ rfl (fun hc11 => ?_) (fun hc11 => ?_)
   ·replace hφ := if_then hφ hc11
    refine Q0 (σ' := ⟨[(4, _), (8, _)], [(4, _), (8, _)]⟩) (j2 rfl rfl) (j2 rfl rfl) ?_
    refine Q2 (Q1 ?_)
    refine O5 (ox4 t61) (.one rfl) (.one rfl) rfl <| O2 rfl rfl (ox5 t61 .tmp) (.cons rfl (.one rfl)) (.one rfl) <| O5 (ox1 .nilS) .nil .nil rfl <| O5 (ox1 .int) .nil .nil rfl <| O1 <| Q0 (σ' := ⟨[(8, _), (9, .nilS), (10, .val (10 : Int))], [(8, .var (a0) [])]⟩) (j3 rfl rfl rfl) (j1 rfl) ?_
    refine Q5 ?_
    refine PT.asNil 9 (UInt8) rfl ?_
    obtain rfl := Option.some.inj hφ
    exact Q6 hw0 rfl (.cell t61 rfl rfl (.tmp rfl rfl (.tmp rfl rfl .nil))) rfl
   ·replace hφ := if_else hφ hc11
    refine Q0 (σ' := ⟨[(1, _), (2, _), (4, _), (8, _)], [(4, _), (8, _)]⟩) (j4 rfl rfl rfl rfl) (j2 rfl rfl) ?_
    refine Q4 ?_
    refine Q2 ?_
    refine Q2 (Q1 ?_)
    refine O5 (ox3 Client_Sent f61_2) (.one rfl) .nil rfl <| O5 (ox2 t4) (.one rfl) (.one rfl) rfl <| O5 (ox0 .tmp) (.one rfl) .nil rfl <| O4 rfl rfl rfl rfl (.plain .nil) (fun hG => (ox3 Client_Gen f61_3)) (j1 rfl) .nil rfl <| O4 rfl rfl rfl rfl (.cond (fun h => h) .nil) (fun hG => (ox2 t3)) (j1 rfl) (.one rfl) rfl <| O4 rfl rfl rfl rfl (.plain .nil) (fun hG => (ox0 .tmp)) (j1 rfl) .nil rfl ?_
    refine O4 rfl rfl rfl rfl (.cond (fun h => h) (.cond (fun h => h) .nil)) (fun hG => (ox_eql .tmp .tmp)) (j2 rfl rfl) .nil rfl <| O5 ox8 (j2 rfl rfl) .nil rfl <| O1 <| Q0 (σ' := ⟨[(1, _), (2, _), (4, _), (8, _), (80, .val (a0.Sent && (decide (a0.Gen = a2))))], [(4, _), (8, _)]⟩) (j5 rfl rfl rfl rfl rfl) (j2 rfl rfl) ?_
    refine Q3 _ rfl (fun hc12 => ?_) (fun hc12 => ?_)
    ·replace hφ := if_then hφ hc12
     refine Q0 (σ' := ⟨[(4, _), (8, _)], [(4, _), (8, _)]⟩) (j2 rfl rfl) (j2 rfl rfl) ?_
     refine Q2 (Q1 ?_)
     refine O5 (ox4 t61) (.one rfl) (.one rfl) rfl <| O2 rfl rfl (ox5 t61 .tmp) (.cons rfl (.one rfl)) (.one rfl) <| O5 (ox1 .nilS) .nil .nil rfl <| O5 (ox1 .int) .nil .nil rfl <| O1 <| Q0 (σ' := ⟨[(8, _), (9, .nilS), (10, .val (12 : Int))], [(8, .var (a0) [])]⟩) (j3 rfl rfl rfl) (j1 rfl) ?_
     refine Q5 ?_
     refine PT.asNil 9 (UInt8) rfl ?_
     obtain rfl := Option.some.inj hφ
     exact Q6 hw0 rfl (.cell t61 rfl rfl (.tmp rfl rfl (.tmp rfl rfl .nil))) rfl
    ·replace hφ := if_else hφ hc12
     refine Q0 (σ' := ⟨[(1, _), (2, _), (4, _), (8, _)], [(4, _), (8, _)]⟩) (j4 rfl rfl rfl rfl) (j2 rfl rfl) ?_
     refine Q4 ?_
     refine Q2 (Q1 ?_)
     refine O5 (ox0 .tmp) (.one rfl) .nil rfl <| O5 (ox3 Client_Sent f61_2) (.one rfl) .nil rfl <| O2 rfl rfl (ox_store_fld t4 .bool) (.cons rfl .nil) (.one rfl) <| O5 (ox3 Client_Gen f61_3) (.one rfl) .nil rfl <| O2 rfl rfl (ox_store_fld t3 .tmp) (.cons rfl (.one rfl)) (.one rfl) <| O1 <| Q0 (σ' := ⟨[(1, _), (4, _), (8, _)], [(4, .var ({ ({ a0 with Sent := true }) with Gen := a2 }) []), (8, _)]⟩) (j3 rfl rfl rfl) (j2 rfl rfl) ?_
     refine Q2 ?_
     obtain ⟨hb13, hφ⟩ := G_some hφ
     obtain ⟨v14, hv14, hφ⟩ := B_some hφ
     refine Q8 hMixed (
       .cons (S5 (ox4 t61)) ⟨.one rfl, .one rfl⟩ (by kernel_rfl) rfl <|
       .cons (S5 (ox0 .tmp)) ⟨.one rfl, .nil⟩ (by kernel_rfl) rfl <|
       .cons (S5 (ox3 Client_At f61_1)) ⟨.one rfl, .nil⟩ (by kernel_rfl) rfl <|
       .cons (S5 (ox2 t3)) ⟨.one rfl, .one rfl⟩ (by kernel_rfl) rfl <|
       .cons (S5 (ox3 Client_Calls f61_0)) ⟨.one rfl, .nil⟩ (by kernel_rfl) rfl <|
       .cons (S5 (ox2 t59)) ⟨.one rfl, .one rfl⟩ (by kernel_rfl) rfl <|
       .cons (S5 (ox3 Client_At f61_1)) ⟨.one rfl, .nil⟩ (by kernel_rfl) rfl <|
       .cons (S5 (ox2 t3)) ⟨.one rfl, .one rfl⟩ (by kernel_rfl) rfl <|
       .cons (S5 (ox_ix s59 .tmp .tmp hb13.1 hb13.2)) ⟨(.app (.one rfl) (.one rfl)), .nil⟩ (by kernel_rfl) rfl <|
       .cons (S5 (ox_load_elem t33)) ⟨.one rfl, .nil⟩ (by kernel_rfl) rfl <|
       .cons (S5 (oxa z35 u35 rfl (.cons Request_Client f35_0 .tmp (.cons Request_Token f35_1 .tmp (.cons Request_Call f35_2 .tmp Bld.nil))))) ⟨(.app (.one rfl) (.app (.one rfl) (.app (.one rfl) .nil))), .nil⟩ (by kernel_rfl) rfl <|
       .cons (S5 (ox_call (c_mkref1_RequestBytes hv14) (.cons .tmp .nil))) ⟨(.app (.one rfl) .nil), .nil⟩ (by kernel_rfl) rfl <|
       .cons (S4 rfl rfl (ox5 t61 .tmp)) ⟨(.cons rfl (.one rfl)), .one rfl⟩ (by kernel_rfl) rfl <|
       .cons (S5 (ox1 .tmp)) ⟨.one rfl, .nil⟩ (by kernel_rfl) rfl <|
       .cons (S5 (ox1 .int)) ⟨.nil, .nil⟩ (by kernel_rfl) rfl <|
       .nil) _ [[], [], [], [2], [], [4], [], [6], [4, 5, 6, 7], [4, 5, 6, 7, 8], [1, 2, 3, 4, 5, 6, 7, 8, 9], [1, 2, 3, 4, 5, 6, 7, 8, 9, 10], [0, 1, 2, 3, 4, 5, 6, 7, 8, 9, 10, 11], [0, 1, 2, 3, 4, 5, 6, 7, 8, 9, 10, 11, 12], [0, 1, 2, 3, 4, 5, 6, 7, 8, 9, 10, 11, 12, 13]] rfl (by kernel_rfl) (by kernel_rfl) ?_
     refine Q0 (σ' := ⟨[(8, _), (9, .val (v14)), (10, .val (0 : Int))], [(8, .var ({ ({ a0 with Sent := true }) with Gen := a2 }) [])]⟩) (j3 rfl rfl rfl) (j1 rfl) ?_
     refine Q5 ?_
     obtain rfl := Option.some.inj hφ
     exact Q6 hw0 rfl (.cell t61 rfl rfl (.tmp rfl rfl (.tmp rfl rfl .nil))) rfl
theorem c_mkref6_ServerCome {a0 : Mk.Server} {a1 : List UInt8} {r : (Mk.Server × Int)} (hφ : mkref6_ServerCome a0 a1 = some r) : Fn Go.Proofs.Try.prog 30 [.val a0, .val a1] (.tup [.val r.1, .val r.2]) := by
 unfold mkref6_ServerCome at hφ
 refine Fn.mk' Go.Proofs.Try.func30 rfl (by decide) rfl rfl rfl (fun w0 hw0 => ?_)
 refine Q2 (Q1 ?_)
 refine O3 rfl rfl (ox_box (id := 2) .tmp) (.one rfl) .nil rfl (by kernel_rfl) <| O3 rfl rfl (ox_alloc (id := 4) z40) .nil .nil rfl (by kernel_rfl) <| O5 (ox1 .int) .nil .nil rfl <| O1 <| Q0 (σ' := ⟨[(1, .val (a1)), (2, _), (4, _)], [(2, .var (a0) []), (4, .var zSv [])]⟩) (j3 rfl rfl rfl) (j2 rfl rfl) ?_
 refine Q2 ?_
 refine Q2 (Q1 ?_)
 refine O5 (ox3 Server_Box f40_1) (.one rfl) .nil rfl <| O5 (ox2 t31) (.one rfl) (.one rfl) rfl <| O5 (ox_len s31 .tmp) (.one rfl) .nil rfl <| O5 (ox_geq .tmp .int) (.app (.one rfl) .nil) .nil rfl <| O1 <| Q0 (σ' := ⟨[(1, _), (2, _), (4, _), (9, .val (decide ((3 : Int) ≤ (a0.Box.length : Int))))], [(2, _), (4, _)]⟩) (j4 rfl rfl rfl rfl) (j2 rfl rfl) ?_
 refine Q3 _ rfl (fun hc1 => ?_) (fun hc1 => ?_)
 ·replace hφ := if_then hφ hc1
  refine Q0 (σ' := ⟨[(2, _), (4, _)], [(2, _), (4, _)]⟩) (j2 rfl rfl) (j2 rfl rfl) ?_
  refine Q2 (Q1 ?_)
  refine O5 (ox4 t40) (.one rfl) (.one rfl) rfl <| O2 rfl rfl (ox5 t40 .tmp) (.cons rfl (.one rfl)) (.one rfl) <| O5 (ox1 .int) .nil .nil rfl <| O1 <| Q0 (σ' := ⟨[(4, _), (5, .val (9 : Int))], [(4, .var (a0) [])]⟩) (j2 rfl rfl) (j1 rfl) ?_
  refine Q5 ?_
  obtain rfl := Option.some.inj hφ
  exact Q6 hw0 rfl (.cell t40 rfl rfl (.tmp rfl rfl .nil)) rfl
 ·replace hφ := if_else hφ hc1
  refine Q0 (σ' := ⟨[(1, _), (2, _), (4, _)], [(2, _), (4, _)]⟩) (j3 rfl rfl rfl) (j2 rfl rfl) ?_
  refine Q4 ?_
  refine Q2 ?_
  obtain ⟨hb2, hφ⟩ := G_some hφ
  obtain ⟨hb3, hφ⟩ := G_some hφ
  refine Q1 ?_
  refine O3 rfl rfl (ox_buildSlice_arr (id := 11) s31 z63 Parts.nil rfl (by decide)) .nil .nil rfl (by kernel_rfl) <| O5 (ox3 Server_Box f40_1) (.one rfl) .nil rfl <| O5 (ox2 t31) (.one rfl) (.one rfl) rfl ?_
  refine Ops.putK [11] rfl rfl (ox_append a31 .tmp .tmp hb2.1 hb2.2) (.app (.one rfl) (.one rfl)) (.one rfl) rfl (by kernel_rfl) ?_
  refine O5 (ox0 .tmp) (.one rfl) .nil rfl <| O5 (ox_buildSlice_val s31 z63 (.cons .tmp Parts.nil) rfl (by decide)) (.app (.one rfl) .nil) .nil rfl ?_
  refine Ops.putK [14] rfl rfl (ox_appendV a31 .tmp .tmp hb3.1 hb3.2) (.app (.one rfl) (.one rfl)) (.one rfl) rfl (by kernel_rfl) ?_
  refine O5 (ox3 Server_Box f40_1) (.one rfl) .nil rfl <| O2 rfl rfl (ox_store_fld t31 .tmp) (.cons rfl (.one rfl)) (.one rfl) <| O1 <| Q0 (σ' := ⟨[(2, _), (4, _)], [(2, .var ({ a0 with Box := ((([] : List (List UInt8)) ++ a0.Box) ++ ([a1] : List (List UInt8))) }) []), (4, _)]⟩) (j2 rfl rfl) (j2 rfl rfl) ?_
  refine Q2 (Q1 ?_)
  refine O5 (ox4 t40) (.one rfl) (.one rfl) rfl <| O2 rfl rfl (ox5 t40 .tmp) (.cons rfl (.one rfl)) (.one rfl) <| O5 (ox1 .int) .nil .nil rfl <| O1 <| Q0 (σ' := ⟨[(4, _), (5, .val (0 : Int))], [(4, .var ({ a0 with Box := ((([] : List (List UInt8)) ++ a0.Box) ++ ([a1] : List (List UInt8))) }) [])]⟩) (j2 rfl rfl) (j1 rfl) ?_
  refine Q5 ?_
  obtain rfl := Option.some.inj hφ
  exact Q6 hw0 rfl (.cell t40 rfl rfl (.tmp rfl rfl .nil)) rfl
theorem c_mkref6_with {a0 : Mk.Machine} {a1 : Int} {a2 : Mk.Client} {r : Mk.Machine} (hφ : mkref6_with a0 a1 a2 = some r) : Fn Go.Proofs.Try.prog 89 [.val a0, .val a1, .val a2] (.val r) := by
 unfold mkref6_with at hφ
 refine Fn.mk' Go.Proofs.Try.func89 rfl (by decide) rfl rfl rfl (fun w0 hw0 => ?_)
 refine Q2 (Q1 ?_)
 refine O3 rfl rfl (ox_box (id := 3) .tmp) (.one rfl) .nil rfl (by kernel_rfl) <| O3 rfl rfl (ox_box (id := 5) .tmp) (.one rfl) .nil rfl (by kernel_rfl) <| O3 rfl rfl (ox_alloc (id := 6) z43) .nil .nil rfl (by kernel_rfl) <| O1 <| Q0 (σ' := ⟨[(1, .val (a1)), (3, _), (5, _), (6, _)], [(3, .var (a0) []), (5, .var (a2) []), (6, .var (zMa) [])]⟩) (j4 rfl rfl rfl rfl) (j3 rfl rfl rfl) ?_
 refine Q2 ?_
 obtain ⟨hb1, hφ⟩ := G_some hφ
 refine Q1 ?_
 refine O3 rfl rfl (ox_buildSlice_arr (id := 7) s41 z61 Parts.nil rfl (by decide)) .nil .nil rfl (by kernel_rfl) <| O5 (ox3 Machine_Clients f43_5) (.one rfl) .nil rfl <| O5 (ox2 t41) (.one rfl) (.one rfl) rfl ?_
 refine Ops.putK [7] rfl rfl (ox_append a41 .tmp .tmp hb1.1 hb1.2) (.app (.one rfl) (.one rfl)) (.one rfl) rfl (by kernel_rfl) ?_
 refine O5 (ox3 Machine_Clients f43_5) (.one rfl) .nil rfl <| O2 rfl rfl (ox_store_sl t41 .tmp rfl) (.cons rfl (.one rfl)) (.cons rfl (.one rfl)) <| O1 <| Q0 (σ' := ⟨[(1, _), (3, _), (5, _), (6, _)], [(3, .var (a0) [(19, 7)]), (5, _), (6, _), (7, .arr 61 (([] : List Mk.Client) ++ a0.Clients))]⟩) (j4 rfl rfl rfl rfl) (j4 rfl rfl rfl rfl) ?_
 refine Q2 ?_
 obtain ⟨hb2, hφ⟩ := G_some hφ
 refine Q1 ?_
 refine O5 (ox3 Machine_Clients f43_5) (.one rfl) .nil rfl <| O5 (ox_load_hole t41 rfl) (.one rfl) (.cons rfl (.one rfl)) rfl <| O5 (ox0 .tmp) (.one rfl) .nil rfl <| O5 (ox4 t61) (.one rfl) (.one rfl) rfl <| O5 (ox_index_arr s41 .tmp .tmp hb2.1 hb2.2) (.app (.one rfl) (.one rfl)) (.one rfl) rfl <| O2 rfl rfl (ox_store_ax t61 .tmp hb2) (.cons rfl (.one rfl)) (.one rfl) <| O1 <| Q0 (σ' := ⟨[(3, _), (6, _)], [(3, _), (6, _), (7, .arr 61 (up (([] : List Mk.Client) ++ a0.Clients) a1 a2))]⟩) (j2 rfl rfl) (j3 rfl rfl rfl) ?_
 refine Q2 ?_
 refine PT.freezeHole 3 7 [] Machine_Clients rfl rfl rfl rfl trivial ?_
 refine Q1 ?_
 refine O5 (ox4 t43) (.one rfl) (.one rfl) rfl <| O2 rfl rfl (ox5 t43 .tmp) (.cons rfl (.one rfl)) (.one rfl) <| O1 <| Q0 (σ' := ⟨[(6, _)], [(6, .var ({ a0 with Clients := (up (([] : List Mk.Client) ++ a0.Clients) a1 a2) }) [])]⟩) (j1 rfl) (j1 rfl) ?_
 refine Q5 ?_
 obtain rfl := Option.some.inj hφ
 exact Q6 hw0 rfl (.cell t43 rfl rfl .nil) rfl
theorem c_mkref6_Serve {a0 : Mk.Store} {a1 : Mk.Server} {r : (Mk.Store × Mk.Server × (List UInt8) × Int)} (hφ : mkref6_Serve a0 a1 = some r) : Fn Go.Proofs.Try.prog 34 [.val a0, .val a1] (.tup [.val r.1, .val r.2.1, .val r.2.2.1, .val r.2.2.2]) := by
 unfold mkref6_Serve at hφ
 refine Fn.mk' Go.Proofs.Try.func34 rfl (by decide) rfl rfl rfl (fun w0 hw0 => ?_)
 refine Q2 (Q1 ?_)
 refine O3 rfl rfl (ox_box (id := 2) .tmp) (.one rfl) .nil rfl (by kernel_rfl) <| O3 rfl rfl (ox_box (id := 3) .tmp) (.one rfl) .nil rfl (by kernel_rfl) <| O3 rfl rfl (ox_alloc (id := 4) z30) .nil .nil rfl (by kernel_rfl) <| O3 rfl rfl (ox_alloc (id := 5) z40) .nil .nil rfl (by kernel_rfl) <| O5 (ox1 .nilS) .nil .nil rfl <| O5 (ox1 .int) .nil .nil rfl <| O1 <| Q0 (σ' := ⟨[(2, _), (3, _), (4, _), (5, _)], [(2, .var (a0) []), (3, .var (a1) []), (4, .var zSt []), (5, .var zSv [])]⟩) (j4 rfl rfl rfl rfl) (j4 rfl rfl rfl rfl) ?_
 refine Q2 ?_
 refine Q2 (Q1 ?_)
 refine O5 (ox3 Server_Busy f40_2) (.one rfl) .nil rfl <| O5 (ox2 t4) (.one rfl) (.one rfl) rfl <| O5 (ox0 .tmp) (.one rfl) .nil rfl <| O4 rfl rfl rfl rfl (.plain .nil) (fun hG => (ox3 Server_Plan f40_4)) (j1 rfl) .nil rfl <| O4 rfl rfl rfl rfl (.cond (fun h => h) .nil) (fun hG => (ox2 t26)) (j1 rfl) (.one rfl) rfl <| O4 rfl rfl rfl rfl (.cond (fun h => h) .nil) (fun hG => (ox_len s26 .tmp)) (j1 rfl) .nil rfl ?_
 refine O4 rfl rfl rfl rfl (.cond (fun h => h) .nil) (fun hG => (ox_gtr .tmp .int)) (j1 rfl) .nil rfl <| O5 ox8 (j2 rfl rfl) .nil rfl <| O1 <| Q0 (σ' := ⟨[(2, _), (3, _), (4, _), (5, _), (20, .val (a1.Busy && (decide ((0 : Int) < (a1.Plan.length : Int)))))], [(2, _), (3, _), (4, _), (5, _)]⟩) (j5 rfl rfl rfl rfl rfl) (j4 rfl rfl rfl rfl) ?_
 refine Q3 _ rfl (fun hc1 => ?_) (fun hc1 => ?_)
 ·replace hφ := if_then hφ hc1
  refine Q0 (σ' := ⟨[(2, _), (3, _), (4, _), (5, _)], [(2, _), (3, _), (4, _), (5, _)]⟩) (j4 rfl rfl rfl rfl) (j4 rfl rfl rfl rfl) ?_
  refine Q2 ?_
  obtain ⟨hb2, hφ⟩ := G_some hφ
  obtain ⟨v3, hv3, hφ⟩ := B_some hφ
  refine Q8 hMixed (
    .cons (S5 (ox4 t30)) ⟨.one rfl, .one rfl⟩ (by kernel_rfl) rfl <|
    .cons (S5 (ox3 Server_Plan f40_4)) ⟨.one rfl, .nil⟩ (by kernel_rfl) rfl <|
    .cons (S5 (ox2 t26)) ⟨.one rfl, .one rfl⟩ (by kernel_rfl) rfl <|
    .cons (S5 (ox_ix s26 .tmp .int hb2.1 hb2.2)) ⟨(.app (.one rfl) .nil), .nil⟩ (by kernel_rfl) rfl <|
    .cons (S5 (ox_load_elem t99)) ⟨.one rfl, .nil⟩ (by kernel_rfl) rfl <|
    .cons (S5 (ox_call (c_mkref1_Write hv3) (.cons .tmp (.cons .tmp .nil)))) ⟨(.app (.one rfl) (.app (.one rfl) .nil)), .nil⟩ (by kernel_rfl) rfl <|
    .cons (S4 rfl rfl (ox5 t30 .tmp)) ⟨(.cons rfl (.one rfl)), .one rfl⟩ (by kernel_rfl) rfl <|
    .nil) _ [[], [], [1], [1, 2], [1, 2, 3], [0, 1, 2, 3, 4], [0, 1, 2, 3, 4, 5]] rfl (by kernel_rfl) (by kernel_rfl) ?_
  refine Q0 (σ' := ⟨[(2, _), (3, _), (4, _), (5, _)], [(2, .var (v3) []), (3, _), (4, _), (5, _)]⟩) (j4 rfl rfl rfl rfl) (j4 rfl rfl rfl rfl) ?_
  refine Q2 ?_
  obtain ⟨hb4, hφ⟩ := G_some hφ
  refine Q1 ?_
  refine O5 (ox3 Server_Plan f40_4) (.one rfl) .nil rfl <| O5 (ox2 t26) (.one rfl) (.one rfl) rfl <| O5 (ox_slice s26 .tmp (.some .int) .none hb4.1 hb4.2.1 hb4.2.2) (.app (.one rfl) (.app .nil .nil)) .nil rfl <| O5 (ox3 Server_Plan f40_4) (.one rfl) .nil rfl <| O2 rfl rfl (ox_store_fld t26 .tmp) (.cons rfl (.one rfl)) (.one rfl) <| O1 <| Q0 (σ' := ⟨[(2, _), (3, _), (4, _), (5, _)], [(2, _), (3, .var ({ a1 with Plan := (sub a1.Plan (1 : Int) (a1.Plan.length : Int)) }) []), (4, _), (5, _)]⟩) (j4 rfl rfl rfl rfl) (j4 rfl rfl rfl rfl) ?_
  refine Q2 ?_
  refine Q8 hMixed (
    .cons (S5 (ox4 t30)) ⟨.one rfl, .one rfl⟩ (by kernel_rfl) rfl <|
    .cons (S5 (ox4 t40)) ⟨.one rfl, .one rfl⟩ (by kernel_rfl) rfl <|
    .cons (S4 rfl rfl (ox5 t30 .tmp)) ⟨(.cons rfl (.one rfl)), .one rfl⟩ (by kernel_rfl) rfl <|
    .cons (S4 rfl rfl (ox5 t40 .tmp)) ⟨(.cons rfl (.one rfl)), .one rfl⟩ (by kernel_rfl) rfl <|
    .cons (S5 (ox1 .nilS)) ⟨.nil, .nil⟩ (by kernel_rfl) rfl <|
    .cons (S5 (ox1 .int)) ⟨.nil, .nil⟩ (by kernel_rfl) rfl <|
    .nil) _ [[], [], [0], [0, 1, 2], [0, 1, 2, 3], [0, 1, 2, 3, 4]] rfl (by kernel_rfl) (by kernel_rfl) ?_
  refine Q0 (σ' := ⟨[(4, _), (5, _), (6, .nilS), (7, .val (0 : Int))], [(4, .var (v3) []), (5, .var ({ a1 with Plan := (sub a1.Plan (1 : Int) (a1.Plan.length : Int)) }) [])]⟩) (j4 rfl rfl rfl rfl) (j2 rfl rfl) ?_
  refine Q5 ?_
  refine PT.asNil 6 (UInt8) rfl ?_
  obtain rfl := Option.some.inj hφ
  exact Q6 hw0 rfl (.cell t30 rfl rfl (.cell t40 rfl rfl (.tmp rfl rfl (.tmp rfl rfl .nil)))) rfl
 ·replace hφ := if_else hφ hc1
  refine Q0 (σ' := ⟨[(2, _), (3, _), (4, _), (5, _)], [(2, _), (3, _), (4, _), (5, _)]⟩) (j4 rfl rfl rfl rfl) (j4 rfl rfl rfl rfl) ?_
  refine Q4 ?_
  refine Q2 ?_
  refine Q2 (Q1 ?_)
  refine O5 (ox3 Server_Busy f40_2) (.one rfl) .nil rfl <| O5 (ox2 t4) (.one rfl) (.one rfl) rfl <| O1 <| Q0 (σ' := ⟨[(2, _), (3, _), (4, _), (5, _), (34, .val (a1.Busy))], [(2, _), (3, _), (4, _), (5, _)]⟩) (j5 rfl rfl rfl rfl rfl) (j4 rfl rfl rfl rfl) ?_
  refine Q3 _ rfl (fun hc5 => ?_) (fun hc5 => ?_)
  ·replace hφ := if_then hφ hc5
   refine Q0 (σ' := ⟨[(2, _), (3, _), (4, _), (5, _)], [(2, _), (3, _), (4, _), (5, _)]⟩) (j4 rfl rfl rfl rfl) (j4 rfl rfl rfl rfl) ?_
   refine Q2 ?_
   obtain ⟨v6, hv6, hφ⟩ := B_some hφ
   refine Q1 ?_
   refine O5 (ox3 Server_Now f40_3) (.one rfl) .nil rfl <| O5 (ox_fieldAddr_ptr Request_Client f35_0) (.one rfl) .nil rfl <| O5 (ox2 t3) (.one rfl) (.one rfl) rfl <| O5 (ox3 Server_Now f40_3) (.one rfl) .nil rfl <| O5 (ox_fieldAddr_ptr Request_Token f35_1) (.one rfl) .nil rfl <| O5 (ox2 t3) (.one rfl) (.one rfl) rfl ?_
   refine O5 (ox3 Server_Says f40_5) (.one rfl) .nil rfl <| O5 (ox2 t38) (.one rfl) (.one rfl) rfl <| O5 (oxa z74 u74 rfl (.cons Answer_Client f74_0 .tmp (.cons Answer_Token f74_1 .tmp (.cons Answer_Reply f74_2 .tmp Bld.nil)))) (.app (.one rfl) (.app (.one rfl) (.app (.one rfl) .nil))) .nil rfl <| O5 (ox_call (c_mkref1_AnswerBytes hv6) (.cons .tmp .nil)) (.app (.one rfl) .nil) .nil rfl <| O5 (ox1 .tmp) (.one rfl) .nil rfl <| O1 <| Q0 (σ' := ⟨[(2, _), (3, _), (4, _), (5, _), (8, .val (v6))], [(2, _), (3, _), (4, _), (5, _)]⟩) (j5 rfl rfl rfl rfl rfl) (j4 rfl rfl rfl rfl) ?_
   refine Q2 ?_
   obtain ⟨v7, hv7, hφ⟩ := B_some hφ
   refine Q8 hMixed (
     .cons (S5 (ox4 t30)) ⟨.one rfl, .one rfl⟩ (by kernel_rfl) rfl <|
     .cons (S5 (ox3 Server_Now f40_3)) ⟨.one rfl, .nil⟩ (by kernel_rfl) rfl <|
     .cons (S5 (ox2 t35)) ⟨.one rfl, .one rfl⟩ (by kernel_rfl) rfl <|
     .cons (S5 (ox3 Server_Says f40_5)) ⟨.one rfl, .nil⟩ (by kernel_rfl) rfl <|
     .cons (S5 (ox2 t38)) ⟨.one rfl, .one rfl⟩ (by kernel_rfl) rfl <|
     .cons (S5 (ox_call (c_mkref1_Commit hv7) (.cons .tmp (.cons .tmp (.cons .tmp .nil))))) ⟨(.app (.one rfl) (.app (.one rfl) (.app (.one rfl) .nil))), .nil⟩ (by kernel_rfl) rfl <|
     .cons (S5 (ox3 Server_Gen f40_0)) ⟨.one rfl, .nil⟩ (by kernel_rfl) rfl <|
     .cons (S5 (ox2 t3)) ⟨.one rfl, .one rfl⟩ (by kernel_rfl) rfl <|
     .cons (S5 (ox3 Server_Box f40_1)) ⟨.one rfl, .nil⟩ (by kernel_rfl) rfl <|
     .cons (S5 (ox2 t31)) ⟨.one rfl, .one rfl⟩ (by kernel_rfl) rfl <|
     .cons (S5 (oxa z40 u40 rfl (.cons Server_Gen f40_0 .tmp (.cons Server_Box f40_1 .tmp Bld.nil)))) ⟨(.app (.one rfl) (.app (.one rfl) .nil)), .nil⟩ (by kernel_rfl) rfl <|
     .cons (S5 (ox0 .tmp)) ⟨.one rfl, .nil⟩ (by kernel_rfl) rfl <|
     .cons (S4 rfl rfl (ox5 t30 .tmp)) ⟨(.cons rfl (.one rfl)), .one rfl⟩ (by kernel_rfl) rfl <|
     .cons (S4 rfl rfl (ox5 t40 .tmp)) ⟨(.cons rfl (.one rfl)), .one rfl⟩ (by kernel_rfl) rfl <|
     .cons (S5 (ox1 .tmp)) ⟨.one rfl, .nil⟩ (by kernel_rfl) rfl <|
     .cons (S5 (ox1 .int)) ⟨.nil, .nil⟩ (by kernel_rfl) rfl <|
     .nil) _ [[], [], [1], [], [3], [0, 1, 2, 3, 4], [], [6], [], [8], [6, 7, 8, 9], [], [0, 1, 2, 3, 4, 5], [0, 1, 2, 3, 4, 5, 6, 7, 8, 9, 10, 12], [0, 1, 2, 3, 4, 5, 6, 7, 8, 9, 10, 11, 12, 13], [0, 1, 2, 3, 4, 5, 6, 7, 8, 9, 10, 11, 12, 13, 14]] rfl (by kernel_rfl) (by kernel_rfl) ?_
   refine Q0 (σ' := ⟨[(4, _), (5, _), (6, .val (v6)), (7, .val (0 : Int))], [(4, .var (v7) []), (5, .var ({ Gen := a1.Gen, Box := a1.Box, Busy := false, Now := zRq, Plan := ([] : List Mk.Write), Says := zRe } : Mk.Server) [])]⟩) (j4 rfl rfl rfl rfl) (j2 rfl rfl) ?_
   refine Q5 ?_
   obtain rfl := Option.some.inj hφ
   exact Q6 hw0 rfl (.cell t30 rfl rfl (.cell t40 rfl rfl (.tmp rfl rfl (.tmp rfl rfl .nil)))) rfl
  ·replace hφ := if_else hφ hc5
   refine Q0 (σ' := ⟨[(2, _), (3, _), (4, _), (5, _)], [(2, _), (3, _), (4, _), (5, _)]⟩) (j4 rfl rfl rfl rfl) (j4 rfl rfl rfl rfl) ?_
   refine Q4 ?_
   refine Q2 ?_
   refine Q2 (Q1 ?_)
   refine O5 (ox3 Server_Box f40_1) (.one rfl) .nil rfl <| O5 (ox2 t31) (.one rfl) (.one rfl) rfl <| O5 (ox_len s31 .tmp) (.one rfl) .nil rfl <| O5 (ox_eql .tmp .int) (.app (.one rfl) .nil) .nil rfl <| O1 <| Q0 (σ' := ⟨[(2, _), (3, _), (4, _), (5, _), (60, .val (decide ((a1.Box.length : Int) = (0 : Int))))], [(2, _), (3, _), (4, _), (5, _)]⟩) (j5 rfl rfl rfl rfl rfl) (j4 rfl rfl rfl rfl) ?_
   refine Q3 _ rfl (fun hc8 => ?_) (fun hc8 => ?_)
   ·replace hφ := if_then hφ hc8
    refine Q0 (σ' := ⟨[(2, _), (3, _), (4, _), (5, _)], [(2, _), (3, _), (4, _), (5, _)]⟩) (j4 rfl rfl rfl rfl) (j4 rfl rfl rfl rfl) ?_
    refine Q2 ?_
    refine Q8 hMixed (
      .cons (S5 (ox4 t30)) ⟨.one rfl, .one rfl⟩ (by kernel_rfl) rfl <|
      .cons (S5 (ox4 t40)) ⟨.one rfl, .one rfl⟩ (by kernel_rfl) rfl <|
      .cons (S4 rfl rfl (ox5 t30 .tmp)) ⟨(.cons rfl (.one rfl)), .one rfl⟩ (by kernel_rfl) rfl <|
      .cons (S4 rfl rfl (ox5 t40 .tmp)) ⟨(.cons rfl (.one rfl)), .one rfl⟩ (by kernel_rfl) rfl <|
      .cons (S5 (ox1 .nilS)) ⟨.nil, .nil⟩ (by kernel_rfl) rfl <|
      .cons (S5 (ox1 .int)) ⟨.nil, .nil⟩ (by kernel_rfl) rfl <|
      .nil) _ [[], [], [0], [0, 1, 2], [0, 1, 2, 3], [0, 1, 2, 3, 4]] rfl (by kernel_rfl) (by kernel_rfl) ?_
    refine Q0 (σ' := ⟨[(4, _), (5, _), (6, .nilS), (7, .val (12 : Int))], [(4, .var (a0) []), (5, .var (a1) [])]⟩) (j4 rfl rfl rfl rfl) (j2 rfl rfl) ?_
    refine Q5 ?_
    refine PT.asNil 6 (UInt8) rfl ?_
    obtain rfl := Option.some.inj hφ
    exact Q6 hw0 rfl (.cell t30 rfl rfl (.cell t40 rfl rfl (.tmp rfl rfl (.tmp rfl rfl .nil)))) rfl
   ·replace hφ := if_else hφ hc8
    refine Q0 (σ' := ⟨[(2, _), (3, _), (4, _), (5, _)], [(2, _), (3, _), (4, _), (5, _)]⟩) (j4 rfl rfl rfl rfl) (j4 rfl rfl rfl rfl) ?_
    refine Q4 ?_
    refine Q2 ?_
    obtain ⟨hb9, hφ⟩ := G_some hφ
    obtain ⟨v10, hv10, hφ⟩ := B_some hφ
    refine Q1 ?_
    refine O5 (ox3 Server_Box f40_1) (.one rfl) .nil rfl <| O5 (ox2 t31) (.one rfl) (.one rfl) rfl <| O5 (ox_ix s31 .tmp .int hb9.1 hb9.2) (.app (.one rfl) .nil) .nil rfl <| O5 (ox_load_elem t63) (.one rfl) .nil rfl <| O5 (ox_call (c_mkref1_ReadRequest hv10) (.cons .tmp .nil)) (.app (.one rfl) .nil) .nil rfl <| O5 (ox0 .tmp) (.one rfl) .nil rfl ?_
    refine O5 (ox7 rfl) (.one rfl) .nil rfl <| O5 (ox7 rfl) (.one rfl) .nil rfl <| O3 rfl rfl (ox_alloc (id := 9) z35) .nil .nil rfl (by kernel_rfl) <| O2 rfl rfl (ox5 t35 .tmp) (.cons rfl (.one rfl)) (.one rfl) <| O5 (ox1 .tmp) (.one rfl) .nil rfl <| O1 <| Q0 (σ' := ⟨[(2, _), (3, _), (4, _), (5, _), (9, _), (10, .val (v10.2))], [(2, _), (3, _), (4, _), (5, _), (9, .var (v10.1) [])]⟩) (j6 rfl rfl rfl rfl rfl rfl) (j5 rfl rfl rfl rfl rfl) ?_
    refine Q2 ?_
    obtain ⟨hb11, hφ⟩ := G_some hφ
    refine Q1 ?_
    refine O5 (ox3 Server_Box f40_1) (.one rfl) .nil rfl <| O5 (ox2 t31) (.one rfl) (.one rfl) rfl <| O5 (ox_slice s31 .tmp (.some .int) .none hb11.1 hb11.2.1 hb11.2.2) (.app (.one rfl) (.app .nil .nil)) .nil rfl <| O5 (ox3 Server_Box f40_1) (.one rfl) .nil rfl <| O2 rfl rfl (ox_store_fld t31 .tmp) (.cons rfl (.one rfl)) (.one rfl) <| O1 <| Q0 (σ' := ⟨[(2, _), (3, _), (4, _), (5, _), (9, _), (10, _)], [(2, _), (3, .var ({ a1 with Box := (sub a1.Box (1 : Int) (a1.Box.length : Int)) }) []), (4, _), (5, _), (9, _)]⟩) (j6 rfl rfl rfl rfl rfl rfl) (j5 rfl rfl rfl rfl rfl) ?_
    refine Q2 ?_
    refine Q2 (Q1 ?_)
    refine O5 (ox0 .tmp) (.one rfl) .nil rfl <| O5 (ox_neq .tmp .int) (.app (.one rfl) .nil) .nil rfl <| O1 <| Q0 (σ' := ⟨[(2, _), (3, _), (4, _), (5, _), (9, _), (76, .val (!decide (v10.2 = (0 : Int))))], [(2, _), (3, _), (4, _), (5, _), (9, _)]⟩) (j6 rfl rfl rfl rfl rfl rfl) (j5 rfl rfl rfl rfl rfl) ?_
    refine Q3 _ rfl (fun hc12 => ?_) (fun hc12 => ?_)
    ·replace hφ := if_then hφ hc12
     refine Q0 (σ' := ⟨[(2, _), (3, _), (4, _), (5, _)], [(2, _), (3, _), (4, _), (5, _)]⟩) (j4 rfl rfl rfl rfl) (j4 rfl rfl rfl rfl) ?_
     refine Q2 ?_
     refine Q8 hMixed (
       .cons (S5 (ox4 t30)) ⟨.one rfl, .one rfl⟩ (by kernel_rfl) rfl <|
       .cons (S5 (ox4 t40)) ⟨.one rfl, .one rfl⟩ (by kernel_rfl) rfl <|
       .cons (S4 rfl rfl (ox5 t30 .tmp)) ⟨(.cons rfl (.one rfl)), .one rfl⟩ (by kernel_rfl) rfl <|
       .cons (S4 rfl rfl (ox5 t40 .tmp)) ⟨(.cons rfl (.one rfl)), .one rfl⟩ (by kernel_rfl) rfl <|
       .cons (S5 (ox1 .nilS)) ⟨.nil, .nil⟩ (by kernel_rfl) rfl <|
       .cons (S5 (ox1 .int)) ⟨.nil, .nil⟩ (by kernel_rfl) rfl <|
       .nil) _ [[], [], [0], [0, 1, 2], [0, 1, 2, 3], [0, 1, 2, 3, 4]] rfl (by kernel_rfl) (by kernel_rfl) ?_
     refine Q0 (σ' := ⟨[(4, _), (5, _), (6, .nilS), (7, .val (0 : Int))], [(4, .var (a0) []), (5, .var ({ a1 with Box := (sub a1.Box (1 : Int) (a1.Box.length : Int)) }) [])]⟩) (j4 rfl rfl rfl rfl) (j2 rfl rfl) ?_
     refine Q5 ?_
     refine PT.asNil 6 (UInt8) rfl ?_
     obtain rfl := Option.some.inj hφ
     exact Q6 hw0 rfl (.cell t30 rfl rfl (.cell t40 rfl rfl (.tmp rfl rfl (.tmp rfl rfl .nil)))) rfl
    ·replace hφ := if_else hφ hc12
     refine Q0 (σ' := ⟨[(2, _), (3, _), (4, _), (5, _), (9, _)], [(2, _), (3, _), (4, _), (5, _), (9, _)]⟩) (j5 rfl rfl rfl rfl rfl) (j5 rfl rfl rfl rfl rfl) ?_
     refine Q4 ?_
     refine Q2 (Q2 ?_)
     obtain ⟨v13, hv13, hφ⟩ := B_some hφ
     refine Q1 ?_
     refine O5 (ox4 t30) (.one rfl) (.one rfl) rfl <| O5 (ox3 Request_Client f35_0) (.one rfl) .nil rfl <| O5 (ox2 t3) (.one rfl) (.one rfl) rfl <| O5 (ox_call (c_mkref1_Last hv13) (.cons .tmp (.cons .tmp .nil))) (.app (.one rfl) (.app (.one rfl) .nil)) .nil rfl <| O5 (ox0 .tmp) (.one rfl) .nil rfl <| O5 (ox7 rfl) (.one rfl) .nil rfl ?_
     refine O5 (ox7 rfl) (.one rfl) .nil rfl <| O3 rfl rfl (ox_alloc (id := 11) z74) .nil .nil rfl (by kernel_rfl) <| O2 rfl rfl (ox5 t74 .tmp) (.cons rfl (.one rfl)) (.one rfl) <| O5 (ox1 .tmp) (.one rfl) .nil rfl <| O1 <| Q0 (σ' := ⟨[(2, _), (3, _), (4, _), (5, _), (9, _), (11, _), (12, .val (v13.2))], [(2, _), (3, _), (4, _), (5, _), (9, _), (11, .var (v13.1) [])]⟩) (j7 rfl rfl rfl rfl rfl rfl rfl) (j6 rfl rfl rfl rfl rfl rfl) ?_
     refine Q2 (Q1 ?_)
     refine O5 (ox0 .tmp) (.one rfl) .nil rfl <| O5 (ox0 .tmp) (.one rfl) .nil rfl <| O4 rfl rfl rfl rfl (.plain .nil) (fun hG => (ox3 Answer_Token f74_1)) (j1 rfl) .nil rfl <| O4 rfl rfl rfl rfl (.cond (fun h => h) .nil) (fun hG => (ox2 t3)) (j1 rfl) (.one rfl) rfl <| O4 rfl rfl rfl rfl (.plain .nil) (fun hG => (ox3 Request_Token f35_1)) (j1 rfl) .nil rfl <| O4 rfl rfl rfl rfl (.cond (fun h => h) .nil) (fun hG => (ox2 t3)) (j1 rfl) (.one rfl) rfl ?_
     refine O4 rfl rfl rfl rfl (.cond (fun h => h) (.cond (fun h => h) .nil)) (fun hG => (ox_geq .tmp .tmp)) (j2 rfl rfl) .nil rfl <| O5 ox8 (j2 rfl rfl) .nil rfl <| O1 <| Q0 (σ' := ⟨[(2, _), (3, _), (4, _), (5, _), (9, _), (11, _), (93, .val (v13.2 && (decide (v10.1.Token ≤ v13.1.Token))))], [(2, _), (3, _), (4, _), (5, _), (9, _), (11, _)]⟩) (j7 rfl rfl rfl rfl rfl rfl rfl) (j6 rfl rfl rfl rfl rfl rfl) ?_
     refine Q3 _ rfl (fun hc14 => ?_) (fun hc14 => ?_)
     ·replace hφ := if_then hφ hc14
      refine Q0 (σ' := ⟨[(2, _), (3, _), (4, _), (5, _), (9, _), (11, _)], [(2, _), (3, _), (4, _), (5, _), (9, _), (11, _)]⟩) (j6 rfl rfl rfl rfl rfl rfl) (j6 rfl rfl rfl rfl rfl rfl) ?_
      refine Q2 ?_
      refine Q2 (Q1 ?_)
      refine O5 (ox3 Answer_Token f74_1) (.one rfl) .nil rfl <| O5 (ox2 t3) (.one rfl) (.one rfl) rfl <| O5 (ox3 Request_Token f35_1) (.one rfl) .nil rfl <| O5 (ox2 t3) (.one rfl) (.one rfl) rfl <| O5 (ox_eql .tmp .tmp) (.app (.one rfl) (.one rfl)) .nil rfl <| O1 <| Q0 (σ' := ⟨[(2, _), (3, _), (4, _), (5, _), (11, _), (98, .val (decide (v13.1.Token = v10.1.Token)))], [(2, _), (3, _), (4, _), (5, _), (11, _)]⟩) (j6 rfl rfl rfl rfl rfl rfl) (j5 rfl rfl rfl rfl rfl) ?_
      refine Q3 _ rfl (fun hc15 => ?_) (fun hc15 => ?_)
      ·replace hφ := if_then hφ hc15
       refine Q0 (σ' := ⟨[(2, _), (3, _), (4, _), (5, _), (11, _)], [(2, _), (3, _), (4, _), (5, _), (11, _)]⟩) (j5 rfl rfl rfl rfl rfl) (j5 rfl rfl rfl rfl rfl) ?_
       refine Q2 ?_
       obtain ⟨v16, hv16, hφ⟩ := B_some hφ
       refine Q8 hMixed (
         .cons (S5 (ox4 t30)) ⟨.one rfl, .one rfl⟩ (by kernel_rfl) rfl <|
         .cons (S5 (ox4 t40)) ⟨.one rfl, .one rfl⟩ (by kernel_rfl) rfl <|
         .cons (S5 (ox4 t74)) ⟨.one rfl, .one rfl⟩ (by kernel_rfl) rfl <|
         .cons (S5 (ox_call (c_mkref1_AnswerBytes hv16) (.cons .tmp .nil))) ⟨(.app (.one rfl) .nil), .nil⟩ (by kernel_rfl) rfl <|
         .cons (S4 rfl rfl (ox5 t30 .tmp)) ⟨(.cons rfl (.one rfl)), .one rfl⟩ (by kernel_rfl) rfl <|
         .cons (S4 rfl rfl (ox5 t40 .tmp)) ⟨(.cons rfl (.one rfl)), .one rfl⟩ (by kernel_rfl) rfl <|
         .cons (S5 (ox1 .tmp)) ⟨.one rfl, .nil⟩ (by kernel_rfl) rfl <|
         .cons (S5 (ox1 .int)) ⟨.nil, .nil⟩ (by kernel_rfl) rfl <|
         .nil) _ [[], [], [], [2], [0, 2, 3], [0, 1, 2, 3, 4], [0, 1, 2, 3, 4, 5], [0, 1, 2, 3, 4, 5, 6]] rfl (by kernel_rfl) (by kernel_rfl) ?_
       refine Q0 (σ' := ⟨[(4, _), (5, _), (6, .val (v16)), (7, .val (0 : Int))], [(4, .var (a0) []), (5, .var ({ a1 with Box := (sub a1.Box (1 : Int) (a1.Box.length : Int)) }) [])]⟩) (j4 rfl rfl rfl rfl) (j2 rfl rfl) ?_
       refine Q5 ?_
       obtain rfl := Option.some.inj hφ
       exact Q6 hw0 rfl (.cell t30 rfl rfl (.cell t40 rfl rfl (.tmp rfl rfl (.tmp rfl rfl .nil)))) rfl
      ·replace hφ := if_else hφ hc15
       refine Q0 (σ' := ⟨[(2, _), (3, _), (4, _), (5, _)], [(2, _), (3, _), (4, _), (5, _)]⟩) (j4 rfl rfl rfl rfl) (j4 rfl rfl rfl rfl) ?_
       refine Q4 ?_
       refine Q2 ?_
       refine Q8 hMixed (
         .cons (S5 (ox4 t30)) ⟨.one rfl, .one rfl⟩ (by kernel_rfl) rfl <|
         .cons (S5 (ox4 t40)) ⟨.one rfl, .one rfl⟩ (by kernel_rfl) rfl <|
         .cons (S4 rfl rfl (ox5 t30 .tmp)) ⟨(.cons rfl (.one rfl)), .one rfl⟩ (by kernel_rfl) rfl <|
         .cons (S4 rfl rfl (ox5 t40 .tmp)) ⟨(.cons rfl (.one rfl)), .one rfl⟩ (by kernel_rfl) rfl <|
         .cons (S5 (ox1 .nilS)) ⟨.nil, .nil⟩ (by kernel_rfl) rfl <|
         .cons (S5 (ox1 .int)) ⟨.nil, .nil⟩ (by kernel_rfl) rfl <|
         .nil) _ [[], [], [0], [0, 1, 2], [0, 1, 2, 3], [0, 1, 2, 3, 4]] rfl (by kernel_rfl) (by kernel_rfl) ?_
       refine Q0 (σ' := ⟨[(4, _), (5, _), (6, .nilS), (7, .val (0 : Int))], [(4, .var (a0) []), (5, .var ({ a1 with Box := (sub a1.Box (1 : Int) (a1.Box.length : Int)) }) [])]⟩) (j4 rfl rfl rfl rfl) (j2 rfl rfl) ?_
       refine Q5 ?_
       refine PT.asNil 6 (UInt8) rfl ?_
       obtain rfl := Option.some.inj hφ
       exact Q6 hw0 rfl (.cell t30 rfl rfl (.cell t40 rfl rfl (.tmp rfl rfl (.tmp rfl rfl .nil)))) rfl
     ·replace hφ := if_else hφ hc14
      refine Q0 (σ' := ⟨[(2, _), (3, _), (4, _), (5, _), (9, _)], [(2, _), (3, _), (4, _), (5, _), (9, _)]⟩) (j5 rfl rfl rfl rfl rfl) (j5 rfl rfl rfl rfl rfl) ?_
      refine Q4 ?_
      refine Q2 ?_
      refine Q8 hMixed (
        .cons (S5 (ox4 t35)) ⟨.one rfl, .one rfl⟩ (by kernel_rfl) rfl <|
        .cons (S5 (ox3 Server_Busy f40_2)) ⟨.one rfl, .nil⟩ (by kernel_rfl) rfl <|
        .cons (S4 rfl rfl (ox_store_fld t4 .bool)) ⟨(.cons rfl .nil), .one rfl⟩ (by kernel_rfl) rfl <|
        .cons (S5 (ox3 Server_Now f40_3)) ⟨.one rfl, .nil⟩ (by kernel_rfl) rfl <|
        .cons (S4 rfl rfl (ox_store_fld t35 .tmp)) ⟨(.cons rfl (.one rfl)), .one rfl⟩ (by kernel_rfl) rfl <|
        .nil) _ [[], [], [1], [0, 1, 2], [0, 1, 2, 3]] rfl (by kernel_rfl) (by kernel_rfl) ?_
      refine Q0 (σ' := ⟨[(2, _), (3, _), (4, _), (5, _), (9, _)], [(2, _), (3, .var ({ ({ ({ a1 with Box := (sub a1.Box (1 : Int) (a1.Box.length : Int)) }) with Busy := true }) with Now := v10.1 }) []), (4, _), (5, _), (9, _)]⟩) (j5 rfl rfl rfl rfl rfl) (j5 rfl rfl rfl rfl rfl) ?_
      refine Q2 ?_
      obtain ⟨v17, hv17, hφ⟩ := B_some hφ
      refine Q1 ?_
      refine O5 (ox3 Store_Cells f30_0) (.one rfl) .nil rfl <| O5 (ox2 t25) (.one rfl) (.one rfl) rfl <| O5 (ox3 Request_Call f35_2) (.one rfl) .nil rfl <| O5 (ox2 t33) (.one rfl) (.one rfl) rfl <| O5 (ox_call (c_mkref1_Plan hv17) (.cons .tmp (.cons .tmp .nil))) (.app (.one rfl) (.app (.one rfl) .nil)) .nil rfl <| O5 (ox0 .tmp) (.one rfl) .nil rfl ?_
      refine O5 (ox7 rfl) (.one rfl) .nil rfl <| O5 (ox7 rfl) (.one rfl) .nil rfl <| O5 (ox3 Server_Plan f40_4) (.one rfl) .nil rfl <| O2 rfl rfl (ox_store_fld t26 .tmp) (.cons rfl (.one rfl)) (.one rfl) <| O5 (ox3 Server_Says f40_5) (.one rfl) .nil rfl <| O2 rfl rfl (ox_store_fld t38 .tmp) (.cons rfl (.one rfl)) (.one rfl) <| O1 <| Q0 (σ' := ⟨[(2, _), (3, _), (4, _), (5, _)], [(2, _), (3, .var ({ ({ ({ ({ ({ a1 with Box := (sub a1.Box (1 : Int) (a1.Box.length : Int)) }) with Busy := true }) with Now := v10.1 }) with Plan := v17.1 }) with Says := v17.2 }) []), (4, _), (5, _)]⟩) (j4 rfl rfl rfl rfl) (j4 rfl rfl rfl rfl) ?_
      refine Q2 ?_
      refine Q8 hMixed (
        .cons (S5 (ox4 t30)) ⟨.one rfl, .one rfl⟩ (by kernel_rfl) rfl <|
        .cons (S5 (ox4 t40)) ⟨.one rfl, .one rfl⟩ (by kernel_rfl) rfl <|
        .cons (S4 rfl rfl (ox5 t30 .tmp)) ⟨(.cons rfl (.one rfl)), .one rfl⟩ (by kernel_rfl) rfl <|
        .cons (S4 rfl rfl (ox5 t40 .tmp)) ⟨(.cons rfl (.one rfl)), .one rfl⟩ (by kernel_rfl) rfl <|
        .cons (S5 (ox1 .nilS)) ⟨.nil, .nil⟩ (by kernel_rfl) rfl <|
        .cons (S5 (ox1 .int)) ⟨.nil, .nil⟩ (by kernel_rfl) rfl <|
        .nil) _ [[], [], [0], [0, 1, 2], [0, 1, 2, 3], [0, 1, 2, 3, 4]] rfl (by kernel_rfl) (by kernel_rfl) ?_
      refine Q0 (σ' := ⟨[(4, _), (5, _), (6, .nilS), (7, .val (0 : Int))], [(4, .var (a0) []), (5, .var ({ ({ ({ ({ ({ a1 with Box := (sub a1.Box (1 : Int) (a1.Box.length : Int)) }) with Busy := true }) with Now := v10.1 }) with Plan := v17.1 }) with Says := v17.2 }) [])]⟩) (j4 rfl rfl rfl rfl) (j2 rfl rfl) ?_
      refine Q5 ?_
      refine PT.asNil 6 (UInt8) rfl ?_
      obtain rfl := Option.some.inj hφ
      exact Q6 hw0 rfl (.cell t30 rfl rfl (.cell t40 rfl rfl (.tmp rfl rfl (.tmp rfl rfl .nil)))) rfl
theorem c_mkref6_ClientCome {a0 : Mk.Client} {a1 : List UInt8} {r : Mk.Client} (hφ : mkref6_ClientCome a0 a1 = some r) : Fn Go.Proofs.Try.prog 90 [.val a0, .val a1] (.val r) := by
 unfold mkref6_ClientCome at hφ
 refine Fn.mk' Go.Proofs.Try.func90 rfl (by decide) rfl rfl rfl (fun w0 hw0 => ?_)
 refine Q2 (Q1 ?_)
 refine O3 rfl rfl (ox_box (id := 2) .tmp) (.one rfl) .nil rfl (by kernel_rfl) <| O3 rfl rfl (ox_alloc (id := 4) z61) .nil .nil rfl (by kernel_rfl) <| O1 <| Q0 (σ' := ⟨[(1, .val (a1)), (2, _), (4, _)], [(2, .var (a0) []), (4, .var zCl [])]⟩) (j3 rfl rfl rfl) (j2 rfl rfl) ?_
 obtain ⟨k1, hk1, hφ⟩ := J_some hφ
 refine PT.cut (ι := Mk.Client × Mk.Client) (fun p => ⟨[(2, .ptr 2 (Lens.id (α := Mk.Client))), (4, .ptr 4 (Lens.id (α := Mk.Client)))], [(2, .var (p.1) []), (4, .var (p.2) [])]⟩) (fun p => k1 (p.1) (p.2) = some r) ?_ ?_
 ·skip
  refine Q2 (Q1 ?_)
  refine O5 (ox3 Client_Box f61_4) (.one rfl) .nil rfl <| O5 (ox2 t31) (.one rfl) (.one rfl) rfl <| O5 (ox_len s31 .tmp) (.one rfl) .nil rfl <| O5 (ox_lss .tmp .int) (.app (.one rfl) .nil) .nil rfl <| O1 <| Q0 (σ' := ⟨[(1, _), (2, _), (4, _), (8, .val (decide ((a0.Box.length : Int) < (3 : Int))))], [(2, _), (4, _)]⟩) (j4 rfl rfl rfl rfl) (j2 rfl rfl) ?_
  refine Q3 _ rfl (fun hc2 => ?_) (fun hc2 => ?_)
  ·replace hφ := if_then hφ hc2
   refine Q0 (σ' := ⟨[(1, _), (2, _), (4, _)], [(2, _), (4, _)]⟩) (j3 rfl rfl rfl) (j2 rfl rfl) ?_
   obtain ⟨hb3, hφ⟩ := G_some hφ
   obtain ⟨hb4, hφ⟩ := G_some hφ
   refine Q1 ?_
   refine O3 rfl rfl (ox_buildSlice_arr (id := 9) s31 z63 Parts.nil rfl (by decide)) .nil .nil rfl (by kernel_rfl) <| O5 (ox3 Client_Box f61_4) (.one rfl) .nil rfl <| O5 (ox2 t31) (.one rfl) (.one rfl) rfl ?_
   refine Ops.putK [9] rfl rfl (ox_append a31 .tmp .tmp hb3.1 hb3.2) (.app (.one rfl) (.one rfl)) (.one rfl) rfl (by kernel_rfl) ?_
   refine O5 (ox0 .tmp) (.one rfl) .nil rfl <| O5 (ox_buildSlice_val s31 z63 (.cons .tmp Parts.nil) rfl (by decide)) (.app (.one rfl) .nil) .nil rfl ?_
   refine Ops.putK [12] rfl rfl (ox_appendV a31 .tmp .tmp hb4.1 hb4.2) (.app (.one rfl) (.one rfl)) (.one rfl) rfl (by kernel_rfl) ?_
   refine O5 (ox3 Client_Box f61_4) (.one rfl) .nil rfl <| O2 rfl rfl (ox_store_fld t31 .tmp) (.cons rfl (.one rfl)) (.one rfl) <| O1 <| Q0 (σ' := ⟨[(2, _), (4, _)], [(2, .var ({ a0 with Box := ((([] : List (List UInt8)) ++ a0.Box) ++ ([a1] : List (List UInt8))) }) []), (4, _)]⟩) (j2 rfl rfl) (j2 rfl rfl) ?_
   exact PT.meet ({ a0 with Box := ((([] : List (List UInt8)) ++ a0.Box) ++ ([a1] : List (List UInt8))) }, zCl) hφ (j2 rfl rfl) (j2 rfl rfl)
  ·replace hφ := if_else hφ hc2
   refine Q0 (σ' := ⟨[(2, _), (4, _)], [(2, _), (4, _)]⟩) (j2 rfl rfl) (j2 rfl rfl) ?_
   refine Q4 ?_
   exact PT.meet (a0, zCl) hφ (j2 rfl rfl) (j2 rfl rfl)
 ·rintro ⟨y2_k1, y4_k1⟩ hφ
  subst hk1
  refine Q0 (σ' := ⟨[(2, .ptr 2 (Lens.id (α := Mk.Client))), (4, .ptr 4 (Lens.id (α := Mk.Client)))], [(2, .var (y2_k1) []), (4, .var (y4_k1) [])]⟩) (j2 rfl rfl) (j2 rfl rfl) ?_
  refine Q2 (Q1 ?_)
  refine O5 (ox4 t61) (.one rfl) (.one rfl) rfl <| O2 rfl rfl (ox5 t61 .tmp) (.cons rfl (.one rfl)) (.one rfl) <| O1 <| Q0 (σ' := ⟨[(4, _)], [(4, .var (y2_k1) [])]⟩) (j1 rfl) (j1 rfl) ?_
  refine Q5 ?_
  obtain rfl := Option.some.inj hφ
  exact Q6 hw0 rfl (.cell t61 rfl rfl .nil) rfl
theorem c_mkref6_Fall {a0 : Mk.Machine} {r : (Mk.Machine × Int)} (hφ : mkref6_Fall a0 = some r) : Fn Go.Proofs.Try.prog 91 [.val a0] (.tup [.val r.1, .val r.2]) := by
 unfold mkref6_Fall at hφ
 refine Fn.mk' Go.Proofs.Try.func91 rfl (by decide) rfl rfl rfl (fun w0 hw0 => ?_)
 refine Q2 (Q1 ?_)
 refine O3 rfl rfl (ox_box (id := 1) .tmp) (.one rfl) .nil rfl (by kernel_rfl) <| O3 rfl rfl (ox_alloc (id := 2) z43) .nil .nil rfl (by kernel_rfl) <| O5 (ox1 .int) .nil .nil rfl <| O1 <| Q0 (σ' := ⟨[(1, _), (2, _)], [(1, .var (a0) []), (2, .var (zMa) [])]⟩) (j2 rfl rfl) (j2 rfl rfl) ?_
 refine Q2 ?_
 refine Q2 (Q1 ?_)
 refine O5 (ox3 Machine_Up f43_2) (.one rfl) .nil rfl <| O5 (ox2 t4) (.one rfl) (.one rfl) rfl <| O5 (ox_not .tmp) (.one rfl) .nil rfl <| O1 <| Q0 (σ' := ⟨[(1, _), (2, _), (6, .val (!a0.Up))], [(1, _), (2, _)]⟩) (j3 rfl rfl rfl) (j2 rfl rfl) ?_
 refine Q3 _ rfl (fun hc1 => ?_) (fun hc1 => ?_)
 ·replace hφ := if_then hφ hc1
  refine Q0 (σ' := ⟨[(1, _), (2, _)], [(1, _), (2, _)]⟩) (j2 rfl rfl) (j2 rfl rfl) ?_
  refine Q2 (Q1 ?_)
  refine O5 (ox4 t43) (.one rfl) (.one rfl) rfl <| O2 rfl rfl (ox5 t43 .tmp) (.cons rfl (.one rfl)) (.one rfl) <| O5 (ox1 .int) .nil .nil rfl <| O1 <| Q0 (σ' := ⟨[(2, _), (3, .val (11 : Int))], [(2, .var (a0) [])]⟩) (j2 rfl rfl) (j1 rfl) ?_
  refine Q5 ?_
  obtain rfl := Option.some.inj hφ
  exact Q6 hw0 rfl (.cell t43 rfl rfl (.tmp rfl rfl .nil)) rfl
 ·replace hφ := if_else hφ hc1
  refine Q0 (σ' := ⟨[(1, _), (2, _)], [(1, _), (2, _)]⟩) (j2 rfl rfl) (j2 rfl rfl) ?_
  refine Q4 ?_
  refine Q2 ?_
  refine Q2 (Q1 ?_)
  refine O5 (ox3 Machine_Falls f43_4) (.one rfl) .nil rfl <| O5 (ox2 t3) (.one rfl) (.one rfl) rfl <| O5 (ox_gtr .tmp .int) (.app (.one rfl) .nil) .nil rfl <| O1 <| Q0 (σ' := ⟨[(1, _), (2, _), (10, .val (decide ((5 : Int) < a0.Falls)))], [(1, _), (2, _)]⟩) (j3 rfl rfl rfl) (j2 rfl rfl) ?_
  refine Q3 _ rfl (fun hc2 => ?_) (fun hc2 => ?_)
  ·replace hφ := if_then hφ hc2
   refine Q0 (σ' := ⟨[(1, _), (2, _)], [(1, _), (2, _)]⟩) (j2 rfl rfl) (j2 rfl rfl) ?_
   refine Q2 (Q1 ?_)
   refine O5 (ox4 t43) (.one rfl) (.one rfl) rfl <| O2 rfl rfl (ox5 t43 .tmp) (.cons rfl (.one rfl)) (.one rfl) <| O5 (ox1 .int) .nil .nil rfl <| O1 <| Q0 (σ' := ⟨[(2, _), (3, .val (5 : Int))], [(2, .var (a0) [])]⟩) (j2 rfl rfl) (j1 rfl) ?_
   refine Q5 ?_
   obtain rfl := Option.some.inj hφ
   exact Q6 hw0 rfl (.cell t43 rfl rfl (.tmp rfl rfl .nil)) rfl
  ·replace hφ := if_else hφ hc2
   refine Q0 (σ' := ⟨[(1, _), (2, _)], [(1, _), (2, _)]⟩) (j2 rfl rfl) (j2 rfl rfl) ?_
   refine Q4 ?_
   refine Q2 ?_
   obtain ⟨hb3, hφ⟩ := G_some hφ
   refine Q1 ?_
   refine O5 (ox3 Machine_Falls f43_4) (.one rfl) .nil rfl <| O5 (ox2 t3) (.one rfl) (.one rfl) rfl <| O5 (ox_add .tmp .int hb3) (.app (.one rfl) .nil) .nil rfl <| O5 (ox3 Machine_Falls f43_4) (.one rfl) .nil rfl <| O2 rfl rfl (ox_store_fld t3 .tmp) (.cons rfl (.one rfl)) (.one rfl) <| O5 (ox3 Machine_Up f43_2) (.one rfl) .nil rfl ?_
   refine O2 rfl rfl (ox_store_fld t4 .bool) (.cons rfl .nil) (.one rfl) <| O1 <| Q0 (σ' := ⟨[(1, _), (2, _)], [(1, .var ({ ({ a0 with Falls := (a0.Falls + (1 : Int)) }) with Up := false }) []), (2, _)]⟩) (j2 rfl rfl) (j2 rfl rfl) ?_
   refine Q2 ?_
   obtain ⟨hb4, hφ⟩ := G_some hφ
   refine Q1 ?_
   refine O5 (ox_buildSlice_val s25 z3 (.cons .int (.cons .int (.cons .int (.cons .int (.cons .int (.cons .int (.cons .int Parts.nil))))))) rfl (by decide)) ((.app .nil (.app .nil (.app .nil (.app .nil (.app .nil (.app .nil (.app .nil .nil)))))))) .nil rfl <| O5 (ox3 Machine_Falls f43_4) (.one rfl) .nil rfl <| O5 (ox2 t3) (.one rfl) (.one rfl) rfl <| O5 (ox_ix s25 .tmp .tmp hb4.1 hb4.2) (.app (.one rfl) (.one rfl)) .nil rfl <| O5 (ox_load_elem t3) (.one rfl) .nil rfl <| O5 (ox3 Machine_Pause f43_3) (.one rfl) .nil rfl ?_
   refine O2 rfl rfl (ox_store_fld t3 .tmp) (.cons rfl (.one rfl)) (.one rfl) <| O1 <| Q0 (σ' := ⟨[(1, _), (2, _)], [(1, .var ({ ({ ({ a0 with Falls := (a0.Falls + (1 : Int)) }) with Up := false }) with Pause := (ix ([(1 : Int), (1 : Int), (2 : Int), (3 : Int), (3 : Int), (3 : Int), (3 : Int)] : List Int) { ({ a0 with Falls := (a0.Falls + (1 : Int)) }) with Up := false }.Falls) }) []), (2, _)]⟩) (j2 rfl rfl) (j2 rfl rfl) ?_
   refine Q2 (Q1 ?_)
   refine O5 (ox3 Machine_Server f43_1) (.one rfl) .nil rfl <| O5 (ox_fieldAddr_ptr Server_Gen f40_0) (.one rfl) .nil rfl <| O5 (ox2 t3) (.one rfl) (.one rfl) rfl <| O5 (oxa z40 u40 rfl (.cons Server_Gen f40_0 .tmp Bld.nil)) (.app (.one rfl) .nil) .nil rfl <| O5 (ox3 Machine_Server f43_1) (.one rfl) .nil rfl <| O2 rfl rfl (ox_store_fld t40 .tmp) (.cons rfl (.one rfl)) (.one rfl) <| O1 <| Q0 (σ' := ⟨[(1, _), (2, _)], [(1, .var ({ ({ ({ ({ a0 with Falls := (a0.Falls + (1 : Int)) }) with Up := false }) with Pause := (ix ([(1 : Int), (1 : Int), (2 : Int), (3 : Int), (3 : Int), (3 : Int), (3 : Int)] : List Int) { ({ a0 with Falls := (a0.Falls + (1 : Int)) }) with Up := false }.Falls) }) with Server := ({ Gen := { ({ ({ a0 with Falls := (a0.Falls + (1 : Int)) }) with Up := false }) with Pause := (ix ([(1 : Int), (1 : Int), (2 : Int), (3 : Int), (3 : Int), (3 : Int), (3 : Int)] : List Int) { ({ a0 with Falls := (a0.Falls + (1 : Int)) }) with Up := false }.Falls) }.Server.Gen, Box := ([] : List (List UInt8)), Busy := false, Now := zRq, Plan := ([] : List Mk.Write), Says := zRe } : Mk.Server) }) []), (2, _)]⟩) (j2 rfl rfl) (j2 rfl rfl) ?_
   refine Q2 (Q1 ?_)
   refine O5 (ox4 t43) (.one rfl) (.one rfl) rfl <| O2 rfl rfl (ox5 t43 .tmp) (.cons rfl (.one rfl)) (.one rfl) <| O5 (ox1 .int) .nil .nil rfl <| O1 <| Q0 (σ' := ⟨[(2, _), (3, .val (0 : Int))], [(2, .var ({ ({ ({ ({ a0 with Falls := (a0.Falls + (1 : Int)) }) with Up := false }) with Pause := (ix ([(1 : Int), (1 : Int), (2 : Int), (3 : Int), (3 : Int), (3 : Int), (3 : Int)] : List Int) { ({ a0 with Falls := (a0.Falls + (1 : Int)) }) with Up := false }.Falls) }) with Server := ({ Gen := { ({ ({ a0 with Falls := (a0.Falls + (1 : Int)) }) with Up := false }) with Pause := (ix ([(1 : Int), (1 : Int), (2 : Int), (3 : Int), (3 : Int), (3 : Int), (3 : Int)] : List Int) { ({ a0 with Falls := (a0.Falls + (1 : Int)) }) with Up := false }.Falls) }.Server.Gen, Box := ([] : List (List UInt8)), Busy := false, Now := zRq, Plan := ([] : List Mk.Write), Says := zRe } : Mk.Server) }) [])]⟩) (j2 rfl rfl) (j1 rfl) ?_
   refine Q5 ?_
   obtain rfl := Option.some.inj hφ
   exact Q6 hw0 rfl (.cell t43 rfl rfl (.tmp rfl rfl .nil)) rfl
theorem c_mkref6_Tick {a0 : Mk.Machine} {r : Mk.Machine} (hφ : mkref6_Tick a0 = some r) : Fn Go.Proofs.Try.prog 92 [.val a0] (.val r) := by
 unfold mkref6_Tick at hφ
 refine Fn.mk' Go.Proofs.Try.func92 rfl (by decide) rfl rfl rfl (fun w0 hw0 => ?_)
 refine Q2 (Q1 ?_)
 refine O3 rfl rfl (ox_box (id := 1) .tmp) (.one rfl) .nil rfl (by kernel_rfl) <| O3 rfl rfl (ox_alloc (id := 2) z43) .nil .nil rfl (by kernel_rfl) <| O1 <| Q0 (σ' := ⟨[(1, _), (2, _)], [(1, .var (a0) []), (2, .var (zMa) [])]⟩) (j2 rfl rfl) (j2 rfl rfl) ?_
 obtain ⟨k1, hk1, hφ⟩ := J_some hφ
 refine PT.cut (ι := Mk.Machine × Mk.Machine) (fun p => ⟨[(1, .ptr 1 (Lens.id (α := Mk.Machine))), (2, .ptr 2 (Lens.id (α := Mk.Machine)))], [(1, .var (p.1) []), (2, .var (p.2) [])]⟩) (fun p => k1 (p.1) (p.2) = some r) ?_ ?_
 ·skip
  refine PT.block ?_
  refine Q2 (Q1 ?_)
  refine O5 (ox3 Machine_Up f43_2) (.one rfl) .nil rfl <| O5 (ox2 t4) (.one rfl) (.one rfl) rfl <| O5 (ox1 .tmp) (.one rfl) .nil rfl <| O1 <| Q0 (σ' := ⟨[(1, _), (2, _), (15, .val (a0.Up))], [(1, _), (2, _)]⟩) (j3 rfl rfl rfl) (j2 rfl rfl) ?_
  refine Q3 _ rfl (fun hc2 => ?_) (fun hc2 => ?_)
  ·replace hφ := if_then hφ hc2
   refine Q0 (σ' := ⟨[(1, _), (2, _)], [(1, _), (2, _)]⟩) (j2 rfl rfl) (j2 rfl rfl) ?_
   refine Q4 ?_
   exact PT.meet (a0, zMa) hφ (j2 rfl rfl) (j2 rfl rfl)
  ·replace hφ := if_else hφ hc2
   refine Q0 (σ' := ⟨[(1, _), (2, _)], [(1, _), (2, _)]⟩) (j2 rfl rfl) (j2 rfl rfl) ?_
   refine Q2 (Q1 ?_)
   refine O5 (ox3 Machine_Pause f43_3) (.one rfl) .nil rfl <| O5 (ox2 t3) (.one rfl) (.one rfl) rfl <| O5 (ox_gtr .tmp .int) (.app (.one rfl) .nil) .nil rfl <| O5 (ox1 .tmp) (.one rfl) .nil rfl <| O1 <| Q0 (σ' := ⟨[(1, _), (2, _), (18, .val (decide ((1 : Int) < a0.Pause)))], [(1, _), (2, _)]⟩) (j3 rfl rfl rfl) (j2 rfl rfl) ?_
   refine Q3 _ rfl (fun hc3 => ?_) (fun hc3 => ?_)
   ·replace hφ := if_then hφ hc3
    refine Q0 (σ' := ⟨[(1, _), (2, _)], [(1, _), (2, _)]⟩) (j2 rfl rfl) (j2 rfl rfl) ?_
    obtain ⟨hb4, hφ⟩ := G_some hφ
    refine Q1 ?_
    refine O5 (ox3 Machine_Pause f43_3) (.one rfl) .nil rfl <| O5 (ox2 t3) (.one rfl) (.one rfl) rfl <| O5 (ox_sub .tmp .int hb4) (.app (.one rfl) .nil) .nil rfl <| O5 (ox3 Machine_Pause f43_3) (.one rfl) .nil rfl <| O2 rfl rfl (ox_store_fld t3 .tmp) (.cons rfl (.one rfl)) (.one rfl) <| O1 <| Q0 (σ' := ⟨[(1, _), (2, _)], [(1, .var ({ a0 with Pause := (a0.Pause - (1 : Int)) }) []), (2, _)]⟩) (j2 rfl rfl) (j2 rfl rfl) ?_
    exact PT.meet ({ a0 with Pause := (a0.Pause - (1 : Int)) }, zMa) hφ (j2 rfl rfl) (j2 rfl rfl)
   ·replace hφ := if_else hφ hc3
    refine Q0 (σ' := ⟨[(1, _), (2, _)], [(1, _), (2, _)]⟩) (j2 rfl rfl) (j2 rfl rfl) ?_
    refine Q2 (Q1 ?_)
    refine O5 (ox3 Machine_Up f43_2) (.one rfl) .nil rfl <| O2 rfl rfl (ox_store_fld t4 .bool) (.cons rfl .nil) (.one rfl) <| O5 (ox3 Machine_Pause f43_3) (.one rfl) .nil rfl <| O2 rfl rfl (ox_store_fld t3 .int) (.cons rfl .nil) (.one rfl) <| O1 <| Q0 (σ' := ⟨[(1, _), (2, _)], [(1, .var ({ ({ a0 with Up := true }) with Pause := (0 : Int) }) []), (2, _)]⟩) (j2 rfl rfl) (j2 rfl rfl) ?_
    refine Q2 ?_
    obtain ⟨v5, hv5, hφ⟩ := B_some hφ
    refine Q1 ?_
    refine O5 (ox3 Machine_Store f43_0) (.one rfl) .nil rfl <| O5 (ox2 t30) (.one rfl) (.one rfl) rfl <| O5 (ox_call (c_mkref1_Back hv5) (.cons .tmp .nil)) (.app (.one rfl) .nil) .nil rfl <| O5 (ox3 Machine_Store f43_0) (.one rfl) .nil rfl <| O2 rfl rfl (ox_store_fld t30 .tmp) (.cons rfl (.one rfl)) (.one rfl) <| O1 <| Q0 (σ' := ⟨[(1, _), (2, _)], [(1, .var ({ ({ ({ a0 with Up := true }) with Pause := (0 : Int) }) with Store := v5 }) []), (2, _)]⟩) (j2 rfl rfl) (j2 rfl rfl) ?_
    obtain ⟨hb6, hφ⟩ := G_some hφ
    refine Q1 ?_
    refine O5 (ox3 Machine_Server f43_1) (.one rfl) .nil rfl <| O5 (ox_fieldAddr_ptr Server_Gen f40_0) (.one rfl) .nil rfl <| O5 (ox2 t3) (.one rfl) (.one rfl) rfl <| O5 (ox_add .tmp .int hb6) (.app (.one rfl) .nil) .nil rfl <| O5 (oxa z40 u40 rfl (.cons Server_Gen f40_0 .tmp Bld.nil)) (.app (.one rfl) .nil) .nil rfl <| O5 (ox3 Machine_Server f43_1) (.one rfl) .nil rfl ?_
    refine O2 rfl rfl (ox_store_fld t40 .tmp) (.cons rfl (.one rfl)) (.one rfl) <| O1 <| Q0 (σ' := ⟨[(1, _), (2, _)], [(1, .var ({ ({ ({ ({ a0 with Up := true }) with Pause := (0 : Int) }) with Store := v5 }) with Server := ({ Gen := ({ ({ ({ a0 with Up := true }) with Pause := (0 : Int) }) with Store := v5 }.Server.Gen + (1 : Int)), Box := ([] : List (List UInt8)), Busy := false, Now := zRq, Plan := ([] : List Mk.Write), Says := zRe } : Mk.Server) }) []), (2, _)]⟩) (j2 rfl rfl) (j2 rfl rfl) ?_
    exact PT.meet ({ ({ ({ ({ a0 with Up := true }) with Pause := (0 : Int) }) with Store := v5 }) with Server := ({ Gen := ({ ({ ({ a0 with Up := true }) with Pause := (0 : Int) }) with Store := v5 }.Server.Gen + (1 : Int)), Box := ([] : List (List UInt8)), Busy := false, Now := zRq, Plan := ([] : List Mk.Write), Says := zRe } : Mk.Server) }, zMa) hφ (j2 rfl rfl) (j2 rfl rfl)
 ·rintro ⟨y1_k1, y2_k1⟩ hφ
  subst hk1
  refine Q0 (σ' := ⟨[(1, .ptr 1 (Lens.id (α := Mk.Machine))), (2, .ptr 2 (Lens.id (α := Mk.Machine)))], [(1, .var (y1_k1) []), (2, .var (y2_k1) [])]⟩) (j2 rfl rfl) (j2 rfl rfl) ?_
  refine Q2 (Q1 ?_)
  refine O5 (ox4 t43) (.one rfl) (.one rfl) rfl <| O2 rfl rfl (ox5 t43 .tmp) (.cons rfl (.one rfl)) (.one rfl) <| O1 <| Q0 (σ' := ⟨[(2, _)], [(2, .var (y1_k1) [])]⟩) (j1 rfl) (j1 rfl) ?_
  refine Q5 ?_
  obtain rfl := Option.some.inj hφ
  exact Q6 hw0 rfl (.cell t43 rfl rfl .nil) rfl
theorem c_mkref6_Do {a0 : Mk.Machine} {a1 : Mk.Step} {r : (Mk.Machine × Int)} (hφ : mkref6_Do a0 a1 = some r) : Fn Go.Proofs.Try.prog 46 [.val a0, .val a1] (.tup [.val r.1, .val r.2]) := by
 unfold mkref6_Do at hφ
 refine Fn.mk' Go.Proofs.Try.func46 rfl (by decide) rfl rfl rfl (fun w0 hw0 => ?_)
 refine Q2 (Q1 ?_)
 refine O3 rfl rfl (ox_box (id := 2) .tmp) (.one rfl) .nil rfl (by kernel_rfl) <| O3 rfl rfl (ox_box (id := 3) .tmp) (.one rfl) .nil rfl (by kernel_rfl) <| O3 rfl rfl (ox_alloc (id := 4) z43) .nil .nil rfl (by kernel_rfl) <| O5 (ox1 .int) .nil .nil rfl <| O1 <| Q0 (σ' := ⟨[(2, _), (3, _), (4, _)], [(2, .var (a0) []), (3, .var (a1) []), (4, .var (zMa) [])]⟩) (j3 rfl rfl rfl) (j3 rfl rfl rfl) ?_
 refine Q2 ?_
 refine Q2 (Q1 ?_)
 refine O5 (ox3 Step_Kind f83_0) (.one rfl) .nil rfl <| O5 (ox2 t3) (.one rfl) (.one rfl) rfl <| O1 <| Q0 (σ' := ⟨[(2, _), (3, _), (4, _), (17, .val (a1.Kind))], [(2, _), (3, _), (4, _)]⟩) (j4 rfl rfl rfl rfl) (j3 rfl rfl rfl) ?_
 refine PT.block ?_
 refine Q2 (Q1 ?_)
 refine O5 (ox_eql .tmp .int) (.app (.one rfl) .nil) .nil rfl <| O5 (ox1 .tmp) (.one rfl) .nil rfl <| O1 <| Q0 (σ' := ⟨[(2, _), (3, _), (4, _), (17, _), (18, .val (decide (a1.Kind = (1 : Int))))], [(2, _), (3, _), (4, _)]⟩) (j5 rfl rfl rfl rfl rfl) (j3 rfl rfl rfl) ?_
 refine Q3 _ rfl (fun hc1 => ?_) (fun hc1 => ?_)
 ·replace hφ := if_then hφ hc1
  refine Q0 (σ' := ⟨[(2, _), (3, _), (4, _)], [(2, _), (3, _), (4, _)]⟩) (j3 rfl rfl rfl) (j3 rfl rfl rfl) ?_
  refine Q2 ?_
  refine Q2 (Q1 ?_)
  refine O5 (ox3 Step_N f83_1) (.one rfl) .nil rfl <| O5 (ox2 t3) (.one rfl) (.one rfl) rfl <| O5 (ox_lss .tmp .int) (.app (.one rfl) .nil) .nil rfl <| O5 (ox0 .tmp) (.one rfl) .nil rfl <| O4 rfl rfl rfl rfl (.plain .nil) (fun hG => (ox3 Step_N f83_1)) (j1 rfl) .nil rfl <| O4 rfl rfl rfl rfl (.cond (fun h => h) .nil) (fun hG => (ox2 t3)) (j1 rfl) (.one rfl) rfl ?_
  refine O4 rfl rfl rfl rfl (.plain .nil) (fun hG => (ox3 Machine_Clients f43_5)) (j1 rfl) .nil rfl <| O4 rfl rfl rfl rfl (.cond (fun h => h) .nil) (fun hG => (ox2 t41)) (j1 rfl) (.one rfl) rfl <| O4 rfl rfl rfl rfl (.cond (fun h => h) .nil) (fun hG => (ox_len s41 .tmp)) (j1 rfl) .nil rfl <| O4 rfl rfl rfl rfl (.cond (fun h => h) (.cond (fun h => h) .nil)) (fun hG => (ox_geq .tmp .tmp)) (j2 rfl rfl) .nil rfl <| O5 ox9 (j2 rfl rfl) .nil rfl <| O1 <| Q0 (σ' := ⟨[(2, _), (3, _), (4, _), (30, .val ((decide (a1.N < (0 : Int))) || (decide ((a0.Clients.length : Int) ≤ a1.N))))], [(2, _), (3, _), (4, _)]⟩) (j4 rfl rfl rfl rfl) (j3 rfl rfl rfl) ?_
  refine Q3 _ rfl (fun hc2 => ?_) (fun hc2 => ?_)
  ·replace hφ := if_then hφ hc2
   refine Q0 (σ' := ⟨[(2, _), (4, _)], [(2, _), (4, _)]⟩) (j2 rfl rfl) (j2 rfl rfl) ?_
   refine Q2 (Q1 ?_)
   refine O5 (ox4 t43) (.one rfl) (.one rfl) rfl <| O2 rfl rfl (ox5 t43 .tmp) (.cons rfl (.one rfl)) (.one rfl) <| O5 (ox1 .int) .nil .nil rfl <| O1 <| Q0 (σ' := ⟨[(4, _), (5, .val (6 : Int))], [(4, .var (a0) [])]⟩) (j2 rfl rfl) (j1 rfl) ?_
   refine Q5 ?_
   obtain rfl := Option.some.inj hφ
   exact Q6 hw0 rfl (.cell t43 rfl rfl (.tmp rfl rfl .nil)) rfl
  ·replace hφ := if_else hφ hc2
   refine Q0 (σ' := ⟨[(2, _), (3, _), (4, _)], [(2, _), (3, _), (4, _)]⟩) (j3 rfl rfl rfl) (j3 rfl rfl rfl) ?_
   refine Q4 ?_
   refine Q2 ?_
   obtain ⟨hb3, hφ⟩ := G_some hφ
   obtain ⟨v4, hv4, hφ⟩ := B_some hφ
   refine Q8 hMixed (
     .cons (S5 (ox3 Machine_Clients f43_5)) ⟨.one rfl, .nil⟩ (by kernel_rfl) rfl <|
     .cons (S5 (ox2 t41)) ⟨.one rfl, .one rfl⟩ (by kernel_rfl) rfl <|
     .cons (S5 (ox3 Step_N f83_1)) ⟨.one rfl, .nil⟩ (by kernel_rfl) rfl <|
     .cons (S5 (ox2 t3)) ⟨.one rfl, .one rfl⟩ (by kernel_rfl) rfl <|
     .cons (S5 (ox_ix s41 .tmp .tmp hb3.1 hb3.2)) ⟨(.app (.one rfl) (.one rfl)), .nil⟩ (by kernel_rfl) rfl <|
     .cons (S5 (ox_load_elem t61)) ⟨.one rfl, .nil⟩ (by kernel_rfl) rfl <|
     .cons (S5 (ox3 Step_N f83_1)) ⟨.one rfl, .nil⟩ (by kernel_rfl) rfl <|
     .cons (S5 (ox2 t3)) ⟨.one rfl, .one rfl⟩ (by kernel_rfl) rfl <|
     .cons (S5 (ox3 Machine_Server f43_1)) ⟨.one rfl, .nil⟩ (by kernel_rfl) rfl <|
     .cons (S5 (ox_fieldAddr_ptr Server_Gen f40_0)) ⟨.one rfl, .nil⟩ (by kernel_rfl) rfl <|
     .cons (S5 (ox2 t3)) ⟨.one rfl, .one rfl⟩ (by kernel_rfl) rfl <|
     .cons (S5 (ox3 Machine_Up f43_2)) ⟨.one rfl, .nil⟩ (by kernel_rfl) rfl <|
     .cons (S5 (ox2 t4)) ⟨.one rfl, .one rfl⟩ (by kernel_rfl) rfl <|
     .cons (S5 (ox_call (c_mkref6_ClientGo hv4) (.cons .tmp (.cons .tmp (.cons .tmp (.cons .tmp .nil)))))) ⟨(.app (.one rfl) (.app (.one rfl) (.app (.one rfl) (.app (.one rfl) .nil)))), .nil⟩ (by kernel_rfl) rfl <|
     .cons (S5 (ox0 .tmp)) ⟨.one rfl, .nil⟩ (by kernel_rfl) rfl <|
     .cons (S5 (ox7 rfl)) ⟨.one rfl, .nil⟩ (by kernel_rfl) rfl <|
     .cons (S5 (ox7 rfl)) ⟨.one rfl, .nil⟩ (by kernel_rfl) rfl <|
     .cons (S5 (ox7 rfl)) ⟨.one rfl, .nil⟩ (by kernel_rfl) rfl <|
     .cons (S5 (ox_alloc (id := 6) z61)) ⟨.nil, .nil⟩ (by kernel_rfl) rfl <|
     .cons (S4 rfl rfl (ox5 t61 .tmp)) ⟨(.cons rfl (.one rfl)), .one rfl⟩ (by kernel_rfl) rfl <|
     .cons (S5 (ox1 .tmp)) ⟨.one rfl, .nil⟩ (by kernel_rfl) rfl <|
     .cons (S5 (ox1 .tmp)) ⟨.one rfl, .nil⟩ (by kernel_rfl) rfl <|
     .nil) _ [[], [0], [], [2], [0, 1, 2, 3], [0, 1, 2, 3, 4], [], [6], [], [8], [8, 9], [], [11], [0, 1, 2, 3, 4, 5, 6, 7, 8, 9, 10, 11, 12], [0, 1, 2, 3, 4, 5, 6, 7, 8, 9, 10, 11, 12, 13], [0, 1, 2, 3, 4, 5, 6, 7, 8, 9, 10, 11, 12, 13, 14], [0, 1, 2, 3, 4, 5, 6, 7, 8, 9, 10, 11, 12, 13, 14], [0, 1, 2, 3, 4, 5, 6, 7, 8, 9, 10, 11, 12, 13, 14], [], [0, 1, 2, 3, 4, 5, 6, 7, 8, 9, 10, 11, 12, 13, 14, 15, 18], [0, 1, 2, 3, 4, 5, 6, 7, 8, 9, 10, 11, 12, 13, 14, 15, 16, 18, 19], [0, 1, 2, 3, 4, 5, 6, 7, 8, 9, 10, 11, 12, 13, 14, 15, 16, 17, 18, 19, 20]] rfl (by kernel_rfl) (by kernel_rfl) ?_
   refine Q0 (σ' := ⟨[(2, _), (3, _), (4, _), (6, _), (7, .val (v4.2.1)), (8, .val (v4.2.2))], [(2, _), (3, _), (4, _), (6, .var (v4.1) [])]⟩) (j6 rfl rfl rfl rfl rfl rfl) (j4 rfl rfl rfl rfl) ?_
   refine Q2 ?_
   refine Q2 (Q1 ?_)
   refine O5 (ox0 .tmp) (.one rfl) .nil rfl <| O5 (ox_neq .tmp .int) (.app (.one rfl) .nil) .nil rfl <| O1 <| Q0 (σ' := ⟨[(2, _), (3, _), (4, _), (6, _), (7, _), (8, _), (51, .val (!decide (v4.2.2 = (0 : Int))))], [(2, _), (3, _), (4, _), (6, _)]⟩) (j7 rfl rfl rfl rfl rfl rfl rfl) (j4 rfl rfl rfl rfl) ?_
   refine Q3 _ rfl (fun hc5 => ?_) (fun hc5 => ?_)
   ·replace hφ := if_then hφ hc5
    refine Q0 (σ' := ⟨[(2, _), (4, _), (8, _)], [(2, _), (4, _)]⟩) (j3 rfl rfl rfl) (j2 rfl rfl) ?_
    refine Q2 (Q1 ?_)
    refine O5 (ox4 t43) (.one rfl) (.one rfl) rfl <| O5 (ox0 .tmp) (.one rfl) .nil rfl <| O2 rfl rfl (ox5 t43 .tmp) (.cons rfl (.one rfl)) (.one rfl) <| O5 (ox1 .tmp) (.one rfl) .nil rfl <| O1 <| Q0 (σ' := ⟨[(4, _), (5, .val (v4.2.2))], [(4, .var (a0) [])]⟩) (j2 rfl rfl) (j1 rfl) ?_
    refine Q5 ?_
    obtain rfl := Option.some.inj hφ
    exact Q6 hw0 rfl (.cell t43 rfl rfl (.tmp rfl rfl .nil)) rfl
   ·replace hφ := if_else hφ hc5
    refine Q0 (σ' := ⟨[(2, _), (3, _), (4, _), (6, _), (7, _)], [(2, _), (3, _), (4, _), (6, _)]⟩) (j5 rfl rfl rfl rfl rfl) (j4 rfl rfl rfl rfl) ?_
    refine Q4 ?_
    obtain ⟨k6, hk6, hφ⟩ := J_some hφ
    refine PT.cut (ι := Mk.Machine × Mk.Step × Mk.Machine × Mk.Client) (fun p => ⟨[(2, .ptr 2 (Lens.id (α := Mk.Machine))), (3, .ptr 3 (Lens.id (α := Mk.Step))), (4, .ptr 4 (Lens.id (α := Mk.Machine))), (6, .ptr 6 (Lens.id (α := Mk.Client)))], [(2, .var (p.1) []), (3, .var (p.2.1) []), (4, .var (p.2.2.1) []), (6, .var (p.2.2.2) [])]⟩) (fun p => k6 (p.1) (p.2.1) (p.2.2.1) (p.2.2.2) = some r) ?_ ?_
    ·skip
     refine Q2 (Q1 ?_)
     refine O5 (ox0 .tmp) (.one rfl) .nil rfl <| O5 (ox_len s63 .tmp) (.one rfl) .nil rfl <| O5 (ox_gtr .tmp .int) (.app (.one rfl) .nil) .nil rfl <| O1 <| Q0 (σ' := ⟨[(2, _), (3, _), (4, _), (6, _), (7, _), (56, .val (decide ((0 : Int) < (v4.2.1.length : Int))))], [(2, _), (3, _), (4, _), (6, _)]⟩) (j6 rfl rfl rfl rfl rfl rfl) (j4 rfl rfl rfl rfl) ?_
     refine Q3 _ rfl (fun hc7 => ?_) (fun hc7 => ?_)
     ·replace hφ := if_then hφ hc7
      refine Q0 (σ' := ⟨[(2, _), (3, _), (4, _), (6, _), (7, _)], [(2, _), (3, _), (4, _), (6, _)]⟩) (j5 rfl rfl rfl rfl rfl) (j4 rfl rfl rfl rfl) ?_
      refine Q2 ?_
      obtain ⟨v8, hv8, hφ⟩ := B_some hφ
      refine Q1 ?_
      refine O5 (ox3 Machine_Server f43_1) (.one rfl) .nil rfl <| O5 (ox2 t40) (.one rfl) (.one rfl) rfl <| O5 (ox0 .tmp) (.one rfl) .nil rfl <| O5 (ox_call (c_mkref6_ServerCome hv8) (.cons .tmp (.cons .tmp .nil))) (.app (.one rfl) (.app (.one rfl) .nil)) .nil rfl <| O5 (ox0 .tmp) (.one rfl) .nil rfl <| O5 (ox7 rfl) (.one rfl) .nil rfl ?_
      refine O5 (ox7 rfl) (.one rfl) .nil rfl <| O3 rfl rfl (ox_alloc (id := 9) z40) .nil .nil rfl (by kernel_rfl) <| O2 rfl rfl (ox5 t40 .tmp) (.cons rfl (.one rfl)) (.one rfl) <| O5 (ox1 .tmp) (.one rfl) .nil rfl <| O1 <| Q0 (σ' := ⟨[(2, _), (3, _), (4, _), (6, _), (9, _), (10, .val (v8.2))], [(2, _), (3, _), (4, _), (6, _), (9, .var (v8.1) [])]⟩) (j6 rfl rfl rfl rfl rfl rfl) (j5 rfl rfl rfl rfl rfl) ?_
      refine Q2 ?_
      refine Q2 (Q1 ?_)
      refine O5 (ox0 .tmp) (.one rfl) .nil rfl <| O5 (ox_neq .tmp .int) (.app (.one rfl) .nil) .nil rfl <| O1 <| Q0 (σ' := ⟨[(2, _), (3, _), (4, _), (6, _), (9, _), (10, _), (65, .val (!decide (v8.2 = (0 : Int))))], [(2, _), (3, _), (4, _), (6, _), (9, _)]⟩) (j7 rfl rfl rfl rfl rfl rfl rfl) (j5 rfl rfl rfl rfl rfl) ?_
      refine Q3 _ rfl (fun hc9 => ?_) (fun hc9 => ?_)
      ·replace hφ := if_then hφ hc9
       refine Q0 (σ' := ⟨[(2, _), (4, _), (10, _)], [(2, _), (4, _)]⟩) (j3 rfl rfl rfl) (j2 rfl rfl) ?_
       refine Q2 (Q1 ?_)
       refine O5 (ox4 t43) (.one rfl) (.one rfl) rfl <| O5 (ox0 .tmp) (.one rfl) .nil rfl <| O2 rfl rfl (ox5 t43 .tmp) (.cons rfl (.one rfl)) (.one rfl) <| O5 (ox1 .tmp) (.one rfl) .nil rfl <| O1 <| Q0 (σ' := ⟨[(4, _), (5, .val (v8.2))], [(4, .var (a0) [])]⟩) (j2 rfl rfl) (j1 rfl) ?_
       refine Q5 ?_
       obtain rfl := Option.some.inj hφ
       exact Q6 hw0 rfl (.cell t43 rfl rfl (.tmp rfl rfl .nil)) rfl
      ·replace hφ := if_else hφ hc9
       refine Q0 (σ' := ⟨[(2, _), (3, _), (4, _), (6, _), (9, _)], [(2, _), (3, _), (4, _), (6, _), (9, _)]⟩) (j5 rfl rfl rfl rfl rfl) (j5 rfl rfl rfl rfl rfl) ?_
       refine Q4 ?_
       refine Q1 ?_
       refine O5 (ox4 t40) (.one rfl) (.one rfl) rfl <| O5 (ox3 Machine_Server f43_1) (.one rfl) .nil rfl <| O2 rfl rfl (ox_store_fld t40 .tmp) (.cons rfl (.one rfl)) (.one rfl) <| O1 <| Q0 (σ' := ⟨[(2, _), (3, _), (4, _), (6, _)], [(2, .var ({ a0 with Server := v8.1 }) []), (3, _), (4, _), (6, _)]⟩) (j4 rfl rfl rfl rfl) (j4 rfl rfl rfl rfl) ?_
       exact PT.meet ({ a0 with Server := v8.1 }, a1, zMa, v4.1) hφ (j4 rfl rfl rfl rfl) (j4 rfl rfl rfl rfl)
     ·replace hφ := if_else hφ hc7
      refine Q0 (σ' := ⟨[(2, _), (3, _), (4, _), (6, _)], [(2, _), (3, _), (4, _), (6, _)]⟩) (j4 rfl rfl rfl rfl) (j4 rfl rfl rfl rfl) ?_
      refine Q4 ?_
      exact PT.meet (a0, a1, zMa, v4.1) hφ (j4 rfl rfl rfl rfl) (j4 rfl rfl rfl rfl)
    ·rintro ⟨y2_k6, y3_k6, y4_k6, y6_k6⟩ hφ
     subst hk6
     refine Q0 (σ' := ⟨[(2, .ptr 2 (Lens.id (α := Mk.Machine))), (3, .ptr 3 (Lens.id (α := Mk.Step))), (4, .ptr 4 (Lens.id (α := Mk.Machine))), (6, .ptr 6 (Lens.id (α := Mk.Client)))], [(2, .var (y2_k6) []), (3, .var (y3_k6) []), (4, .var (y4_k6) []), (6, .var (y6_k6) [])]⟩) (j4 rfl rfl rfl rfl) (j4 rfl rfl rfl rfl) ?_
     refine Q2 ?_
     obtain ⟨v10, hv10, hφ⟩ := B_some hφ
     refine Q1 ?_
     refine O5 (ox4 t43) (.one rfl) (.one rfl) rfl <| O5 (ox3 Step_N f83_1) (.one rfl) .nil rfl <| O5 (ox2 t3) (.one rfl) (.one rfl) rfl <| O5 (ox4 t61) (.one rfl) (.one rfl) rfl <| O5 (ox_call (c_mkref6_with hv10) (.cons .tmp (.cons .tmp (.cons .tmp .nil)))) (.app (.one rfl) (.app (.one rfl) (.app (.one rfl) .nil))) .nil rfl <| O2 rfl rfl (ox5 t43 .tmp) (.cons rfl (.one rfl)) (.one rfl) ?_
     refine O5 (ox1 .int) .nil .nil rfl <| O1 <| Q0 (σ' := ⟨[(4, _), (5, .val (0 : Int))], [(4, .var (v10) [])]⟩) (j2 rfl rfl) (j1 rfl) ?_
     refine Q5 ?_
     obtain rfl := Option.some.inj hφ
     exact Q6 hw0 rfl (.cell t43 rfl rfl (.tmp rfl rfl .nil)) rfl
 ·replace hφ := if_else hφ hc1
  refine Q0 (σ' := ⟨[(2, _), (4, _), (17, _)], [(2, _), (4, _)]⟩) (j3 rfl rfl rfl) (j2 rfl rfl) ?_
  refine Q2 (Q1 ?_)
  refine O5 (ox_eql .tmp .int) (.app (.one rfl) .nil) .nil rfl <| O5 (ox1 .tmp) (.one rfl) .nil rfl <| O1 <| Q0 (σ' := ⟨[(2, _), (4, _), (17, _), (75, .val (decide (a1.Kind = (2 : Int))))], [(2, _), (4, _)]⟩) (j4 rfl rfl rfl rfl) (j2 rfl rfl) ?_
  refine Q3 _ rfl (fun hc11 => ?_) (fun hc11 => ?_)
  ·replace hφ := if_then hφ hc11
   refine Q0 (σ' := ⟨[(2, _), (4, _)], [(2, _), (4, _)]⟩) (j2 rfl rfl) (j2 rfl rfl) ?_
   refine Q2 ?_
   refine Q2 (Q1 ?_)
   refine O5 (ox3 Machine_Up f43_2) (.one rfl) .nil rfl <| O5 (ox2 t4) (.one rfl) (.one rfl) rfl <| O5 (ox_not .tmp) (.one rfl) .nil rfl <| O1 <| Q0 (σ' := ⟨[(2, _), (4, _), (79, .val (!a0.Up))], [(2, _), (4, _)]⟩) (j3 rfl rfl rfl) (j2 rfl rfl) ?_
   refine Q3 _ rfl (fun hc12 => ?_) (fun hc12 => ?_)
   ·replace hφ := if_then hφ hc12
    refine Q0 (σ' := ⟨[(2, _), (4, _)], [(2, _), (4, _)]⟩) (j2 rfl rfl) (j2 rfl rfl) ?_
    refine Q2 (Q1 ?_)
    refine O5 (ox4 t43) (.one rfl) (.one rfl) rfl <| O2 rfl rfl (ox5 t43 .tmp) (.cons rfl (.one rfl)) (.one rfl) <| O5 (ox1 .int) .nil .nil rfl <| O1 <| Q0 (σ' := ⟨[(4, _), (5, .val (10 : Int))], [(4, .var (a0) [])]⟩) (j2 rfl rfl) (j1 rfl) ?_
    refine Q5 ?_
    obtain rfl := Option.some.inj hφ
    exact Q6 hw0 rfl (.cell t43 rfl rfl (.tmp rfl rfl .nil)) rfl
   ·replace hφ := if_else hφ hc12
    refine Q0 (σ' := ⟨[(2, _), (4, _)], [(2, _), (4, _)]⟩) (j2 rfl rfl) (j2 rfl rfl) ?_
    refine Q4 ?_
    refine Q2 ?_
    obtain ⟨v13, hv13, hφ⟩ := B_some hφ
    refine Q1 ?_
    refine O5 (ox3 Machine_Store f43_0) (.one rfl) .nil rfl <| O5 (ox2 t30) (.one rfl) (.one rfl) rfl <| O5 (ox3 Machine_Server f43_1) (.one rfl) .nil rfl <| O5 (ox2 t40) (.one rfl) (.one rfl) rfl <| O5 (ox_call (c_mkref6_Serve hv13) (.cons .tmp (.cons .tmp .nil))) (.app (.one rfl) (.app (.one rfl) .nil)) .nil rfl <| O5 (ox0 .tmp) (.one rfl) .nil rfl ?_
    refine O5 (ox7 rfl) (.one rfl) .nil rfl <| O5 (ox7 rfl) (.one rfl) .nil rfl <| O5 (ox7 rfl) (.one rfl) .nil rfl <| O5 (ox7 rfl) (.one rfl) .nil rfl <| O3 rfl rfl (ox_alloc (id := 11) z30) .nil .nil rfl (by kernel_rfl) <| O3 rfl rfl (ox_alloc (id := 12) z40) .nil .nil rfl (by kernel_rfl) ?_
    refine O2 rfl rfl (ox5 t30 .tmp) (.cons rfl (.one rfl)) (.one rfl) <| O2 rfl rfl (ox5 t40 .tmp) (.cons rfl (.one rfl)) (.one rfl) <| O5 (ox1 .tmp) (.one rfl) .nil rfl <| O5 (ox1 .tmp) (.one rfl) .nil rfl <| O1 <| Q0 (σ' := ⟨[(2, _), (4, _), (11, _), (12, _), (13, .val (v13.2.2.1)), (14, .val (v13.2.2.2))], [(2, _), (4, _), (11, .var (v13.1) []), (12, .var (v13.2.1) [])]⟩) (j6 rfl rfl rfl rfl rfl rfl) (j4 rfl rfl rfl rfl) ?_
    refine Q2 ?_
    refine Q2 (Q1 ?_)
    refine O5 (ox0 .tmp) (.one rfl) .nil rfl <| O5 (ox_neq .tmp .int) (.app (.one rfl) .nil) .nil rfl <| O1 <| Q0 (σ' := ⟨[(2, _), (4, _), (11, _), (12, _), (13, _), (14, _), (92, .val (!decide (v13.2.2.2 = (0 : Int))))], [(2, _), (4, _), (11, _), (12, _)]⟩) (j7 rfl rfl rfl rfl rfl rfl rfl) (j4 rfl rfl rfl rfl) ?_
    refine Q3 _ rfl (fun hc14 => ?_) (fun hc14 => ?_)
    ·replace hφ := if_then hφ hc14
     refine Q0 (σ' := ⟨[(2, _), (4, _), (14, _)], [(2, _), (4, _)]⟩) (j3 rfl rfl rfl) (j2 rfl rfl) ?_
     refine Q2 (Q1 ?_)
     refine O5 (ox4 t43) (.one rfl) (.one rfl) rfl <| O5 (ox0 .tmp) (.one rfl) .nil rfl <| O2 rfl rfl (ox5 t43 .tmp) (.cons rfl (.one rfl)) (.one rfl) <| O5 (ox1 .tmp) (.one rfl) .nil rfl <| O1 <| Q0 (σ' := ⟨[(4, _), (5, .val (v13.2.2.2))], [(4, .var (a0) [])]⟩) (j2 rfl rfl) (j1 rfl) ?_
     refine Q5 ?_
     obtain rfl := Option.some.inj hφ
     exact Q6 hw0 rfl (.cell t43 rfl rfl (.tmp rfl rfl .nil)) rfl
    ·replace hφ := if_else hφ hc14
     refine Q0 (σ' := ⟨[(2, _), (4, _), (11, _), (12, _), (13, _)], [(2, _), (4, _), (11, _), (12, _)]⟩) (j5 rfl rfl rfl rfl rfl) (j4 rfl rfl rfl rfl) ?_
     refine Q4 ?_
     refine Q2 ?_
     refine Q8 hMixed (
       .cons (S5 (ox4 t30)) ⟨.one rfl, .one rfl⟩ (by kernel_rfl) rfl <|
       .cons (S5 (ox4 t40)) ⟨.one rfl, .one rfl⟩ (by kernel_rfl) rfl <|
       .cons (S5 (ox3 Machine_Store f43_0)) ⟨.one rfl, .nil⟩ (by kernel_rfl) rfl <|
       .cons (S4 rfl rfl (ox_store_fld t30 .tmp)) ⟨(.cons rfl (.one rfl)), .one rfl⟩ (by kernel_rfl) rfl <|
       .cons (S5 (ox3 Machine_Server f43_1)) ⟨.one rfl, .nil⟩ (by kernel_rfl) rfl <|
       .cons (S4 rfl rfl (ox_store_fld t40 .tmp)) ⟨(.cons rfl (.one rfl)), .one rfl⟩ (by kernel_rfl) rfl <|
       .nil) _ [[], [], [0], [0, 2], [0, 1, 2, 3], [0, 1, 2, 3, 4]] rfl (by kernel_rfl) (by kernel_rfl) ?_
     refine Q0 (σ' := ⟨[(2, _), (4, _), (13, _)], [(2, .var ({ ({ a0 with Store := v13.1 }) with Server := v13.2.1 }) []), (4, _)]⟩) (j3 rfl rfl rfl) (j2 rfl rfl) ?_
     obtain ⟨k15, hk15, hφ⟩ := J_some hφ
     refine PT.cut (ι := Mk.Machine × Mk.Machine) (fun p => ⟨[(2, .ptr 2 (Lens.id (α := Mk.Machine))), (4, .ptr 4 (Lens.id (α := Mk.Machine)))], [(2, .var (p.1) []), (4, .var (p.2) [])]⟩) (fun p => k15 (p.1) (p.2) = some r) ?_ ?_
     ·skip
      refine Q2 (Q1 ?_)
      refine O5 (ox0 .tmp) (.one rfl) .nil rfl <| O5 (ox_len s63 .tmp) (.one rfl) .nil rfl <| O5 (ox_gtr .tmp .int) (.app (.one rfl) .nil) .nil rfl <| O1 <| Q0 (σ' := ⟨[(2, _), (4, _), (13, _), (101, .val (decide ((0 : Int) < (v13.2.2.1.length : Int))))], [(2, _), (4, _)]⟩) (j4 rfl rfl rfl rfl) (j2 rfl rfl) ?_
      refine Q3 _ rfl (fun hc16 => ?_) (fun hc16 => ?_)
      ·replace hφ := if_then hφ hc16
       refine Q0 (σ' := ⟨[(2, _), (4, _), (13, _)], [(2, _), (4, _)]⟩) (j3 rfl rfl rfl) (j2 rfl rfl) ?_
       refine Q2 ?_
       obtain ⟨hb17, hφ⟩ := G_some hφ
       refine Q1 ?_
       refine O5 (ox0 .tmp) (.one rfl) .nil rfl <| O5 (ox_ix s63 .tmp .int hb17.1 hb17.2) (.app (.one rfl) .nil) .nil rfl <| O5 (ox_load_elem t5) (.one rfl) .nil rfl <| O5 (ox_u8_i64 (by kernel_rfl) .tmp) (.one rfl) .nil rfl <| O5 (ox1 .tmp) (.one rfl) .nil rfl <| O1 <| Q0 (σ' := ⟨[(2, _), (4, _), (13, _), (15, .val (((ix v13.2.2.1 (1 : Int)).toNat : Nat) : Int))], [(2, _), (4, _)]⟩) (j4 rfl rfl rfl rfl) (j2 rfl rfl) ?_
       refine Q2 (Q1 ?_)
       refine O5 (ox0 .tmp) (.one rfl) .nil rfl <| O5 (ox3 Machine_Clients f43_5) (.one rfl) .nil rfl <| O5 (ox2 t41) (.one rfl) (.one rfl) rfl <| O5 (ox_len s41 .tmp) (.one rfl) .nil rfl <| O5 (ox_lss .tmp .tmp) (.app (.one rfl) (.one rfl)) .nil rfl <| O1 <| Q0 (σ' := ⟨[(2, _), (4, _), (13, _), (15, _), (110, .val ((decide ((((ix v13.2.2.1 (1 : Int)).toNat : Nat) : Int) < ({ ({ a0 with Store := v13.1 }) with Server := v13.2.1 }.Clients.length : Int)))))], [(2, _), (4, _)]⟩) (j5 rfl rfl rfl rfl rfl) (j2 rfl rfl) ?_
       refine Q3 _ rfl (fun hc18 => ?_) (fun hc18 => ?_)
       ·replace hφ := if_then hφ hc18
        refine Q0 (σ' := ⟨[(2, _), (4, _), (13, _), (15, _)], [(2, _), (4, _)]⟩) (j4 rfl rfl rfl rfl) (j2 rfl rfl) ?_
        obtain ⟨hb19, hφ⟩ := G_some hφ
        obtain ⟨v20, hv20, hφ⟩ := B_some hφ
        obtain ⟨v21, hv21, hφ⟩ := B_some hφ
        refine Q8 hMixed (
          .cons (S5 (ox4 t43)) ⟨.one rfl, .one rfl⟩ (by kernel_rfl) rfl <|
          .cons (S5 (ox0 .tmp)) ⟨.one rfl, .nil⟩ (by kernel_rfl) rfl <|
          .cons (S5 (ox3 Machine_Clients f43_5)) ⟨.one rfl, .nil⟩ (by kernel_rfl) rfl <|
          .cons (S5 (ox2 t41)) ⟨.one rfl, .one rfl⟩ (by kernel_rfl) rfl <|
          .cons (S5 (ox0 .tmp)) ⟨.one rfl, .nil⟩ (by kernel_rfl) rfl <|
          .cons (S5 (ox_ix s41 .tmp .tmp hb19.1 hb19.2)) ⟨(.app (.one rfl) (.one rfl)), .nil⟩ (by kernel_rfl) rfl <|
          .cons (S5 (ox_load_elem t61)) ⟨.one rfl, .nil⟩ (by kernel_rfl) rfl <|
          .cons (S5 (ox0 .tmp)) ⟨.one rfl, .nil⟩ (by kernel_rfl) rfl <|
          .cons (S5 (ox_call (c_mkref6_ClientCome hv20) (.cons .tmp (.cons .tmp .nil)))) ⟨(.app (.one rfl) (.app (.one rfl) .nil)), .nil⟩ (by kernel_rfl) rfl <|
          .cons (S5 (ox_call (c_mkref6_with hv21) (.cons .tmp (.cons .tmp (.cons .tmp .nil))))) ⟨(.app (.one rfl) (.app (.one rfl) (.app (.one rfl) .nil))), .nil⟩ (by kernel_rfl) rfl <|
          .cons (S4 rfl rfl (ox5 t43 .tmp)) ⟨(.cons rfl (.one rfl)), .one rfl⟩ (by kernel_rfl) rfl <|
          .nil) _ [[], [], [], [2], [], [2, 3, 4], [2, 3, 4, 5], [], [2, 3, 4, 5, 6, 7], [0, 1, 2, 3, 4, 5, 6, 7, 8], [0, 1, 2, 3, 4, 5, 6, 7, 8, 9]] rfl (by kernel_rfl) (by kernel_rfl) ?_
        refine Q0 (σ' := ⟨[(2, _), (4, _)], [(2, .var (v21) []), (4, _)]⟩) (j2 rfl rfl) (j2 rfl rfl) ?_
        exact PT.meet (v21, zMa) hφ (j2 rfl rfl) (j2 rfl rfl)
       ·replace hφ := if_else hφ hc18
        refine Q0 (σ' := ⟨[(2, _), (4, _)], [(2, _), (4, _)]⟩) (j2 rfl rfl) (j2 rfl rfl) ?_
        refine Q4 ?_
        exact PT.meet ({ ({ a0 with Store := v13.1 }) with Server := v13.2.1 }, zMa) hφ (j2 rfl rfl) (j2 rfl rfl)
      ·replace hφ := if_else hφ hc16
       refine Q0 (σ' := ⟨[(2, _), (4, _)], [(2, _), (4, _)]⟩) (j2 rfl rfl) (j2 rfl rfl) ?_
       refine Q4 ?_
       exact PT.meet ({ ({ a0 with Store := v13.1 }) with Server := v13.2.1 }, zMa) hφ (j2 rfl rfl) (j2 rfl rfl)
     ·rintro ⟨y2_k15, y4_k15⟩ hφ
      subst hk15
      refine Q0 (σ' := ⟨[(2, .ptr 2 (Lens.id (α := Mk.Machine))), (4, .ptr 4 (Lens.id (α := Mk.Machine)))], [(2, .var (y2_k15) []), (4, .var (y4_k15) [])]⟩) (j2 rfl rfl) (j2 rfl rfl) ?_
      refine Q2 (Q1 ?_)
      refine O5 (ox4 t43) (.one rfl) (.one rfl) rfl <| O2 rfl rfl (ox5 t43 .tmp) (.cons rfl (.one rfl)) (.one rfl) <| O5 (ox1 .int) .nil .nil rfl <| O1 <| Q0 (σ' := ⟨[(4, _), (5, .val (0 : Int))], [(4, .var (y2_k15) [])]⟩) (j2 rfl rfl) (j1 rfl) ?_
      refine Q5 ?_
      obtain rfl := Option.some.inj hφ
      exact Q6 hw0 rfl (.cell t43 rfl rfl (.tmp rfl rfl .nil)) rfl
  ·replace hφ := if_else hφ hc11
   refine Q0 (σ' := ⟨[(2, _), (4, _), (17, _)], [(2, _), (4, _)]⟩) (j3 rfl rfl rfl) (j2 rfl rfl) ?_
   refine Q2 (Q1 ?_)
   refine O5 (ox_eql .tmp .int) (.app (.one rfl) .nil) .nil rfl <| O5 (ox1 .tmp) (.one rfl) .nil rfl <| O1 <| Q0 (σ' := ⟨[(2, _), (4, _), (17, _), (122, .val (decide (a1.Kind = (3 : Int))))], [(2, _), (4, _)]⟩) (j4 rfl rfl rfl rfl) (j2 rfl rfl) ?_
   refine Q3 _ rfl (fun hc22 => ?_) (fun hc22 => ?_)
   ·replace hφ := if_then hφ hc22
    refine Q0 (σ' := ⟨[(2, _), (4, _)], [(2, _), (4, _)]⟩) (j2 rfl rfl) (j2 rfl rfl) ?_
    refine Q2 ?_
    obtain ⟨v23, hv23, hφ⟩ := B_some hφ
    refine Q1 ?_
    refine O5 (ox4 t43) (.one rfl) (.one rfl) rfl <| O5 (ox_call (c_mkref6_Fall hv23) (.cons .tmp .nil)) (.app (.one rfl) .nil) .nil rfl <| O5 (ox7 rfl) (.one rfl) .nil rfl <| O5 (ox7 rfl) (.one rfl) .nil rfl <| O2 rfl rfl (ox5 t43 .tmp) (.cons rfl (.one rfl)) (.one rfl) <| O5 (ox1 .tmp) (.one rfl) .nil rfl <| O1 <| Q0 (σ' := ⟨[(4, _), (5, .val (v23.2))], [(4, .var (v23.1) [])]⟩) (j2 rfl rfl) (j1 rfl) ?_
    refine Q5 ?_
    obtain rfl := Option.some.inj hφ
    exact Q6 hw0 rfl (.cell t43 rfl rfl (.tmp rfl rfl .nil)) rfl
   ·replace hφ := if_else hφ hc22
    refine Q0 (σ' := ⟨[(2, _), (4, _), (17, _)], [(2, _), (4, _)]⟩) (j3 rfl rfl rfl) (j2 rfl rfl) ?_
    refine Q2 (Q1 ?_)
    refine O5 (ox_eql .tmp .int) (.app (.one rfl) .nil) .nil rfl <| O5 (ox1 .tmp) (.one rfl) .nil rfl <| O1 <| Q0 (σ' := ⟨[(2, _), (4, _), (128, .val (decide (a1.Kind = (4 : Int))))], [(2, _), (4, _)]⟩) (j3 rfl rfl rfl) (j2 rfl rfl) ?_
    refine Q3 _ rfl (fun hc24 => ?_) (fun hc24 => ?_)
    ·replace hφ := if_then hφ hc24
     refine Q0 (σ' := ⟨[(2, _), (4, _)], [(2, _), (4, _)]⟩) (j2 rfl rfl) (j2 rfl rfl) ?_
     refine Q2 ?_
     obtain ⟨v25, hv25, hφ⟩ := B_some hφ
     refine Q1 ?_
     refine O5 (ox4 t43) (.one rfl) (.one rfl) rfl <| O5 (ox_call (c_mkref6_Tick hv25) (.cons .tmp .nil)) (.app (.one rfl) .nil) .nil rfl <| O2 rfl rfl (ox5 t43 .tmp) (.cons rfl (.one rfl)) (.one rfl) <| O5 (ox1 .int) .nil .nil rfl <| O1 <| Q0 (σ' := ⟨[(4, _), (5, .val (0 : Int))], [(4, .var (v25) [])]⟩) (j2 rfl rfl) (j1 rfl) ?_
     refine Q5 ?_
     obtain rfl := Option.some.inj hφ
     exact Q6 hw0 rfl (.cell t43 rfl rfl (.tmp rfl rfl .nil)) rfl
    ·replace hφ := if_else hφ hc24
     refine Q0 (σ' := ⟨[(2, _), (4, _)], [(2, _), (4, _)]⟩) (j2 rfl rfl) (j2 rfl rfl) ?_
     refine Q4 ?_
     refine Q2 (Q1 ?_)
     refine O5 (ox4 t43) (.one rfl) (.one rfl) rfl <| O2 rfl rfl (ox5 t43 .tmp) (.cons rfl (.one rfl)) (.one rfl) <| O5 (ox1 .int) .nil .nil rfl <| O1 <| Q0 (σ' := ⟨[(4, _), (5, .val (1 : Int))], [(4, .var (a0) [])]⟩) (j2 rfl rfl) (j1 rfl) ?_
     refine Q5 ?_
     obtain rfl := Option.some.inj hφ
     exact Q6 hw0 rfl (.cell t43 rfl rfl (.tmp rfl rfl .nil)) rfl
theorem c_mkref6_Play {a0 : List (List Mk.Call)} {a1 : List Mk.Step} {r : (Mk.Machine × (List Int))} (hφ : mkref6_Play a0 a1 = some r) : Fn Go.Proofs.Try.prog 17 [.val a0, .val a1] (.tup [.val r.1, .val r.2]) := by
 unfold mkref6_Play at hφ
 refine Fn.mk' Go.Proofs.Try.func17 rfl (by decide) rfl rfl rfl (fun w0 hw0 => ?_)
 refine Q2 (Q1 ?_)
 refine O3 rfl rfl (ox_alloc (id := 4) z43) .nil .nil rfl (by kernel_rfl) <| O5 (ox1 .nilS) .nil .nil rfl <| O1 <| Q0 (σ' := ⟨[(0, .val (a0)), (1, .val (a1)), (4, _)], [(4, .var (zMa) [])]⟩) (j3 rfl rfl rfl) (j1 rfl) ?_
 refine Q2 ?_
 obtain ⟨v1, hv1, hφ⟩ := B_some hφ
 refine Q1 ?_
 refine O5 (ox0 .tmp) (.one rfl) .nil rfl <| O5 (ox_call (c_mkref6_New hv1) (.cons .tmp .nil)) (.app (.one rfl) .nil) .nil rfl <| O5 (ox0 .tmp) (.one rfl) .nil rfl <| O5 (ox7 rfl) (.one rfl) .nil rfl <| O5 (ox7 rfl) (.one rfl) .nil rfl <| O3 rfl rfl (ox_alloc (id := 6) z43) .nil .nil rfl (by kernel_rfl) ?_
 refine O2 rfl rfl (ox5 t43 .tmp) (.cons rfl (.one rfl)) (.one rfl) <| O5 (ox1 .tmp) (.one rfl) .nil rfl <| O1 <| Q0 (σ' := ⟨[(1, _), (4, _), (6, _)], [(4, _), (6, .var (v1.1) [])]⟩) (j3 rfl rfl rfl) (j2 rfl rfl) ?_
 refine Q2 (Q1 ?_)
 refine O5 (ox1 .nilS) .nil .nil rfl <| O1 <| Q0 (σ' := ⟨[(1, _), (4, _), (6, _), (8, .nilS)], [(4, _), (6, _)]⟩) (j4 rfl rfl rfl rfl) (j2 rfl rfl) ?_
 obtain ⟨k2, hk2, hφ⟩ := J_some hφ
 refine PT.cut (ι := Mk.Machine × Mk.Machine × (List Int)) (fun p => ⟨[(4, .ptr 4 (Lens.id (α := Mk.Machine))), (6, .ptr 6 (Lens.id (α := Mk.Machine))), (8, .sl 1008)], [(4, .var (p.1) []), (6, .var (p.2.1) []), (1008, .arr 36 (p.2.2))]⟩) (fun p => k2 (p.1) (p.2.1) (p.2.2) = some r) ?_ ?_
 ·skip
  refine Q2 (Q1 ?_)
  refine O5 (ox0 .tmp) (.one rfl) .nil rfl <| O5 (ox_len s23 .tmp) (.one rfl) .nil rfl <| O5 (ox0 .int) .nil .nil rfl <| O1 <| Q0 (σ' := ⟨[(4, _), (6, _), (8, _), (18, .val (a1)), (19, .val (a1.length : Int)), (20, .val (0 : Int))], [(4, _), (6, _)]⟩) (j6 rfl rfl rfl rfl rfl rfl) (j2 rfl rfl) ?_
  refine PT.block ?_
  refine PT.nilArr 1008 8 36 (Int) rfl (by kernel_rfl) ?_
  refine PT.loop (ι := Nat × (List Mk.Step) × Int × Int × Mk.Machine × Mk.Machine × (List Int)) (fun p => ⟨[(4, .ptr 4 (Lens.id (α := Mk.Machine))), (6, .ptr 6 (Lens.id (α := Mk.Machine))), (8, .sl 1008), (18, .val (p.2.1)), (19, .val (p.2.2.1)), (20, .val (p.2.2.2.1))], [(4, .var (p.2.2.2.2.1) []), (6, .var (p.2.2.2.2.2.1) []), (1008, .arr 36 (p.2.2.2.2.2.2))]⟩) (fun p => mkref6_Play_l1 k2 p.1 (p.2.1) (p.2.2.1) (p.2.2.2.1) (p.2.2.2.2.1) (p.2.2.2.2.2.1) (p.2.2.2.2.2.2) = some r) (fun p => p.1) (((a1.length : Int) - (0 : Int)).toNat + 1, a1, (a1.length : Int), (0 : Int), zMa, v1.1, ([] : List Int)) hφ (j6 rfl rfl rfl rfl rfl rfl) (j3 rfl rfl rfl) ?_
  rintro ⟨m3, x18_m3, x19_m3, x20_m3, y4_m3, y6_m3, y1008_m3⟩ (hφ : mkref6_Play_l1 k2 m3 x18_m3 x19_m3 x20_m3 y4_m3 y6_m3 y1008_m3 = some r)
  obtain _ | m3 := m3
  ·exact (none_no hφ).elim
  rw [mkref6_Play_l1.eq_2] at hφ
  refine Q0 (σ' := ⟨[(4, .ptr 4 (Lens.id (α := Mk.Machine))), (6, .ptr 6 (Lens.id (α := Mk.Machine))), (8, .sl 1008), (18, .val (x18_m3)), (19, .val (x19_m3)), (20, .val (x20_m3))], [(4, .var (y4_m3) []), (6, .var (y6_m3) []), (1008, .arr 36 (y1008_m3))]⟩) (j6 rfl rfl rfl rfl rfl rfl) (j3 rfl rfl rfl) ?_
  refine Q2 (Q1 ?_)
  refine O5 (ox_lss .tmp .tmp) (.app (.one rfl) (.one rfl)) .nil rfl <| O1 <| Q0 (σ' := ⟨[(4, _), (6, _), (8, _), (18, _), (19, _), (20, _), (21, .val (decide (x20_m3 < x19_m3)))], [(4, _), (6, _), (1008, _)]⟩) (j7 rfl rfl rfl rfl rfl rfl rfl) (j3 rfl rfl rfl) ?_
  refine Q2 ?_
  refine Q3 _ rfl (fun hc4 => ?_) (fun hc4 => ?_)
  ·replace hφ := if_then hφ hc4
   refine Q0 (σ' := ⟨[(4, _), (6, _), (8, _), (18, _), (19, _), (20, _)], [(4, _), (6, _), (1008, _)]⟩) (j6 rfl rfl rfl rfl rfl rfl) (j3 rfl rfl rfl) ?_
   refine Q4 ?_
   refine Q2 ?_
   refine PT.block ?_
   refine Q2 ?_
   obtain ⟨hb5, hφ⟩ := G_some hφ
   refine Q1 ?_
   refine O5 (ox0 .tmp) (.one rfl) .nil rfl <| O5 (ox_ix s23 .tmp .tmp hb5.1 hb5.2) (.app (.one rfl) (.one rfl)) .nil rfl <| O5 (ox_load_elem t83) (.one rfl) .nil rfl <| O3 rfl rfl (ox_alloc (id := 10) z83) .nil .nil rfl (by kernel_rfl) <| O5 (ox1 .tmp) (.one rfl) .nil rfl <| O2 rfl rfl (ox5 t83 .tmp) (.cons rfl (.one rfl)) (.one rfl) <| O1 <| Q0 (σ' := ⟨[(4, _), (6, _), (8, _), (9, .val (x20_m3)), (10, _), (18, _), (19, _), (20, _)], [(4, _), (6, _), (10, .var (ix x18_m3 x20_m3) []), (1008, _)]⟩) (j8 rfl rfl rfl rfl rfl rfl rfl rfl) (j4 rfl rfl rfl rfl) ?_
   refine Q2 ?_
   refine Q2 (Q1 ?_)
   refine O5 (ox0 .tmp) (.one rfl) .nil rfl <| O5 (ox_eql .tmp .int) (.app (.one rfl) .nil) .nil rfl <| O1 <| Q0 (σ' := ⟨[(4, _), (6, _), (8, _), (10, _), (18, _), (19, _), (20, _), (26, .val (decide (x20_m3 = (400 : Int))))], [(4, _), (6, _), (10, _), (1008, _)]⟩) (j8 rfl rfl rfl rfl rfl rfl rfl rfl) (j4 rfl rfl rfl rfl) ?_
   refine Q3 _ rfl (fun hc6 => ?_) (fun hc6 => ?_)
   ·replace hφ := if_then hφ hc6
    refine Q0 (σ' := ⟨[(4, _), (6, _), (8, _)], [(4, _), (6, _), (1008, _)]⟩) (j3 rfl rfl rfl) (j3 rfl rfl rfl) ?_
    refine PT.exit ?_
    exact PT.meet (y4_m3, y6_m3, y1008_m3) hφ (j3 rfl rfl rfl) (j3 rfl rfl rfl)
   ·replace hφ := if_else hφ hc6
    refine Q0 (σ' := ⟨[(4, _), (6, _), (8, _), (10, _), (18, _), (19, _), (20, _)], [(4, _), (6, _), (10, _), (1008, _)]⟩) (j7 rfl rfl rfl rfl rfl rfl rfl) (j4 rfl rfl rfl rfl) ?_
    refine Q4 ?_
    refine Q2 ?_
    obtain ⟨v7, hv7, hφ⟩ := B_some hφ
    refine Q1 ?_
    refine O5 (ox4 t43) (.one rfl) (.one rfl) rfl <| O5 (ox4 t83) (.one rfl) (.one rfl) rfl <| O5 (ox_call (c_mkref6_Do hv7) (.cons .tmp (.cons .tmp .nil))) (.app (.one rfl) (.app (.one rfl) .nil)) .nil rfl <| O5 (ox0 .tmp) (.one rfl) .nil rfl <| O5 (ox7 rfl) (.one rfl) .nil rfl <| O5 (ox7 rfl) (.one rfl) .nil rfl ?_
    refine O3 rfl rfl (ox_alloc (id := 11) z43) .nil .nil rfl (by kernel_rfl) <| O2 rfl rfl (ox5 t43 .tmp) (.cons rfl (.one rfl)) (.one rfl) <| O5 (ox1 .tmp) (.one rfl) .nil rfl <| O1 <| Q0 (σ' := ⟨[(4, _), (6, _), (8, _), (11, _), (12, .val (v7.2)), (18, _), (19, _), (20, _)], [(4, _), (6, _), (11, .var (v7.1) []), (1008, _)]⟩) (j8 rfl rfl rfl rfl rfl rfl rfl rfl) (j4 rfl rfl rfl rfl) ?_
    refine Q2 (Q1 ?_)
    refine O5 (ox4 t43) (.one rfl) (.one rfl) rfl <| O2 rfl rfl (ox5 t43 .tmp) (.cons rfl (.one rfl)) (.one rfl) <| O1 <| Q0 (σ' := ⟨[(4, _), (6, _), (8, _), (12, _), (18, _), (19, _), (20, _)], [(4, _), (6, .var (v7.1) []), (1008, _)]⟩) (j7 rfl rfl rfl rfl rfl rfl rfl) (j3 rfl rfl rfl) ?_
    obtain ⟨hb8, hφ⟩ := G_some hφ
    refine Q1 ?_
    refine O5 (ox0 .tmp) (.one rfl) .nil rfl <| O5 (ox0 .tmp) (.one rfl) .nil rfl <| O5 (ox_buildSlice_val s44 z36 (.cons .tmp Parts.nil) rfl (by decide)) (.app (.one rfl) .nil) .nil rfl ?_
    refine Ops.putK [8, 34] rfl rfl (ox_append a44 .tmp .tmp hb8.1 hb8.2) (.app (.one rfl) (.one rfl)) (.one rfl) rfl (by kernel_rfl) ?_
    refine O5 (ox1 .tmp) (.one rfl) .nil rfl <| O1 <| Q0 (σ' := ⟨[(4, _), (6, _), (8, _), (18, _), (19, _), (20, _)], [(4, _), (6, _), (1008, .arr 36 (y1008_m3 ++ ([v7.2] : List Int)))]⟩) (j6 rfl rfl rfl rfl rfl rfl) (j3 rfl rfl rfl) ?_
    obtain ⟨hb9, hφ⟩ := G_some hφ
    refine Q1 ?_
    refine O5 (ox_add .tmp .int hb9) (.app (.one rfl) .nil) .nil rfl <| O5 (ox0 .tmp) (.one rfl) .nil rfl <| O1 <| Q0 (σ' := ⟨[(4, _), (6, _), (8, _), (18, _), (19, _), (20, .val (x20_m3 + (1 : Int)))], [(4, _), (6, _), (1008, _)]⟩) (j6 rfl rfl rfl rfl rfl rfl) (j3 rfl rfl rfl) ?_
    exact PT.next (m3, x18_m3, x19_m3, (x20_m3 + (1 : Int)), y4_m3, v7.1, (y1008_m3 ++ ([v7.2] : List Int))) hφ (Nat.lt_succ_self _) (j6 rfl rfl rfl rfl rfl rfl) (j3 rfl rfl rfl)
  ·replace hφ := if_else hφ hc4
   refine Q0 (σ' := ⟨[(4, _), (6, _), (8, _)], [(4, _), (6, _), (1008, _)]⟩) (j3 rfl rfl rfl) (j3 rfl rfl rfl) ?_
   refine PT.exit ?_
   exact PT.meet (y4_m3, y6_m3, y1008_m3) hφ (j3 rfl rfl rfl) (j3 rfl rfl rfl)
 ·rintro ⟨y4_k2, y6_k2, y1008_k2⟩ hφ
  subst hk2
  refine Q0 (σ' := ⟨[(4, .ptr 4 (Lens.id (α := Mk.Machine))), (6, .ptr 6 (Lens.id (α := Mk.Machine))), (8, .sl 1008)], [(4, .var (y4_k2) []), (6, .var (y6_k2) []), (1008, .arr 36 (y1008_k2))]⟩) (j3 rfl rfl rfl) (j3 rfl rfl rfl) ?_
  refine Q2 (Q1 ?_)
  refine O5 (ox4 t43) (.one rfl) (.one rfl) rfl <| O5 (ox0 .tmp) (.one rfl) .nil rfl <| O2 rfl rfl (ox5 t43 .tmp) (.cons rfl (.one rfl)) (.one rfl) <| O5 (ox1 .tmp) (.one rfl) .nil rfl <| O1 <| Q0 (σ' := ⟨[(4, _), (5, _)], [(4, .var (y6_k2) []), (1008, _)]⟩) (j2 rfl rfl) (j2 rfl rfl) ?_
  refine Q5 ?_
  refine PT.freeze 1008 [5] rfl (j1 rfl) ?_
  obtain rfl := Option.some.inj hφ
  exact Q6 hw0 rfl (.cell t43 rfl rfl (.tmp rfl rfl .nil)) rfl
end Go.Gx
end
section
namespace Go.Gx
open Sp
theorem c_mkref1_SameCalls {a0 : List Mk.Call} {a1 : List Mk.Call} {r : Bool} (hφ : mkref1_SameCalls a0 a1 = some r) : Fn Go.Proofs.Try.prog 108 [.val a0, .val a1] (.val r) := by
 unfold mkref1_SameCalls at hφ
 refine Fn.mk' Go.Proofs.Try.func108 rfl (by decide) rfl rfl rfl (fun w0 hw0 => ?_)
 refine Q2 (Q1 ?_)
 refine O5 (ox1 .bool) .nil .nil rfl <| O1 <| Q0 (σ' := ⟨[(0, .val (a0)), (1, .val (a1))], []⟩) (j2 rfl rfl) trivial ?_
 refine Q2 ?_
 refine Q2 (Q1 ?_)
 refine O5 (ox0 .tmp) (.one rfl) .nil rfl <| O5 (ox_len s59 .tmp) (.one rfl) .nil rfl <| O5 (ox0 .tmp) (.one rfl) .nil rfl <| O5 (ox_len s59 .tmp) (.one rfl) .nil rfl <| O5 (ox_neq .tmp .tmp) (.app (.one rfl) (.one rfl)) .nil rfl <| O1 <| Q0 (σ' := ⟨[(0, _), (1, _), (10, .val (!decide ((a0.length : Int) = (a1.length : Int))))], []⟩) (j3 rfl rfl rfl) trivial ?_
 refine Q3 _ rfl (fun hc1 => ?_) (fun hc1 => ?_)
 ·replace hφ := if_then hφ hc1
  refine Q0 (σ' := ⟨[], []⟩) trivial trivial ?_
  refine Q2 (Q1 ?_)
  refine O5 (ox1 .bool) .nil .nil rfl <| O1 <| Q0 (σ' := ⟨[(4, .val (false))], []⟩) (j1 rfl) trivial ?_
  refine Q5 ?_
  obtain rfl := Option.some.inj hφ
  exact Q6 hw0 rfl (.tmp rfl rfl .nil) rfl
 ·replace hφ := if_else hφ hc1
  refine Q0 (σ' := ⟨[(0, _), (1, _)], []⟩) (j2 rfl rfl) trivial ?_
  refine Q4 ?_
  obtain ⟨k2, hk2, hφ⟩ := J_some hφ
  refine PT.cut (ι := Unit) (fun p => ⟨[], []⟩) (fun p => k2 () = some r) ?_ ?_
  ·skip
   refine Q2 (Q1 ?_)
   refine O5 (ox0 .tmp) (.one rfl) .nil rfl <| O5 (ox_len s59 .tmp) (.one rfl) .nil rfl <| O5 (ox0 .int) .nil .nil rfl <| O1 <| Q0 (σ' := ⟨[(0, _), (1, _), (12, .val (a0.length : Int)), (13, .val (0 : Int))], []⟩) (j4 rfl rfl rfl rfl) trivial ?_
   refine PT.block ?_
   refine PT.loop (ι := Nat × (List Mk.Call) × (List Mk.Call) × Int × Int) (fun p => ⟨[(0, .val (p.2.1)), (1, .val (p.2.2.1)), (12, .val (p.2.2.2.1)), (13, .val (p.2.2.2.2))], []⟩) (fun p => mkref1_SameCalls_l1 k2 p.1 (p.2.1) (p.2.2.1) (p.2.2.2.1) (p.2.2.2.2) = some r) (fun p => p.1) (((a0.length : Int) - (0 : Int)).toNat + 1, a0, a1, (a0.length : Int), (0 : Int)) hφ (j4 rfl rfl rfl rfl) trivial ?_
   rintro ⟨m3, x0_m3, x1_m3, x12_m3, x13_m3⟩ (hφ : mkref1_SameCalls_l1 k2 m3 x0_m3 x1_m3 x12_m3 x13_m3 = some r)
   obtain _ | m3 := m3
   ·exact (none_no hφ).elim
   rw [mkref1_SameCalls_l1.eq_2] at hφ
   refine Q0 (σ' := ⟨[(0, .val (x0_m3)), (1, .val (x1_m3)), (12, .val (x12_m3)), (13, .val (x13_m3))], []⟩) (j4 rfl rfl rfl rfl) trivial ?_
   refine Q2 (Q1 ?_)
   refine O5 (ox_lss .tmp .tmp) (.app (.one rfl) (.one rfl)) .nil rfl <| O1 <| Q0 (σ' := ⟨[(0, _), (1, _), (12, _), (13, _), (14, .val (decide (x13_m3 < x12_m3)))], []⟩) (j5 rfl rfl rfl rfl rfl) trivial ?_
   refine Q2 ?_
   refine Q3 _ rfl (fun hc4 => ?_) (fun hc4 => ?_)
   ·replace hφ := if_then hφ hc4
    refine Q0 (σ' := ⟨[(0, _), (1, _), (12, _), (13, _)], []⟩) (j4 rfl rfl rfl rfl) trivial ?_
    refine Q4 ?_
    refine Q2 ?_
    refine PT.block ?_
    refine Q2 (Q1 ?_)
    refine O5 (ox0 .tmp) (.one rfl) .nil rfl <| O5 (ox1 .tmp) (.one rfl) .nil rfl <| O1 <| Q0 (σ' := ⟨[(0, _), (1, _), (5, .val (x13_m3)), (12, _), (13, _)], []⟩) (j5 rfl rfl rfl rfl rfl) trivial ?_
    refine Q2 ?_
    obtain ⟨hb5, hφ⟩ := G_some hφ
    obtain ⟨hb6, hφ⟩ := G_some hφ
    refine Q8 hMixed (
      .cons (S5 (ox0 .tmp)) ⟨.one rfl, .nil⟩ (by kernel_rfl) rfl <|
      .cons (S5 (ox0 .tmp)) ⟨.one rfl, .nil⟩ (by kernel_rfl) rfl <|
      .cons (S5 (ox_ix s59 .tmp .tmp hb5.1 hb5.2)) ⟨(.app (.one rfl) (.one rfl)), .nil⟩ (by kernel_rfl) rfl <|
      .cons (S5 (ox_load_elem t33)) ⟨.one rfl, .nil⟩ (by kernel_rfl) rfl <|
      .cons (S5 (ox0 .tmp)) ⟨.one rfl, .nil⟩ (by kernel_rfl) rfl <|
      .cons (S5 (ox0 .tmp)) ⟨.one rfl, .nil⟩ (by kernel_rfl) rfl <|
      .cons (S5 (ox_ix s59 .tmp .tmp hb6.1 hb6.2)) ⟨(.app (.one rfl) (.one rfl)), .nil⟩ (by kernel_rfl) rfl <|
      .cons (S5 (ox_load_elem t33)) ⟨.one rfl, .nil⟩ (by kernel_rfl) rfl <|
      .cons (S5 (ox_neqT e33 .tmp .tmp)) ⟨(.app (.one rfl) (.one rfl)), .nil⟩ (by kernel_rfl) rfl <|
      .nil) _ [[], [], [0, 1], [0, 1, 2], [], [], [4, 5], [4, 5, 6], [0, 1, 2, 3, 4, 5, 6, 7]] rfl (by kernel_rfl) (by kernel_rfl) ?_
    refine Q0 (σ' := ⟨[(0, _), (1, _), (12, _), (13, _), (24, .val (!decide ((ix x0_m3 x13_m3) = (ix x1_m3 x13_m3))))], []⟩) (j5 rfl rfl rfl rfl rfl) trivial ?_
    refine Q3 _ rfl (fun hc7 => ?_) (fun hc7 => ?_)
    ·replace hφ := if_then hφ hc7
     refine Q0 (σ' := ⟨[], []⟩) trivial trivial ?_
     refine Q2 (Q1 ?_)
     refine O5 (ox1 .bool) .nil .nil rfl <| O1 <| Q0 (σ' := ⟨[(4, .val (false))], []⟩) (j1 rfl) trivial ?_
     refine Q5 ?_
     obtain rfl := Option.some.inj hφ
     exact Q6 hw0 rfl (.tmp rfl rfl .nil) rfl
    ·replace hφ := if_else hφ hc7
     refine Q0 (σ' := ⟨[(0, _), (1, _), (12, _), (13, _)], []⟩) (j4 rfl rfl rfl rfl) trivial ?_
     refine Q4 ?_
     obtain ⟨hb8, hφ⟩ := G_some hφ
     refine Q1 ?_
     refine O5 (ox_add .tmp .int hb8) (.app (.one rfl) .nil) .nil rfl <| O5 (ox0 .tmp) (.one rfl) .nil rfl <| O1 <| Q0 (σ' := ⟨[(0, _), (1, _), (12, _), (13, .val (x13_m3 + (1 : Int)))], []⟩) (j4 rfl rfl rfl rfl) trivial ?_
     exact PT.next (m3, x0_m3, x1_m3, x12_m3, (x13_m3 + (1 : Int))) hφ (Nat.lt_succ_self _) (j4 rfl rfl rfl rfl) trivial
   ·replace hφ := if_else hφ hc4
    refine Q0 (σ' := ⟨[], []⟩) trivial trivial ?_
    refine PT.exit ?_
    exact PT.meet () hφ trivial trivial
  ·rintro ⟨⟩ hφ
   subst hk2
   refine Q0 (σ' := ⟨[], []⟩) trivial trivial ?_
   refine Q2 (Q1 ?_)
   refine O5 (ox1 .bool) .nil .nil rfl <| O1 <| Q0 (σ' := ⟨[(4, .val (true))], []⟩) (j1 rfl) trivial ?_
   refine Q5 ?_
   obtain rfl := Option.some.inj hφ
   exact Q6 hw0 rfl (.tmp rfl rfl .nil) rfl
theorem c_mkref6_SameBytes {a0 : List (List UInt8)} {a1 : List (List UInt8)} {r : Bool} (hφ : mkref6_SameBytes a0 a1 = some r) : Fn Go.Proofs.Try.prog 61 [.val a0, .val a1] (.val r) := by
 unfold mkref6_SameBytes at hφ
 refine Fn.mk' Go.Proofs.Try.func61 rfl (by decide) rfl rfl rfl (fun w0 hw0 => ?_)
 refine Q2 (Q1 ?_)
 refine O5 (ox1 .bool) .nil .nil rfl <| O1 <| Q0 (σ' := ⟨[(0, .val (a0)), (1, .val (a1))], []⟩) (j2 rfl rfl) trivial ?_
 refine Q2 ?_
 refine Q2 (Q1 ?_)
 refine O5 (ox0 .tmp) (.one rfl) .nil rfl <| O5 (ox_len s31 .tmp) (.one rfl) .nil rfl <| O5 (ox0 .tmp) (.one rfl) .nil rfl <| O5 (ox_len s31 .tmp) (.one rfl) .nil rfl <| O5 (ox_neq .tmp .tmp) (.app (.one rfl) (.one rfl)) .nil rfl <| O1 <| Q0 (σ' := ⟨[(0, _), (1, _), (10, .val (!decide ((a0.length : Int) = (a1.length : Int))))], []⟩) (j3 rfl rfl rfl) trivial ?_
 refine Q3 _ rfl (fun hc1 => ?_) (fun hc1 => ?_)
 ·replace hφ := if_then hφ hc1
  refine Q0 (σ' := ⟨[], []⟩) trivial trivial ?_
  refine Q2 (Q1 ?_)
  refine O5 (ox1 .bool) .nil .nil rfl <| O1 <| Q0 (σ' := ⟨[(4, .val (false))], []⟩) (j1 rfl) trivial ?_
  refine Q5 ?_
  obtain rfl := Option.some.inj hφ
  exact Q6 hw0 rfl (.tmp rfl rfl .nil) rfl
 ·replace hφ := if_else hφ hc1
  refine Q0 (σ' := ⟨[(0, _), (1, _)], []⟩) (j2 rfl rfl) trivial ?_
  refine Q4 ?_
  obtain ⟨k2, hk2, hφ⟩ := J_some hφ
  refine PT.cut (ι := Unit) (fun p => ⟨[], []⟩) (fun p => k2 () = some r) ?_ ?_
  ·skip
   refine Q2 (Q1 ?_)
   refine O5 (ox0 .tmp) (.one rfl) .nil rfl <| O5 (ox_len s31 .tmp) (.one rfl) .nil rfl <| O5 (ox0 .int) .nil .nil rfl <| O1 <| Q0 (σ' := ⟨[(0, _), (1, _), (12, .val (a0.length : Int)), (13, .val (0 : Int))], []⟩) (j4 rfl rfl rfl rfl) trivial ?_
   refine PT.block ?_
   refine PT.loop (ι := Nat × (List (List UInt8)) × (List (List UInt8)) × Int × Int) (fun p => ⟨[(0, .val (p.2.1)), (1, .val (p.2.2.1)), (12, .val (p.2.2.2.1)), (13, .val (p.2.2.2.2))], []⟩) (fun p => mkref6_SameBytes_l1 k2 p.1 (p.2.1) (p.2.2.1) (p.2.2.2.1) (p.2.2.2.2) = some r) (fun p => p.1) (((a0.length : Int) - (0 : Int)).toNat + 1, a0, a1, (a0.length : Int), (0 : Int)) hφ (j4 rfl rfl rfl rfl) trivial ?_
   rintro ⟨m3, x0_m3, x1_m3, x12_m3, x13_m3⟩ (hφ : mkref6_SameBytes_l1 k2 m3 x0_m3 x1_m3 x12_m3 x13_m3 = some r)
   obtain _ | m3 := m3
   ·exact (none_no hφ).elim
   rw [mkref6_SameBytes_l1.eq_2] at hφ
   refine Q0 (σ' := ⟨[(0, .val (x0_m3)), (1, .val (x1_m3)), (12, .val (x12_m3)), (13, .val (x13_m3))], []⟩) (j4 rfl rfl rfl rfl) trivial ?_
   refine Q2 (Q1 ?_)
   refine O5 (ox_lss .tmp .tmp) (.app (.one rfl) (.one rfl)) .nil rfl <| O1 <| Q0 (σ' := ⟨[(0, _), (1, _), (12, _), (13, _), (14, .val (decide (x13_m3 < x12_m3)))], []⟩) (j5 rfl rfl rfl rfl rfl) trivial ?_
   refine Q2 ?_
   refine Q3 _ rfl (fun hc4 => ?_) (fun hc4 => ?_)
   ·replace hφ := if_then hφ hc4
    refine Q0 (σ' := ⟨[(0, _), (1, _), (12, _), (13, _)], []⟩) (j4 rfl rfl rfl rfl) trivial ?_
    refine Q4 ?_
    refine Q2 ?_
    refine PT.block ?_
    refine Q2 (Q1 ?_)
    refine O5 (ox0 .tmp) (.one rfl) .nil rfl <| O5 (ox1 .tmp) (.one rfl) .nil rfl <| O1 <| Q0 (σ' := ⟨[(0, _), (1, _), (5, .val (x13_m3)), (12, _), (13, _)], []⟩) (j5 rfl rfl rfl rfl rfl) trivial ?_
    refine Q2 ?_
    obtain ⟨hb5, hφ⟩ := G_some hφ
    obtain ⟨hb6, hφ⟩ := G_some hφ
    refine Q8 hMixed (
      .cons (S5 (ox0 .tmp)) ⟨.one rfl, .nil⟩ (by kernel_rfl) rfl <|
      .cons (S5 (ox0 .tmp)) ⟨.one rfl, .nil⟩ (by kernel_rfl) rfl <|
      .cons (S5 (ox_ix s31 .tmp .tmp hb5.1 hb5.2)) ⟨(.app (.one rfl) (.one rfl)), .nil⟩ (by kernel_rfl) rfl <|
      .cons (S5 (ox_load_elem t63)) ⟨.one rfl, .nil⟩ (by kernel_rfl) rfl <|
      .cons (S5 (ox_bts (e := 5) (by kernel_rfl) .tmp)) ⟨.one rfl, .nil⟩ (by kernel_rfl) rfl <|
      .cons (S5 (ox0 .tmp)) ⟨.one rfl, .nil⟩ (by kernel_rfl) rfl <|
      .cons (S5 (ox0 .tmp)) ⟨.one rfl, .nil⟩ (by kernel_rfl) rfl <|
      .cons (S5 (ox_ix s31 .tmp .tmp hb6.1 hb6.2)) ⟨(.app (.one rfl) (.one rfl)), .nil⟩ (by kernel_rfl) rfl <|
      .cons (S5 (ox_load_elem t63)) ⟨.one rfl, .nil⟩ (by kernel_rfl) rfl <|
      .cons (S5 (ox_bts (e := 5) (by kernel_rfl) .tmp)) ⟨.one rfl, .nil⟩ (by kernel_rfl) rfl <|
      .cons (S5 (ox_neqStr .tmp .tmp)) ⟨(.app (.one rfl) (.one rfl)), .nil⟩ (by kernel_rfl) rfl <|
      .nil) _ [[], [], [0, 1], [0, 1, 2], [0, 1, 2, 3], [], [], [5, 6], [5, 6, 7], [5, 6, 7, 8], [0, 1, 2, 3, 4, 5, 6, 7, 8, 9]] rfl (by kernel_rfl) (by kernel_rfl) ?_
    refine Q0 (σ' := ⟨[(0, _), (1, _), (12, _), (13, _), (26, .val (!decide ((bts (ix x0_m3 x13_m3)) = (bts (ix x1_m3 x13_m3)))))], []⟩) (j5 rfl rfl rfl rfl rfl) trivial ?_
    refine Q3 _ rfl (fun hc7 => ?_) (fun hc7 => ?_)
    ·replace hφ := if_then hφ hc7
     refine Q0 (σ' := ⟨[], []⟩) trivial trivial ?_
     refine Q2 (Q1 ?_)
     refine O5 (ox1 .bool) .nil .nil rfl <| O1 <| Q0 (σ' := ⟨[(4, .val (false))], []⟩) (j1 rfl) trivial ?_
     refine Q5 ?_
     obtain rfl := Option.some.inj hφ
     exact Q6 hw0 rfl (.tmp rfl rfl .nil) rfl
    ·replace hφ := if_else hφ hc7
     refine Q0 (σ' := ⟨[(0, _), (1, _), (12, _), (13, _)], []⟩) (j4 rfl rfl rfl rfl) trivial ?_
     refine Q4 ?_
     obtain ⟨hb8, hφ⟩ := G_some hφ
     refine Q1 ?_
     refine O5 (ox_add .tmp .int hb8) (.app (.one rfl) .nil) .nil rfl <| O5 (ox0 .tmp) (.one rfl) .nil rfl <| O1 <| Q0 (σ' := ⟨[(0, _), (1, _), (12, _), (13, .val (x13_m3 + (1 : Int)))], []⟩) (j4 rfl rfl rfl rfl) trivial ?_
     exact PT.next (m3, x0_m3, x1_m3, x12_m3, (x13_m3 + (1 : Int))) hφ (Nat.lt_succ_self _) (j4 rfl rfl rfl rfl) trivial
   ·replace hφ := if_else hφ hc4
    refine Q0 (σ' := ⟨[], []⟩) trivial trivial ?_
    refine PT.exit ?_
    exact PT.meet () hφ trivial trivial
  ·rintro ⟨⟩ hφ
   subst hk2
   refine Q0 (σ' := ⟨[], []⟩) trivial trivial ?_
   refine Q2 (Q1 ?_)
   refine O5 (ox1 .bool) .nil .nil rfl <| O1 <| Q0 (σ' := ⟨[(4, .val (true))], []⟩) (j1 rfl) trivial ?_
   refine Q5 ?_
   obtain rfl := Option.some.inj hφ
   exact Q6 hw0 rfl (.tmp rfl rfl .nil) rfl
theorem c_mkref6_SameReplies {a0 : List Mk.Reply} {a1 : List Mk.Reply} {r : Bool} (hφ : mkref6_SameReplies a0 a1 = some r) : Fn Go.Proofs.Try.prog 20 [.val a0, .val a1] (.val r) := by
 unfold mkref6_SameReplies at hφ
 refine Fn.mk' Go.Proofs.Try.func20 rfl (by decide) rfl rfl rfl (fun w0 hw0 => ?_)
 refine Q2 (Q1 ?_)
 refine O5 (ox1 .bool) .nil .nil rfl <| O1 <| Q0 (σ' := ⟨[(0, .val (a0)), (1, .val (a1))], []⟩) (j2 rfl rfl) trivial ?_
 refine Q2 ?_
 refine Q2 (Q1 ?_)
 refine O5 (ox0 .tmp) (.one rfl) .nil rfl <| O5 (ox_len s47 .tmp) (.one rfl) .nil rfl <| O5 (ox0 .tmp) (.one rfl) .nil rfl <| O5 (ox_len s47 .tmp) (.one rfl) .nil rfl <| O5 (ox_neq .tmp .tmp) (.app (.one rfl) (.one rfl)) .nil rfl <| O1 <| Q0 (σ' := ⟨[(0, _), (1, _), (10, .val (!decide ((a0.length : Int) = (a1.length : Int))))], []⟩) (j3 rfl rfl rfl) trivial ?_
 refine Q3 _ rfl (fun hc1 => ?_) (fun hc1 => ?_)
 ·replace hφ := if_then hφ hc1
  refine Q0 (σ' := ⟨[], []⟩) trivial trivial ?_
  refine Q2 (Q1 ?_)
  refine O5 (ox1 .bool) .nil .nil rfl <| O1 <| Q0 (σ' := ⟨[(4, .val (false))], []⟩) (j1 rfl) trivial ?_
  refine Q5 ?_
  obtain rfl := Option.some.inj hφ
  exact Q6 hw0 rfl (.tmp rfl rfl .nil) rfl
 ·replace hφ := if_else hφ hc1
  refine Q0 (σ' := ⟨[(0, _), (1, _)], []⟩) (j2 rfl rfl) trivial ?_
  refine Q4 ?_
  obtain ⟨k2, hk2, hφ⟩ := J_some hφ
  refine PT.cut (ι := Unit) (fun p => ⟨[], []⟩) (fun p => k2 () = some r) ?_ ?_
  ·skip
   refine Q2 (Q1 ?_)
   refine O5 (ox0 .tmp) (.one rfl) .nil rfl <| O5 (ox_len s47 .tmp) (.one rfl) .nil rfl <| O5 (ox0 .int) .nil .nil rfl <| O1 <| Q0 (σ' := ⟨[(0, _), (1, _), (12, .val (a0.length : Int)), (13, .val (0 : Int))], []⟩) (j4 rfl rfl rfl rfl) trivial ?_
   refine PT.block ?_
   refine PT.loop (ι := Nat × (List Mk.Reply) × (List Mk.Reply) × Int × Int) (fun p => ⟨[(0, .val (p.2.1)), (1, .val (p.2.2.1)), (12, .val (p.2.2.2.1)), (13, .val (p.2.2.2.2))], []⟩) (fun p => mkref6_SameReplies_l1 k2 p.1 (p.2.1) (p.2.2.1) (p.2.2.2.1) (p.2.2.2.2) = some r) (fun p => p.1) (((a0.length : Int) - (0 : Int)).toNat + 1, a0, a1, (a0.length : Int), (0 : Int)) hφ (j4 rfl rfl rfl rfl) trivial ?_
   rintro ⟨m3, x0_m3, x1_m3, x12_m3, x13_m3⟩ (hφ : mkref6_SameReplies_l1 k2 m3 x0_m3 x1_m3 x12_m3 x13_m3 = some r)
   obtain _ | m3 := m3
   ·exact (none_no hφ).elim
   rw [mkref6_SameReplies_l1.eq_2] at hφ
   refine Q0 (σ' := ⟨[(0, .val (x0_m3)), (1, .val (x1_m3)), (12, .val (x12_m3)), (13, .val (x13_m3))], []⟩) (j4 rfl rfl rfl rfl) trivial ?_
   refine Q2 (Q1 ?_)
   refine O5 (ox_lss .tmp .tmp) (.app (.one rfl) (.one rfl)) .nil rfl <| O1 <| Q0 (σ' := ⟨[(0, _), (1, _), (12, _), (13, _), (14, .val (decide (x13_m3 < x12_m3)))], []⟩) (j5 rfl rfl rfl rfl rfl) trivial ?_
   refine Q2 ?_
   refine Q3 _ rfl (fun hc4 => ?_) (fun hc4 => ?_)
   ·replace hφ := if_then hφ hc4
    refine Q0 (σ' := ⟨[(0, _), (1, _), (12, _), (13, _)], []⟩) (j4 rfl rfl rfl rfl) trivial ?_
    refine Q4 ?_
    refine Q2 ?_
    refine PT.block ?_
    refine Q2 (Q1 ?_)
    refine O5 (ox0 .tmp) (.one rfl) .nil rfl <| O5 (ox1 .tmp) (.one rfl) .nil rfl <| O1 <| Q0 (σ' := ⟨[(0, _), (1, _), (5, .val (x13_m3)), (12, _), (13, _)], []⟩) (j5 rfl rfl rfl rfl rfl) trivial ?_
    refine Q2 ?_
    obtain ⟨hb5, hφ⟩ := G_some hφ
    obtain ⟨hb6, hφ⟩ := G_some hφ
    refine Q8 hMixed (
      .cons (S5 (ox0 .tmp)) ⟨.one rfl, .nil⟩ (by kernel_rfl) rfl <|
      .cons (S5 (ox0 .tmp)) ⟨.one rfl, .nil⟩ (by kernel_rfl) rfl <|
      .cons (S5 (ox_ix s47 .tmp .tmp hb5.1 hb5.2)) ⟨(.app (.one rfl) (.one rfl)), .nil⟩ (by kernel_rfl) rfl <|
      .cons (S5 (ox_load_elem t38)) ⟨.one rfl, .nil⟩ (by kernel_rfl) rfl <|
      .cons (S5 (ox0 .tmp)) ⟨.one rfl, .nil⟩ (by kernel_rfl) rfl <|
      .cons (S5 (ox0 .tmp)) ⟨.one rfl, .nil⟩ (by kernel_rfl) rfl <|
      .cons (S5 (ox_ix s47 .tmp .tmp hb6.1 hb6.2)) ⟨(.app (.one rfl) (.one rfl)), .nil⟩ (by kernel_rfl) rfl <|
      .cons (S5 (ox_load_elem t38)) ⟨.one rfl, .nil⟩ (by kernel_rfl) rfl <|
      .cons (S5 (ox_neqT e38 .tmp .tmp)) ⟨(.app (.one rfl) (.one rfl)), .nil⟩ (by kernel_rfl) rfl <|
      .nil) _ [[], [], [0, 1], [0, 1, 2], [], [], [4, 5], [4, 5, 6], [0, 1, 2, 3, 4, 5, 6, 7]] rfl (by kernel_rfl) (by kernel_rfl) ?_
    refine Q0 (σ' := ⟨[(0, _), (1, _), (12, _), (13, _), (24, .val (!decide ((ix x0_m3 x13_m3) = (ix x1_m3 x13_m3))))], []⟩) (j5 rfl rfl rfl rfl rfl) trivial ?_
    refine Q3 _ rfl (fun hc7 => ?_) (fun hc7 => ?_)
    ·replace hφ := if_then hφ hc7
     refine Q0 (σ' := ⟨[], []⟩) trivial trivial ?_
     refine Q2 (Q1 ?_)
     refine O5 (ox1 .bool) .nil .nil rfl <| O1 <| Q0 (σ' := ⟨[(4, .val (false))], []⟩) (j1 rfl) trivial ?_
     refine Q5 ?_
     obtain rfl := Option.some.inj hφ
     exact Q6 hw0 rfl (.tmp rfl rfl .nil) rfl
    ·replace hφ := if_else hφ hc7
     refine Q0 (σ' := ⟨[(0, _), (1, _), (12, _), (13, _)], []⟩) (j4 rfl rfl rfl rfl) trivial ?_
     refine Q4 ?_
     obtain ⟨hb8, hφ⟩ := G_some hφ
     refine Q1 ?_
     refine O5 (ox_add .tmp .int hb8) (.app (.one rfl) .nil) .nil rfl <| O5 (ox0 .tmp) (.one rfl) .nil rfl <| O1 <| Q0 (σ' := ⟨[(0, _), (1, _), (12, _), (13, .val (x13_m3 + (1 : Int)))], []⟩) (j4 rfl rfl rfl rfl) trivial ?_
     exact PT.next (m3, x0_m3, x1_m3, x12_m3, (x13_m3 + (1 : Int))) hφ (Nat.lt_succ_self _) (j4 rfl rfl rfl rfl) trivial
   ·replace hφ := if_else hφ hc4
    refine Q0 (σ' := ⟨[], []⟩) trivial trivial ?_
    refine PT.exit ?_
    exact PT.meet () hφ trivial trivial
  ·rintro ⟨⟩ hφ
   subst hk2
   refine Q0 (σ' := ⟨[], []⟩) trivial trivial ?_
   refine Q2 (Q1 ?_)
   refine O5 (ox1 .bool) .nil .nil rfl <| O1 <| Q0 (σ' := ⟨[(4, .val (true))], []⟩) (j1 rfl) trivial ?_
   refine Q5 ?_
   obtain rfl := Option.some.inj hφ
   exact Q6 hw0 rfl (.tmp rfl rfl .nil) rfl
theorem c_mkref6_SameClient {a0 : Mk.Client} {a1 : Mk.Client} {r : Bool} (hφ : mkref6_SameClient a0 a1 = some r) : Fn Go.Proofs.Try.prog 82 [.val a0, .val a1] (.val r) := by
 unfold mkref6_SameClient at hφ
 refine Fn.mk' Go.Proofs.Try.func82 rfl (by decide) rfl rfl rfl (fun w0 hw0 => ?_)
 refine Q2 (Q1 ?_)
 refine O3 rfl rfl (ox_box (id := 2) .tmp) (.one rfl) .nil rfl (by kernel_rfl) <| O3 rfl rfl (ox_box (id := 3) .tmp) (.one rfl) .nil rfl (by kernel_rfl) <| O5 (ox1 .bool) .nil .nil rfl <| O1 <| Q0 (σ' := ⟨[(2, _), (3, _)], [(2, .var (a0) []), (3, .var (a1) [])]⟩) (j2 rfl rfl) (j2 rfl rfl) ?_
 refine Q2 ?_
 obtain ⟨v1, hv1, hφ⟩ := B_some hφ
 obtain ⟨v2, hv2, hφ⟩ := B_some hφ
 obtain ⟨v3, hv3, hφ⟩ := B_some hφ
 refine Q1 ?_
 refine O5 (ox3 Client_Calls f61_0) (.one rfl) .nil rfl <| O5 (ox2 t59) (.one rfl) (.one rfl) rfl <| O5 (ox3 Client_Calls f61_0) (.one rfl) .nil rfl <| O5 (ox2 t59) (.one rfl) (.one rfl) rfl <| O5 (ox_call (c_mkref1_SameCalls hv1) (.cons .tmp (.cons .tmp .nil))) (.app (.one rfl) (.app (.one rfl) .nil)) .nil rfl <| O5 (ox0 .tmp) (.one rfl) .nil rfl ?_
 refine O4 rfl rfl rfl rfl (.plain .nil) (fun hG => (ox3 Client_At f61_1)) (j1 rfl) .nil rfl <| O4 rfl rfl rfl rfl (.cond (fun h => h) .nil) (fun hG => (ox2 t3)) (j1 rfl) (.one rfl) rfl <| O4 rfl rfl rfl rfl (.plain .nil) (fun hG => (ox3 Client_At f61_1)) (j1 rfl) .nil rfl <| O4 rfl rfl rfl rfl (.cond (fun h => h) .nil) (fun hG => (ox2 t3)) (j1 rfl) (.one rfl) rfl <| O4 rfl rfl rfl rfl (.cond (fun h => h) (.cond (fun h => h) .nil)) (fun hG => (ox_eql .tmp .tmp)) (j2 rfl rfl) .nil rfl <| O5 ox8 (j2 rfl rfl) .nil rfl ?_
 refine O5 (ox0 .tmp) (.one rfl) .nil rfl <| O4 rfl rfl rfl rfl (.plain .nil) (fun hG => (ox3 Client_Sent f61_2)) (j1 rfl) .nil rfl <| O4 rfl rfl rfl rfl (.cond (fun h => h) .nil) (fun hG => (ox2 t4)) (j1 rfl) (.one rfl) rfl <| O4 rfl rfl rfl rfl (.plain .nil) (fun hG => (ox3 Client_Sent f61_2)) (j1 rfl) .nil rfl <| O4 rfl rfl rfl rfl (.cond (fun h => h) .nil) (fun hG => (ox2 t4)) (j1 rfl) (.one rfl) rfl <| O4 rfl rfl rfl rfl (.cond (fun h => h) (.cond (fun h => h) .nil)) (fun hG => (ox_eqlB e4 .tmp .tmp)) (j2 rfl rfl) .nil rfl ?_
 refine O5 ox8 (j2 rfl rfl) .nil rfl <| O5 (ox0 .tmp) (.one rfl) .nil rfl <| O4 rfl rfl rfl rfl (.plain .nil) (fun hG => (ox3 Client_Gen f61_3)) (j1 rfl) .nil rfl <| O4 rfl rfl rfl rfl (.cond (fun h => h) .nil) (fun hG => (ox2 t3)) (j1 rfl) (.one rfl) rfl <| O4 rfl rfl rfl rfl (.plain .nil) (fun hG => (ox3 Client_Gen f61_3)) (j1 rfl) .nil rfl <| O4 rfl rfl rfl rfl (.cond (fun h => h) .nil) (fun hG => (ox2 t3)) (j1 rfl) (.one rfl) rfl ?_
 refine O4 rfl rfl rfl rfl (.cond (fun h => h) (.cond (fun h => h) .nil)) (fun hG => (ox_eql .tmp .tmp)) (j2 rfl rfl) .nil rfl <| O5 ox8 (j2 rfl rfl) .nil rfl <| O5 (ox0 .tmp) (.one rfl) .nil rfl <| O4 rfl rfl rfl rfl (.plain .nil) (fun hG => (ox3 Client_Box f61_4)) (j1 rfl) .nil rfl <| O4 rfl rfl rfl rfl (.cond (fun h => h) .nil) (fun hG => (ox2 t31)) (j1 rfl) (.one rfl) rfl <| O4 rfl rfl rfl rfl (.plain .nil) (fun hG => (ox3 Client_Box f61_4)) (j1 rfl) .nil rfl ?_
 refine O4 rfl rfl rfl rfl (.cond (fun h => h) .nil) (fun hG => (ox2 t31)) (j1 rfl) (.one rfl) rfl <| O4 rfl rfl rfl rfl (.cond (fun h => h) (.cond (fun h => h) .nil)) (fun hG => (ox_call (c_mkref6_SameBytes (Cn_on hv2 hG)) (.cons .tmp (.cons .tmp .nil)))) (j2 rfl rfl) .nil rfl <| O5 ox8 (j2 rfl rfl) .nil rfl <| O5 (ox0 .tmp) (.one rfl) .nil rfl <| O4 rfl rfl rfl rfl (.plain .nil) (fun hG => (ox3 Client_Got f61_5)) (j1 rfl) .nil rfl <| O4 rfl rfl rfl rfl (.cond (fun h => h) .nil) (fun hG => (ox2 t47)) (j1 rfl) (.one rfl) rfl ?_
 refine O4 rfl rfl rfl rfl (.plain .nil) (fun hG => (ox3 Client_Got f61_5)) (j1 rfl) .nil rfl <| O4 rfl rfl rfl rfl (.cond (fun h => h) .nil) (fun hG => (ox2 t47)) (j1 rfl) (.one rfl) rfl <| O4 rfl rfl rfl rfl (.cond (fun h => h) (.cond (fun h => h) .nil)) (fun hG => (ox_call (c_mkref6_SameReplies (Cn_on hv3 hG)) (.cons .tmp (.cons .tmp .nil)))) (j2 rfl rfl) .nil rfl <| O5 ox8 (j2 rfl rfl) .nil rfl <| O5 (ox1 .tmp) (.one rfl) .nil rfl <| O1 <| Q0 (σ' := ⟨[(4, .val ((((((v1 && (decide (a0.At = a1.At))) && (decide (a0.Sent = a1.Sent))) && (decide (a0.Gen = a1.Gen))) && v2) && v3)))], []⟩) (j1 rfl) trivial ?_
 refine Q5 ?_
 obtain rfl := Option.some.inj hφ
 exact Q6 hw0 rfl (.tmp rfl rfl .nil) rfl
theorem c_mkref6_SameServer {a0 : Mk.Server} {a1 : Mk.Server} {r : Bool} (hφ : mkref6_SameServer a0 a1 = some r) : Fn Go.Proofs.Try.prog 31 [.val a0, .val a1] (.val r) := by
 unfold mkref6_SameServer at hφ
 refine Fn.mk' Go.Proofs.Try.func31 rfl (by decide) rfl rfl rfl (fun w0 hw0 => ?_)
 refine Q2 (Q1 ?_)
 refine O3 rfl rfl (ox_box (id := 2) .tmp) (.one rfl) .nil rfl (by kernel_rfl) <| O3 rfl rfl (ox_box (id := 3) .tmp) (.one rfl) .nil rfl (by kernel_rfl) <| O5 (ox1 .bool) .nil .nil rfl <| O1 <| Q0 (σ' := ⟨[(2, _), (3, _)], [(2, .var (a0) []), (3, .var (a1) [])]⟩) (j2 rfl rfl) (j2 rfl rfl) ?_
 refine Q2 ?_
 obtain ⟨v1, hv1, hφ⟩ := B_some hφ
 obtain ⟨v2, hv2, hφ⟩ := B_some hφ
 refine Q1 ?_
 refine O5 (ox3 Server_Gen f40_0) (.one rfl) .nil rfl <| O5 (ox2 t3) (.one rfl) (.one rfl) rfl <| O5 (ox3 Server_Gen f40_0) (.one rfl) .nil rfl <| O5 (ox2 t3) (.one rfl) (.one rfl) rfl <| O5 (ox_eql .tmp .tmp) (.app (.one rfl) (.one rfl)) .nil rfl <| O5 (ox0 .tmp) (.one rfl) .nil rfl ?_
 refine O4 rfl rfl rfl rfl (.plain .nil) (fun hG => (ox3 Server_Box f40_1)) (j1 rfl) .nil rfl <| O4 rfl rfl rfl rfl (.cond (fun h => h) .nil) (fun hG => (ox2 t31)) (j1 rfl) (.one rfl) rfl <| O4 rfl rfl rfl rfl (.plain .nil) (fun hG => (ox3 Server_Box f40_1)) (j1 rfl) .nil rfl <| O4 rfl rfl rfl rfl (.cond (fun h => h) .nil) (fun hG => (ox2 t31)) (j1 rfl) (.one rfl) rfl <| O4 rfl rfl rfl rfl (.cond (fun h => h) (.cond (fun h => h) .nil)) (fun hG => (ox_call (c_mkref6_SameBytes (Cn_on hv1 hG)) (.cons .tmp (.cons .tmp .nil)))) (j2 rfl rfl) .nil rfl <| O5 ox8 (j2 rfl rfl) .nil rfl ?_
 refine O5 (ox0 .tmp) (.one rfl) .nil rfl <| O4 rfl rfl rfl rfl (.plain .nil) (fun hG => (ox3 Server_Busy f40_2)) (j1 rfl) .nil rfl <| O4 rfl rfl rfl rfl (.cond (fun h => h) .nil) (fun hG => (ox2 t4)) (j1 rfl) (.one rfl) rfl <| O4 rfl rfl rfl rfl (.plain .nil) (fun hG => (ox3 Server_Busy f40_2)) (j1 rfl) .nil rfl <| O4 rfl rfl rfl rfl (.cond (fun h => h) .nil) (fun hG => (ox2 t4)) (j1 rfl) (.one rfl) rfl <| O4 rfl rfl rfl rfl (.cond (fun h => h) (.cond (fun h => h) .nil)) (fun hG => (ox_eqlB e4 .tmp .tmp)) (j2 rfl rfl) .nil rfl ?_
 refine O5 ox8 (j2 rfl rfl) .nil rfl <| O5 (ox0 .tmp) (.one rfl) .nil rfl <| O4 rfl rfl rfl rfl (.plain .nil) (fun hG => (ox3 Server_Now f40_3)) (j1 rfl) .nil rfl <| O4 rfl rfl rfl rfl (.cond (fun h => h) .nil) (fun hG => (ox2 t35)) (j1 rfl) (.one rfl) rfl <| O4 rfl rfl rfl rfl (.plain .nil) (fun hG => (ox3 Server_Now f40_3)) (j1 rfl) .nil rfl <| O4 rfl rfl rfl rfl (.cond (fun h => h) .nil) (fun hG => (ox2 t35)) (j1 rfl) (.one rfl) rfl ?_
 refine O4 rfl rfl rfl rfl (.cond (fun h => h) (.cond (fun h => h) .nil)) (fun hG => (ox_eqlT e35 .tmp .tmp)) (j2 rfl rfl) .nil rfl <| O5 ox8 (j2 rfl rfl) .nil rfl <| O5 (ox0 .tmp) (.one rfl) .nil rfl <| O4 rfl rfl rfl rfl (.plain .nil) (fun hG => (ox3 Server_Plan f40_4)) (j1 rfl) .nil rfl <| O4 rfl rfl rfl rfl (.cond (fun h => h) .nil) (fun hG => (ox2 t26)) (j1 rfl) (.one rfl) rfl <| O4 rfl rfl rfl rfl (.plain .nil) (fun hG => (ox3 Server_Plan f40_4)) (j1 rfl) .nil rfl ?_
 refine O4 rfl rfl rfl rfl (.cond (fun h => h) .nil) (fun hG => (ox2 t26)) (j1 rfl) (.one rfl) rfl <| O4 rfl rfl rfl rfl (.cond (fun h => h) (.cond (fun h => h) .nil)) (fun hG => (ox_call (c_mkref1_SameWrites (Cn_on hv2 hG)) (.cons .tmp (.cons .tmp .nil)))) (j2 rfl rfl) .nil rfl <| O5 ox8 (j2 rfl rfl) .nil rfl <| O5 (ox0 .tmp) (.one rfl) .nil rfl <| O4 rfl rfl rfl rfl (.plain .nil) (fun hG => (ox3 Server_Says f40_5)) (j1 rfl) .nil rfl <| O4 rfl rfl rfl rfl (.cond (fun h => h) .nil) (fun hG => (ox2 t38)) (j1 rfl) (.one rfl) rfl ?_
 refine O4 rfl rfl rfl rfl (.plain .nil) (fun hG => (ox3 Server_Says f40_5)) (j1 rfl) .nil rfl <| O4 rfl rfl rfl rfl (.cond (fun h => h) .nil) (fun hG => (ox2 t38)) (j1 rfl) (.one rfl) rfl <| O4 rfl rfl rfl rfl (.cond (fun h => h) (.cond (fun h => h) .nil)) (fun hG => (ox_eqlT e38 .tmp .tmp)) (j2 rfl rfl) .nil rfl <| O5 ox8 (j2 rfl rfl) .nil rfl <| O5 (ox1 .tmp) (.one rfl) .nil rfl <| O1 <| Q0 (σ' := ⟨[(4, .val (((((((decide (a0.Gen = a1.Gen)) && v1) && (decide (a0.Busy = a1.Busy))) && (decide (a0.Now = a1.Now))) && v2) && (decide (a0.Says = a1.Says)))))], []⟩) (j1 rfl) trivial ?_
 refine Q5 ?_
 obtain rfl := Option.some.inj hφ
 exact Q6 hw0 rfl (.tmp rfl rfl .nil) rfl
theorem c_mkref6_SameMachine {a0 : Mk.Machine} {a1 : Mk.Machine} {r : Bool} (hφ : mkref6_SameMachine a0 a1 = some r) : Fn Go.Proofs.Try.prog 44 [.val a0, .val a1] (.val r) := by
 unfold mkref6_SameMachine at hφ
 refine Fn.mk' Go.Proofs.Try.func44 rfl (by decide) rfl rfl rfl (fun w0 hw0 => ?_)
 refine Q2 (Q1 ?_)
 refine O3 rfl rfl (ox_box (id := 2) .tmp) (.one rfl) .nil rfl (by kernel_rfl) <| O3 rfl rfl (ox_box (id := 3) .tmp) (.one rfl) .nil rfl (by kernel_rfl) <| O5 (ox1 .bool) .nil .nil rfl <| O1 <| Q0 (σ' := ⟨[(2, _), (3, _)], [(2, .var (a0) []), (3, .var (a1) [])]⟩) (j2 rfl rfl) (j2 rfl rfl) ?_
 refine Q2 (Q2 ?_)
 obtain ⟨v1, hv1, hφ⟩ := B_some hφ
 obtain ⟨v2, hv2, hφ⟩ := B_some hφ
 refine Q1 ?_
 refine O5 (ox3 Machine_Store f43_0) (.one rfl) .nil rfl <| O5 (ox2 t30) (.one rfl) (.one rfl) rfl <| O5 (ox3 Machine_Store f43_0) (.one rfl) .nil rfl <| O5 (ox2 t30) (.one rfl) (.one rfl) rfl <| O5 (ox_call (c_mkref1_SameStore hv1) (.cons .tmp (.cons .tmp .nil))) (.app (.one rfl) (.app (.one rfl) .nil)) .nil rfl <| O5 (ox_not .tmp) (.one rfl) .nil rfl ?_
 refine O5 (ox0 .tmp) (.one rfl) .nil rfl <| O4 rfl rfl rfl rfl (.plain .nil) (fun hG => (ox3 Machine_Server f43_1)) (j1 rfl) .nil rfl <| O4 rfl rfl rfl rfl (.cond (fun h => h) .nil) (fun hG => (ox2 t40)) (j1 rfl) (.one rfl) rfl <| O4 rfl rfl rfl rfl (.plain .nil) (fun hG => (ox3 Machine_Server f43_1)) (j1 rfl) .nil rfl <| O4 rfl rfl rfl rfl (.cond (fun h => h) .nil) (fun hG => (ox2 t40)) (j1 rfl) (.one rfl) rfl <| O4 rfl rfl rfl rfl (.cond (fun h => h) (.cond (fun h => h) .nil)) (fun hG => (ox_call (c_mkref6_SameServer (Cn_on hv2 hG)) (.cons .tmp (.cons .tmp .nil)))) (j2 rfl rfl) .nil rfl ?_
 refine O4 rfl rfl rfl rfl (.cond (fun h => h) .nil) (fun hG => (ox_not .tmp)) (j1 rfl) .nil rfl <| O5 ox9 (j2 rfl rfl) .nil rfl <| O5 (ox0 .tmp) (.one rfl) .nil rfl <| O4 rfl rfl rfl rfl (.plain .nil) (fun hG => (ox3 Machine_Up f43_2)) (j1 rfl) .nil rfl <| O4 rfl rfl rfl rfl (.cond (fun h => h) .nil) (fun hG => (ox2 t4)) (j1 rfl) (.one rfl) rfl <| O4 rfl rfl rfl rfl (.plain .nil) (fun hG => (ox3 Machine_Up f43_2)) (j1 rfl) .nil rfl ?_
 refine O4 rfl rfl rfl rfl (.cond (fun h => h) .nil) (fun hG => (ox2 t4)) (j1 rfl) (.one rfl) rfl <| O4 rfl rfl rfl rfl (.cond (fun h => h) (.cond (fun h => h) .nil)) (fun hG => (ox_neqB e4 .tmp .tmp)) (j2 rfl rfl) .nil rfl <| O5 ox9 (j2 rfl rfl) .nil rfl <| O5 (ox0 .tmp) (.one rfl) .nil rfl <| O4 rfl rfl rfl rfl (.plain .nil) (fun hG => (ox3 Machine_Pause f43_3)) (j1 rfl) .nil rfl <| O4 rfl rfl rfl rfl (.cond (fun h => h) .nil) (fun hG => (ox2 t3)) (j1 rfl) (.one rfl) rfl ?_
 refine O4 rfl rfl rfl rfl (.plain .nil) (fun hG => (ox3 Machine_Pause f43_3)) (j1 rfl) .nil rfl <| O4 rfl rfl rfl rfl (.cond (fun h => h) .nil) (fun hG => (ox2 t3)) (j1 rfl) (.one rfl) rfl <| O4 rfl rfl rfl rfl (.cond (fun h => h) (.cond (fun h => h) .nil)) (fun hG => (ox_neq .tmp .tmp)) (j2 rfl rfl) .nil rfl <| O5 ox9 (j2 rfl rfl) .nil rfl <| O5 (ox0 .tmp) (.one rfl) .nil rfl <| O4 rfl rfl rfl rfl (.plain .nil) (fun hG => (ox3 Machine_Falls f43_4)) (j1 rfl) .nil rfl ?_
 refine O4 rfl rfl rfl rfl (.cond (fun h => h) .nil) (fun hG => (ox2 t3)) (j1 rfl) (.one rfl) rfl <| O4 rfl rfl rfl rfl (.plain .nil) (fun hG => (ox3 Machine_Falls f43_4)) (j1 rfl) .nil rfl <| O4 rfl rfl rfl rfl (.cond (fun h => h) .nil) (fun hG => (ox2 t3)) (j1 rfl) (.one rfl) rfl <| O4 rfl rfl rfl rfl (.cond (fun h => h) (.cond (fun h => h) .nil)) (fun hG => (ox_neq .tmp .tmp)) (j2 rfl rfl) .nil rfl <| O5 ox9 (j2 rfl rfl) .nil rfl <| O5 (ox0 .tmp) (.one rfl) .nil rfl ?_
 refine O4 rfl rfl rfl rfl (.plain .nil) (fun hG => (ox3 Machine_Clients f43_5)) (j1 rfl) .nil rfl <| O4 rfl rfl rfl rfl (.cond (fun h => h) .nil) (fun hG => (ox2 t41)) (j1 rfl) (.one rfl) rfl <| O4 rfl rfl rfl rfl (.cond (fun h => h) .nil) (fun hG => (ox_len s41 .tmp)) (j1 rfl) .nil rfl <| O4 rfl rfl rfl rfl (.plain .nil) (fun hG => (ox3 Machine_Clients f43_5)) (j1 rfl) .nil rfl <| O4 rfl rfl rfl rfl (.cond (fun h => h) .nil) (fun hG => (ox2 t41)) (j1 rfl) (.one rfl) rfl <| O4 rfl rfl rfl rfl (.cond (fun h => h) .nil) (fun hG => (ox_len s41 .tmp)) (j1 rfl) .nil rfl ?_
 refine O4 rfl rfl rfl rfl (.cond (fun h => h) (.cond (fun h => h) .nil)) (fun hG => (ox_neq .tmp .tmp)) (j2 rfl rfl) .nil rfl <| O5 ox9 (j2 rfl rfl) .nil rfl <| O1 <| Q0 (σ' := ⟨[(2, _), (3, _), (49, .val (((((((!v1) || (!v2)) || (!decide (a0.Up = a1.Up))) || (!decide (a0.Pause = a1.Pause))) || (!decide (a0.Falls = a1.Falls))) || (!decide ((a0.Clients.length : Int) = (a1.Clients.length : Int))))))], [(2, _), (3, _)]⟩) (j3 rfl rfl rfl) (j2 rfl rfl) ?_
 refine Q3 _ rfl (fun hc3 => ?_) (fun hc3 => ?_)
 ·replace hφ := if_then hφ hc3
  refine Q0 (σ' := ⟨[], []⟩) trivial trivial ?_
  refine Q2 (Q1 ?_)
  refine O5 (ox1 .bool) .nil .nil rfl <| O1 <| Q0 (σ' := ⟨[(4, .val (false))], []⟩) (j1 rfl) trivial ?_
  refine Q5 ?_
  obtain rfl := Option.some.inj hφ
  exact Q6 hw0 rfl (.tmp rfl rfl .nil) rfl
 ·replace hφ := if_else hφ hc3
  refine Q0 (σ' := ⟨[(2, _), (3, _)], [(2, _), (3, _)]⟩) (j2 rfl rfl) (j2 rfl rfl) ?_
  refine Q4 ?_
  obtain ⟨k4, hk4, hφ⟩ := J_some hφ
  refine PT.cut (ι := Unit) (fun p => ⟨[], []⟩) (fun p => k4 () = some r) ?_ ?_
  ·skip
   refine Q2 (Q1 ?_)
   refine O5 (ox3 Machine_Clients f43_5) (.one rfl) .nil rfl <| O5 (ox2 t41) (.one rfl) (.one rfl) rfl <| O5 (ox_len s41 .tmp) (.one rfl) .nil rfl <| O5 (ox0 .int) .nil .nil rfl <| O1 <| Q0 (σ' := ⟨[(2, _), (3, _), (52, .val (a0.Clients.length : Int)), (53, .val (0 : Int))], [(2, _), (3, _)]⟩) (j4 rfl rfl rfl rfl) (j2 rfl rfl) ?_
   refine PT.block ?_
   refine PT.loop (ι := Nat × Int × Int × Mk.Machine × Mk.Machine) (fun p => ⟨[(2, .ptr 2 (Lens.id (α := Mk.Machine))), (3, .ptr 3 (Lens.id (α := Mk.Machine))), (52, .val (p.2.1)), (53, .val (p.2.2.1))], [(2, .var (p.2.2.2.1) []), (3, .var (p.2.2.2.2) [])]⟩) (fun p => mkref6_SameMachine_l1 k4 p.1 (p.2.1) (p.2.2.1) (p.2.2.2.1) (p.2.2.2.2) = some r) (fun p => p.1) (((a0.Clients.length : Int) - (0 : Int)).toNat + 1, (a0.Clients.length : Int), (0 : Int), a0, a1) hφ (j4 rfl rfl rfl rfl) (j2 rfl rfl) ?_
   rintro ⟨m5, x52_m5, x53_m5, y2_m5, y3_m5⟩ (hφ : mkref6_SameMachine_l1 k4 m5 x52_m5 x53_m5 y2_m5 y3_m5 = some r)
   obtain _ | m5 := m5
   ·exact (none_no hφ).elim
   rw [mkref6_SameMachine_l1.eq_2] at hφ
   refine Q0 (σ' := ⟨[(2, .ptr 2 (Lens.id (α := Mk.Machine))), (3, .ptr 3 (Lens.id (α := Mk.Machine))), (52, .val (x52_m5)), (53, .val (x53_m5))], [(2, .var (y2_m5) []), (3, .var (y3_m5) [])]⟩) (j4 rfl rfl rfl rfl) (j2 rfl rfl) ?_
   refine Q2 (Q1 ?_)
   refine O5 (ox_lss .tmp .tmp) (.app (.one rfl) (.one rfl)) .nil rfl <| O1 <| Q0 (σ' := ⟨[(2, _), (3, _), (52, _), (53, _), (54, .val (decide (x53_m5 < x52_m5)))], [(2, _), (3, _)]⟩) (j5 rfl rfl rfl rfl rfl) (j2 rfl rfl) ?_
   refine Q2 ?_
   refine Q3 _ rfl (fun hc6 => ?_) (fun hc6 => ?_)
   ·replace hφ := if_then hφ hc6
    refine Q0 (σ' := ⟨[(2, _), (3, _), (52, _), (53, _)], [(2, _), (3, _)]⟩) (j4 rfl rfl rfl rfl) (j2 rfl rfl) ?_
    refine Q4 ?_
    refine Q2 ?_
    refine PT.block ?_
    refine Q2 (Q1 ?_)
    refine O5 (ox0 .tmp) (.one rfl) .nil rfl <| O5 (ox1 .tmp) (.one rfl) .nil rfl <| O1 <| Q0 (σ' := ⟨[(2, _), (3, _), (5, .val (x53_m5)), (52, _), (53, _)], [(2, _), (3, _)]⟩) (j5 rfl rfl rfl rfl rfl) (j2 rfl rfl) ?_
    refine Q2 ?_
    obtain ⟨hb7, hφ⟩ := G_some hφ
    obtain ⟨hb8, hφ⟩ := G_some hφ
    obtain ⟨v9, hv9, hφ⟩ := B_some hφ
    refine Q8 hMixed (
      .cons (S5 (ox3 Machine_Clients f43_5)) ⟨.one rfl, .nil⟩ (by kernel_rfl) rfl <|
      .cons (S5 (ox2 t41)) ⟨.one rfl, .one rfl⟩ (by kernel_rfl) rfl <|
      .cons (S5 (ox0 .tmp)) ⟨.one rfl, .nil⟩ (by kernel_rfl) rfl <|
      .cons (S5 (ox_ix s41 .tmp .tmp hb7.1 hb7.2)) ⟨(.app (.one rfl) (.one rfl)), .nil⟩ (by kernel_rfl) rfl <|
      .cons (S5 (ox_load_elem t61)) ⟨.one rfl, .nil⟩ (by kernel_rfl) rfl <|
      .cons (S5 (ox3 Machine_Clients f43_5)) ⟨.one rfl, .nil⟩ (by kernel_rfl) rfl <|
      .cons (S5 (ox2 t41)) ⟨.one rfl, .one rfl⟩ (by kernel_rfl) rfl <|
      .cons (S5 (ox0 .tmp)) ⟨.one rfl, .nil⟩ (by kernel_rfl) rfl <|
      .cons (S5 (ox_ix s41 .tmp .tmp hb8.1 hb8.2)) ⟨(.app (.one rfl) (.one rfl)), .nil⟩ (by kernel_rfl) rfl <|
      .cons (S5 (ox_load_elem t61)) ⟨.one rfl, .nil⟩ (by kernel_rfl) rfl <|
      .cons (S5 (ox_call (c_mkref6_SameClient hv9) (.cons .tmp (.cons .tmp .nil)))) ⟨(.app (.one rfl) (.app (.one rfl) .nil)), .nil⟩ (by kernel_rfl) rfl <|
      .cons (S5 (ox_not .tmp)) ⟨.one rfl, .nil⟩ (by kernel_rfl) rfl <|
      .nil) _ [[], [0], [], [0, 1, 2], [0, 1, 2, 3], [], [5], [], [5, 6, 7], [5, 6, 7, 8], [0, 1, 2, 3, 4, 5, 6, 7, 8, 9], [0, 1, 2, 3, 4, 5, 6, 7, 8, 9, 10]] rfl (by kernel_rfl) (by kernel_rfl) ?_
    refine Q0 (σ' := ⟨[(2, _), (3, _), (52, _), (53, _), (67, .val (!v9))], [(2, _), (3, _)]⟩) (j5 rfl rfl rfl rfl rfl) (j2 rfl rfl) ?_
    refine Q3 _ rfl (fun hc10 => ?_) (fun hc10 => ?_)
    ·replace hφ := if_then hφ hc10
     refine Q0 (σ' := ⟨[], []⟩) trivial trivial ?_
     refine Q2 (Q1 ?_)
     refine O5 (ox1 .bool) .nil .nil rfl <| O1 <| Q0 (σ' := ⟨[(4, .val (false))], []⟩) (j1 rfl) trivial ?_
     refine Q5 ?_
     obtain rfl := Option.some.inj hφ
     exact Q6 hw0 rfl (.tmp rfl rfl .nil) rfl
    ·replace hφ := if_else hφ hc10
     refine Q0 (σ' := ⟨[(2, _), (3, _), (52, _), (53, _)], [(2, _), (3, _)]⟩) (j4 rfl rfl rfl rfl) (j2 rfl rfl) ?_
     refine Q4 ?_
     obtain ⟨hb11, hφ⟩ := G_some hφ
     refine Q1 ?_
     refine O5 (ox_add .tmp .int hb11) (.app (.one rfl) .nil) .nil rfl <| O5 (ox0 .tmp) (.one rfl) .nil rfl <| O1 <| Q0 (σ' := ⟨[(2, _), (3, _), (52, _), (53, .val (x53_m5 + (1 : Int)))], [(2, _), (3, _)]⟩) (j4 rfl rfl rfl rfl) (j2 rfl rfl) ?_
     exact PT.next (m5, x52_m5, (x53_m5 + (1 : Int)), y2_m5, y3_m5) hφ (Nat.lt_succ_self _) (j4 rfl rfl rfl rfl) (j2 rfl rfl)
   ·replace hφ := if_else hφ hc6
    refine Q0 (σ' := ⟨[], []⟩) trivial trivial ?_
    refine PT.exit ?_
    exact PT.meet () hφ trivial trivial
  ·rintro ⟨⟩ hφ
   subst hk4
   refine Q0 (σ' := ⟨[], []⟩) trivial trivial ?_
   refine Q2 (Q1 ?_)
   refine O5 (ox1 .bool) .nil .nil rfl <| O1 <| Q0 (σ' := ⟨[(4, .val (true))], []⟩) (j1 rfl) trivial ?_
   refine Q5 ?_
   obtain rfl := Option.some.inj hφ
   exact Q6 hw0 rfl (.tmp rfl rfl .nil) rfl
theorem c_mkref6_Idle {a0 : Mk.Machine} {r : Bool} (hφ : mkref6_Idle a0 = some r) : Fn Go.Proofs.Try.prog 22 [.val a0] (.val r) := by
 unfold mkref6_Idle at hφ
 refine Fn.mk' Go.Proofs.Try.func22 rfl (by decide) rfl rfl rfl (fun w0 hw0 => ?_)
 refine Q2 (Q1 ?_)
 refine O3 rfl rfl (ox_box (id := 1) .tmp) (.one rfl) .nil rfl (by kernel_rfl) <| O5 (ox1 .bool) .nil .nil rfl <| O1 <| Q0 (σ' := ⟨[(1, _)], [(1, .var (a0) [])]⟩) (j1 rfl) (j1 rfl) ?_
 refine Q2 (Q1 ?_)
 refine O5 (ox1 .bool) .nil .nil rfl <| O1 <| Q0 (σ' := ⟨[(1, _), (3, .val (true))], [(1, _)]⟩) (j2 rfl rfl) (j1 rfl) ?_
 obtain ⟨k1, hk1, hφ⟩ := J_some hφ
 refine PT.cut (ι := Bool) (fun p => ⟨[(3, .val (p))], []⟩) (fun p => k1 (p) = some r) ?_ ?_
 ·skip
  refine Q2 (Q1 ?_)
  refine O5 (ox3 Machine_Clients f43_5) (.one rfl) .nil rfl <| O5 (ox2 t41) (.one rfl) (.one rfl) rfl <| O5 (ox_len s41 .tmp) (.one rfl) .nil rfl <| O5 (ox0 .int) .nil .nil rfl <| O1 <| Q0 (σ' := ⟨[(3, _), (7, .val (a0.Clients)), (8, .val (a0.Clients.length : Int)), (9, .val (0 : Int))], []⟩) (j4 rfl rfl rfl rfl) trivial ?_
  refine PT.block ?_
  refine PT.loop (ι := Nat × Bool × (List Mk.Client) × Int × Int) (fun p => ⟨[(3, .val (p.2.1)), (7, .val (p.2.2.1)), (8, .val (p.2.2.2.1)), (9, .val (p.2.2.2.2))], []⟩) (fun p => mkref6_Idle_l1 k1 p.1 (p.2.1) (p.2.2.1) (p.2.2.2.1) (p.2.2.2.2) = some r) (fun p => p.1) (((a0.Clients.length : Int) - (0 : Int)).toNat + 1, true, a0.Clients, (a0.Clients.length : Int), (0 : Int)) hφ (j4 rfl rfl rfl rfl) trivial ?_
  rintro ⟨m2, x3_m2, x7_m2, x8_m2, x9_m2⟩ (hφ : mkref6_Idle_l1 k1 m2 x3_m2 x7_m2 x8_m2 x9_m2 = some r)
  obtain _ | m2 := m2
  ·exact (none_no hφ).elim
  rw [mkref6_Idle_l1.eq_2] at hφ
  refine Q0 (σ' := ⟨[(3, .val (x3_m2)), (7, .val (x7_m2)), (8, .val (x8_m2)), (9, .val (x9_m2))], []⟩) (j4 rfl rfl rfl rfl) trivial ?_
  refine Q2 (Q1 ?_)
  refine O5 (ox_lss .tmp .tmp) (.app (.one rfl) (.one rfl)) .nil rfl <| O1 <| Q0 (σ' := ⟨[(3, _), (7, _), (8, _), (9, _), (10, .val (decide (x9_m2 < x8_m2)))], []⟩) (j5 rfl rfl rfl rfl rfl) trivial ?_
  refine Q2 ?_
  refine Q3 _ rfl (fun hc3 => ?_) (fun hc3 => ?_)
  ·replace hφ := if_then hφ hc3
   refine Q0 (σ' := ⟨[(3, _), (7, _), (8, _), (9, _)], []⟩) (j4 rfl rfl rfl rfl) trivial ?_
   refine Q4 ?_
   refine Q2 ?_
   refine PT.block ?_
   refine Q2 ?_
   obtain ⟨hb4, hφ⟩ := G_some hφ
   refine Q1 ?_
   refine O5 (ox_ix s41 .tmp .tmp hb4.1 hb4.2) (.app (.one rfl) (.one rfl)) .nil rfl <| O5 (ox_load_elem t61) (.one rfl) .nil rfl <| O3 rfl rfl (ox_alloc (id := 5) z61) .nil .nil rfl (by kernel_rfl) <| O2 rfl rfl (ox5 t61 .tmp) (.cons rfl (.one rfl)) (.one rfl) <| O1 <| Q0 (σ' := ⟨[(3, _), (5, _), (7, _), (8, _), (9, _)], [(5, .var (ix x7_m2 x9_m2) [])]⟩) (j5 rfl rfl rfl rfl rfl) (j1 rfl) ?_
   refine Q1 ?_
   refine O5 (ox0 .tmp) (.one rfl) .nil rfl <| O5 (ox0 .tmp) (.one rfl) .nil rfl <| O4 rfl rfl rfl rfl (.plain .nil) (fun hG => (ox3 Client_At f61_1)) (j1 rfl) .nil rfl <| O4 rfl rfl rfl rfl (.cond (fun h => h) .nil) (fun hG => (ox2 t3)) (j1 rfl) (.one rfl) rfl <| O4 rfl rfl rfl rfl (.plain .nil) (fun hG => (ox3 Client_Calls f61_0)) (j1 rfl) .nil rfl <| O4 rfl rfl rfl rfl (.cond (fun h => h) .nil) (fun hG => (ox2 t59)) (j1 rfl) (.one rfl) rfl ?_
   refine O4 rfl rfl rfl rfl (.cond (fun h => h) .nil) (fun hG => (ox_len s59 .tmp)) (j1 rfl) .nil rfl <| O4 rfl rfl rfl rfl (.cond (fun h => h) (.cond (fun h => h) .nil)) (fun hG => (ox_geq .tmp .tmp)) (j2 rfl rfl) .nil rfl <| O5 ox8 (j2 rfl rfl) .nil rfl <| O5 (ox1 .tmp) (.one rfl) .nil rfl <| O1 <| Q0 (σ' := ⟨[(3, .val ((x3_m2 && (decide (((ix x7_m2 x9_m2).Calls.length : Int) ≤ (ix x7_m2 x9_m2).At))))), (7, _), (8, _), (9, _)], []⟩) (j4 rfl rfl rfl rfl) trivial ?_
   obtain ⟨hb5, hφ⟩ := G_some hφ
   refine Q1 ?_
   refine O5 (ox_add .tmp .int hb5) (.app (.one rfl) .nil) .nil rfl <| O5 (ox0 .tmp) (.one rfl) .nil rfl <| O1 <| Q0 (σ' := ⟨[(3, _), (7, _), (8, _), (9, .val (x9_m2 + (1 : Int)))], []⟩) (j4 rfl rfl rfl rfl) trivial ?_
   exact PT.next (m2, (x3_m2 && (decide (((ix x7_m2 x9_m2).Calls.length : Int) ≤ (ix x7_m2 x9_m2).At))), x7_m2, x8_m2, (x9_m2 + (1 : Int))) hφ (Nat.lt_succ_self _) (j4 rfl rfl rfl rfl) trivial
  ·replace hφ := if_else hφ hc3
   refine Q0 (σ' := ⟨[(3, _)], []⟩) (j1 rfl) trivial ?_
   refine PT.exit ?_
   exact PT.meet (x3_m2) hφ (j1 rfl) trivial
 ·rintro x3_k1 hφ
  subst hk1
  refine Q0 (σ' := ⟨[(3, .val (x3_k1))], []⟩) (j1 rfl) trivial ?_
  refine Q2 (Q1 ?_)
  refine O5 (ox0 .tmp) (.one rfl) .nil rfl <| O5 (ox1 .tmp) (.one rfl) .nil rfl <| O1 <| Q0 (σ' := ⟨[(2, .val (x3_k1))], []⟩) (j1 rfl) trivial ?_
  refine Q5 ?_
  obtain rfl := Option.some.inj hφ
  exact Q6 hw0 rfl (.tmp rfl rfl .nil) rfl
theorem c_mkref6_Round {a0 : Mk.Machine} {r : Mk.Machine} (hφ : mkref6_Round a0 = some r) : Fn Go.Proofs.Try.prog 51 [.val a0] (.val r) := by
 unfold mkref6_Round at hφ
 refine Fn.mk' Go.Proofs.Try.func51 rfl (by decide) rfl rfl rfl (fun w0 hw0 => ?_)
 refine Q2 (Q1 ?_)
 refine O3 rfl rfl (ox_box (id := 1) .tmp) (.one rfl) .nil rfl (by kernel_rfl) <| O3 rfl rfl (ox_alloc (id := 2) z43) .nil .nil rfl (by kernel_rfl) <| O1 <| Q0 (σ' := ⟨[(1, _), (2, _)], [(1, .var (a0) []), (2, .var (zMa) [])]⟩) (j2 rfl rfl) (j2 rfl rfl) ?_
 refine Q2 ?_
 obtain ⟨v1, hv1, hφ⟩ := B_some hφ
 refine Q1 ?_
 refine O5 (ox4 t43) (.one rfl) (.one rfl) rfl <| O5 (ox_call (c_mkref6_Tick hv1) (.cons .tmp .nil)) (.app (.one rfl) .nil) .nil rfl <| O2 rfl rfl (ox5 t43 .tmp) (.cons rfl (.one rfl)) (.one rfl) <| O1 <| Q0 (σ' := ⟨[(1, _), (2, _)], [(1, .var (v1) []), (2, _)]⟩) (j2 rfl rfl) (j2 rfl rfl) ?_
 obtain ⟨k2, hk2, hφ⟩ := J_some hφ
 refine PT.cut (ι := Mk.Machine × Mk.Machine) (fun p => ⟨[(1, .ptr 1 (Lens.id (α := Mk.Machine))), (2, .ptr 2 (Lens.id (α := Mk.Machine)))], [(1, .var (p.1) []), (2, .var (p.2) [])]⟩) (fun p => k2 (p.1) (p.2) = some r) ?_ ?_
 ·skip
  refine Q2 (Q1 ?_)
  refine O5 (ox3 Machine_Clients f43_5) (.one rfl) .nil rfl <| O5 (ox2 t41) (.one rfl) (.one rfl) rfl <| O5 (ox_len s41 .tmp) (.one rfl) .nil rfl <| O5 (ox0 .int) .nil .nil rfl <| O1 <| Q0 (σ' := ⟨[(1, _), (2, _), (8, .val (v1.Clients.length : Int)), (9, .val (0 : Int))], [(1, _), (2, _)]⟩) (j4 rfl rfl rfl rfl) (j2 rfl rfl) ?_
  refine PT.block ?_
  refine PT.loop (ι := Nat × Int × Int × Mk.Machine × Mk.Machine) (fun p => ⟨[(1, .ptr 1 (Lens.id (α := Mk.Machine))), (2, .ptr 2 (Lens.id (α := Mk.Machine))), (8, .val (p.2.1)), (9, .val (p.2.2.1))], [(1, .var (p.2.2.2.1) []), (2, .var (p.2.2.2.2) [])]⟩) (fun p => mkref6_Round_l1 k2 p.1 (p.2.1) (p.2.2.1) (p.2.2.2.1) (p.2.2.2.2) = some r) (fun p => p.1) (((v1.Clients.length : Int) - (0 : Int)).toNat + 1, (v1.Clients.length : Int), (0 : Int), v1, zMa) hφ (j4 rfl rfl rfl rfl) (j2 rfl rfl) ?_
  rintro ⟨m3, x8_m3, x9_m3, y1_m3, y2_m3⟩ (hφ : mkref6_Round_l1 k2 m3 x8_m3 x9_m3 y1_m3 y2_m3 = some r)
  obtain _ | m3 := m3
  ·exact (none_no hφ).elim
  rw [mkref6_Round_l1.eq_2] at hφ
  refine Q0 (σ' := ⟨[(1, .ptr 1 (Lens.id (α := Mk.Machine))), (2, .ptr 2 (Lens.id (α := Mk.Machine))), (8, .val (x8_m3)), (9, .val (x9_m3))], [(1, .var (y1_m3) []), (2, .var (y2_m3) [])]⟩) (j4 rfl rfl rfl rfl) (j2 rfl rfl) ?_
  refine Q2 (Q1 ?_)
  refine O5 (ox_lss .tmp .tmp) (.app (.one rfl) (.one rfl)) .nil rfl <| O1 <| Q0 (σ' := ⟨[(1, _), (2, _), (8, _), (9, _), (10, .val (decide (x9_m3 < x8_m3)))], [(1, _), (2, _)]⟩) (j5 rfl rfl rfl rfl rfl) (j2 rfl rfl) ?_
  refine Q2 ?_
  refine Q3 _ rfl (fun hc4 => ?_) (fun hc4 => ?_)
  ·replace hφ := if_then hφ hc4
   refine Q0 (σ' := ⟨[(1, _), (2, _), (8, _), (9, _)], [(1, _), (2, _)]⟩) (j4 rfl rfl rfl rfl) (j2 rfl rfl) ?_
   refine Q4 ?_
   refine Q2 ?_
   refine PT.block ?_
   refine Q2 (Q1 ?_)
   refine O5 (ox0 .tmp) (.one rfl) .nil rfl <| O5 (ox1 .tmp) (.one rfl) .nil rfl <| O1 <| Q0 (σ' := ⟨[(1, _), (2, _), (3, .val (x9_m3)), (8, _), (9, _)], [(1, _), (2, _)]⟩) (j5 rfl rfl rfl rfl rfl) (j2 rfl rfl) ?_
   obtain ⟨v5, hv5, hφ⟩ := B_some hφ
   refine Q1 ?_
   refine O5 (ox4 t43) (.one rfl) (.one rfl) rfl <| O5 (ox0 .tmp) (.one rfl) .nil rfl <| O5 (oxa z83 u83 rfl (.cons Step_Kind f83_0 .int (.cons Step_N f83_1 .tmp Bld.nil))) (.app .nil (.app (.one rfl) .nil)) .nil rfl <| O5 (ox_call (c_mkref6_Do hv5) (.cons .tmp (.cons .tmp .nil))) (.app (.one rfl) (.app (.one rfl) .nil)) .nil rfl <| O5 (ox0 .tmp) (.one rfl) .nil rfl <| O5 (ox7 rfl) (.one rfl) .nil rfl ?_
   refine O5 (ox7 rfl) (.one rfl) .nil rfl <| O2 rfl rfl (ox5 t43 .tmp) (.cons rfl (.one rfl)) (.one rfl) <| O1 <| Q0 (σ' := ⟨[(1, _), (2, _), (8, _), (9, _)], [(1, .var (v5.1) []), (2, _)]⟩) (j4 rfl rfl rfl rfl) (j2 rfl rfl) ?_
   obtain ⟨hb6, hφ⟩ := G_some hφ
   refine Q1 ?_
   refine O5 (ox_add .tmp .int hb6) (.app (.one rfl) .nil) .nil rfl <| O5 (ox0 .tmp) (.one rfl) .nil rfl <| O1 <| Q0 (σ' := ⟨[(1, _), (2, _), (8, _), (9, .val (x9_m3 + (1 : Int)))], [(1, _), (2, _)]⟩) (j4 rfl rfl rfl rfl) (j2 rfl rfl) ?_
   exact PT.next (m3, x8_m3, (x9_m3 + (1 : Int)), v5.1, y2_m3) hφ (Nat.lt_succ_self _) (j4 rfl rfl rfl rfl) (j2 rfl rfl)
  ·replace hφ := if_else hφ hc4
   refine Q0 (σ' := ⟨[(1, _), (2, _)], [(1, _), (2, _)]⟩) (j2 rfl rfl) (j2 rfl rfl) ?_
   refine PT.exit ?_
   exact PT.meet (y1_m3, y2_m3) hφ (j2 rfl rfl) (j2 rfl rfl)
 ·rintro ⟨y1_k2, y2_k2⟩ hφ
  subst hk2
  refine Q0 (σ' := ⟨[(1, .ptr 1 (Lens.id (α := Mk.Machine))), (2, .ptr 2 (Lens.id (α := Mk.Machine)))], [(1, .var (y1_k2) []), (2, .var (y2_k2) [])]⟩) (j2 rfl rfl) (j2 rfl rfl) ?_
  refine Q2 ?_
  obtain ⟨v7, hv7, hφ⟩ := B_some hφ
  refine Q1 ?_
  refine O5 (ox4 t43) (.one rfl) (.one rfl) rfl <| O5 (oxa z83 u83 rfl (.cons Step_Kind f83_0 .int Bld.nil)) (.app .nil .nil) .nil rfl <| O5 (ox_call (c_mkref6_Do hv7) (.cons .tmp (.cons .tmp .nil))) (.app (.one rfl) (.app (.one rfl) .nil)) .nil rfl <| O5 (ox0 .tmp) (.one rfl) .nil rfl <| O5 (ox7 rfl) (.one rfl) .nil rfl <| O5 (ox7 rfl) (.one rfl) .nil rfl ?_
  refine O2 rfl rfl (ox5 t43 .tmp) (.cons rfl (.one rfl)) (.one rfl) <| O1 <| Q0 (σ' := ⟨[(1, _), (2, _)], [(1, .var (v7.1) []), (2, _)]⟩) (j2 rfl rfl) (j2 rfl rfl) ?_
  refine Q2 (Q1 ?_)
  refine O5 (ox4 t43) (.one rfl) (.one rfl) rfl <| O2 rfl rfl (ox5 t43 .tmp) (.cons rfl (.one rfl)) (.one rfl) <| O1 <| Q0 (σ' := ⟨[(2, _)], [(2, .var (v7.1) [])]⟩) (j1 rfl) (j1 rfl) ?_
  refine Q5 ?_
  obtain rfl := Option.some.inj hφ
  exact Q6 hw0 rfl (.cell t43 rfl rfl .nil) rfl
end Go.Gx
end
section
namespace Go.Gx
open Sp
theorem c_slices_Clone_____byte___byte_ {a0 : List (List UInt8)} {r : (List (List UInt8))} (hφ : slices_Clone_____byte___byte_ a0 = some r) : Fn Go.Proofs.Try.prog 126 [.val a0] (.val r) := by
 unfold slices_Clone_____byte___byte_ at hφ
 refine Fn.mk' Go.Proofs.Try.func126 rfl (by decide) rfl rfl rfl (fun w0 hw0 => ?_)
 refine Q2 (Q1 ?_)
 refine O5 (ox1 .nilS) .nil .nil rfl <| O1 <| Q0 (σ' := ⟨[(0, .val (a0))], []⟩) (j1 rfl) trivial ?_
 refine Q2 ?_
 refine Q2 (Q1 ?_)
 refine O5 (ox0 .tmp) (.one rfl) .nil rfl <| O5 (ox_isNil (by kernel_rfl) .tmp .nilS) (.app (.one rfl) .nil) .nil rfl <| O1 <| Q0 (σ' := ⟨[(0, _), (4, _)], []⟩) (j2 rfl rfl) trivial ?_
 refine PT.condB _ rfl (fun hc1 => ?_) (fun _ => ?_)
 ·have hc1e := hc1 rfl
  refine Q0 (σ' := ⟨[], []⟩) trivial trivial ?_
  refine Q2 (Q1 ?_)
  refine O5 (ox1 .nilS) .nil .nil rfl <| O1 <| Q0 (σ' := ⟨[(2, .nilS)], []⟩) (j1 rfl) trivial ?_
  refine Q5 ?_
  refine PT.asNil 2 (List UInt8) rfl ?_
  rw [hc1e] at hφ
  obtain ⟨_, hφ⟩ := G_some hφ
  obtain rfl := Option.some.inj hφ
  exact Q6 hw0 rfl (.tmp rfl rfl .nil) rfl
 ·skip
  refine Q0 (σ' := ⟨[(0, _)], []⟩) (j1 rfl) trivial ?_
  refine Q4 ?_
  refine Q2 ?_
  obtain ⟨hb2, hφ⟩ := G_some hφ
  refine Q1 ?_
  refine O3 rfl rfl (ox_buildSlice_arr (id := 5) s31 z63 Parts.nil rfl (by decide)) .nil .nil rfl (by kernel_rfl) <| O5 (ox0 .tmp) (.one rfl) .nil rfl ?_
  refine Ops.putK [5] rfl rfl (ox_append a31 .tmp .tmp hb2.1 hb2.2) (.app (.one rfl) (.one rfl)) (.one rfl) rfl (by kernel_rfl) ?_
  refine O5 (ox1 .tmp) (.one rfl) .nil rfl <| O1 <| Q0 (σ' := ⟨[(2, _)], [(5, .arr 63 (([] : List (List UInt8)) ++ a0))]⟩) (j1 rfl) (j1 rfl) ?_
  refine Q5 ?_
  refine PT.freeze 5 [2] rfl (j1 rfl) ?_
  obtain rfl := Option.some.inj hφ
  exact Q6 hw0 rfl (.tmp rfl rfl .nil) rfl
theorem x_slices_Clone_____byte___byte_ {a0 : List (List UInt8)} {r : (List (List UInt8))} (hφ : slices_Clone_____byte___byte_ a0 = some r) : FnX Go.Proofs.Try.prog 126 [.val a0] [] (.sl 5) [(5, .arr 63 r)] [] := by
 unfold slices_Clone_____byte___byte_ at hφ
 refine FnX.mk' Go.Proofs.Try.func126 rfl (by decide) rfl (fun w0 m0 => ?_)
 refine Q2 (Q1 ?_)
 refine O5 (ox1 .nilS) .nil .nil rfl <| O1 <| Q0 (σ' := ⟨[(0, .val (a0))], []⟩) (j1 rfl) trivial ?_
 refine Q2 ?_
 refine Q2 (Q1 ?_)
 refine O5 (ox0 .tmp) (.one rfl) .nil rfl <| O5 (ox_isNil (by kernel_rfl) .tmp .nilS) (.app (.one rfl) .nil) .nil rfl <| O1 <| Q0 (σ' := ⟨[(0, _), (4, _)], []⟩) (j2 rfl rfl) trivial ?_
 refine PT.condB _ rfl (fun hc1 => ?_) (fun _ => ?_)
 ·have hc1e := hc1 rfl
  refine Q0 (σ' := ⟨[], []⟩) trivial trivial ?_
  refine Q2 (Q1 ?_)
  refine O5 (ox1 .nilS) .nil .nil rfl <| O1 <| Q0 (σ' := ⟨[(2, .nilS)], []⟩) (j1 rfl) trivial ?_
  refine Q5 ?_
  refine PT.nilArr 5 2 63 (List UInt8) rfl (by kernel_rfl) ?_
  rw [hc1e] at hφ
  obtain ⟨_, hφ⟩ := G_some hφ
  obtain rfl := Option.some.inj hφ
  exact Q7 rfl (.tmp rfl .nil) rfl (j1 rfl) trivial
 ·skip
  refine Q0 (σ' := ⟨[(0, _)], []⟩) (j1 rfl) trivial ?_
  refine Q4 ?_
  refine Q2 ?_
  obtain ⟨hb2, hφ⟩ := G_some hφ
  refine Q1 ?_
  refine O3 rfl rfl (ox_buildSlice_arr (id := 5) s31 z63 Parts.nil rfl (by decide)) .nil .nil rfl (by kernel_rfl) <| O5 (ox0 .tmp) (.one rfl) .nil rfl ?_
  refine Ops.putK [5] rfl rfl (ox_append a31 .tmp .tmp hb2.1 hb2.2) (.app (.one rfl) (.one rfl)) (.one rfl) rfl (by kernel_rfl) ?_
  refine O5 (ox1 .tmp) (.one rfl) .nil rfl <| O1 <| Q0 (σ' := ⟨[(2, _)], [(5, .arr 63 (([] : List (List UInt8)) ++ a0))]⟩) (j1 rfl) (j1 rfl) ?_
  refine Q5 ?_
  obtain rfl := Option.some.inj hφ
  exact Q7 rfl (.tmp rfl .nil) rfl (j1 rfl) trivial
theorem c_slices_Clone___byte_byte_ {a0 : List UInt8} {r : (List UInt8)} (hφ : slices_Clone___byte_byte_ a0 = some r) : Fn Go.Proofs.Try.prog 60 [.val a0] (.val r) := by
 unfold slices_Clone___byte_byte_ at hφ
 refine Fn.mk' Go.Proofs.Try.func60 rfl (by decide) rfl rfl rfl (fun w0 hw0 => ?_)
 refine Q2 (Q1 ?_)
 refine O5 (ox1 .nilS) .nil .nil rfl <| O1 <| Q0 (σ' := ⟨[(0, .val (a0))], []⟩) (j1 rfl) trivial ?_
 refine Q2 ?_
 refine Q2 (Q1 ?_)
 refine O5 (ox0 .tmp) (.one rfl) .nil rfl <| O5 (ox_isNil (by kernel_rfl) .tmp .nilS) (.app (.one rfl) .nil) .nil rfl <| O1 <| Q0 (σ' := ⟨[(0, _), (4, _)], []⟩) (j2 rfl rfl) trivial ?_
 refine PT.condB _ rfl (fun hc1 => ?_) (fun _ => ?_)
 ·have hc1e := hc1 rfl
  refine Q0 (σ' := ⟨[], []⟩) trivial trivial ?_
  refine Q2 (Q1 ?_)
  refine O5 (ox1 .nilS) .nil .nil rfl <| O1 <| Q0 (σ' := ⟨[(2, .nilS)], []⟩) (j1 rfl) trivial ?_
  refine Q5 ?_
  refine PT.asNil 2 (UInt8) rfl ?_
  rw [hc1e] at hφ
  obtain ⟨_, hφ⟩ := G_some hφ
  obtain rfl := Option.some.inj hφ
  exact Q6 hw0 rfl (.tmp rfl rfl .nil) rfl
 ·skip
  refine Q0 (σ' := ⟨[(0, _)], []⟩) (j1 rfl) trivial ?_
  refine Q4 ?_
  refine Q2 ?_
  obtain ⟨hb2, hφ⟩ := G_some hφ
  refine Q1 ?_
  refine O3 rfl rfl (ox_buildSlice_arr (id := 5) s63 z5 Parts.nil rfl (by decide)) .nil .nil rfl (by kernel_rfl) <| O5 (ox0 .tmp) (.one rfl) .nil rfl ?_
  refine Ops.putK [5] rfl rfl (ox_append a63 .tmp .tmp hb2.1 hb2.2) (.app (.one rfl) (.one rfl)) (.one rfl) rfl (by kernel_rfl) ?_
  refine O5 (ox1 .tmp) (.one rfl) .nil rfl <| O1 <| Q0 (σ' := ⟨[(2, _)], [(5, .arr 5 (([] : List UInt8) ++ a0))]⟩) (j1 rfl) (j1 rfl) ?_
  refine Q5 ?_
  refine PT.freeze 5 [2] rfl (j1 rfl) ?_
  obtain rfl := Option.some.inj hφ
  exact Q6 hw0 rfl (.tmp rfl rfl .nil) rfl
theorem c_client_Come {a0 : Mk.Client} {a1 : List UInt8} {r : Mk.Client} (hφ : client_Come a0 a1 = some r) : Fn Go.Proofs.Try.prog 112 [.val a0, .val a1] (.val r) := by
 unfold client_Come at hφ
 refine Fn.mk' Go.Proofs.Try.func112 rfl (by decide) rfl rfl rfl (fun w0 hw0 => ?_)
 refine Q2 (Q1 ?_)
 refine O3 rfl rfl (ox_box (id := 2) .tmp) (.one rfl) .nil rfl (by kernel_rfl) <| O3 rfl rfl (ox_alloc (id := 4) z61) .nil .nil rfl (by kernel_rfl) <| O1 <| Q0 (σ' := ⟨[(1, .val (a1)), (2, _), (4, _)], [(2, .var (a0) []), (4, .var zCl [])]⟩) (j3 rfl rfl rfl) (j2 rfl rfl) ?_
 refine Q2 (Q1 ?_)
 refine O5 (ox4 t61) (.one rfl) (.one rfl) rfl <| O3 rfl rfl (ox_alloc (id := 5) z61) .nil .nil rfl (by kernel_rfl) <| O2 rfl rfl (ox5 t61 .tmp) (.cons rfl (.one rfl)) (.one rfl) <| O1 <| Q0 (σ' := ⟨[(1, _), (2, _), (4, _), (5, _)], [(2, _), (4, _), (5, .var (a0) [])]⟩) (j4 rfl rfl rfl rfl) (j3 rfl rfl rfl) ?_
 obtain ⟨k1, hk1, hφ⟩ := J_some hφ
 refine PT.cut (ι := Mk.Client × Mk.Client) (fun p => ⟨[(4, .ptr 4 (Lens.id (α := Mk.Client))), (5, .ptr 5 (Lens.id (α := Mk.Client)))], [(4, .var (p.1) []), (5, .var (p.2) [])]⟩) (fun p => k1 (p.1) (p.2) = some r) ?_ ?_
 ·skip
  refine Q2 (Q1 ?_)
  refine O5 (ox3 Client_Box f61_4) (.one rfl) .nil rfl <| O5 (ox2 t31) (.one rfl) (.one rfl) rfl <| O5 (ox_len s31 .tmp) (.one rfl) .nil rfl <| O5 (ox_lss .tmp .int) (.app (.one rfl) .nil) .nil rfl <| O1 <| Q0 (σ' := ⟨[(1, _), (2, _), (4, _), (5, _), (10, .val (decide ((a0.Box.length : Int) < (3 : Int))))], [(2, _), (4, _), (5, _)]⟩) (j5 rfl rfl rfl rfl rfl) (j3 rfl rfl rfl) ?_
  refine Q3 _ rfl (fun hc2 => ?_) (fun hc2 => ?_)
  ·replace hφ := if_then hφ hc2
   refine Q0 (σ' := ⟨[(1, _), (2, _), (4, _), (5, _)], [(2, _), (4, _), (5, _)]⟩) (j4 rfl rfl rfl rfl) (j3 rfl rfl rfl) ?_
   obtain ⟨v3, hv3, hφ⟩ := B_some hφ
   obtain ⟨v4, hv4, hφ⟩ := B_some hφ
   obtain ⟨hb5, hφ⟩ := G_some hφ
   refine Q1 ?_
   refine O5 (ox3 Client_Box f61_4) (.one rfl) .nil rfl <| O5 (ox2 t31) (.one rfl) (.one rfl) rfl <| O3 rfl rfl (ox_callX (x_slices_Clone_____byte___byte_ hv3) [] [(5, 13)] [(5, 13)] [] (.cons .tmp .nil) rfl rfl rfl rfl rfl rfl rfl rfl trivial rfl rfl rfl rfl) (.app (.one rfl) .nil) .nil rfl (by kernel_rfl) <| O5 (ox0 .tmp) (.one rfl) .nil rfl <| O5 (ox_call (c_slices_Clone___byte_byte_ hv4) (.cons .tmp .nil)) (.app (.one rfl) .nil) .nil rfl <| O5 (ox_buildSlice_val s31 z63 (.cons .tmp Parts.nil) rfl (by decide)) (.app (.one rfl) .nil) .nil rfl ?_
   refine Ops.putK [13] rfl rfl (ox_appendV a31 .tmp .tmp hb5.1 hb5.2) (.app (.one rfl) (.one rfl)) (.one rfl) rfl (by kernel_rfl) ?_
   refine O5 (ox3 Client_Box f61_4) (.one rfl) .nil rfl <| O2 rfl rfl (ox_store_fld t31 .tmp) (.cons rfl (.one rfl)) (.one rfl) <| O1 <| Q0 (σ' := ⟨[(4, _), (5, _)], [(4, _), (5, .var ({ a0 with Box := (v3 ++ ([v4] : List (List UInt8))) }) [])]⟩) (j2 rfl rfl) (j2 rfl rfl) ?_
   exact PT.meet (zCl, { a0 with Box := (v3 ++ ([v4] : List (List UInt8))) }) hφ (j2 rfl rfl) (j2 rfl rfl)
  ·replace hφ := if_else hφ hc2
   refine Q0 (σ' := ⟨[(4, _), (5, _)], [(4, _), (5, _)]⟩) (j2 rfl rfl) (j2 rfl rfl) ?_
   refine Q4 ?_
   exact PT.meet (zCl, a0) hφ (j2 rfl rfl) (j2 rfl rfl)
 ·rintro ⟨y4_k1, y5_k1⟩ hφ
  subst hk1
  refine Q0 (σ' := ⟨[(4, .ptr 4 (Lens.id (α := Mk.Client))), (5, .ptr 5 (Lens.id (α := Mk.Client)))], [(4, .var (y4_k1) []), (5, .var (y5_k1) [])]⟩) (j2 rfl rfl) (j2 rfl rfl) ?_
  refine Q2 (Q1 ?_)
  refine O5 (ox4 t61) (.one rfl) (.one rfl) rfl <| O2 rfl rfl (ox5 t61 .tmp) (.cons rfl (.one rfl)) (.one rfl) <| O1 <| Q0 (σ' := ⟨[(4, _)], [(4, .var (y5_k1) [])]⟩) (j1 rfl) (j1 rfl) ?_
  refine Q5 ?_
  obtain rfl := Option.some.inj hφ
  exact Q6 hw0 rfl (.cell t61 rfl rfl .nil) rfl
theorem c_slices_Clone___api_Reply_api_Reply_ {a0 : List Mk.Reply} {r : (List Mk.Reply)} (hφ : slices_Clone___api_Reply_api_Reply_ a0 = some r) : Fn Go.Proofs.Try.prog 122 [.val a0] (.val r) := by
 unfold slices_Clone___api_Reply_api_Reply_ at hφ
 refine Fn.mk' Go.Proofs.Try.func122 rfl (by decide) rfl rfl rfl (fun w0 hw0 => ?_)
 refine Q2 (Q1 ?_)
 refine O5 (ox1 .nilS) .nil .nil rfl <| O1 <| Q0 (σ' := ⟨[(0, .val (a0))], []⟩) (j1 rfl) trivial ?_
 refine Q2 ?_
 refine Q2 (Q1 ?_)
 refine O5 (ox0 .tmp) (.one rfl) .nil rfl <| O5 (ox_isNil (by kernel_rfl) .tmp .nilS) (.app (.one rfl) .nil) .nil rfl <| O1 <| Q0 (σ' := ⟨[(0, _), (4, _)], []⟩) (j2 rfl rfl) trivial ?_
 refine PT.condB _ rfl (fun hc1 => ?_) (fun _ => ?_)
 ·have hc1e := hc1 rfl
  refine Q0 (σ' := ⟨[], []⟩) trivial trivial ?_
  refine Q2 (Q1 ?_)
  refine O5 (ox1 .nilS) .nil .nil rfl <| O1 <| Q0 (σ' := ⟨[(2, .nilS)], []⟩) (j1 rfl) trivial ?_
  refine Q5 ?_
  refine PT.asNil 2 (Mk.Reply) rfl ?_
  rw [hc1e] at hφ
  obtain ⟨_, hφ⟩ := G_some hφ
  obtain rfl := Option.some.inj hφ
  exact Q6 hw0 rfl (.tmp rfl rfl .nil) rfl
 ·skip
  refine Q0 (σ' := ⟨[(0, _)], []⟩) (j1 rfl) trivial ?_
  refine Q4 ?_
  refine Q2 ?_
  obtain ⟨hb2, hφ⟩ := G_some hφ
  refine Q1 ?_
  refine O3 rfl rfl (ox_buildSlice_arr (id := 5) s47 z38 Parts.nil rfl (by decide)) .nil .nil rfl (by kernel_rfl) <| O5 (ox0 .tmp) (.one rfl) .nil rfl ?_
  refine Ops.putK [5] rfl rfl (ox_append a47 .tmp .tmp hb2.1 hb2.2) (.app (.one rfl) (.one rfl)) (.one rfl) rfl (by kernel_rfl) ?_
  refine O5 (ox1 .tmp) (.one rfl) .nil rfl <| O1 <| Q0 (σ' := ⟨[(2, _)], [(5, .arr 38 (([] : List Mk.Reply) ++ a0))]⟩) (j1 rfl) (j1 rfl) ?_
  refine Q5 ?_
  refine PT.freeze 5 [2] rfl (j1 rfl) ?_
  obtain rfl := Option.some.inj hφ
  exact Q6 hw0 rfl (.tmp rfl rfl .nil) rfl
theorem x_slices_Clone___api_Reply_api_Reply_ {a0 : List Mk.Reply} {r : (List Mk.Reply)} (hφ : slices_Clone___api_Reply_api_Reply_ a0 = some r) : FnX Go.Proofs.Try.prog 122 [.val a0] [] (.sl 5) [(5, .arr 38 r)] [] := by
 unfold slices_Clone___api_Reply_api_Reply_ at hφ
 refine FnX.mk' Go.Proofs.Try.func122 rfl (by decide) rfl (fun w0 m0 => ?_)
 refine Q2 (Q1 ?_)
 refine O5 (ox1 .nilS) .nil .nil rfl <| O1 <| Q0 (σ' := ⟨[(0, .val (a0))], []⟩) (j1 rfl) trivial ?_
 refine Q2 ?_
 refine Q2 (Q1 ?_)
 refine O5 (ox0 .tmp) (.one rfl) .nil rfl <| O5 (ox_isNil (by kernel_rfl) .tmp .nilS) (.app (.one rfl) .nil) .nil rfl <| O1 <| Q0 (σ' := ⟨[(0, _), (4, _)], []⟩) (j2 rfl rfl) trivial ?_
 refine PT.condB _ rfl (fun hc1 => ?_) (fun _ => ?_)
 ·have hc1e := hc1 rfl
  refine Q0 (σ' := ⟨[], []⟩) trivial trivial ?_
  refine Q2 (Q1 ?_)
  refine O5 (ox1 .nilS) .nil .nil rfl <| O1 <| Q0 (σ' := ⟨[(2, .nilS)], []⟩) (j1 rfl) trivial ?_
  refine Q5 ?_
  refine PT.nilArr 5 2 38 (Mk.Reply) rfl (by kernel_rfl) ?_
  rw [hc1e] at hφ
  obtain ⟨_, hφ⟩ := G_some hφ
  obtain rfl := Option.some.inj hφ
  exact Q7 rfl (.tmp rfl .nil) rfl (j1 rfl) trivial
 ·skip
  refine Q0 (σ' := ⟨[(0, _)], []⟩) (j1 rfl) trivial ?_
  refine Q4 ?_
  refine Q2 ?_
  obtain ⟨hb2, hφ⟩ := G_some hφ
  refine Q1 ?_
  refine O3 rfl rfl (ox_buildSlice_arr (id := 5) s47 z38 Parts.nil rfl (by decide)) .nil .nil rfl (by kernel_rfl) <| O5 (ox0 .tmp) (.one rfl) .nil rfl ?_
  refine Ops.putK [5] rfl rfl (ox_append a47 .tmp .tmp hb2.1 hb2.2) (.app (.one rfl) (.one rfl)) (.one rfl) rfl (by kernel_rfl) ?_
  refine O5 (ox1 .tmp) (.one rfl) .nil rfl <| O1 <| Q0 (σ' := ⟨[(2, _)], [(5, .arr 38 (([] : List Mk.Reply) ++ a0))]⟩) (j1 rfl) (j1 rfl) ?_
  refine Q5 ?_
  obtain rfl := Option.some.inj hφ
  exact Q7 rfl (.tmp rfl .nil) rfl (j1 rfl) trivial
theorem c_client_hear {a0 : Mk.Client} {a1 : Int} {r : Mk.Client} (hφ : client_hear a0 a1 = some r) : Fn Go.Proofs.Try.prog 123 [.val a0, .val a1] (.val r) := by
 unfold client_hear at hφ
 refine Fn.mk' Go.Proofs.Try.func123 rfl (by decide) rfl rfl rfl (fun w0 hw0 => ?_)
 refine Q2 (Q1 ?_)
 refine O3 rfl rfl (ox_box (id := 2) .tmp) (.one rfl) .nil rfl (by kernel_rfl) <| O3 rfl rfl (ox_alloc (id := 4) z61) .nil .nil rfl (by kernel_rfl) <| O1 <| Q0 (σ' := ⟨[(1, .val (a1)), (2, _), (4, _)], [(2, .var (a0) []), (4, .var zCl [])]⟩) (j3 rfl rfl rfl) (j2 rfl rfl) ?_
 refine Q2 ?_
 obtain ⟨hb1, hφ⟩ := G_some hφ
 obtain ⟨v2, hv2, hφ⟩ := B_some hφ
 refine Q1 ?_
 refine O5 (ox3 Client_Box f61_4) (.one rfl) .nil rfl <| O5 (ox2 t31) (.one rfl) (.one rfl) rfl <| O5 (ox_ix s31 .tmp .int hb1.1 hb1.2) (.app (.one rfl) .nil) .nil rfl <| O5 (ox_load_elem t63) (.one rfl) .nil rfl <| O5 (ox_call (c_wire_ReadAnswer hv2) (.cons .tmp .nil)) (.app (.one rfl) .nil) .nil rfl <| O5 (ox0 .tmp) (.one rfl) .nil rfl ?_
 refine O5 (ox7 rfl) (.one rfl) .nil rfl <| O5 (ox7 rfl) (.one rfl) .nil rfl <| O3 rfl rfl (ox_alloc (id := 5) z74) .nil .nil rfl (by kernel_rfl) <| O2 rfl rfl (ox5 t74 .tmp) (.cons rfl (.one rfl)) (.one rfl) <| O5 (ox1 .tmp) (.one rfl) .nil rfl <| O1 <| Q0 (σ' := ⟨[(1, _), (2, _), (4, _), (5, _), (6, .val (v2.2))], [(2, _), (4, _), (5, .var (v2.1) [])]⟩) (j5 rfl rfl rfl rfl rfl) (j3 rfl rfl rfl) ?_
 refine Q2 ?_
 obtain ⟨hb3, hφ⟩ := G_some hφ
 obtain ⟨v4, hv4, hφ⟩ := B_some hφ
 refine Q1 ?_
 refine O5 (ox3 Client_Box f61_4) (.one rfl) .nil rfl <| O5 (ox2 t31) (.one rfl) (.one rfl) rfl <| O5 (ox_slice s31 .tmp (.some .int) .none hb3.1 hb3.2.1 hb3.2.2) (.app (.one rfl) (.app .nil .nil)) .nil rfl <| O5 (ox_call (c_slices_Clone_____byte___byte_ hv4) (.cons .tmp .nil)) (.app (.one rfl) .nil) .nil rfl <| O5 (ox3 Client_Box f61_4) (.one rfl) .nil rfl <| O2 rfl rfl (ox_store_fld t31 .tmp) (.cons rfl (.one rfl)) (.one rfl) <| O1 <| Q0 (σ' := ⟨[(1, _), (2, _), (4, _), (5, _), (6, _)], [(2, .var ({ a0 with Box := v4 }) []), (4, _), (5, _)]⟩) (j5 rfl rfl rfl rfl rfl) (j3 rfl rfl rfl) ?_
 obtain ⟨k5, hk5, hφ⟩ := J_some hφ
 refine PT.cut (ι := Mk.Client × Mk.Client) (fun p => ⟨[(2, .ptr 2 (Lens.id (α := Mk.Client))), (4, .ptr 4 (Lens.id (α := Mk.Client)))], [(2, .var (p.1) []), (4, .var (p.2) [])]⟩) (fun p => k5 (p.1) (p.2) = some r) ?_ ?_
 ·skip
  refine Q2 (Q1 ?_)
  refine O5 (ox0 .tmp) (.one rfl) .nil rfl <| O5 (ox_eql .tmp .int) (.app (.one rfl) .nil) .nil rfl <| O5 (ox0 .tmp) (.one rfl) .nil rfl <| O4 rfl rfl rfl rfl (.plain .nil) (fun hG => (ox3 Answer_Client f74_0)) (j1 rfl) .nil rfl <| O4 rfl rfl rfl rfl (.cond (fun h => h) .nil) (fun hG => (ox2 t3)) (j1 rfl) (.one rfl) rfl <| O4 rfl rfl rfl rfl (.plain .nil) (fun hG => (ox0 .tmp)) (j1 rfl) .nil rfl ?_
  refine O4 rfl rfl rfl rfl (.cond (fun h => h) (.cond (fun h => h) .nil)) (fun hG => (ox_eql .tmp .tmp)) (j2 rfl rfl) .nil rfl <| O5 ox8 (j2 rfl rfl) .nil rfl <| O5 (ox0 .tmp) (.one rfl) .nil rfl <| O4 rfl rfl rfl rfl (.plain .nil) (fun hG => (ox3 Answer_Token f74_1)) (j1 rfl) .nil rfl <| O4 rfl rfl rfl rfl (.cond (fun h => h) .nil) (fun hG => (ox2 t3)) (j1 rfl) (.one rfl) rfl <| O4 rfl rfl rfl rfl (.plain .nil) (fun hG => (ox3 Client_At f61_1)) (j1 rfl) .nil rfl ?_
  refine O4 rfl rfl rfl rfl (.cond (fun h => h) .nil) (fun hG => (ox2 t3)) (j1 rfl) (.one rfl) rfl <| O4 rfl rfl rfl rfl (.cond (fun h => h) (.cond (fun h => h) .nil)) (fun hG => (ox_eql .tmp .tmp)) (j2 rfl rfl) .nil rfl <| O5 ox8 (j2 rfl rfl) .nil rfl <| O5 (ox0 .tmp) (.one rfl) .nil rfl <| O4 rfl rfl rfl rfl (.plain .nil) (fun hG => (ox3 Client_Sent f61_2)) (j1 rfl) .nil rfl <| O4 rfl rfl rfl rfl (.cond (fun h => h) .nil) (fun hG => (ox2 t4)) (j1 rfl) (.one rfl) rfl ?_
  refine O5 ox8 (j2 rfl rfl) .nil rfl <| O1 <| Q0 (σ' := ⟨[(2, _), (4, _), (5, _), (38, .val (((((decide (v2.2 = (0 : Int))) && (decide (v2.1.Client = a1))) && (decide (v2.1.Token = { a0 with Box := v4 }.At))) && { a0 with Box := v4 }.Sent)))], [(2, _), (4, _), (5, _)]⟩) (j4 rfl rfl rfl rfl) (j3 rfl rfl rfl) ?_
  refine Q3 _ rfl (fun hc6 => ?_) (fun hc6 => ?_)
  ·replace hφ := if_then hφ hc6
   refine Q0 (σ' := ⟨[(2, _), (4, _), (5, _)], [(2, _), (4, _), (5, _)]⟩) (j3 rfl rfl rfl) (j3 rfl rfl rfl) ?_
   refine Q2 ?_
   obtain ⟨v7, hv7, hφ⟩ := B_some hφ
   obtain ⟨hb8, hφ⟩ := G_some hφ
   refine Q8 hMixed (
     .cons (S5 (ox3 Client_Got f61_5)) ⟨.one rfl, .nil⟩ (by kernel_rfl) rfl <|
     .cons (S5 (ox2 t47)) ⟨.one rfl, .one rfl⟩ (by kernel_rfl) rfl <|
     .cons (S5 (ox_callX (x_slices_Clone___api_Reply_api_Reply_ hv7) [] [(5, 41)] [(5, 41)] [] (.cons .tmp .nil) rfl rfl rfl rfl rfl rfl rfl rfl trivial rfl rfl rfl rfl)) ⟨(.app (.one rfl) .nil), .nil⟩ (by kernel_rfl) rfl <|
     .cons (S5 (ox3 Answer_Reply f74_2)) ⟨.one rfl, .nil⟩ (by kernel_rfl) rfl <|
     .cons (S5 (ox2 t38)) ⟨.one rfl, .one rfl⟩ (by kernel_rfl) rfl <|
     .cons (S5 (ox_buildSlice_val s47 z38 (.cons .tmp Parts.nil) rfl (by decide))) ⟨(.app (.one rfl) .nil), .nil⟩ (by kernel_rfl) rfl <|
     .cons (Step.putK [41] rfl rfl (ox_appendV a47 .tmp .tmp hb8.1 hb8.2)) ⟨(.app (.one rfl) (.one rfl)), .one rfl⟩ (by kernel_rfl) rfl <|
     .cons (S5 (ox3 Client_Got f61_5)) ⟨.one rfl, .nil⟩ (by kernel_rfl) rfl <|
     .cons (S4 rfl rfl (ox_store_fld t47 .tmp)) ⟨(.cons rfl (.one rfl)), .one rfl⟩ (by kernel_rfl) rfl <|
     .nil) _ [[], [0], [0, 1], [], [3], [3, 4], [0, 1, 2, 3, 4, 5], [0, 1, 2, 3, 4, 5, 6], [0, 1, 2, 3, 4, 5, 6, 7]] rfl (by kernel_rfl) (by kernel_rfl) ?_
   refine Q0 (σ' := ⟨[(2, _), (4, _)], [(2, .var ({ ({ a0 with Box := v4 }) with Got := (v7 ++ ([v2.1.Reply] : List Mk.Reply)) }) []), (4, _)]⟩) (j2 rfl rfl) (j2 rfl rfl) ?_
   refine Q2 ?_
   obtain ⟨hb9, hφ⟩ := G_some hφ
   refine Q1 ?_
   refine O5 (ox3 Client_At f61_1) (.one rfl) .nil rfl <| O5 (ox2 t3) (.one rfl) (.one rfl) rfl <| O5 (ox_add .tmp .int hb9) (.app (.one rfl) .nil) .nil rfl <| O5 (ox3 Client_At f61_1) (.one rfl) .nil rfl <| O2 rfl rfl (ox_store_fld t3 .tmp) (.cons rfl (.one rfl)) (.one rfl) <| O1 <| Q0 (σ' := ⟨[(2, _), (4, _)], [(2, .var ({ ({ ({ a0 with Box := v4 }) with Got := (v7 ++ ([v2.1.Reply] : List Mk.Reply)) }) with At := ({ ({ a0 with Box := v4 }) with Got := (v7 ++ ([v2.1.Reply] : List Mk.Reply)) }.At + (1 : Int)) }) []), (4, _)]⟩) (j2 rfl rfl) (j2 rfl rfl) ?_
   refine Q1 ?_
   refine O5 (ox3 Client_Sent f61_2) (.one rfl) .nil rfl <| O2 rfl rfl (ox_store_fld t4 .bool) (.cons rfl .nil) (.one rfl) <| O1 <| Q0 (σ' := ⟨[(2, _), (4, _)], [(2, .var ({ ({ ({ ({ a0 with Box := v4 }) with Got := (v7 ++ ([v2.1.Reply] : List Mk.Reply)) }) with At := ({ ({ a0 with Box := v4 }) with Got := (v7 ++ ([v2.1.Reply] : List Mk.Reply)) }.At + (1 : Int)) }) with Sent := false }) []), (4, _)]⟩) (j2 rfl rfl) (j2 rfl rfl) ?_
   exact PT.meet ({ ({ ({ ({ a0 with Box := v4 }) with Got := (v7 ++ ([v2.1.Reply] : List Mk.Reply)) }) with At := ({ ({ a0 with Box := v4 }) with Got := (v7 ++ ([v2.1.Reply] : List Mk.Reply)) }.At + (1 : Int)) }) with Sent := false }, zCl) hφ (j2 rfl rfl) (j2 rfl rfl)
  ·replace hφ := if_else hφ hc6
   refine Q0 (σ' := ⟨[(2, _), (4, _)], [(2, _), (4, _)]⟩) (j2 rfl rfl) (j2 rfl rfl) ?_
   refine Q4 ?_
   exact PT.meet ({ a0 with Box := v4 }, zCl) hφ (j2 rfl rfl) (j2 rfl rfl)
 ·rintro ⟨y2_k5, y4_k5⟩ hφ
  subst hk5
  refine Q0 (σ' := ⟨[(2, .ptr 2 (Lens.id (α := Mk.Client))), (4, .ptr 4 (Lens.id (α := Mk.Client)))], [(2, .var (y2_k5) []), (4, .var (y4_k5) [])]⟩) (j2 rfl rfl) (j2 rfl rfl) ?_
  refine Q2 (Q1 ?_)
  refine O5 (ox4 t61) (.one rfl) (.one rfl) rfl <| O2 rfl rfl (ox5 t61 .tmp) (.cons rfl (.one rfl)) (.one rfl) <| O1 <| Q0 (σ' := ⟨[(4, _)], [(4, .var (y2_k5) [])]⟩) (j1 rfl) (j1 rfl) ?_
  refine Q5 ?_
  obtain rfl := Option.some.inj hφ
  exact Q6 hw0 rfl (.cell t61 rfl rfl .nil) rfl
theorem c_client_Go {a0 : Mk.Client} {a1 : Int} {a2 : Int} {a3 : Bool} {r : (Mk.Client × (List UInt8) × Int)} (hφ : client_Go a0 a1 a2 a3 = some r) : Fn Go.Proofs.Try.prog 110 [.val a0, .val a1, .val a2, .val a3] (.tup [.val r.1, .nlist r.2.1, .val r.2.2]) := by
 unfold client_Go at hφ
 refine Fn.mk' Go.Proofs.Try.func110 rfl (by decide) rfl rfl rfl (fun w0 hw0 => ?_)
 refine Q2 (Q1 ?_)
 refine O3 rfl rfl (ox_box (id := 4) .tmp) (.one rfl) .nil rfl (by kernel_rfl) <| O3 rfl rfl (ox_alloc (id := 8) z61) .nil .nil rfl (by kernel_rfl) <| O5 (ox1 .nilS) .nil .nil rfl <| O5 (ox1 .int) .nil .nil rfl <| O1 <| Q0 (σ' := ⟨[(1, .val (a1)), (2, .val (a2)), (3, .val (a3)), (4, _), (8, _)], [(4, .var (a0) []), (8, .var zCl [])]⟩) (j5 rfl rfl rfl rfl rfl) (j2 rfl rfl) ?_
 refine Q2 ?_
 refine PT.block ?_
 refine Q2 (Q1 ?_)
 refine O5 (ox3 Client_Box f61_4) (.one rfl) .nil rfl <| O5 (ox2 t31) (.one rfl) (.one rfl) rfl <| O5 (ox_len s31 .tmp) (.one rfl) .nil rfl <| O5 (ox_gtr .tmp .int) (.app (.one rfl) .nil) .nil rfl <| O5 (ox1 .tmp) (.one rfl) .nil rfl <| O1 <| Q0 (σ' := ⟨[(1, _), (2, _), (3, _), (4, _), (8, _), (12, .val (decide ((0 : Int) < (a0.Box.length : Int))))], [(4, _), (8, _)]⟩) (j6 rfl rfl rfl rfl rfl rfl) (j2 rfl rfl) ?_
 refine Q3 _ rfl (fun hc1 => ?_) (fun hc1 => ?_)
 ·replace hφ := if_then hφ hc1
  refine Q0 (σ' := ⟨[(1, _), (4, _), (8, _)], [(4, _), (8, _)]⟩) (j3 rfl rfl rfl) (j2 rfl rfl) ?_
  refine Q2 ?_
  obtain ⟨v2, hv2, hφ⟩ := B_some hφ
  refine Q1 ?_
  refine O5 (ox4 t61) (.one rfl) (.one rfl) rfl <| O5 (ox0 .tmp) (.one rfl) .nil rfl <| O5 (ox_call (c_client_hear hv2) (.cons .tmp (.cons .tmp .nil))) (.app (.one rfl) (.app (.one rfl) .nil)) .nil rfl <| O2 rfl rfl (ox5 t61 .tmp) (.cons rfl (.one rfl)) (.one rfl) <| O5 (ox1 .nilS) .nil .nil rfl <| O5 (ox1 .int) .nil .nil rfl <| O1 <| Q0 (σ' := ⟨[(8, _), (9, .nilS), (10, .val (0 : Int))], [(8, .var (v2) [])]⟩) (j3 rfl rfl rfl) (j1 rfl) ?_
  refine Q5 ?_
  refine PT.asNlistNil 9 (UInt8) rfl ?_
  obtain rfl := Option.some.inj hφ
  exact Q6 hw0 rfl (.cell t61 rfl rfl (.tmp rfl rfl (.tmp rfl rfl .nil))) rfl
 ·replace hφ := if_else hφ hc1
  refine Q0 (σ' := ⟨[(1, _), (2, _), (3, _), (4, _), (8, _)], [(4, _), (8, _)]⟩) (j5 rfl rfl rfl rfl rfl) (j2 rfl rfl) ?_
  refine Q2 (Q1 ?_)
  refine O5 (ox3 Client_At f61_1) (.one rfl) .nil rfl <| O5 (ox2 t3) (.one rfl) (.one rfl) rfl <| O5 (ox3 Client_Calls f61_0) (.one rfl) .nil rfl <| O5 (ox2 t59) (.one rfl) (.one rfl) rfl <| O5 (ox_len s59 .tmp) (.one rfl) .nil rfl <| O5 (ox_geq .tmp .tmp) (.app (.one rfl) (.one rfl)) .nil rfl ?_
  refine O5 (ox1 .tmp) (.one rfl) .nil rfl <| O1 <| Q0 (σ' := ⟨[(1, _), (2, _), (3, _), (4, _), (8, _), (20, .val (decide ((a0.Calls.length : Int) ≤ a0.At)))], [(4, _), (8, _)]⟩) (j6 rfl rfl rfl rfl rfl rfl) (j2 rfl rfl) ?_
  refine Q3 _ rfl (fun hc3 => ?_) (fun hc3 => ?_)
  ·replace hφ := if_then hφ hc3
   refine Q0 (σ' := ⟨[(4, _), (8, _)], [(4, _), (8, _)]⟩) (j2 rfl rfl) (j2 rfl rfl) ?_
   refine Q2 (Q1 ?_)
   refine O5 (ox4 t61) (.one rfl) (.one rfl) rfl <| O2 rfl rfl (ox5 t61 .tmp) (.cons rfl (.one rfl)) (.one rfl) <| O5 (ox1 .nilS) .nil .nil rfl <| O5 (ox1 .int) .nil .nil rfl <| O1 <| Q0 (σ' := ⟨[(8, _), (9, .nilS), (10, .val (11 : Int))], [(8, .var (a0) [])]⟩) (j3 rfl rfl rfl) (j1 rfl) ?_
   refine Q5 ?_
   refine PT.asNlistNil 9 (UInt8) rfl ?_
   obtain rfl := Option.some.inj hφ
   exact Q6 hw0 rfl (.cell t61 rfl rfl (.tmp rfl rfl (.tmp rfl rfl .nil))) rfl
  ·replace hφ := if_else hφ hc3
   refine Q0 (σ' := ⟨[(1, _), (2, _), (3, _), (4, _), (8, _)], [(4, _), (8, _)]⟩) (j5 rfl rfl rfl rfl rfl) (j2 rfl rfl) ?_
   refine Q2 (Q1 ?_)
   refine O5 (ox0 .tmp) (.one rfl) .nil rfl <| O5 (ox_not .tmp) (.one rfl) .nil rfl <| O5 (ox1 .tmp) (.one rfl) .nil rfl <| O1 <| Q0 (σ' := ⟨[(1, _), (2, _), (4, _), (8, _), (28, .val (!a3))], [(4, _), (8, _)]⟩) (j5 rfl rfl rfl rfl rfl) (j2 rfl rfl) ?_
   refine Q3 _ rfl (fun hc4 => ?_) (fun hc4 => ?_)
   ·replace hφ := if_then hφ hc4
    refine Q0 (σ' := ⟨[(4, _), (8, _)], [(4, _), (8, _)]⟩) (j2 rfl rfl) (j2 rfl rfl) ?_
    refine Q2 (Q1 ?_)
    refine O5 (ox4 t61) (.one rfl) (.one rfl) rfl <| O2 rfl rfl (ox5 t61 .tmp) (.cons rfl (.one rfl)) (.one rfl) <| O5 (ox1 .nilS) .nil .nil rfl <| O5 (ox1 .int) .nil .nil rfl <| O1 <| Q0 (σ' := ⟨[(8, _), (9, .nilS), (10, .val (10 : Int))], [(8, .var (a0) [])]⟩) (j3 rfl rfl rfl) (j1 rfl) ?_
    refine Q5 ?_
    refine PT.asNlistNil 9 (UInt8) rfl ?_
    obtain rfl := Option.some.inj hφ
    exact Q6 hw0 rfl (.cell t61 rfl rfl (.tmp rfl rfl (.tmp rfl rfl .nil))) rfl
   ·replace hφ := if_else hφ hc4
    refine Q0 (σ' := ⟨[(1, _), (2, _), (4, _), (8, _)], [(4, _), (8, _)]⟩) (j4 rfl rfl rfl rfl) (j2 rfl rfl) ?_
    refine Q2 (Q1 ?_)
    refine O5 (ox3 Client_Sent f61_2) (.one rfl) .nil rfl <| O5 (ox2 t4) (.one rfl) (.one rfl) rfl <| O5 (ox0 .tmp) (.one rfl) .nil rfl <| O4 rfl rfl rfl rfl (.plain .nil) (fun hG => (ox3 Client_Gen f61_3)) (j1 rfl) .nil rfl <| O4 rfl rfl rfl rfl (.cond (fun h => h) .nil) (fun hG => (ox2 t3)) (j1 rfl) (.one rfl) rfl <| O4 rfl rfl rfl rfl (.plain .nil) (fun hG => (ox0 .tmp)) (j1 rfl) .nil rfl ?_
    refine O4 rfl rfl rfl rfl (.cond (fun h => h) (.cond (fun h => h) .nil)) (fun hG => (ox_eql .tmp .tmp)) (j2 rfl rfl) .nil rfl <| O5 ox8 (j2 rfl rfl) .nil rfl <| O5 (ox1 .tmp) (.one rfl) .nil rfl <| O1 <| Q0 (σ' := ⟨[(1, _), (2, _), (4, _), (8, _), (32, .val (a0.Sent && (decide (a0.Gen = a2))))], [(4, _), (8, _)]⟩) (j5 rfl rfl rfl rfl rfl) (j2 rfl rfl) ?_
    refine Q3 _ rfl (fun hc5 => ?_) (fun hc5 => ?_)
    ·replace hφ := if_then hφ hc5
     refine Q0 (σ' := ⟨[(4, _), (8, _)], [(4, _), (8, _)]⟩) (j2 rfl rfl) (j2 rfl rfl) ?_
     refine Q2 (Q1 ?_)
     refine O5 (ox4 t61) (.one rfl) (.one rfl) rfl <| O2 rfl rfl (ox5 t61 .tmp) (.cons rfl (.one rfl)) (.one rfl) <| O5 (ox1 .nilS) .nil .nil rfl <| O5 (ox1 .int) .nil .nil rfl <| O1 <| Q0 (σ' := ⟨[(8, _), (9, .nilS), (10, .val (12 : Int))], [(8, .var (a0) [])]⟩) (j3 rfl rfl rfl) (j1 rfl) ?_
     refine Q5 ?_
     refine PT.asNlistNil 9 (UInt8) rfl ?_
     obtain rfl := Option.some.inj hφ
     exact Q6 hw0 rfl (.cell t61 rfl rfl (.tmp rfl rfl (.tmp rfl rfl .nil))) rfl
    ·replace hφ := if_else hφ hc5
     refine Q0 (σ' := ⟨[(1, _), (2, _), (4, _), (8, _)], [(4, _), (8, _)]⟩) (j4 rfl rfl rfl rfl) (j2 rfl rfl) ?_
     refine Q4 ?_
     refine Q2 ?_
     obtain ⟨hb6, hφ⟩ := G_some hφ
     obtain ⟨v7, hv7, hφ⟩ := B_some hφ
     refine Q8 hMixed (
       .cons (S5 (ox0 .tmp)) ⟨.one rfl, .nil⟩ (by kernel_rfl) rfl <|
       .cons (S5 (ox3 Client_At f61_1)) ⟨.one rfl, .nil⟩ (by kernel_rfl) rfl <|
       .cons (S5 (ox2 t3)) ⟨.one rfl, .one rfl⟩ (by kernel_rfl) rfl <|
       .cons (S5 (ox3 Client_Calls f61_0)) ⟨.one rfl, .nil⟩ (by kernel_rfl) rfl <|
       .cons (S5 (ox2 t59)) ⟨.one rfl, .one rfl⟩ (by kernel_rfl) rfl <|
       .cons (S5 (ox3 Client_At f61_1)) ⟨.one rfl, .nil⟩ (by kernel_rfl) rfl <|
       .cons (S5 (ox2 t3)) ⟨.one rfl, .one rfl⟩ (by kernel_rfl) rfl <|
       .cons (S5 (ox_ix s59 .tmp .tmp hb6.1 hb6.2)) ⟨(.app (.one rfl) (.one rfl)), .nil⟩ (by kernel_rfl) rfl <|
       .cons (S5 (ox_load_elem t33)) ⟨.one rfl, .nil⟩ (by kernel_rfl) rfl <|
       .cons (S5 (oxa z35 u35 rfl (.cons Request_Client f35_0 .tmp (.cons Request_Token f35_1 .tmp (.cons Request_Call f35_2 .tmp Bld.nil))))) ⟨(.app (.one rfl) (.app (.one rfl) (.app (.one rfl) .nil))), .nil⟩ (by kernel_rfl) rfl <|
       .cons (S5 (ox_call (c_wire_Request hv7) (.cons .tmp .nil))) ⟨(.app (.one rfl) .nil), .nil⟩ (by kernel_rfl) rfl <|
       .cons (S5 (ox1 .tmp)) ⟨.one rfl, .nil⟩ (by kernel_rfl) rfl <|
       .nil) _ [[], [], [1], [], [3], [], [5], [3, 4, 5, 6], [3, 4, 5, 6, 7], [0, 1, 2, 3, 4, 5, 6, 7, 8], [0, 1, 2, 3, 4, 5, 6, 7, 8, 9], [0, 1, 2, 3, 4, 5, 6, 7, 8, 9, 10]] rfl (by kernel_rfl) (by kernel_rfl) ?_
     refine Q0 (σ' := ⟨[(2, _), (4, _), (8, _), (11, .val (v7))], [(4, _), (8, _)]⟩) (j4 rfl rfl rfl rfl) (j2 rfl rfl) ?_
     refine Q2 (Q1 ?_)
     refine O5 (ox0 .tmp) (.one rfl) .nil rfl <| O5 (ox3 Client_Sent f61_2) (.one rfl) .nil rfl <| O2 rfl rfl (ox_store_fld t4 .bool) (.cons rfl .nil) (.one rfl) <| O5 (ox3 Client_Gen f61_3) (.one rfl) .nil rfl <| O2 rfl rfl (ox_store_fld t3 .tmp) (.cons rfl (.one rfl)) (.one rfl) <| O1 <| Q0 (σ' := ⟨[(4, _), (8, _), (11, _)], [(4, .var ({ ({ a0 with Sent := true }) with Gen := a2 }) []), (8, _)]⟩) (j3 rfl rfl rfl) (j2 rfl rfl) ?_
     refine Q2 (Q1 ?_)
     refine O5 (ox4 t61) (.one rfl) (.one rfl) rfl <| O5 (ox0 .tmp) (.one rfl) .nil rfl <| O2 rfl rfl (ox5 t61 .tmp) (.cons rfl (.one rfl)) (.one rfl) <| O5 (ox1 .tmp) (.one rfl) .nil rfl <| O5 (ox1 .int) .nil .nil rfl <| O1 <| Q0 (σ' := ⟨[(8, _), (9, .val (v7)), (10, .val (0 : Int))], [(8, .var ({ ({ a0 with Sent := true }) with Gen := a2 }) [])]⟩) (j3 rfl rfl rfl) (j1 rfl) ?_
     refine Q5 ?_
     obtain ⟨hb8, hφ⟩ := G_some hφ
     refine PT.asNlist 9 hb8 rfl ?_
     obtain rfl := Option.some.inj hφ
     exact Q6 hw0 rfl (.cell t61 rfl rfl (.tmp rfl rfl (.tmp rfl rfl .nil))) rfl
end Go.Gx
end
