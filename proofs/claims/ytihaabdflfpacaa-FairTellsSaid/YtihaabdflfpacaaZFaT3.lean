/- WHAT THE STATEMENTS OF THIS GROUP NEED, part 3: laid together by prune.py out of own texts. -/
import Derived.Test.YtihaabdflfpacaaZFaT2
set_option linter.unusedVariables false
set_option linter.unusedSimpArgs false
set_option maxRecDepth 20000
set_option maxHeartbeats 4000000
section
namespace Go.Gx
open Sp
theorem c_mkref1_WrongCall {a0 : Mk.Call} {r : Int} (hφ : mkref1_WrongCall a0 = some r) : Fn Go.Proofs.Try.prog 74 [.val a0] (.val r) := by
 unfold mkref1_WrongCall at hφ
 refine Fn.mk' Go.Proofs.Try.func74 rfl (by decide) rfl rfl rfl (fun w0 hw0 => ?_)
 refine Q2 (Q1 ?_)
 refine O3 rfl rfl (ox_box (id := 1) .tmp) (.one rfl) .nil rfl (by kernel_rfl) <| O5 (ox1 .int) .nil .nil rfl <| O1 <| Q0 (σ' := ⟨[(1, _)], [(1, .var (a0) [])]⟩) (j1 rfl) (j1 rfl) ?_
 refine Q2 ?_
 refine Q2 (Q1 ?_)
 refine O5 (ox3 Call_Kind f33_0) (.one rfl) .nil rfl <| O5 (ox2 t3) (.one rfl) (.one rfl) rfl <| O5 (ox_lss .tmp .int) (.app (.one rfl) .nil) .nil rfl <| O5 (ox0 .tmp) (.one rfl) .nil rfl <| O4 rfl rfl rfl rfl (.plain .nil) (fun hG => (ox3 Call_Kind f33_0)) (j1 rfl) .nil rfl <| O4 rfl rfl rfl rfl (.cond (fun h => h) .nil) (fun hG => (ox2 t3)) (j1 rfl) (.one rfl) rfl ?_
 refine O4 rfl rfl rfl rfl (.cond (fun h => h) .nil) (fun hG => (ox_gtr .tmp .int)) (j1 rfl) .nil rfl <| O5 ox9 (j2 rfl rfl) .nil rfl <| O1 <| Q0 (σ' := ⟨[(1, _), (15, .val ((decide (a0.Kind < (1 : Int))) || (decide ((6 : Int) < a0.Kind))))], [(1, _)]⟩) (j2 rfl rfl) (j1 rfl) ?_
 refine Q3 _ rfl (fun hc1 => ?_) (fun hc1 => ?_)
 ·replace hφ := if_then hφ hc1
  refine Q0 (σ' := ⟨[], []⟩) trivial trivial ?_
  refine Q2 (Q1 ?_)
  refine O5 (ox1 .int) .nil .nil rfl <| O1 <| Q0 (σ' := ⟨[(2, .val (1 : Int))], []⟩) (j1 rfl) trivial ?_
  refine Q5 ?_
  obtain rfl := Option.some.inj hφ
  exact Q6 hw0 rfl (.tmp rfl rfl .nil) rfl
 ·replace hφ := if_else hφ hc1
  refine Q0 (σ' := ⟨[(1, _)], [(1, _)]⟩) (j1 rfl) (j1 rfl) ?_
  refine Q4 ?_
  refine Q2 (Q1 ?_)
  refine O5 (ox1 .int) .nil .nil rfl <| O5 (ox1 .int) .nil .nil rfl <| O1 <| Q0 (σ' := ⟨[(1, _), (3, .val (1 : Int)), (4, .val (255 : Int))], [(1, _)]⟩) (j3 rfl rfl rfl) (j1 rfl) ?_
  obtain ⟨k2, hk2, hφ⟩ := J_some hφ
  refine PT.cut (ι := Int × Int × Mk.Call) (fun p => ⟨[(1, .ptr 1 (Lens.id (α := Mk.Call))), (3, .val (p.1)), (4, .val (p.2.1))], [(1, .var (p.2.2) [])]⟩) (fun p => k2 (p.1) (p.2.1) (p.2.2) = some r) ?_ ?_
  ·skip
   refine Q2 (Q1 ?_)
   refine O5 (ox3 Call_Kind f33_0) (.one rfl) .nil rfl <| O5 (ox2 t3) (.one rfl) (.one rfl) rfl <| O5 (ox_eql .tmp .int) (.app (.one rfl) .nil) .nil rfl <| O1 <| Q0 (σ' := ⟨[(1, _), (3, _), (4, _), (18, .val (decide (a0.Kind = (5 : Int))))], [(1, _)]⟩) (j4 rfl rfl rfl rfl) (j1 rfl) ?_
   refine Q3 _ rfl (fun hc3 => ?_) (fun hc3 => ?_)
   ·replace hφ := if_then hφ hc3
    refine Q0 (σ' := ⟨[(1, _)], [(1, _)]⟩) (j1 rfl) (j1 rfl) ?_
    refine Q1 ?_
    refine O5 (ox1 .int) .nil .nil rfl <| O5 (ox1 .int) .nil .nil rfl <| O1 <| Q0 (σ' := ⟨[(1, _), (3, .val (0 : Int)), (4, .val (0 : Int))], [(1, _)]⟩) (j3 rfl rfl rfl) (j1 rfl) ?_
    exact PT.meet ((0 : Int), (0 : Int), a0) hφ (j3 rfl rfl rfl) (j1 rfl)
   ·replace hφ := if_else hφ hc3
    refine Q0 (σ' := ⟨[(1, _), (3, _), (4, _)], [(1, _)]⟩) (j3 rfl rfl rfl) (j1 rfl) ?_
    refine Q4 ?_
    exact PT.meet ((1 : Int), (255 : Int), a0) hφ (j3 rfl rfl rfl) (j1 rfl)
  ·rintro ⟨x3_k2, x4_k2, y1_k2⟩ hφ
   subst hk2
   refine Q0 (σ' := ⟨[(1, .ptr 1 (Lens.id (α := Mk.Call))), (3, .val (x3_k2)), (4, .val (x4_k2))], [(1, .var (y1_k2) [])]⟩) (j3 rfl rfl rfl) (j1 rfl) ?_
   refine Q2 (Q1 ?_)
   refine O5 (ox1 .int) .nil .nil rfl <| O5 (ox1 .int) .nil .nil rfl <| O1 <| Q0 (σ' := ⟨[(1, _), (3, _), (4, _), (5, .val (0 : Int)), (6, .val (0 : Int))], [(1, _)]⟩) (j5 rfl rfl rfl rfl rfl) (j1 rfl) ?_
   obtain ⟨k4, hk4, hφ⟩ := J_some hφ
   refine PT.cut (ι := Int × Int × Int × Int × Mk.Call) (fun p => ⟨[(1, .ptr 1 (Lens.id (α := Mk.Call))), (3, .val (p.1)), (4, .val (p.2.1)), (5, .val (p.2.2.1)), (6, .val (p.2.2.2.1))], [(1, .var (p.2.2.2.2) [])]⟩) (fun p => k4 (p.1) (p.2.1) (p.2.2.1) (p.2.2.2.1) (p.2.2.2.2) = some r) ?_ ?_
   ·skip
    refine Q2 (Q1 ?_)
    refine O5 (ox3 Call_Kind f33_0) (.one rfl) .nil rfl <| O5 (ox2 t3) (.one rfl) (.one rfl) rfl <| O5 (ox_eql .tmp .int) (.app (.one rfl) .nil) .nil rfl <| O1 <| Q0 (σ' := ⟨[(1, _), (3, _), (4, _), (5, _), (6, _), (21, .val (decide (y1_k2.Kind = (6 : Int))))], [(1, _)]⟩) (j6 rfl rfl rfl rfl rfl rfl) (j1 rfl) ?_
    refine Q3 _ rfl (fun hc5 => ?_) (fun hc5 => ?_)
    ·replace hφ := if_then hφ hc5
     refine Q0 (σ' := ⟨[(1, _), (3, _), (4, _)], [(1, _)]⟩) (j3 rfl rfl rfl) (j1 rfl) ?_
     refine Q1 ?_
     refine O5 (ox1 .int) .nil .nil rfl <| O5 (ox1 .int) .nil .nil rfl <| O1 <| Q0 (σ' := ⟨[(1, _), (3, _), (4, _), (5, .val (1 : Int)), (6, .val (255 : Int))], [(1, _)]⟩) (j5 rfl rfl rfl rfl rfl) (j1 rfl) ?_
     exact PT.meet (x3_k2, x4_k2, (1 : Int), (255 : Int), y1_k2) hφ (j5 rfl rfl rfl rfl rfl) (j1 rfl)
    ·replace hφ := if_else hφ hc5
     refine Q0 (σ' := ⟨[(1, _), (3, _), (4, _), (5, _), (6, _)], [(1, _)]⟩) (j5 rfl rfl rfl rfl rfl) (j1 rfl) ?_
     refine Q4 ?_
     exact PT.meet (x3_k2, x4_k2, (0 : Int), (0 : Int), y1_k2) hφ (j5 rfl rfl rfl rfl rfl) (j1 rfl)
   ·rintro ⟨x3_k4, x4_k4, x5_k4, x6_k4, y1_k4⟩ hφ
    subst hk4
    refine Q0 (σ' := ⟨[(1, _), (3, .val (x3_k4)), (4, .val (x4_k4)), (5, .val (x5_k4)), (6, .val (x6_k4))], [(1, .var (y1_k4) [])]⟩) (j5 rfl rfl rfl rfl rfl) (j1 rfl) ?_
    refine Q2 ?_
    refine Q2 (Q1 ?_)
    refine O5 (ox3 Call_Name f33_1) (.one rfl) .nil rfl <| O5 (ox2 t3) (.one rfl) (.one rfl) rfl <| O5 (ox0 .tmp) (.one rfl) .nil rfl <| O5 (ox_lss .tmp .tmp) (.app (.one rfl) (.one rfl)) .nil rfl <| O5 (ox0 .tmp) (.one rfl) .nil rfl <| O4 rfl rfl rfl rfl (.plain .nil) (fun hG => (ox3 Call_Name f33_1)) (j1 rfl) .nil rfl ?_
    refine O4 rfl rfl rfl rfl (.cond (fun h => h) .nil) (fun hG => (ox2 t3)) (j1 rfl) (.one rfl) rfl <| O4 rfl rfl rfl rfl (.plain .nil) (fun hG => (ox0 .tmp)) (j1 rfl) .nil rfl <| O4 rfl rfl rfl rfl (.cond (fun h => h) (.cond (fun h => h) .nil)) (fun hG => (ox_gtr .tmp .tmp)) (j2 rfl rfl) .nil rfl <| O5 ox9 (j2 rfl rfl) .nil rfl <| O5 (ox0 .tmp) (.one rfl) .nil rfl <| O4 rfl rfl rfl rfl (.plain .nil) (fun hG => (ox3 Call_Other f33_2)) (j1 rfl) .nil rfl ?_
    refine O4 rfl rfl rfl rfl (.cond (fun h => h) .nil) (fun hG => (ox2 t3)) (j1 rfl) (.one rfl) rfl <| O4 rfl rfl rfl rfl (.plain .nil) (fun hG => (ox0 .tmp)) (j1 rfl) .nil rfl <| O4 rfl rfl rfl rfl (.cond (fun h => h) (.cond (fun h => h) .nil)) (fun hG => (ox_lss .tmp .tmp)) (j2 rfl rfl) .nil rfl <| O5 ox9 (j2 rfl rfl) .nil rfl <| O5 (ox0 .tmp) (.one rfl) .nil rfl <| O4 rfl rfl rfl rfl (.plain .nil) (fun hG => (ox3 Call_Other f33_2)) (j1 rfl) .nil rfl ?_
    refine O4 rfl rfl rfl rfl (.cond (fun h => h) .nil) (fun hG => (ox2 t3)) (j1 rfl) (.one rfl) rfl <| O4 rfl rfl rfl rfl (.plain .nil) (fun hG => (ox0 .tmp)) (j1 rfl) .nil rfl <| O4 rfl rfl rfl rfl (.cond (fun h => h) (.cond (fun h => h) .nil)) (fun hG => (ox_gtr .tmp .tmp)) (j2 rfl rfl) .nil rfl <| O5 ox9 (j2 rfl rfl) .nil rfl <| O1 <| Q0 (σ' := ⟨[(1, _), (43, .val (((((decide (y1_k4.Name < x3_k4)) || (decide (x4_k4 < y1_k4.Name))) || (decide (y1_k4.Other < x5_k4))) || (decide (x6_k4 < y1_k4.Other)))))], [(1, _)]⟩) (j2 rfl rfl) (j1 rfl) ?_
    refine Q3 _ rfl (fun hc6 => ?_) (fun hc6 => ?_)
    ·replace hφ := if_then hφ hc6
     refine Q0 (σ' := ⟨[], []⟩) trivial trivial ?_
     refine Q2 (Q1 ?_)
     refine O5 (ox1 .int) .nil .nil rfl <| O1 <| Q0 (σ' := ⟨[(2, .val (7 : Int))], []⟩) (j1 rfl) trivial ?_
     refine Q5 ?_
     obtain rfl := Option.some.inj hφ
     exact Q6 hw0 rfl (.tmp rfl rfl .nil) rfl
    ·replace hφ := if_else hφ hc6
     refine Q0 (σ' := ⟨[(1, _)], [(1, _)]⟩) (j1 rfl) (j1 rfl) ?_
     refine Q4 ?_
     refine Q2 (Q1 ?_)
     refine O5 (ox1 .int) .nil .nil rfl <| O1 <| Q0 (σ' := ⟨[(1, _), (7, .val (0 : Int))], [(1, _)]⟩) (j2 rfl rfl) (j1 rfl) ?_
     obtain ⟨k7, hk7, hφ⟩ := J_some hφ
     refine PT.cut (ι := Int × Mk.Call) (fun p => ⟨[(1, .ptr 1 (Lens.id (α := Mk.Call))), (7, .val (p.1))], [(1, .var (p.2) [])]⟩) (fun p => k7 (p.1) (p.2) = some r) ?_ ?_
     ·skip
      refine Q2 (Q1 ?_)
      refine O5 (ox3 Call_Kind f33_0) (.one rfl) .nil rfl <| O5 (ox2 t3) (.one rfl) (.one rfl) rfl <| O5 (ox_eql .tmp .int) (.app (.one rfl) .nil) .nil rfl <| O5 (ox0 .tmp) (.one rfl) .nil rfl <| O4 rfl rfl rfl rfl (.plain .nil) (fun hG => (ox3 Call_Kind f33_0)) (j1 rfl) .nil rfl <| O4 rfl rfl rfl rfl (.cond (fun h => h) .nil) (fun hG => (ox2 t3)) (j1 rfl) (.one rfl) rfl ?_
      refine O4 rfl rfl rfl rfl (.cond (fun h => h) .nil) (fun hG => (ox_eql .tmp .int)) (j1 rfl) .nil rfl <| O5 ox9 (j2 rfl rfl) .nil rfl <| O1 <| Q0 (σ' := ⟨[(1, _), (7, _), (51, .val ((decide (y1_k4.Kind = (1 : Int))) || (decide (y1_k4.Kind = (4 : Int)))))], [(1, _)]⟩) (j3 rfl rfl rfl) (j1 rfl) ?_
      refine Q3 _ rfl (fun hc8 => ?_) (fun hc8 => ?_)
      ·replace hφ := if_then hφ hc8
       refine Q0 (σ' := ⟨[(1, _)], [(1, _)]⟩) (j1 rfl) (j1 rfl) ?_
       refine Q1 ?_
       refine O5 (ox1 .int) .nil .nil rfl <| O1 <| Q0 (σ' := ⟨[(1, _), (7, .val (1073741824 : Int))], [(1, _)]⟩) (j2 rfl rfl) (j1 rfl) ?_
       exact PT.meet ((1073741824 : Int), y1_k4) hφ (j2 rfl rfl) (j1 rfl)
      ·replace hφ := if_else hφ hc8
       refine Q0 (σ' := ⟨[(1, _), (7, _)], [(1, _)]⟩) (j2 rfl rfl) (j1 rfl) ?_
       refine Q4 ?_
       exact PT.meet ((0 : Int), y1_k4) hφ (j2 rfl rfl) (j1 rfl)
     ·rintro ⟨x7_k7, y1_k7⟩ hφ
      subst hk7
      refine Q0 (σ' := ⟨[(1, _), (7, .val (x7_k7))], [(1, .var (y1_k7) [])]⟩) (j2 rfl rfl) (j1 rfl) ?_
      refine Q2 (Q2 ?_)
      obtain ⟨hb9, hφ⟩ := G_some hφ
      refine Q1 ?_
      refine O5 (ox3 Call_N f33_3) (.one rfl) .nil rfl <| O5 (ox2 t3) (.one rfl) (.one rfl) rfl <| O5 (ox0 .tmp) (.one rfl) .nil rfl <| O5 (ox_neg .tmp hb9) (.one rfl) .nil rfl <| O5 (ox_lss .tmp .tmp) (.app (.one rfl) (.one rfl)) .nil rfl <| O5 (ox0 .tmp) (.one rfl) .nil rfl ?_
      refine O4 rfl rfl rfl rfl (.plain .nil) (fun hG => (ox3 Call_N f33_3)) (j1 rfl) .nil rfl <| O4 rfl rfl rfl rfl (.cond (fun h => h) .nil) (fun hG => (ox2 t3)) (j1 rfl) (.one rfl) rfl <| O4 rfl rfl rfl rfl (.plain .nil) (fun hG => (ox0 .tmp)) (j1 rfl) .nil rfl <| O4 rfl rfl rfl rfl (.cond (fun h => h) (.cond (fun h => h) .nil)) (fun hG => (ox_gtr .tmp .tmp)) (j2 rfl rfl) .nil rfl <| O5 ox9 (j2 rfl rfl) .nil rfl <| O1 <| Q0 (σ' := ⟨[(62, .val ((decide (y1_k7.N < (-x7_k7))) || (decide (x7_k7 < y1_k7.N))))], []⟩) (j1 rfl) trivial ?_
      refine Q3 _ rfl (fun hc10 => ?_) (fun hc10 => ?_)
      ·replace hφ := if_then hφ hc10
       refine Q0 (σ' := ⟨[], []⟩) trivial trivial ?_
       refine Q2 (Q1 ?_)
       refine O5 (ox1 .int) .nil .nil rfl <| O1 <| Q0 (σ' := ⟨[(2, .val (3 : Int))], []⟩) (j1 rfl) trivial ?_
       refine Q5 ?_
       obtain rfl := Option.some.inj hφ
       exact Q6 hw0 rfl (.tmp rfl rfl .nil) rfl
      ·replace hφ := if_else hφ hc10
       refine Q0 (σ' := ⟨[], []⟩) trivial trivial ?_
       refine Q4 ?_
       refine Q2 (Q1 ?_)
       refine O5 (ox1 .int) .nil .nil rfl <| O1 <| Q0 (σ' := ⟨[(2, .val (0 : Int))], []⟩) (j1 rfl) trivial ?_
       refine Q5 ?_
       obtain rfl := Option.some.inj hφ
       exact Q6 hw0 rfl (.tmp rfl rfl .nil) rfl
theorem c_cell_Find {a0 : List Int} {a1 : Int} {r : Int} (hφ : cell_Find a0 a1 = some r) : Fn Go.Proofs.Try.prog 119 [.val a0, .val a1] (.val r) := by
 unfold cell_Find at hφ
 refine Fn.mk' Go.Proofs.Try.func119 rfl (by decide) rfl rfl rfl (fun w0 hw0 => ?_)
 refine Q2 (Q1 ?_)
 refine O5 (ox1 .int) .nil .nil rfl <| O1 <| Q0 (σ' := ⟨[(0, .val (a0)), (1, .val (a1))], []⟩) (j2 rfl rfl) trivial ?_
 obtain ⟨k1, hk1, hφ⟩ := J_some hφ
 refine PT.cut (ι := Unit) (fun p => ⟨[], []⟩) (fun p => k1 () = some r) ?_ ?_
 ·skip
  refine Q2 ?_
  obtain ⟨hb2, hφ⟩ := G_some hφ
  refine Q1 ?_
  refine O5 (ox0 .tmp) (.one rfl) .nil rfl <| O5 (ox_ix s25 .tmp .int hb2.1 hb2.2) (.app (.one rfl) .nil) .nil rfl <| O5 (ox_load_elem t3) (.one rfl) .nil rfl <| O5 (ox0 .int) .nil .nil rfl <| O1 <| Q0 (σ' := ⟨[(0, _), (1, _), (8, .val (ix a0 (0 : Int))), (9, .val (0 : Int))], []⟩) (j4 rfl rfl rfl rfl) trivial ?_
  refine PT.block ?_
  refine PT.loop (ι := Nat × (List Int) × Int × Int × Int) (fun p => ⟨[(0, .val (p.2.1)), (1, .val (p.2.2.1)), (8, .val (p.2.2.2.1)), (9, .val (p.2.2.2.2))], []⟩) (fun p => cell_Find_l1 k1 p.1 (p.2.1) (p.2.2.1) (p.2.2.2.1) (p.2.2.2.2) = some r) (fun p => p.1) (((ix a0 (0 : Int)) - (0 : Int)).toNat + 1, a0, a1, (ix a0 (0 : Int)), (0 : Int)) hφ (j4 rfl rfl rfl rfl) trivial ?_
  rintro ⟨m3, x0_m3, x1_m3, x8_m3, x9_m3⟩ (hφ : cell_Find_l1 k1 m3 x0_m3 x1_m3 x8_m3 x9_m3 = some r)
  obtain _ | m3 := m3
  ·exact (none_no hφ).elim
  rw [cell_Find_l1.eq_2] at hφ
  refine Q0 (σ' := ⟨[(0, .val (x0_m3)), (1, .val (x1_m3)), (8, .val (x8_m3)), (9, .val (x9_m3))], []⟩) (j4 rfl rfl rfl rfl) trivial ?_
  refine Q2 (Q1 ?_)
  refine O5 (ox_lss .tmp .tmp) (.app (.one rfl) (.one rfl)) .nil rfl <| O1 <| Q0 (σ' := ⟨[(0, _), (1, _), (8, _), (9, _), (10, .val (decide (x9_m3 < x8_m3)))], []⟩) (j5 rfl rfl rfl rfl rfl) trivial ?_
  refine Q2 ?_
  refine Q3 _ rfl (fun hc4 => ?_) (fun hc4 => ?_)
  ·replace hφ := if_then hφ hc4
   refine Q0 (σ' := ⟨[(0, _), (1, _), (8, _), (9, _)], []⟩) (j4 rfl rfl rfl rfl) trivial ?_
   refine Q4 ?_
   refine Q2 ?_
   refine PT.block ?_
   refine Q2 (Q1 ?_)
   refine O5 (ox0 .tmp) (.one rfl) .nil rfl <| O5 (ox1 .tmp) (.one rfl) .nil rfl <| O1 <| Q0 (σ' := ⟨[(0, _), (1, _), (5, .val (x9_m3)), (8, _), (9, _)], []⟩) (j5 rfl rfl rfl rfl rfl) trivial ?_
   refine Q2 ?_
   obtain ⟨hb5, hφ⟩ := G_some hφ
   obtain ⟨hb6, hφ⟩ := G_some hφ
   obtain ⟨hb7, hφ⟩ := G_some hφ
   refine Q1 ?_
   refine O5 (ox0 .tmp) (.one rfl) .nil rfl <| O5 (ox0 .tmp) (.one rfl) .nil rfl <| O5 (ox_mul .int .tmp hb5) (.app .nil (.one rfl)) .nil rfl <| O5 (ox_add .int .tmp hb6) (.app .nil (.one rfl)) .nil rfl <| O5 (ox_ix s25 .tmp .tmp hb7.1 hb7.2) (.app (.one rfl) (.one rfl)) .nil rfl <| O5 (ox_load_elem t3) (.one rfl) .nil rfl ?_
   refine O5 (ox0 .tmp) (.one rfl) .nil rfl <| O5 (ox_eql .tmp .tmp) (.app (.one rfl) (.one rfl)) .nil rfl <| O1 <| Q0 (σ' := ⟨[(0, _), (1, _), (5, _), (8, _), (9, _), (19, .val ((decide ((ix x0_m3 ((1 : Int) + ((2 : Int) * x9_m3))) = x1_m3))))], []⟩) (j6 rfl rfl rfl rfl rfl rfl) trivial ?_
   refine Q3 _ rfl (fun hc8 => ?_) (fun hc8 => ?_)
   ·replace hφ := if_then hφ hc8
    refine Q0 (σ' := ⟨[(5, _)], []⟩) (j1 rfl) trivial ?_
    refine Q2 (Q1 ?_)
    refine O5 (ox0 .tmp) (.one rfl) .nil rfl <| O5 (ox1 .tmp) (.one rfl) .nil rfl <| O1 <| Q0 (σ' := ⟨[(4, .val (x9_m3))], []⟩) (j1 rfl) trivial ?_
    refine Q5 ?_
    obtain rfl := Option.some.inj hφ
    exact Q6 hw0 rfl (.tmp rfl rfl .nil) rfl
   ·replace hφ := if_else hφ hc8
    refine Q0 (σ' := ⟨[(0, _), (1, _), (8, _), (9, _)], []⟩) (j4 rfl rfl rfl rfl) trivial ?_
    refine Q4 ?_
    obtain ⟨hb9, hφ⟩ := G_some hφ
    refine Q1 ?_
    refine O5 (ox_add .tmp .int hb9) (.app (.one rfl) .nil) .nil rfl <| O5 (ox0 .tmp) (.one rfl) .nil rfl <| O1 <| Q0 (σ' := ⟨[(0, _), (1, _), (8, _), (9, .val (x9_m3 + (1 : Int)))], []⟩) (j4 rfl rfl rfl rfl) trivial ?_
    exact PT.next (m3, x0_m3, x1_m3, x8_m3, (x9_m3 + (1 : Int))) hφ (Nat.lt_succ_self _) (j4 rfl rfl rfl rfl) trivial
  ·replace hφ := if_else hφ hc4
   refine Q0 (σ' := ⟨[], []⟩) trivial trivial ?_
   refine PT.exit ?_
   exact PT.meet () hφ trivial trivial
 ·rintro ⟨⟩ hφ
  subst hk1
  refine Q0 (σ' := ⟨[], []⟩) trivial trivial ?_
  refine Q2 (Q1 ?_)
  refine O5 (ox1 .int) .nil .nil rfl <| O1 <| Q0 (σ' := ⟨[(4, .val (-1 : Int))], []⟩) (j1 rfl) trivial ?_
  refine Q5 ?_
  obtain rfl := Option.some.inj hφ
  exact Q6 hw0 rfl (.tmp rfl rfl .nil) rfl
theorem c_plan_at {a0 : Int} {r : Int} (hφ : plan_at a0 = some r) : Fn Go.Proofs.Try.prog 120 [.val a0] (.val r) := by
 unfold plan_at at hφ
 refine Fn.mk' Go.Proofs.Try.func120 rfl (by decide) rfl rfl rfl (fun w0 hw0 => ?_)
 refine Q2 (Q1 ?_)
 refine O5 (ox1 .int) .nil .nil rfl <| O1 <| Q0 (σ' := ⟨[(0, .val (a0))], []⟩) (j1 rfl) trivial ?_
 refine Q2 ?_
 obtain ⟨hb1, hφ⟩ := G_some hφ
 obtain ⟨hb2, hφ⟩ := G_some hφ
 refine Q1 ?_
 refine O5 (ox0 .tmp) (.one rfl) .nil rfl <| O5 (ox_mul .int .tmp hb1) (.app .nil (.one rfl)) .nil rfl <| O5 (ox_add .int .tmp hb2) (.app .nil (.one rfl)) .nil rfl <| O5 (ox1 .tmp) (.one rfl) .nil rfl <| O1 <| Q0 (σ' := ⟨[(2, .val ((2 : Int) + ((2 : Int) * a0)))], []⟩) (j1 rfl) trivial ?_
 refine Q5 ?_
 obtain rfl := Option.some.inj hφ
 exact Q6 hw0 rfl (.tmp rfl rfl .nil) rfl
theorem c_plan_Make {a0 : List Int} {a1 : Mk.Call} {r : ((List Mk.Write) × Mk.Reply)} (hφ : plan_Make a0 a1 = some r) : Fn Go.Proofs.Try.prog 101 [.val a0, .val a1] (.tup [.val r.1, .val r.2]) := by
 unfold plan_Make at hφ
 refine Fn.mk' Go.Proofs.Try.func101 rfl (by decide) rfl rfl rfl (fun w0 hw0 => ?_)
 refine Q2 (Q1 ?_)
 refine O3 rfl rfl (ox_box (id := 3) .tmp) (.one rfl) .nil rfl (by kernel_rfl) <| O5 (ox1 .nilS) .nil .nil rfl <| O3 rfl rfl (ox_alloc (id := 5) z38) .nil .nil rfl (by kernel_rfl) <| O1 <| Q0 (σ' := ⟨[(0, .val (a0)), (3, _), (5, _)], [(3, .var (a1) []), (5, .var zRe [])]⟩) (j3 rfl rfl rfl) (j2 rfl rfl) ?_
 refine Q2 ?_
 obtain ⟨v1, hv1, hφ⟩ := B_some hφ
 refine Q1 ?_
 refine O5 (ox0 .tmp) (.one rfl) .nil rfl <| O5 (ox3 Call_Name f33_1) (.one rfl) .nil rfl <| O5 (ox2 t3) (.one rfl) (.one rfl) rfl <| O5 (ox_call (c_cell_Find hv1) (.cons .tmp (.cons .tmp .nil))) (.app (.one rfl) (.app (.one rfl) .nil)) .nil rfl <| O5 (ox1 .tmp) (.one rfl) .nil rfl <| O1 <| Q0 (σ' := ⟨[(0, _), (3, _), (5, _), (6, .val (v1))], [(3, _), (5, _)]⟩) (j4 rfl rfl rfl rfl) (j2 rfl rfl) ?_
 refine Q2 ?_
 obtain ⟨hb2, hφ⟩ := G_some hφ
 refine Q1 ?_
 refine O5 (ox0 .tmp) (.one rfl) .nil rfl <| O5 (ox_ix s25 .tmp .int hb2.1 hb2.2) (.app (.one rfl) .nil) .nil rfl <| O5 (ox_load_elem t3) (.one rfl) .nil rfl <| O5 (ox1 .tmp) (.one rfl) .nil rfl <| O1 <| Q0 (σ' := ⟨[(0, _), (3, _), (5, _), (6, _), (7, .val (ix a0 (0 : Int)))], [(3, _), (5, _)]⟩) (j5 rfl rfl rfl rfl rfl) (j2 rfl rfl) ?_
 refine Q2 ?_
 refine PT.block ?_
 refine Q2 (Q1 ?_)
 refine O5 (ox3 Call_Kind f33_0) (.one rfl) .nil rfl <| O5 (ox2 t3) (.one rfl) (.one rfl) rfl <| O5 (ox_eql .tmp .int) (.app (.one rfl) .nil) .nil rfl <| O5 (ox1 .tmp) (.one rfl) .nil rfl <| O1 <| Q0 (σ' := ⟨[(0, _), (3, _), (5, _), (6, _), (7, _), (19, .val (decide (a1.Kind = (5 : Int))))], [(3, _), (5, _)]⟩) (j6 rfl rfl rfl rfl rfl rfl) (j2 rfl rfl) ?_
 refine Q3 _ rfl (fun hc3 => ?_) (fun hc3 => ?_)
 ·replace hφ := if_then hφ hc3
  refine Q0 (σ' := ⟨[(5, _), (7, _)], [(5, _)]⟩) (j2 rfl rfl) (j1 rfl) ?_
  refine Q2 (Q1 ?_)
  refine O5 (ox0 .tmp) (.one rfl) .nil rfl <| O5 (oxa z38 u38 rfl (.cons Reply_N f38_1 .tmp Bld.nil)) (.app (.one rfl) .nil) .nil rfl <| O5 (ox1 .nilS) .nil .nil rfl <| O2 rfl rfl (ox5 t38 .tmp) (.cons rfl (.one rfl)) (.one rfl) <| O1 <| Q0 (σ' := ⟨[(4, .nilS), (5, _)], [(5, .var ({ Err := (0 : Int), N := (ix a0 (0 : Int)) } : Mk.Reply) [])]⟩) (j2 rfl rfl) (j1 rfl) ?_
  refine Q5 ?_
  refine PT.asNil 4 (Mk.Write) rfl ?_
  obtain rfl := Option.some.inj hφ
  exact Q6 hw0 rfl (.tmp rfl rfl (.cell t38 rfl rfl .nil)) rfl
 ·replace hφ := if_else hφ hc3
  refine Q0 (σ' := ⟨[(0, _), (3, _), (5, _), (6, _), (7, _)], [(3, _), (5, _)]⟩) (j5 rfl rfl rfl rfl rfl) (j2 rfl rfl) ?_
  refine Q2 (Q1 ?_)
  refine O5 (ox3 Call_Kind f33_0) (.one rfl) .nil rfl <| O5 (ox2 t3) (.one rfl) (.one rfl) rfl <| O5 (ox_eql .tmp .int) (.app (.one rfl) .nil) .nil rfl <| O5 (ox0 .tmp) (.one rfl) .nil rfl <| O4 rfl rfl rfl rfl (.plain .nil) (fun hG => (ox0 .tmp)) (j1 rfl) .nil rfl <| O4 rfl rfl rfl rfl (.cond (fun h => h) .nil) (fun hG => (ox_lss .tmp .int)) (j1 rfl) .nil rfl ?_
  refine O5 ox8 (j2 rfl rfl) .nil rfl <| O5 (ox0 .tmp) (.one rfl) .nil rfl <| O4 rfl rfl rfl rfl (.plain .nil) (fun hG => (ox0 .tmp)) (j1 rfl) .nil rfl <| O4 rfl rfl rfl rfl (.cond (fun h => h) .nil) (fun hG => (ox_geq .tmp .int)) (j1 rfl) .nil rfl <| O5 ox8 (j2 rfl rfl) .nil rfl <| O5 (ox1 .tmp) (.one rfl) .nil rfl <| O1 <| Q0 (σ' := ⟨[(0, _), (3, _), (5, _), (6, _), (7, _), (25, .val ((((decide (a1.Kind = (1 : Int))) && (decide (v1 < (0 : Int)))) && (decide ((5 : Int) ≤ (ix a0 (0 : Int)))))))], [(3, _), (5, _)]⟩) (j6 rfl rfl rfl rfl rfl rfl) (j2 rfl rfl) ?_
  refine Q3 _ rfl (fun hc4 => ?_) (fun hc4 => ?_)
  ·replace hφ := if_then hφ hc4
   refine Q0 (σ' := ⟨[(5, _)], [(5, _)]⟩) (j1 rfl) (j1 rfl) ?_
   refine Q2 (Q1 ?_)
   refine O5 (oxa z38 u38 rfl (.cons Reply_Err f38_0 .int Bld.nil)) (.app .nil .nil) .nil rfl <| O5 (ox1 .nilS) .nil .nil rfl <| O2 rfl rfl (ox5 t38 .tmp) (.cons rfl (.one rfl)) (.one rfl) <| O1 <| Q0 (σ' := ⟨[(4, .nilS), (5, _)], [(5, .var ({ Err := (9 : Int), N := (0 : Int) } : Mk.Reply) [])]⟩) (j2 rfl rfl) (j1 rfl) ?_
   refine Q5 ?_
   refine PT.asNil 4 (Mk.Write) rfl ?_
   obtain rfl := Option.some.inj hφ
   exact Q6 hw0 rfl (.tmp rfl rfl (.cell t38 rfl rfl .nil)) rfl
  ·replace hφ := if_else hφ hc4
   refine Q0 (σ' := ⟨[(0, _), (3, _), (5, _), (6, _), (7, _)], [(3, _), (5, _)]⟩) (j5 rfl rfl rfl rfl rfl) (j2 rfl rfl) ?_
   refine Q2 (Q1 ?_)
   refine O5 (ox3 Call_Kind f33_0) (.one rfl) .nil rfl <| O5 (ox2 t3) (.one rfl) (.one rfl) rfl <| O5 (ox_eql .tmp .int) (.app (.one rfl) .nil) .nil rfl <| O5 (ox0 .tmp) (.one rfl) .nil rfl <| O4 rfl rfl rfl rfl (.plain .nil) (fun hG => (ox0 .tmp)) (j1 rfl) .nil rfl <| O4 rfl rfl rfl rfl (.cond (fun h => h) .nil) (fun hG => (ox_lss .tmp .int)) (j1 rfl) .nil rfl ?_
   refine O5 ox8 (j2 rfl rfl) .nil rfl <| O5 (ox1 .tmp) (.one rfl) .nil rfl <| O1 <| Q0 (σ' := ⟨[(0, _), (3, _), (5, _), (6, _), (7, _), (38, .val ((decide (a1.Kind = (1 : Int))) && (decide (v1 < (0 : Int)))))], [(3, _), (5, _)]⟩) (j6 rfl rfl rfl rfl rfl rfl) (j2 rfl rfl) ?_
   refine Q3 _ rfl (fun hc5 => ?_) (fun hc5 => ?_)
   ·replace hφ := if_then hφ hc5
    refine Q0 (σ' := ⟨[(3, _), (5, _), (7, _)], [(3, _), (5, _)]⟩) (j3 rfl rfl rfl) (j2 rfl rfl) ?_
    refine Q2 ?_
    obtain ⟨v6, hv6, hφ⟩ := B_some hφ
    obtain ⟨hb7, hφ⟩ := G_some hφ
    obtain ⟨v8, hv8, hφ⟩ := B_some hφ
    obtain ⟨hb9, hφ⟩ := G_some hφ
    refine Q8 hMixed (
      .cons (S5 (ox0 .tmp)) ⟨.one rfl, .nil⟩ (by kernel_rfl) rfl <|
      .cons (S5 (ox_call (c_plan_at hv6) (.cons .tmp .nil))) ⟨(.app (.one rfl) .nil), .nil⟩ (by kernel_rfl) rfl <|
      .cons (S5 (ox_sub .tmp .int hb7)) ⟨(.app (.one rfl) .nil), .nil⟩ (by kernel_rfl) rfl <|
      .cons (S5 (ox3 Call_Name f33_1)) ⟨.one rfl, .nil⟩ (by kernel_rfl) rfl <|
      .cons (S5 (ox2 t3)) ⟨.one rfl, .one rfl⟩ (by kernel_rfl) rfl <|
      .cons (S5 (oxa z99 u99 rfl (.cons Write_At f99_0 .tmp (.cons Write_N f99_1 .tmp Bld.nil)))) ⟨(.app (.one rfl) (.app (.one rfl) .nil)), .nil⟩ (by kernel_rfl) rfl <|
      .cons (S5 (ox0 .tmp)) ⟨.one rfl, .nil⟩ (by kernel_rfl) rfl <|
      .cons (S5 (ox_call (c_plan_at hv8) (.cons .tmp .nil))) ⟨(.app (.one rfl) .nil), .nil⟩ (by kernel_rfl) rfl <|
      .cons (S5 (ox3 Call_N f33_3)) ⟨.one rfl, .nil⟩ (by kernel_rfl) rfl <|
      .cons (S5 (ox2 t3)) ⟨.one rfl, .one rfl⟩ (by kernel_rfl) rfl <|
      .cons (S5 (oxa z99 u99 rfl (.cons Write_At f99_0 .tmp (.cons Write_N f99_1 .tmp Bld.nil)))) ⟨(.app (.one rfl) (.app (.one rfl) .nil)), .nil⟩ (by kernel_rfl) rfl <|
      .cons (S5 (ox0 .tmp)) ⟨.one rfl, .nil⟩ (by kernel_rfl) rfl <|
      .cons (S5 (ox_add .tmp .int hb9)) ⟨(.app (.one rfl) .nil), .nil⟩ (by kernel_rfl) rfl <|
      .cons (S5 (oxa z99 u99 rfl (.cons Write_At f99_0 .int (.cons Write_N f99_1 .tmp Bld.nil)))) ⟨(.app .nil (.app (.one rfl) .nil)), .nil⟩ (by kernel_rfl) rfl <|
      .cons (S5 (ox_buildSlice_val s26 z99 (.cons .tmp (.cons .tmp (.cons .tmp Parts.nil))) rfl (by decide))) ⟨(.app (.one rfl) (.app (.one rfl) (.app (.one rfl) .nil))), .nil⟩ (by kernel_rfl) rfl <|
      .cons (S5 (oxa z38 u38 rfl Bld.nil)) ⟨.nil, .nil⟩ (by kernel_rfl) rfl <|
      .cons (S5 (ox1 .tmp)) ⟨.one rfl, .nil⟩ (by kernel_rfl) rfl <|
      .cons (S4 rfl rfl (ox5 t38 .tmp)) ⟨(.cons rfl (.one rfl)), .one rfl⟩ (by kernel_rfl) rfl <|
      .nil) _ [[], [0], [0, 1], [], [3], [0, 1, 2, 3, 4], [], [0, 1, 6], [], [8], [0, 1, 6, 7, 8, 9], [], [11], [11, 12], [0, 1, 2, 3, 4, 5, 6, 7, 8, 9, 10, 11, 12, 13], [], [0, 1, 2, 3, 4, 5, 6, 7, 8, 9, 10, 11, 12, 13, 14], [0, 1, 2, 3, 4, 5, 6, 7, 8, 9, 10, 11, 12, 13, 14, 15, 16]] rfl (by kernel_rfl) (by kernel_rfl) ?_
    refine Q0 (σ' := ⟨[(4, .val (([({ At := (v6 - (1 : Int)), N := a1.Name } : Mk.Write), ({ At := v8, N := a1.N } : Mk.Write), ({ At := (0 : Int), N := ((ix a0 (0 : Int)) + (1 : Int)) } : Mk.Write)] : List Mk.Write))), (5, _)], [(5, _)]⟩) (j2 rfl rfl) (j1 rfl) ?_
    refine Q5 ?_
    obtain rfl := Option.some.inj hφ
    exact Q6 hw0 rfl (.tmp rfl rfl (.cell t38 rfl rfl .nil)) rfl
   ·replace hφ := if_else hφ hc5
    refine Q0 (σ' := ⟨[(0, _), (3, _), (5, _), (6, _), (7, _)], [(3, _), (5, _)]⟩) (j5 rfl rfl rfl rfl rfl) (j2 rfl rfl) ?_
    refine Q2 (Q1 ?_)
    refine O5 (ox0 .tmp) (.one rfl) .nil rfl <| O5 (ox_lss .tmp .int) (.app (.one rfl) .nil) .nil rfl <| O5 (ox1 .tmp) (.one rfl) .nil rfl <| O1 <| Q0 (σ' := ⟨[(0, _), (3, _), (5, _), (6, _), (7, _), (62, .val (decide (v1 < (0 : Int))))], [(3, _), (5, _)]⟩) (j6 rfl rfl rfl rfl rfl rfl) (j2 rfl rfl) ?_
    refine Q3 _ rfl (fun hc10 => ?_) (fun hc10 => ?_)
    ·replace hφ := if_then hφ hc10
     refine Q0 (σ' := ⟨[(5, _)], [(5, _)]⟩) (j1 rfl) (j1 rfl) ?_
     refine Q2 (Q1 ?_)
     refine O5 (oxa z38 u38 rfl (.cons Reply_Err f38_0 .int Bld.nil)) (.app .nil .nil) .nil rfl <| O5 (ox1 .nilS) .nil .nil rfl <| O2 rfl rfl (ox5 t38 .tmp) (.cons rfl (.one rfl)) (.one rfl) <| O1 <| Q0 (σ' := ⟨[(4, .nilS), (5, _)], [(5, .var ({ Err := (6 : Int), N := (0 : Int) } : Mk.Reply) [])]⟩) (j2 rfl rfl) (j1 rfl) ?_
     refine Q5 ?_
     refine PT.asNil 4 (Mk.Write) rfl ?_
     obtain rfl := Option.some.inj hφ
     exact Q6 hw0 rfl (.tmp rfl rfl (.cell t38 rfl rfl .nil)) rfl
    ·replace hφ := if_else hφ hc10
     refine Q0 (σ' := ⟨[(0, _), (3, _), (5, _), (6, _), (7, _)], [(3, _), (5, _)]⟩) (j5 rfl rfl rfl rfl rfl) (j2 rfl rfl) ?_
     refine Q4 ?_
     refine Q2 ?_
     obtain ⟨v11, hv11, hφ⟩ := B_some hφ
     obtain ⟨hb12, hφ⟩ := G_some hφ
     refine Q1 ?_
     refine O5 (ox0 .tmp) (.one rfl) .nil rfl <| O5 (ox0 .tmp) (.one rfl) .nil rfl <| O5 (ox_call (c_plan_at hv11) (.cons .tmp .nil)) (.app (.one rfl) .nil) .nil rfl <| O5 (ox_ix s25 .tmp .tmp hb12.1 hb12.2) (.app (.one rfl) (.one rfl)) .nil rfl <| O5 (ox_load_elem t3) (.one rfl) .nil rfl <| O5 (ox1 .tmp) (.one rfl) .nil rfl <| O1 <| Q0 (σ' := ⟨[(0, _), (3, _), (5, _), (6, _), (7, _), (8, .val (ix a0 v11))], [(3, _), (5, _)]⟩) (j6 rfl rfl rfl rfl rfl rfl) (j2 rfl rfl) ?_
     refine Q2 ?_
     refine Q2 (Q1 ?_)
     refine O5 (ox3 Call_Kind f33_0) (.one rfl) .nil rfl <| O5 (ox2 t3) (.one rfl) (.one rfl) rfl <| O1 <| Q0 (σ' := ⟨[(0, _), (3, _), (5, _), (6, _), (7, _), (8, _), (72, .val (a1.Kind))], [(3, _), (5, _)]⟩) (j7 rfl rfl rfl rfl rfl rfl rfl) (j2 rfl rfl) ?_
     refine PT.block ?_
     refine Q2 (Q1 ?_)
     refine O5 (ox_eql .tmp .int) (.app (.one rfl) .nil) .nil rfl <| O5 (ox1 .tmp) (.one rfl) .nil rfl <| O1 <| Q0 (σ' := ⟨[(0, _), (3, _), (5, _), (6, _), (7, _), (8, _), (72, _), (73, .val (decide (a1.Kind = (1 : Int))))], [(3, _), (5, _)]⟩) (j8 rfl rfl rfl rfl rfl rfl rfl rfl) (j2 rfl rfl) ?_
     refine Q3 _ rfl (fun hc13 => ?_) (fun hc13 => ?_)
     ·replace hφ := if_then hφ hc13
      refine Q0 (σ' := ⟨[(3, _), (5, _), (6, _), (8, _)], [(3, _), (5, _)]⟩) (j4 rfl rfl rfl rfl) (j2 rfl rfl) ?_
      refine Q2 ?_
      obtain ⟨v14, hv14, hφ⟩ := B_some hφ
      refine Q8 hMixed (
        .cons (S5 (ox0 .tmp)) ⟨.one rfl, .nil⟩ (by kernel_rfl) rfl <|
        .cons (S5 (ox_call (c_plan_at hv14) (.cons .tmp .nil))) ⟨(.app (.one rfl) .nil), .nil⟩ (by kernel_rfl) rfl <|
        .cons (S5 (ox3 Call_N f33_3)) ⟨.one rfl, .nil⟩ (by kernel_rfl) rfl <|
        .cons (S5 (ox2 t3)) ⟨.one rfl, .one rfl⟩ (by kernel_rfl) rfl <|
        .cons (S5 (oxa z99 u99 rfl (.cons Write_At f99_0 .tmp (.cons Write_N f99_1 .tmp Bld.nil)))) ⟨(.app (.one rfl) (.app (.one rfl) .nil)), .nil⟩ (by kernel_rfl) rfl <|
        .cons (S5 (ox_buildSlice_val s26 z99 (.cons .tmp Parts.nil) rfl (by decide))) ⟨(.app (.one rfl) .nil), .nil⟩ (by kernel_rfl) rfl <|
        .cons (S5 (ox0 .tmp)) ⟨.one rfl, .nil⟩ (by kernel_rfl) rfl <|
        .cons (S5 (oxa z38 u38 rfl (.cons Reply_N f38_1 .tmp Bld.nil))) ⟨(.app (.one rfl) .nil), .nil⟩ (by kernel_rfl) rfl <|
        .cons (S5 (ox1 .tmp)) ⟨.one rfl, .nil⟩ (by kernel_rfl) rfl <|
        .cons (S4 rfl rfl (ox5 t38 .tmp)) ⟨(.cons rfl (.one rfl)), .one rfl⟩ (by kernel_rfl) rfl <|
        .nil) _ [[], [0], [], [2], [0, 1, 2, 3], [0, 1, 2, 3, 4], [], [6], [0, 1, 2, 3, 4, 5], [0, 1, 2, 3, 4, 5, 6, 7, 8]] rfl (by kernel_rfl) (by kernel_rfl) ?_
      refine Q0 (σ' := ⟨[(4, .val ([({ At := v14, N := a1.N } : Mk.Write)] : List Mk.Write)), (5, _)], [(5, .var ({ Err := (0 : Int), N := (ix a0 v11) } : Mk.Reply) [])]⟩) (j2 rfl rfl) (j1 rfl) ?_
      refine Q5 ?_
      obtain rfl := Option.some.inj hφ
      exact Q6 hw0 rfl (.tmp rfl rfl (.cell t38 rfl rfl .nil)) rfl
     ·replace hφ := if_else hφ hc13
      refine Q0 (σ' := ⟨[(0, _), (3, _), (5, _), (6, _), (7, _), (8, _), (72, _)], [(3, _), (5, _)]⟩) (j7 rfl rfl rfl rfl rfl rfl rfl) (j2 rfl rfl) ?_
      refine Q2 (Q1 ?_)
      refine O5 (ox_eql .tmp .int) (.app (.one rfl) .nil) .nil rfl <| O5 (ox1 .tmp) (.one rfl) .nil rfl <| O1 <| Q0 (σ' := ⟨[(0, _), (3, _), (5, _), (6, _), (7, _), (8, _), (72, _), (83, .val (decide (a1.Kind = (3 : Int))))], [(3, _), (5, _)]⟩) (j8 rfl rfl rfl rfl rfl rfl rfl rfl) (j2 rfl rfl) ?_
      refine Q3 _ rfl (fun hc15 => ?_) (fun hc15 => ?_)
      ·replace hφ := if_then hφ hc15
       refine Q0 (σ' := ⟨[(0, _), (5, _), (6, _), (7, _), (8, _)], [(5, _)]⟩) (j5 rfl rfl rfl rfl rfl) (j1 rfl) ?_
       refine Q2 ?_
       obtain ⟨hb16, hφ⟩ := G_some hφ
       refine Q1 ?_
       refine O5 (ox0 .tmp) (.one rfl) .nil rfl <| O5 (ox_sub .tmp .int hb16) (.app (.one rfl) .nil) .nil rfl <| O5 (oxa z99 u99 rfl (.cons Write_At f99_0 .int (.cons Write_N f99_1 .tmp Bld.nil))) (.app .nil (.app (.one rfl) .nil)) .nil rfl <| O5 (ox_buildSlice_val s26 z99 (.cons .tmp Parts.nil) rfl (by decide)) (.app (.one rfl) .nil) .nil rfl <| O5 (ox1 .tmp) (.one rfl) .nil rfl <| O1 <| Q0 (σ' := ⟨[(0, _), (5, _), (6, _), (7, _), (8, _), (9, .val (([({ At := (0 : Int), N := ((ix a0 (0 : Int)) - (1 : Int)) } : Mk.Write)] : List Mk.Write)))], [(5, _)]⟩) (j6 rfl rfl rfl rfl rfl rfl) (j1 rfl) ?_
       obtain ⟨k17, hk17, hφ⟩ := J_some hφ
       refine PT.cut (ι := Int × (List Mk.Write) × Mk.Reply) (fun p => ⟨[(5, .ptr 5 (Lens.id (α := Mk.Reply))), (8, .val (p.1)), (9, .val (p.2.1))], [(5, .var (p.2.2) [])]⟩) (fun p => k17 (p.1) (p.2.1) (p.2.2) = some r) ?_ ?_
       ·skip
        refine Q2 ?_
        obtain ⟨hb18, hφ⟩ := G_some hφ
        refine Q1 ?_
        refine O5 (ox0 .tmp) (.one rfl) .nil rfl <| O5 (ox0 .tmp) (.one rfl) .nil rfl <| O5 (ox_sub .tmp .int hb18) (.app (.one rfl) .nil) .nil rfl <| O5 (ox_lss .tmp .tmp) (.app (.one rfl) (.one rfl)) .nil rfl <| O1 <| Q0 (σ' := ⟨[(0, _), (5, _), (6, _), (7, _), (8, _), (9, _), (92, .val ((decide (v1 < ((ix a0 (0 : Int)) - (1 : Int))))))], [(5, _)]⟩) (j7 rfl rfl rfl rfl rfl rfl rfl) (j1 rfl) ?_
        refine Q3 _ rfl (fun hc19 => ?_) (fun hc19 => ?_)
        ·replace hφ := if_then hφ hc19
         refine Q0 (σ' := ⟨[(0, _), (5, _), (6, _), (7, _), (8, _)], [(5, _)]⟩) (j5 rfl rfl rfl rfl rfl) (j1 rfl) ?_
         obtain ⟨v20, hv20, hφ⟩ := B_some hφ
         obtain ⟨hb21, hφ⟩ := G_some hφ
         obtain ⟨hb22, hφ⟩ := G_some hφ
         obtain ⟨v23, hv23, hφ⟩ := B_some hφ
         obtain ⟨hb24, hφ⟩ := G_some hφ
         obtain ⟨hb25, hφ⟩ := G_some hφ
         obtain ⟨v26, hv26, hφ⟩ := B_some hφ
         obtain ⟨hb27, hφ⟩ := G_some hφ
         obtain ⟨v28, hv28, hφ⟩ := B_some hφ
         obtain ⟨hb29, hφ⟩ := G_some hφ
         obtain ⟨hb30, hφ⟩ := G_some hφ
         refine Q8 hMixed (
           .cons (S5 (ox0 .tmp)) ⟨.one rfl, .nil⟩ (by kernel_rfl) rfl <|
           .cons (S5 (ox_call (c_plan_at hv20) (.cons .tmp .nil))) ⟨(.app (.one rfl) .nil), .nil⟩ (by kernel_rfl) rfl <|
           .cons (S5 (ox_sub .tmp .int hb21)) ⟨(.app (.one rfl) .nil), .nil⟩ (by kernel_rfl) rfl <|
           .cons (S5 (ox0 .tmp)) ⟨.one rfl, .nil⟩ (by kernel_rfl) rfl <|
           .cons (S5 (ox0 .tmp)) ⟨.one rfl, .nil⟩ (by kernel_rfl) rfl <|
           .cons (S5 (ox_sub .tmp .int hb22)) ⟨(.app (.one rfl) .nil), .nil⟩ (by kernel_rfl) rfl <|
           .cons (S5 (ox_call (c_plan_at hv23) (.cons .tmp .nil))) ⟨(.app (.one rfl) .nil), .nil⟩ (by kernel_rfl) rfl <|
           .cons (S5 (ox_sub .tmp .int hb24)) ⟨(.app (.one rfl) .nil), .nil⟩ (by kernel_rfl) rfl <|
           .cons (S5 (ox_ix s25 .tmp .tmp hb25.1 hb25.2)) ⟨(.app (.one rfl) (.one rfl)), .nil⟩ (by kernel_rfl) rfl <|
           .cons (S5 (ox_load_elem t3)) ⟨.one rfl, .nil⟩ (by kernel_rfl) rfl <|
           .cons (S5 (oxa z99 u99 rfl (.cons Write_At f99_0 .tmp (.cons Write_N f99_1 .tmp Bld.nil)))) ⟨(.app (.one rfl) (.app (.one rfl) .nil)), .nil⟩ (by kernel_rfl) rfl <|
           .cons (S5 (ox0 .tmp)) ⟨.one rfl, .nil⟩ (by kernel_rfl) rfl <|
           .cons (S5 (ox_call (c_plan_at hv26) (.cons .tmp .nil))) ⟨(.app (.one rfl) .nil), .nil⟩ (by kernel_rfl) rfl <|
           .cons (S5 (ox0 .tmp)) ⟨.one rfl, .nil⟩ (by kernel_rfl) rfl <|
           .cons (S5 (ox0 .tmp)) ⟨.one rfl, .nil⟩ (by kernel_rfl) rfl <|
           .cons (S5 (ox_sub .tmp .int hb27)) ⟨(.app (.one rfl) .nil), .nil⟩ (by kernel_rfl) rfl <|
           .cons (S5 (ox_call (c_plan_at hv28) (.cons .tmp .nil))) ⟨(.app (.one rfl) .nil), .nil⟩ (by kernel_rfl) rfl <|
           .cons (S5 (ox_ix s25 .tmp .tmp hb29.1 hb29.2)) ⟨(.app (.one rfl) (.one rfl)), .nil⟩ (by kernel_rfl) rfl <|
           .cons (S5 (ox_load_elem t3)) ⟨.one rfl, .nil⟩ (by kernel_rfl) rfl <|
           .cons (S5 (oxa z99 u99 rfl (.cons Write_At f99_0 .tmp (.cons Write_N f99_1 .tmp Bld.nil)))) ⟨(.app (.one rfl) (.app (.one rfl) .nil)), .nil⟩ (by kernel_rfl) rfl <|
           .cons (S5 (ox0 .tmp)) ⟨.one rfl, .nil⟩ (by kernel_rfl) rfl <|
           .cons (S5 (ox_sub .tmp .int hb30)) ⟨(.app (.one rfl) .nil), .nil⟩ (by kernel_rfl) rfl <|
           .cons (S5 (oxa z99 u99 rfl (.cons Write_At f99_0 .int (.cons Write_N f99_1 .tmp Bld.nil)))) ⟨(.app .nil (.app (.one rfl) .nil)), .nil⟩ (by kernel_rfl) rfl <|
           .cons (S5 (ox_buildSlice_val s26 z99 (.cons .tmp (.cons .tmp (.cons .tmp Parts.nil))) rfl (by decide))) ⟨(.app (.one rfl) (.app (.one rfl) (.app (.one rfl) .nil))), .nil⟩ (by kernel_rfl) rfl <|
           .cons (S5 (ox1 .tmp)) ⟨.one rfl, .nil⟩ (by kernel_rfl) rfl <|
           .nil) _ [[], [0], [0, 1], [], [], [4], [0, 1, 4, 5], [0, 1, 4, 5, 6], [0, 1, 3, 4, 5, 6, 7], [0, 1, 3, 4, 5, 6, 7, 8], [0, 1, 2, 3, 4, 5, 6, 7, 8, 9], [], [0, 1, 4, 5, 6, 11], [], [], [14], [0, 1, 4, 5, 6, 11, 12, 14, 15], [0, 1, 4, 5, 6, 11, 12, 13, 14, 15, 16], [0, 1, 4, 5, 6, 11, 12, 13, 14, 15, 16, 17], [0, 1, 4, 5, 6, 11, 12, 13, 14, 15, 16, 17, 18], [], [20], [20, 21], [0, 1, 2, 3, 4, 5, 6, 7, 8, 9, 10, 11, 12, 13, 14, 15, 16, 17, 18, 19, 20, 21, 22], [0, 1, 2, 3, 4, 5, 6, 7, 8, 9, 10, 11, 12, 13, 14, 15, 16, 17, 18, 19, 20, 21, 22, 23]] rfl (by kernel_rfl) (by kernel_rfl) ?_
         refine Q0 (σ' := ⟨[(5, _), (8, _), (9, .val (([({ At := (v20 - (1 : Int)), N := (ix a0 (v23 - (1 : Int))) } : Mk.Write), ({ At := v26, N := (ix a0 v28) } : Mk.Write), ({ At := (0 : Int), N := ((ix a0 (0 : Int)) - (1 : Int)) } : Mk.Write)] : List Mk.Write)))], [(5, _)]⟩) (j3 rfl rfl rfl) (j1 rfl) ?_
         exact PT.meet ((ix a0 v11), ([({ At := (v20 - (1 : Int)), N := (ix a0 (v23 - (1 : Int))) } : Mk.Write), ({ At := v26, N := (ix a0 v28) } : Mk.Write), ({ At := (0 : Int), N := ((ix a0 (0 : Int)) - (1 : Int)) } : Mk.Write)] : List Mk.Write), zRe) hφ (j3 rfl rfl rfl) (j1 rfl)
        ·replace hφ := if_else hφ hc19
         refine Q0 (σ' := ⟨[(5, _), (8, _), (9, _)], [(5, _)]⟩) (j3 rfl rfl rfl) (j1 rfl) ?_
         refine Q4 ?_
         exact PT.meet ((ix a0 v11), ([({ At := (0 : Int), N := ((ix a0 (0 : Int)) - (1 : Int)) } : Mk.Write)] : List Mk.Write), zRe) hφ (j3 rfl rfl rfl) (j1 rfl)
       ·rintro ⟨x8_k17, x9_k17, y5_k17⟩ hφ
        subst hk17
        refine Q0 (σ' := ⟨[(5, .ptr 5 (Lens.id (α := Mk.Reply))), (8, .val (x8_k17)), (9, .val (x9_k17))], [(5, .var (y5_k17) [])]⟩) (j3 rfl rfl rfl) (j1 rfl) ?_
        refine Q2 (Q1 ?_)
        refine O5 (ox0 .tmp) (.one rfl) .nil rfl <| O5 (ox0 .tmp) (.one rfl) .nil rfl <| O5 (oxa z38 u38 rfl (.cons Reply_N f38_1 .tmp Bld.nil)) (.app (.one rfl) .nil) .nil rfl <| O5 (ox1 .tmp) (.one rfl) .nil rfl <| O2 rfl rfl (ox5 t38 .tmp) (.cons rfl (.one rfl)) (.one rfl) <| O1 <| Q0 (σ' := ⟨[(4, .val (x9_k17)), (5, _)], [(5, .var ({ Err := (0 : Int), N := x8_k17 } : Mk.Reply) [])]⟩) (j2 rfl rfl) (j1 rfl) ?_
        refine Q5 ?_
        obtain rfl := Option.some.inj hφ
        exact Q6 hw0 rfl (.tmp rfl rfl (.cell t38 rfl rfl .nil)) rfl
      ·replace hφ := if_else hφ hc15
       refine Q0 (σ' := ⟨[(0, _), (3, _), (5, _), (6, _), (8, _), (72, _)], [(3, _), (5, _)]⟩) (j6 rfl rfl rfl rfl rfl rfl) (j2 rfl rfl) ?_
       refine Q2 (Q1 ?_)
       refine O5 (ox_eql .tmp .int) (.app (.one rfl) .nil) .nil rfl <| O5 (ox1 .tmp) (.one rfl) .nil rfl <| O1 <| Q0 (σ' := ⟨[(0, _), (3, _), (5, _), (6, _), (8, _), (72, _), (120, .val (decide (a1.Kind = (4 : Int))))], [(3, _), (5, _)]⟩) (j7 rfl rfl rfl rfl rfl rfl rfl) (j2 rfl rfl) ?_
       refine Q3 _ rfl (fun hc31 => ?_) (fun hc31 => ?_)
       ·replace hφ := if_then hφ hc31
        refine Q0 (σ' := ⟨[(3, _), (5, _), (6, _), (8, _)], [(3, _), (5, _)]⟩) (j4 rfl rfl rfl rfl) (j2 rfl rfl) ?_
        refine Q2 (Q2 ?_)
        obtain ⟨hb32, hφ⟩ := G_some hφ
        refine Q1 ?_
        refine O5 (ox0 .tmp) (.one rfl) .nil rfl <| O5 (ox3 Call_N f33_3) (.one rfl) .nil rfl <| O5 (ox2 t3) (.one rfl) (.one rfl) rfl <| O5 (ox_add .tmp .tmp hb32) (.app (.one rfl) (.one rfl)) .nil rfl <| O5 (ox1 .tmp) (.one rfl) .nil rfl <| O1 <| Q0 (σ' := ⟨[(5, _), (6, _), (10, .val ((ix a0 v11) + a1.N))], [(5, _)]⟩) (j3 rfl rfl rfl) (j1 rfl) ?_
        refine Q2 (Q1 ?_)
        refine O5 (ox0 .tmp) (.one rfl) .nil rfl <| O5 (ox_geq .tmp .int) (.app (.one rfl) .nil) .nil rfl <| O5 (ox0 .tmp) (.one rfl) .nil rfl <| O4 rfl rfl rfl rfl (.plain .nil) (fun hG => (ox0 .tmp)) (j1 rfl) .nil rfl <| O4 rfl rfl rfl rfl (.cond (fun h => h) .nil) (fun hG => (ox_leq .tmp .int)) (j1 rfl) .nil rfl <| O5 ox8 (j2 rfl rfl) .nil rfl <| O1 <| Q0 (σ' := ⟨[(5, _), (6, _), (10, _), (131, .val (((decide ((-1073741824 : Int) ≤ ((ix a0 v11) + a1.N))) && (decide (((ix a0 v11) + a1.N) ≤ (1073741824 : Int))))))], [(5, _)]⟩) (j4 rfl rfl rfl rfl) (j1 rfl) ?_
        refine Q3 _ rfl (fun hc33 => ?_) (fun hc33 => ?_)
        ·replace hφ := if_then hφ hc33
         refine Q0 (σ' := ⟨[(5, _), (6, _), (10, _)], [(5, _)]⟩) (j3 rfl rfl rfl) (j1 rfl) ?_
         refine Q2 ?_
         obtain ⟨v34, hv34, hφ⟩ := B_some hφ
         refine Q1 ?_
         refine O5 (ox0 .tmp) (.one rfl) .nil rfl <| O5 (ox_call (c_plan_at hv34) (.cons .tmp .nil)) (.app (.one rfl) .nil) .nil rfl <| O5 (ox0 .tmp) (.one rfl) .nil rfl <| O5 (oxa z99 u99 rfl (.cons Write_At f99_0 .tmp (.cons Write_N f99_1 .tmp Bld.nil))) (.app (.one rfl) (.app (.one rfl) .nil)) .nil rfl <| O5 (ox_buildSlice_val s26 z99 (.cons .tmp Parts.nil) rfl (by decide)) (.app (.one rfl) .nil) .nil rfl <| O5 (ox0 .tmp) (.one rfl) .nil rfl ?_
         refine O5 (oxa z38 u38 rfl (.cons Reply_N f38_1 .tmp Bld.nil)) (.app (.one rfl) .nil) .nil rfl <| O5 (ox1 .tmp) (.one rfl) .nil rfl <| O2 rfl rfl (ox5 t38 .tmp) (.cons rfl (.one rfl)) (.one rfl) <| O1 <| Q0 (σ' := ⟨[(4, .val ([({ At := v34, N := ((ix a0 v11) + a1.N) } : Mk.Write)] : List Mk.Write)), (5, _)], [(5, .var ({ Err := (0 : Int), N := ((ix a0 v11) + a1.N) } : Mk.Reply) [])]⟩) (j2 rfl rfl) (j1 rfl) ?_
         refine Q5 ?_
         obtain rfl := Option.some.inj hφ
         exact Q6 hw0 rfl (.tmp rfl rfl (.cell t38 rfl rfl .nil)) rfl
        ·replace hφ := if_else hφ hc33
         refine Q0 (σ' := ⟨[(5, _)], [(5, _)]⟩) (j1 rfl) (j1 rfl) ?_
         refine Q4 ?_
         refine Q2 (Q1 ?_)
         refine O5 (oxa z38 u38 rfl (.cons Reply_Err f38_0 .int Bld.nil)) (.app .nil .nil) .nil rfl <| O5 (ox1 .nilS) .nil .nil rfl <| O2 rfl rfl (ox5 t38 .tmp) (.cons rfl (.one rfl)) (.one rfl) <| O1 <| Q0 (σ' := ⟨[(4, .nilS), (5, _)], [(5, .var ({ Err := (3 : Int), N := (0 : Int) } : Mk.Reply) [])]⟩) (j2 rfl rfl) (j1 rfl) ?_
         refine Q5 ?_
         refine PT.asNil 4 (Mk.Write) rfl ?_
         obtain rfl := Option.some.inj hφ
         exact Q6 hw0 rfl (.tmp rfl rfl (.cell t38 rfl rfl .nil)) rfl
       ·replace hφ := if_else hφ hc31
        refine Q0 (σ' := ⟨[(0, _), (3, _), (5, _), (6, _), (8, _), (72, _)], [(3, _), (5, _)]⟩) (j6 rfl rfl rfl rfl rfl rfl) (j2 rfl rfl) ?_
        refine Q2 (Q1 ?_)
        refine O5 (ox_eql .tmp .int) (.app (.one rfl) .nil) .nil rfl <| O5 (ox1 .tmp) (.one rfl) .nil rfl <| O1 <| Q0 (σ' := ⟨[(0, _), (3, _), (5, _), (6, _), (8, _), (140, .val (decide (a1.Kind = (6 : Int))))], [(3, _), (5, _)]⟩) (j6 rfl rfl rfl rfl rfl rfl) (j2 rfl rfl) ?_
        refine Q3 _ rfl (fun hc35 => ?_) (fun hc35 => ?_)
        ·replace hφ := if_then hφ hc35
         refine Q0 (σ' := ⟨[(0, _), (3, _), (5, _), (6, _), (8, _)], [(3, _), (5, _)]⟩) (j5 rfl rfl rfl rfl rfl) (j2 rfl rfl) ?_
         refine Q2 ?_
         obtain ⟨v36, hv36, hφ⟩ := B_some hφ
         refine Q1 ?_
         refine O5 (ox0 .tmp) (.one rfl) .nil rfl <| O5 (ox3 Call_Other f33_2) (.one rfl) .nil rfl <| O5 (ox2 t3) (.one rfl) (.one rfl) rfl <| O5 (ox_call (c_cell_Find hv36) (.cons .tmp (.cons .tmp .nil))) (.app (.one rfl) (.app (.one rfl) .nil)) .nil rfl <| O5 (ox1 .tmp) (.one rfl) .nil rfl <| O1 <| Q0 (σ' := ⟨[(0, _), (5, _), (6, _), (8, _), (11, .val (v36))], [(5, _)]⟩) (j5 rfl rfl rfl rfl rfl) (j1 rfl) ?_
         refine Q2 ?_
         refine Q2 (Q1 ?_)
         refine O5 (ox0 .tmp) (.one rfl) .nil rfl <| O5 (ox_lss .tmp .int) (.app (.one rfl) .nil) .nil rfl <| O1 <| Q0 (σ' := ⟨[(0, _), (5, _), (6, _), (8, _), (11, _), (147, .val (decide (v36 < (0 : Int))))], [(5, _)]⟩) (j6 rfl rfl rfl rfl rfl rfl) (j1 rfl) ?_
         refine Q3 _ rfl (fun hc37 => ?_) (fun hc37 => ?_)
         ·replace hφ := if_then hφ hc37
          refine Q0 (σ' := ⟨[(5, _)], [(5, _)]⟩) (j1 rfl) (j1 rfl) ?_
          refine Q2 (Q1 ?_)
          refine O5 (oxa z38 u38 rfl (.cons Reply_Err f38_0 .int Bld.nil)) (.app .nil .nil) .nil rfl <| O5 (ox1 .nilS) .nil .nil rfl <| O2 rfl rfl (ox5 t38 .tmp) (.cons rfl (.one rfl)) (.one rfl) <| O1 <| Q0 (σ' := ⟨[(4, .nilS), (5, _)], [(5, .var ({ Err := (6 : Int), N := (0 : Int) } : Mk.Reply) [])]⟩) (j2 rfl rfl) (j1 rfl) ?_
          refine Q5 ?_
          refine PT.asNil 4 (Mk.Write) rfl ?_
          obtain rfl := Option.some.inj hφ
          exact Q6 hw0 rfl (.tmp rfl rfl (.cell t38 rfl rfl .nil)) rfl
         ·replace hφ := if_else hφ hc37
          refine Q0 (σ' := ⟨[(0, _), (5, _), (6, _), (8, _), (11, _)], [(5, _)]⟩) (j5 rfl rfl rfl rfl rfl) (j1 rfl) ?_
          refine Q4 ?_
          refine Q2 ?_
          obtain ⟨v38, hv38, hφ⟩ := B_some hφ
          obtain ⟨v39, hv39, hφ⟩ := B_some hφ
          obtain ⟨hb40, hφ⟩ := G_some hφ
          obtain ⟨v41, hv41, hφ⟩ := B_some hφ
          obtain ⟨v42, hv42, hφ⟩ := B_some hφ
          obtain ⟨hb43, hφ⟩ := G_some hφ
          refine Q8 hMixed (
            .cons (S5 (ox0 .tmp)) ⟨.one rfl, .nil⟩ (by kernel_rfl) rfl <|
            .cons (S5 (ox_call (c_plan_at hv38) (.cons .tmp .nil))) ⟨(.app (.one rfl) .nil), .nil⟩ (by kernel_rfl) rfl <|
            .cons (S5 (ox0 .tmp)) ⟨.one rfl, .nil⟩ (by kernel_rfl) rfl <|
            .cons (S5 (ox0 .tmp)) ⟨.one rfl, .nil⟩ (by kernel_rfl) rfl <|
            .cons (S5 (ox_call (c_plan_at hv39) (.cons .tmp .nil))) ⟨(.app (.one rfl) .nil), .nil⟩ (by kernel_rfl) rfl <|
            .cons (S5 (ox_ix s25 .tmp .tmp hb40.1 hb40.2)) ⟨(.app (.one rfl) (.one rfl)), .nil⟩ (by kernel_rfl) rfl <|
            .cons (S5 (ox_load_elem t3)) ⟨.one rfl, .nil⟩ (by kernel_rfl) rfl <|
            .cons (S5 (oxa z99 u99 rfl (.cons Write_At f99_0 .tmp (.cons Write_N f99_1 .tmp Bld.nil)))) ⟨(.app (.one rfl) (.app (.one rfl) .nil)), .nil⟩ (by kernel_rfl) rfl <|
            .cons (S5 (ox0 .tmp)) ⟨.one rfl, .nil⟩ (by kernel_rfl) rfl <|
            .cons (S5 (ox_call (c_plan_at hv41) (.cons .tmp .nil))) ⟨(.app (.one rfl) .nil), .nil⟩ (by kernel_rfl) rfl <|
            .cons (S5 (ox0 .tmp)) ⟨.one rfl, .nil⟩ (by kernel_rfl) rfl <|
            .cons (S5 (oxa z99 u99 rfl (.cons Write_At f99_0 .tmp (.cons Write_N f99_1 .tmp Bld.nil)))) ⟨(.app (.one rfl) (.app (.one rfl) .nil)), .nil⟩ (by kernel_rfl) rfl <|
            .cons (S5 (ox_buildSlice_val s26 z99 (.cons .tmp (.cons .tmp Parts.nil)) rfl (by decide))) ⟨(.app (.one rfl) (.app (.one rfl) .nil)), .nil⟩ (by kernel_rfl) rfl <|
            .cons (S5 (ox0 .tmp)) ⟨.one rfl, .nil⟩ (by kernel_rfl) rfl <|
            .cons (S5 (ox0 .tmp)) ⟨.one rfl, .nil⟩ (by kernel_rfl) rfl <|
            .cons (S5 (ox_call (c_plan_at hv42) (.cons .tmp .nil))) ⟨(.app (.one rfl) .nil), .nil⟩ (by kernel_rfl) rfl <|
            .cons (S5 (ox_ix s25 .tmp .tmp hb43.1 hb43.2)) ⟨(.app (.one rfl) (.one rfl)), .nil⟩ (by kernel_rfl) rfl <|
            .cons (S5 (ox_load_elem t3)) ⟨.one rfl, .nil⟩ (by kernel_rfl) rfl <|
            .cons (S5 (oxa z38 u38 rfl (.cons Reply_N f38_1 .tmp Bld.nil))) ⟨(.app (.one rfl) .nil), .nil⟩ (by kernel_rfl) rfl <|
            .cons (S5 (ox1 .tmp)) ⟨.one rfl, .nil⟩ (by kernel_rfl) rfl <|
            .cons (S4 rfl rfl (ox5 t38 .tmp)) ⟨(.cons rfl (.one rfl)), .one rfl⟩ (by kernel_rfl) rfl <|
            .nil) _ [[], [0], [], [], [0, 1, 3], [0, 1, 2, 3, 4], [0, 1, 2, 3, 4, 5], [0, 1, 2, 3, 4, 5, 6], [], [0, 1, 3, 4, 8], [], [0, 1, 3, 4, 8, 9, 10], [0, 1, 2, 3, 4, 5, 6, 7, 8, 9, 10, 11], [], [], [0, 1, 3, 4, 8, 9, 14], [0, 1, 3, 4, 8, 9, 13, 14, 15], [0, 1, 3, 4, 8, 9, 13, 14, 15, 16], [0, 1, 3, 4, 8, 9, 13, 14, 15, 16, 17], [0, 1, 2, 3, 4, 5, 6, 7, 8, 9, 10, 11, 12, 14, 15], [0, 1, 2, 3, 4, 5, 6, 7, 8, 9, 10, 11, 12, 13, 14, 15, 16, 17, 18, 19]] rfl (by kernel_rfl) (by kernel_rfl) ?_
          refine Q0 (σ' := ⟨[(4, .val ([({ At := v38, N := (ix a0 v39) } : Mk.Write), ({ At := v41, N := (ix a0 v11) } : Mk.Write)] : List Mk.Write)), (5, _)], [(5, .var ({ Err := (0 : Int), N := (ix a0 v42) } : Mk.Reply) [])]⟩) (j2 rfl rfl) (j1 rfl) ?_
          refine Q5 ?_
          obtain rfl := Option.some.inj hφ
          exact Q6 hw0 rfl (.tmp rfl rfl (.cell t38 rfl rfl .nil)) rfl
        ·replace hφ := if_else hφ hc35
         refine Q0 (σ' := ⟨[(5, _), (8, _)], [(5, _)]⟩) (j2 rfl rfl) (j1 rfl) ?_
         refine Q4 ?_
         refine Q2 (Q1 ?_)
         refine O5 (ox0 .tmp) (.one rfl) .nil rfl <| O5 (oxa z38 u38 rfl (.cons Reply_N f38_1 .tmp Bld.nil)) (.app (.one rfl) .nil) .nil rfl <| O5 (ox1 .nilS) .nil .nil rfl <| O2 rfl rfl (ox5 t38 .tmp) (.cons rfl (.one rfl)) (.one rfl) <| O1 <| Q0 (σ' := ⟨[(4, .nilS), (5, _)], [(5, .var ({ Err := (0 : Int), N := (ix a0 v11) } : Mk.Reply) [])]⟩) (j2 rfl rfl) (j1 rfl) ?_
         refine Q5 ?_
         refine PT.asNil 4 (Mk.Write) rfl ?_
         obtain rfl := Option.some.inj hφ
         exact Q6 hw0 rfl (.tmp rfl rfl (.cell t38 rfl rfl .nil)) rfl
theorem c_mkref1_Of {a0 : List Int} {r : (List Mk.Write)} (hφ : mkref1_Of a0 = some r) : Fn Go.Proofs.Try.prog 25 [.val a0] (.val r) := by
 unfold mkref1_Of at hφ
 refine Fn.mk' Go.Proofs.Try.func25 rfl (by decide) rfl rfl rfl (fun w0 hw0 => ?_)
 refine Q2 (Q1 ?_)
 refine O5 (ox1 .nilS) .nil .nil rfl <| O1 <| Q0 (σ' := ⟨[(0, .val (a0))], []⟩) (j1 rfl) trivial ?_
 refine Q2 (Q1 ?_)
 refine O5 (ox1 .nilS) .nil .nil rfl <| O1 <| Q0 (σ' := ⟨[(0, _), (3, .nilS)], []⟩) (j2 rfl rfl) trivial ?_
 obtain ⟨k1, hk1, hφ⟩ := J_some hφ
 refine PT.cut (ι := (List Mk.Write)) (fun p => ⟨[(3, .sl 1003)], [(1003, .arr 99 (p))]⟩) (fun p => k1 (p) = some r) ?_ ?_
 ·skip
  refine Q2 (Q1 ?_)
  refine O5 (ox1 .int) .nil .nil rfl <| O1 <| Q0 (σ' := ⟨[(0, _), (3, _), (4, .val (1 : Int))], []⟩) (j3 rfl rfl rfl) trivial ?_
  refine PT.block ?_
  refine PT.nilArr 1003 3 99 (Mk.Write) rfl (by kernel_rfl) ?_
  refine PT.loop (ι := Nat × (List Int) × Int × (List Mk.Write)) (fun p => ⟨[(0, .val (p.2.1)), (3, .sl 1003), (4, .val (p.2.2.1))], [(1003, .arr 99 (p.2.2.2))]⟩) (fun p => mkref1_Of_l1 k1 p.1 (p.2.1) (p.2.2.1) (p.2.2.2) = some r) (fun p => p.1) ((((1 : Int) + ((2 : Int) * (ix a0 (0 : Int)))) - (1 : Int)).toNat + 1, a0, (1 : Int), ([] : List Mk.Write)) hφ (j3 rfl rfl rfl) (j1 rfl) ?_
  rintro ⟨m2, x0_m2, x4_m2, y1003_m2⟩ (hφ : mkref1_Of_l1 k1 m2 x0_m2 x4_m2 y1003_m2 = some r)
  obtain _ | m2 := m2
  ·exact (none_no hφ).elim
  rw [mkref1_Of_l1.eq_2] at hφ
  refine Q0 (σ' := ⟨[(0, .val (x0_m2)), (3, .sl 1003), (4, .val (x4_m2))], [(1003, .arr 99 (y1003_m2))]⟩) (j3 rfl rfl rfl) (j1 rfl) ?_
  refine Q2 (Q2 ?_)
  obtain ⟨hb3, hφ⟩ := G_some hφ
  obtain ⟨hb4, hφ⟩ := G_some hφ
  obtain ⟨hb5, hφ⟩ := G_some hφ
  refine Q1 ?_
  refine O5 (ox0 .tmp) (.one rfl) .nil rfl <| O5 (ox0 .tmp) (.one rfl) .nil rfl <| O5 (ox_ix s25 .tmp .int hb3.1 hb3.2) (.app (.one rfl) .nil) .nil rfl <| O5 (ox_load_elem t3) (.one rfl) .nil rfl <| O5 (ox_mul .int .tmp hb4) (.app .nil (.one rfl)) .nil rfl <| O5 (ox_add .int .tmp hb5) (.app .nil (.one rfl)) .nil rfl ?_
  refine O5 (ox_lss .tmp .tmp) (.app (.one rfl) (.one rfl)) .nil rfl <| O1 <| Q0 (σ' := ⟨[(0, _), (3, _), (4, _), (11, .val ((decide (x4_m2 < ((1 : Int) + ((2 : Int) * (ix x0_m2 (0 : Int))))))))], [(1003, _)]⟩) (j4 rfl rfl rfl rfl) (j1 rfl) ?_
  refine Q3 _ rfl (fun hc6 => ?_) (fun hc6 => ?_)
  ·replace hφ := if_then hφ hc6
   refine Q0 (σ' := ⟨[(0, _), (3, _), (4, _)], [(1003, _)]⟩) (j3 rfl rfl rfl) (j1 rfl) ?_
   refine Q4 ?_
   refine Q2 ?_
   refine PT.block ?_
   obtain ⟨hb7, hφ⟩ := G_some hφ
   obtain ⟨hb8, hφ⟩ := G_some hφ
   obtain ⟨hb9, hφ⟩ := G_some hφ
   obtain ⟨hb10, hφ⟩ := G_some hφ
   refine Q8 hMixed (
     .cons (S5 (ox0 .tmp)) ⟨.one rfl, .nil⟩ (by kernel_rfl) rfl <|
     .cons (S5 (ox0 .tmp)) ⟨.one rfl, .nil⟩ (by kernel_rfl) rfl <|
     .cons (S5 (ox0 .tmp)) ⟨.one rfl, .nil⟩ (by kernel_rfl) rfl <|
     .cons (S5 (ox_ix s25 .tmp .tmp hb7.1 hb7.2)) ⟨(.app (.one rfl) (.one rfl)), .nil⟩ (by kernel_rfl) rfl <|
     .cons (S5 (ox_load_elem t3)) ⟨.one rfl, .nil⟩ (by kernel_rfl) rfl <|
     .cons (S5 (ox0 .tmp)) ⟨.one rfl, .nil⟩ (by kernel_rfl) rfl <|
     .cons (S5 (ox0 .tmp)) ⟨.one rfl, .nil⟩ (by kernel_rfl) rfl <|
     .cons (S5 (ox_add .tmp .int hb8)) ⟨(.app (.one rfl) .nil), .nil⟩ (by kernel_rfl) rfl <|
     .cons (S5 (ox_ix s25 .tmp .tmp hb9.1 hb9.2)) ⟨(.app (.one rfl) (.one rfl)), .nil⟩ (by kernel_rfl) rfl <|
     .cons (S5 (ox_load_elem t3)) ⟨.one rfl, .nil⟩ (by kernel_rfl) rfl <|
     .cons (S5 (oxa z99 u99 rfl (.cons Write_At f99_0 .tmp (.cons Write_N f99_1 .tmp Bld.nil)))) ⟨(.app (.one rfl) (.app (.one rfl) .nil)), .nil⟩ (by kernel_rfl) rfl <|
     .cons (S5 (ox_buildSlice_val s26 z99 (.cons .tmp Parts.nil) rfl (by decide))) ⟨(.app (.one rfl) .nil), .nil⟩ (by kernel_rfl) rfl <|
     .cons (Step.putK [3, 14] rfl rfl (ox_append a26 .tmp .tmp hb10.1 hb10.2)) ⟨(.app (.one rfl) (.one rfl)), .one rfl⟩ (by kernel_rfl) rfl <|
     .cons (S5 (ox1 .tmp)) ⟨.one rfl, .nil⟩ (by kernel_rfl) rfl <|
     .nil) _ [[], [], [], [1, 2], [1, 2, 3], [], [], [6], [5, 6, 7], [5, 6, 7, 8], [1, 2, 3, 4, 5, 6, 7, 8, 9], [1, 2, 3, 4, 5, 6, 7, 8, 9, 10], [0, 1, 2, 3, 4, 5, 6, 7, 8, 9, 10, 11], [0, 1, 2, 3, 4, 5, 6, 7, 8, 9, 10, 11, 12]] rfl (by kernel_rfl) (by kernel_rfl) ?_
   refine Q0 (σ' := ⟨[(0, _), (3, _), (4, _)], [(1003, .arr 99 ((y1003_m2 ++ ([({ At := (ix x0_m2 x4_m2), N := (ix x0_m2 (x4_m2 + (1 : Int))) } : Mk.Write)] : List Mk.Write))))]⟩) (j3 rfl rfl rfl) (j1 rfl) ?_
   obtain ⟨hb11, hφ⟩ := G_some hφ
   refine Q1 ?_
   refine O5 (ox0 .tmp) (.one rfl) .nil rfl <| O5 (ox_add .tmp .int hb11) (.app (.one rfl) .nil) .nil rfl <| O5 (ox1 .tmp) (.one rfl) .nil rfl <| O1 <| Q0 (σ' := ⟨[(0, _), (3, _), (4, .val (x4_m2 + (2 : Int)))], [(1003, _)]⟩) (j3 rfl rfl rfl) (j1 rfl) ?_
   exact PT.next (m2, x0_m2, (x4_m2 + (2 : Int)), (y1003_m2 ++ ([({ At := (ix x0_m2 x4_m2), N := (ix x0_m2 (x4_m2 + (1 : Int))) } : Mk.Write)] : List Mk.Write))) hφ (Nat.lt_succ_self _) (j3 rfl rfl rfl) (j1 rfl)
  ·replace hφ := if_else hφ hc6
   refine Q0 (σ' := ⟨[(3, _)], [(1003, _)]⟩) (j1 rfl) (j1 rfl) ?_
   refine PT.exit ?_
   exact PT.meet (y1003_m2) hφ (j1 rfl) (j1 rfl)
 ·rintro y1003_k1 hφ
  subst hk1
  refine Q0 (σ' := ⟨[(3, .sl 1003)], [(1003, .arr 99 (y1003_k1))]⟩) (j1 rfl) (j1 rfl) ?_
  refine Q2 (Q1 ?_)
  refine O5 (ox0 .tmp) (.one rfl) .nil rfl <| O5 (ox1 .tmp) (.one rfl) .nil rfl <| O1 <| Q0 (σ' := ⟨[(2, _)], [(1003, _)]⟩) (j1 rfl) (j1 rfl) ?_
  refine Q5 ?_
  refine PT.freeze 1003 [2] rfl (j1 rfl) ?_
  obtain rfl := Option.some.inj hφ
  exact Q6 hw0 rfl (.tmp rfl rfl .nil) rfl
theorem c_mkref1_get {a0 : List Mk.Write} {a1 : Int} {r : (Int × Bool)} (hφ : mkref1_get a0 a1 = some r) : Fn Go.Proofs.Try.prog 76 [.val a0, .val a1] (.tup [.val r.1, .val r.2]) := by
 unfold mkref1_get at hφ
 refine Fn.mk' Go.Proofs.Try.func76 rfl (by decide) rfl rfl rfl (fun w0 hw0 => ?_)
 refine Q2 (Q1 ?_)
 refine O5 (ox1 .int) .nil .nil rfl <| O5 (ox1 .bool) .nil .nil rfl <| O1 <| Q0 (σ' := ⟨[(0, .val (a0)), (1, .val (a1))], []⟩) (j2 rfl rfl) trivial ?_
 obtain ⟨k1, hk1, hφ⟩ := J_some hφ
 refine PT.cut (ι := Unit) (fun p => ⟨[], []⟩) (fun p => k1 () = some r) ?_ ?_
 ·skip
  refine Q2 (Q1 ?_)
  refine O5 (ox0 .tmp) (.one rfl) .nil rfl <| O5 (ox_len s26 .tmp) (.one rfl) .nil rfl <| O5 (ox0 .int) .nil .nil rfl <| O1 <| Q0 (σ' := ⟨[(1, _), (8, .val (a0)), (9, .val (a0.length : Int)), (10, .val (0 : Int))], []⟩) (j4 rfl rfl rfl rfl) trivial ?_
  refine PT.block ?_
  refine PT.loop (ι := Nat × Int × (List Mk.Write) × Int × Int) (fun p => ⟨[(1, .val (p.2.1)), (8, .val (p.2.2.1)), (9, .val (p.2.2.2.1)), (10, .val (p.2.2.2.2))], []⟩) (fun p => mkref1_get_l1 k1 p.1 (p.2.1) (p.2.2.1) (p.2.2.2.1) (p.2.2.2.2) = some r) (fun p => p.1) (((a0.length : Int) - (0 : Int)).toNat + 1, a1, a0, (a0.length : Int), (0 : Int)) hφ (j4 rfl rfl rfl rfl) trivial ?_
  rintro ⟨m2, x1_m2, x8_m2, x9_m2, x10_m2⟩ (hφ : mkref1_get_l1 k1 m2 x1_m2 x8_m2 x9_m2 x10_m2 = some r)
  obtain _ | m2 := m2
  ·exact (none_no hφ).elim
  rw [mkref1_get_l1.eq_2] at hφ
  refine Q0 (σ' := ⟨[(1, .val (x1_m2)), (8, .val (x8_m2)), (9, .val (x9_m2)), (10, .val (x10_m2))], []⟩) (j4 rfl rfl rfl rfl) trivial ?_
  refine Q2 (Q1 ?_)
  refine O5 (ox_lss .tmp .tmp) (.app (.one rfl) (.one rfl)) .nil rfl <| O1 <| Q0 (σ' := ⟨[(1, _), (8, _), (9, _), (10, _), (11, .val (decide (x10_m2 < x9_m2)))], []⟩) (j5 rfl rfl rfl rfl rfl) trivial ?_
  refine Q2 ?_
  refine Q3 _ rfl (fun hc3 => ?_) (fun hc3 => ?_)
  ·replace hφ := if_then hφ hc3
   refine Q0 (σ' := ⟨[(1, _), (8, _), (9, _), (10, _)], []⟩) (j4 rfl rfl rfl rfl) trivial ?_
   refine Q4 ?_
   refine Q2 ?_
   refine PT.block ?_
   refine Q2 ?_
   obtain ⟨hb4, hφ⟩ := G_some hφ
   refine Q1 ?_
   refine O5 (ox_ix s26 .tmp .tmp hb4.1 hb4.2) (.app (.one rfl) (.one rfl)) .nil rfl <| O5 (ox_load_elem t99) (.one rfl) .nil rfl <| O3 rfl rfl (ox_alloc (id := 7) z99) .nil .nil rfl (by kernel_rfl) <| O2 rfl rfl (ox5 t99 .tmp) (.cons rfl (.one rfl)) (.one rfl) <| O1 <| Q0 (σ' := ⟨[(1, _), (7, _), (8, _), (9, _), (10, _)], [(7, .var (ix x8_m2 x10_m2) [])]⟩) (j5 rfl rfl rfl rfl rfl) (j1 rfl) ?_
   refine Q2 (Q1 ?_)
   refine O5 (ox3 Write_At f99_0) (.one rfl) .nil rfl <| O5 (ox2 t3) (.one rfl) (.one rfl) rfl <| O5 (ox0 .tmp) (.one rfl) .nil rfl <| O5 (ox_eql .tmp .tmp) (.app (.one rfl) (.one rfl)) .nil rfl <| O1 <| Q0 (σ' := ⟨[(1, _), (7, _), (8, _), (9, _), (10, _), (17, .val (decide ((ix x8_m2 x10_m2).At = x1_m2)))], [(7, _)]⟩) (j6 rfl rfl rfl rfl rfl rfl) (j1 rfl) ?_
   refine Q3 _ rfl (fun hc5 => ?_) (fun hc5 => ?_)
   ·replace hφ := if_then hφ hc5
    refine Q0 (σ' := ⟨[(7, _)], [(7, _)]⟩) (j1 rfl) (j1 rfl) ?_
    refine Q2 (Q1 ?_)
    refine O5 (ox3 Write_N f99_1) (.one rfl) .nil rfl <| O5 (ox2 t3) (.one rfl) (.one rfl) rfl <| O5 (ox1 .tmp) (.one rfl) .nil rfl <| O5 (ox1 .bool) .nil .nil rfl <| O1 <| Q0 (σ' := ⟨[(4, .val ((ix x8_m2 x10_m2).N)), (5, .val (true))], []⟩) (j2 rfl rfl) trivial ?_
    refine Q5 ?_
    obtain rfl := Option.some.inj hφ
    exact Q6 hw0 rfl (.tmp rfl rfl (.tmp rfl rfl .nil)) rfl
   ·replace hφ := if_else hφ hc5
    refine Q0 (σ' := ⟨[(1, _), (8, _), (9, _), (10, _)], []⟩) (j4 rfl rfl rfl rfl) trivial ?_
    refine Q4 ?_
    obtain ⟨hb6, hφ⟩ := G_some hφ
    refine Q1 ?_
    refine O5 (ox_add .tmp .int hb6) (.app (.one rfl) .nil) .nil rfl <| O5 (ox0 .tmp) (.one rfl) .nil rfl <| O1 <| Q0 (σ' := ⟨[(1, _), (8, _), (9, _), (10, .val (x10_m2 + (1 : Int)))], []⟩) (j4 rfl rfl rfl rfl) trivial ?_
    exact PT.next (m2, x1_m2, x8_m2, x9_m2, (x10_m2 + (1 : Int))) hφ (Nat.lt_succ_self _) (j4 rfl rfl rfl rfl) trivial
  ·replace hφ := if_else hφ hc3
   refine Q0 (σ' := ⟨[], []⟩) trivial trivial ?_
   refine PT.exit ?_
   exact PT.meet () hφ trivial trivial
 ·rintro ⟨⟩ hφ
  subst hk1
  refine Q0 (σ' := ⟨[], []⟩) trivial trivial ?_
  refine Q2 (Q1 ?_)
  refine O5 (ox1 .int) .nil .nil rfl <| O5 (ox1 .bool) .nil .nil rfl <| O1 <| Q0 (σ' := ⟨[(4, .val (0 : Int)), (5, .val (false))], []⟩) (j2 rfl rfl) trivial ?_
  refine Q5 ?_
  obtain rfl := Option.some.inj hφ
  exact Q6 hw0 rfl (.tmp rfl rfl (.tmp rfl rfl .nil)) rfl
theorem c_mkref1_Do_1 {a0 : Int} {a1 : List Mk.Write} {r : ((List Mk.Write) × Mk.Reply)} (hφ : mkref1_Do_1 a0 a1 = some r) : Fn Go.Proofs.Try.prog 77 [.val a0, .elem a1] (.tup [.val r.1, .val r.2]) := by
 unfold mkref1_Do_1 at hφ
 refine Fn.mk' Go.Proofs.Try.func77 rfl (by decide) rfl rfl rfl (fun w0 hw0 => ?_)
 refine Q2 (Q1 ?_)
 refine O5 (ox1 .nilS) .nil .nil rfl <| O3 rfl rfl (ox_alloc (id := 4) z38) .nil .nil rfl (by kernel_rfl) <| O1 <| Q0 (σ' := ⟨[(0, .val (a0)), (1, .elem (a1)), (4, _)], [(4, .var zRe [])]⟩) (j3 rfl rfl rfl) (j1 rfl) ?_
 refine Q2 (Q1 ?_)
 refine O5 (ox_load_elem t26) (.one rfl) .nil rfl <| O5 (ox0 .tmp) (.one rfl) .nil rfl <| O5 (oxa z38 u38 rfl (.cons Reply_Err f38_0 .tmp Bld.nil)) (.app (.one rfl) .nil) .nil rfl <| O5 (ox1 .tmp) (.one rfl) .nil rfl <| O2 rfl rfl (ox5 t38 .tmp) (.cons rfl (.one rfl)) (.one rfl) <| O1 <| Q0 (σ' := ⟨[(3, .val (a1)), (4, _)], [(4, .var ({ Err := a0, N := (0 : Int) } : Mk.Reply) [])]⟩) (j2 rfl rfl) (j1 rfl) ?_
 refine Q5 ?_
 obtain rfl := Option.some.inj hφ
 exact Q6 hw0 rfl (.tmp rfl rfl (.cell t38 rfl rfl .nil)) rfl
theorem c_mkref1_set {a0 : List Mk.Write} {a1 : Int} {a2 : Int} {r : (List Mk.Write)} (hφ : mkref1_set a0 a1 a2 = some r) : Fn Go.Proofs.Try.prog 78 [.val a0, .val a1, .val a2] (.val r) := by
 unfold mkref1_set at hφ
 refine Fn.mk' Go.Proofs.Try.func78 rfl (by decide) rfl rfl rfl (fun w0 hw0 => ?_)
 refine Q2 (Q1 ?_)
 refine O5 (ox1 .nilS) .nil .nil rfl <| O1 <| Q0 (σ' := ⟨[(0, .val (a0)), (1, .val (a1)), (2, .val (a2))], []⟩) (j3 rfl rfl rfl) trivial ?_
 refine Q2 (Q1 ?_)
 refine O5 (ox1 .nilS) .nil .nil rfl <| O1 <| Q0 (σ' := ⟨[(0, _), (1, _), (2, _), (7, .nilS)], []⟩) (j4 rfl rfl rfl rfl) trivial ?_
 refine Q2 (Q1 ?_)
 refine O5 (ox1 .bool) .nil .nil rfl <| O1 <| Q0 (σ' := ⟨[(0, _), (1, _), (2, _), (7, _), (8, .val (false))], []⟩) (j5 rfl rfl rfl rfl rfl) trivial ?_
 obtain ⟨k1, hk1, hφ⟩ := J_some hφ
 refine PT.cut (ι := Int × Int × Bool × (List Mk.Write)) (fun p => ⟨[(1, .val (p.1)), (2, .val (p.2.1)), (7, .sl 1007), (8, .val (p.2.2.1))], [(1007, .arr 99 (p.2.2.2))]⟩) (fun p => k1 (p.1) (p.2.1) (p.2.2.1) (p.2.2.2) = some r) ?_ ?_
 ·skip
  refine Q2 (Q1 ?_)
  refine O5 (ox0 .tmp) (.one rfl) .nil rfl <| O5 (ox_len s26 .tmp) (.one rfl) .nil rfl <| O5 (ox0 .int) .nil .nil rfl <| O1 <| Q0 (σ' := ⟨[(1, _), (2, _), (7, _), (8, _), (11, .val (a0)), (12, .val (a0.length : Int)), (13, .val (0 : Int))], []⟩) (j7 rfl rfl rfl rfl rfl rfl rfl) trivial ?_
  refine PT.block ?_
  refine PT.nilArr 1007 7 99 (Mk.Write) rfl (by kernel_rfl) ?_
  refine PT.loop (ι := Nat × Int × Int × Bool × (List Mk.Write) × Int × Int × (List Mk.Write)) (fun p => ⟨[(1, .val (p.2.1)), (2, .val (p.2.2.1)), (7, .sl 1007), (8, .val (p.2.2.2.1)), (11, .val (p.2.2.2.2.1)), (12, .val (p.2.2.2.2.2.1)), (13, .val (p.2.2.2.2.2.2.1))], [(1007, .arr 99 (p.2.2.2.2.2.2.2))]⟩) (fun p => mkref1_set_l1 k1 p.1 (p.2.1) (p.2.2.1) (p.2.2.2.1) (p.2.2.2.2.1) (p.2.2.2.2.2.1) (p.2.2.2.2.2.2.1) (p.2.2.2.2.2.2.2) = some r) (fun p => p.1) (((a0.length : Int) - (0 : Int)).toNat + 1, a1, a2, false, a0, (a0.length : Int), (0 : Int), ([] : List Mk.Write)) hφ (j7 rfl rfl rfl rfl rfl rfl rfl) (j1 rfl) ?_
  rintro ⟨m2, x1_m2, x2_m2, x8_m2, x11_m2, x12_m2, x13_m2, y1007_m2⟩ (hφ : mkref1_set_l1 k1 m2 x1_m2 x2_m2 x8_m2 x11_m2 x12_m2 x13_m2 y1007_m2 = some r)
  obtain _ | m2 := m2
  ·exact (none_no hφ).elim
  rw [mkref1_set_l1.eq_2] at hφ
  refine Q0 (σ' := ⟨[(1, .val (x1_m2)), (2, .val (x2_m2)), (7, .sl 1007), (8, .val (x8_m2)), (11, .val (x11_m2)), (12, .val (x12_m2)), (13, .val (x13_m2))], [(1007, .arr 99 (y1007_m2))]⟩) (j7 rfl rfl rfl rfl rfl rfl rfl) (j1 rfl) ?_
  refine Q2 (Q1 ?_)
  refine O5 (ox_lss .tmp .tmp) (.app (.one rfl) (.one rfl)) .nil rfl <| O1 <| Q0 (σ' := ⟨[(1, _), (2, _), (7, _), (8, _), (11, _), (12, _), (13, _), (14, .val (decide (x13_m2 < x12_m2)))], [(1007, _)]⟩) (j8 rfl rfl rfl rfl rfl rfl rfl rfl) (j1 rfl) ?_
  refine Q2 ?_
  refine Q3 _ rfl (fun hc3 => ?_) (fun hc3 => ?_)
  ·replace hφ := if_then hφ hc3
   refine Q0 (σ' := ⟨[(1, _), (2, _), (7, _), (8, _), (11, _), (12, _), (13, _)], [(1007, _)]⟩) (j7 rfl rfl rfl rfl rfl rfl rfl) (j1 rfl) ?_
   refine Q4 ?_
   refine Q2 ?_
   refine PT.block ?_
   refine Q2 ?_
   obtain ⟨hb4, hφ⟩ := G_some hφ
   refine Q1 ?_
   refine O5 (ox_ix s26 .tmp .tmp hb4.1 hb4.2) (.app (.one rfl) (.one rfl)) .nil rfl <| O5 (ox_load_elem t99) (.one rfl) .nil rfl <| O3 rfl rfl (ox_alloc (id := 10) z99) .nil .nil rfl (by kernel_rfl) <| O2 rfl rfl (ox5 t99 .tmp) (.cons rfl (.one rfl)) (.one rfl) <| O1 <| Q0 (σ' := ⟨[(1, _), (2, _), (7, _), (8, _), (10, _), (11, _), (12, _), (13, _)], [(10, .var (ix x11_m2 x13_m2) []), (1007, _)]⟩) (j8 rfl rfl rfl rfl rfl rfl rfl rfl) (j2 rfl rfl) ?_
   obtain ⟨k5, hk5, hφ⟩ := J_some hφ
   refine PT.cut (ι := Int × Int × Bool × (List Mk.Write) × Int × Int × Mk.Write × (List Mk.Write)) (fun p => ⟨[(1, .val (p.1)), (2, .val (p.2.1)), (7, .sl 1007), (8, .val (p.2.2.1)), (10, .ptr 10 (Lens.id (α := Mk.Write))), (11, .val (p.2.2.2.1)), (12, .val (p.2.2.2.2.1)), (13, .val (p.2.2.2.2.2.1))], [(10, .var (p.2.2.2.2.2.2.1) []), (1007, .arr 99 (p.2.2.2.2.2.2.2))]⟩) (fun p => k5 (p.1) (p.2.1) (p.2.2.1) (p.2.2.2.1) (p.2.2.2.2.1) (p.2.2.2.2.2.1) (p.2.2.2.2.2.2.1) (p.2.2.2.2.2.2.2) = some r) ?_ ?_
   ·skip
    refine Q2 (Q1 ?_)
    refine O5 (ox3 Write_At f99_0) (.one rfl) .nil rfl <| O5 (ox2 t3) (.one rfl) (.one rfl) rfl <| O5 (ox0 .tmp) (.one rfl) .nil rfl <| O5 (ox_eql .tmp .tmp) (.app (.one rfl) (.one rfl)) .nil rfl <| O1 <| Q0 (σ' := ⟨[(1, _), (2, _), (7, _), (8, _), (10, _), (11, _), (12, _), (13, _), (20, .val (decide ((ix x11_m2 x13_m2).At = x1_m2)))], [(10, _), (1007, _)]⟩) (j9 rfl rfl rfl rfl rfl rfl rfl rfl rfl) (j2 rfl rfl) ?_
    refine Q3 _ rfl (fun hc6 => ?_) (fun hc6 => ?_)
    ·replace hφ := if_then hφ hc6
     refine Q0 (σ' := ⟨[(1, _), (2, _), (7, _), (10, _), (11, _), (12, _), (13, _)], [(10, _), (1007, _)]⟩) (j7 rfl rfl rfl rfl rfl rfl rfl) (j2 rfl rfl) ?_
     refine Q2 (Q1 ?_)
     refine O5 (ox0 .tmp) (.one rfl) .nil rfl <| O5 (ox3 Write_N f99_1) (.one rfl) .nil rfl <| O2 rfl rfl (ox_store_fld t3 .tmp) (.cons rfl (.one rfl)) (.one rfl) <| O1 <| Q0 (σ' := ⟨[(1, _), (2, _), (7, _), (10, _), (11, _), (12, _), (13, _)], [(10, .var ({ (ix x11_m2 x13_m2) with N := x2_m2 }) []), (1007, _)]⟩) (j7 rfl rfl rfl rfl rfl rfl rfl) (j2 rfl rfl) ?_
     refine Q1 ?_
     refine O5 (ox1 .bool) .nil .nil rfl <| O1 <| Q0 (σ' := ⟨[(1, _), (2, _), (7, _), (8, .val (true)), (10, _), (11, _), (12, _), (13, _)], [(10, _), (1007, _)]⟩) (j8 rfl rfl rfl rfl rfl rfl rfl rfl) (j2 rfl rfl) ?_
     exact PT.meet (x1_m2, x2_m2, true, x11_m2, x12_m2, x13_m2, { (ix x11_m2 x13_m2) with N := x2_m2 }, y1007_m2) hφ (j8 rfl rfl rfl rfl rfl rfl rfl rfl) (j2 rfl rfl)
    ·replace hφ := if_else hφ hc6
     refine Q0 (σ' := ⟨[(1, _), (2, _), (7, _), (8, _), (10, _), (11, _), (12, _), (13, _)], [(10, _), (1007, _)]⟩) (j8 rfl rfl rfl rfl rfl rfl rfl rfl) (j2 rfl rfl) ?_
     refine Q4 ?_
     exact PT.meet (x1_m2, x2_m2, x8_m2, x11_m2, x12_m2, x13_m2, (ix x11_m2 x13_m2), y1007_m2) hφ (j8 rfl rfl rfl rfl rfl rfl rfl rfl) (j2 rfl rfl)
   ·rintro ⟨x1_k5, x2_k5, x8_k5, x11_k5, x12_k5, x13_k5, y10_k5, y1007_k5⟩ hφ
    subst hk5
    refine Q0 (σ' := ⟨[(1, .val (x1_k5)), (2, .val (x2_k5)), (7, _), (8, .val (x8_k5)), (10, .ptr 10 (Lens.id (α := Mk.Write))), (11, .val (x11_k5)), (12, .val (x12_k5)), (13, .val (x13_k5))], [(10, .var (y10_k5) []), (1007, .arr 99 (y1007_k5))]⟩) (j8 rfl rfl rfl rfl rfl rfl rfl rfl) (j2 rfl rfl) ?_
    obtain ⟨hb7, hφ⟩ := G_some hφ
    refine Q1 ?_
    refine O5 (ox0 .tmp) (.one rfl) .nil rfl <| O5 (ox4 t99) (.one rfl) (.one rfl) rfl <| O5 (ox_buildSlice_val s26 z99 (.cons .tmp Parts.nil) rfl (by decide)) (.app (.one rfl) .nil) .nil rfl ?_
    refine Ops.putK [7, 23] rfl rfl (ox_append a26 .tmp .tmp hb7.1 hb7.2) (.app (.one rfl) (.one rfl)) (.one rfl) rfl (by kernel_rfl) ?_
    refine O5 (ox1 .tmp) (.one rfl) .nil rfl <| O1 <| Q0 (σ' := ⟨[(1, _), (2, _), (7, _), (8, _), (11, _), (12, _), (13, _)], [(1007, .arr 99 (y1007_k5 ++ ([y10_k5] : List Mk.Write)))]⟩) (j7 rfl rfl rfl rfl rfl rfl rfl) (j1 rfl) ?_
    obtain ⟨hb8, hφ⟩ := G_some hφ
    refine Q1 ?_
    refine O5 (ox_add .tmp .int hb8) (.app (.one rfl) .nil) .nil rfl <| O5 (ox0 .tmp) (.one rfl) .nil rfl <| O1 <| Q0 (σ' := ⟨[(1, _), (2, _), (7, _), (8, _), (11, _), (12, _), (13, .val (x13_k5 + (1 : Int)))], [(1007, _)]⟩) (j7 rfl rfl rfl rfl rfl rfl rfl) (j1 rfl) ?_
    exact PT.next (m2, x1_k5, x2_k5, x8_k5, x11_k5, x12_k5, (x13_k5 + (1 : Int)), (y1007_k5 ++ ([y10_k5] : List Mk.Write))) hφ (Nat.lt_succ_self _) (j7 rfl rfl rfl rfl rfl rfl rfl) (j1 rfl)
  ·replace hφ := if_else hφ hc3
   refine Q0 (σ' := ⟨[(1, _), (2, _), (7, _), (8, _)], [(1007, _)]⟩) (j4 rfl rfl rfl rfl) (j1 rfl) ?_
   refine PT.exit ?_
   exact PT.meet (x1_m2, x2_m2, x8_m2, y1007_m2) hφ (j4 rfl rfl rfl rfl) (j1 rfl)
 ·rintro ⟨x1_k1, x2_k1, x8_k1, y1007_k1⟩ hφ
  subst hk1
  refine Q0 (σ' := ⟨[(1, .val (x1_k1)), (2, .val (x2_k1)), (7, .sl 1007), (8, .val (x8_k1))], [(1007, .arr 99 (y1007_k1))]⟩) (j4 rfl rfl rfl rfl) (j1 rfl) ?_
  obtain ⟨k9, hk9, hφ⟩ := J_some hφ
  refine PT.cut (ι := (List Mk.Write)) (fun p => ⟨[(7, .sl 1007)], [(1007, .arr 99 (p))]⟩) (fun p => k9 (p) = some r) ?_ ?_
  ·skip
   refine Q2 (Q1 ?_)
   refine O5 (ox0 .tmp) (.one rfl) .nil rfl <| O5 (ox_not .tmp) (.one rfl) .nil rfl <| O1 <| Q0 (σ' := ⟨[(1, _), (2, _), (7, _), (29, .val (!x8_k1))], [(1007, _)]⟩) (j4 rfl rfl rfl rfl) (j1 rfl) ?_
   refine Q3 _ rfl (fun hc10 => ?_) (fun hc10 => ?_)
   ·replace hφ := if_then hφ hc10
    refine Q0 (σ' := ⟨[(1, _), (2, _), (7, _)], [(1007, _)]⟩) (j3 rfl rfl rfl) (j1 rfl) ?_
    obtain ⟨hb11, hφ⟩ := G_some hφ
    refine Q1 ?_
    refine O5 (ox0 .tmp) (.one rfl) .nil rfl <| O5 (ox0 .tmp) (.one rfl) .nil rfl <| O5 (ox0 .tmp) (.one rfl) .nil rfl <| O5 (oxa z99 u99 rfl (.cons Write_At f99_0 .tmp (.cons Write_N f99_1 .tmp Bld.nil))) (.app (.one rfl) (.app (.one rfl) .nil)) .nil rfl <| O5 (ox_buildSlice_val s26 z99 (.cons .tmp Parts.nil) rfl (by decide)) (.app (.one rfl) .nil) .nil rfl ?_
    refine Ops.putK [7, 30] rfl rfl (ox_append a26 .tmp .tmp hb11.1 hb11.2) (.app (.one rfl) (.one rfl)) (.one rfl) rfl (by kernel_rfl) ?_
    refine O5 (ox1 .tmp) (.one rfl) .nil rfl <| O1 <| Q0 (σ' := ⟨[(7, _)], [(1007, .arr 99 (y1007_k1 ++ ([({ At := x1_k1, N := x2_k1 } : Mk.Write)] : List Mk.Write)))]⟩) (j1 rfl) (j1 rfl) ?_
    exact PT.meet (y1007_k1 ++ ([({ At := x1_k1, N := x2_k1 } : Mk.Write)] : List Mk.Write)) hφ (j1 rfl) (j1 rfl)
   ·replace hφ := if_else hφ hc10
    refine Q0 (σ' := ⟨[(7, _)], [(1007, _)]⟩) (j1 rfl) (j1 rfl) ?_
    refine Q4 ?_
    exact PT.meet (y1007_k1) hφ (j1 rfl) (j1 rfl)
  ·rintro y1007_k9 hφ
   subst hk9
   refine Q0 (σ' := ⟨[(7, _)], [(1007, .arr 99 (y1007_k9))]⟩) (j1 rfl) (j1 rfl) ?_
   refine Q2 (Q1 ?_)
   refine O5 (ox0 .tmp) (.one rfl) .nil rfl <| O5 (ox1 .tmp) (.one rfl) .nil rfl <| O1 <| Q0 (σ' := ⟨[(6, _)], [(1007, _)]⟩) (j1 rfl) (j1 rfl) ?_
   refine Q5 ?_
   refine PT.freeze 1007 [6] rfl (j1 rfl) ?_
   obtain rfl := Option.some.inj hφ
   exact Q6 hw0 rfl (.tmp rfl rfl .nil) rfl
theorem c_mkref1_Do {a0 : List Mk.Write} {a1 : Mk.Call} {r : ((List Mk.Write) × Mk.Reply)} (hφ : mkref1_Do a0 a1 = some r) : Fn Go.Proofs.Try.prog 41 [.val a0, .val a1] (.tup [.val r.1, .val r.2]) := by
 unfold mkref1_Do at hφ
 refine Fn.mk' Go.Proofs.Try.func41 rfl (by decide) rfl rfl rfl (fun w0 hw0 => ?_)
 refine Q2 (Q1 ?_)
 refine O3 rfl rfl (ox_box (id := 2) .tmp) (.one rfl) .nil rfl (by kernel_rfl) <| O3 rfl rfl (ox_box (id := 3) .tmp) (.one rfl) .nil rfl (by kernel_rfl) <| O5 (ox1 .nilS) .nil .nil rfl <| O3 rfl rfl (ox_alloc (id := 5) z38) .nil .nil rfl (by kernel_rfl) <| O1 <| Q0 (σ' := ⟨[(2, _), (3, _), (5, _)], [(2, .var (a0) []), (3, .var (a1) []), (5, .var zRe [])]⟩) (j3 rfl rfl rfl) (j3 rfl rfl rfl) ?_
 refine Q2 ?_
 obtain ⟨v1, hv1, hφ⟩ := B_some hφ
 refine Q1 ?_
 refine O5 (ox4 t26) (.one rfl) (.one rfl) rfl <| O5 (ox3 Call_Name f33_1) (.one rfl) .nil rfl <| O5 (ox2 t3) (.one rfl) (.one rfl) rfl <| O5 (ox_call (c_mkref1_get hv1) (.cons .tmp (.cons .tmp .nil))) (.app (.one rfl) (.app (.one rfl) .nil)) .nil rfl <| O5 (ox0 .tmp) (.one rfl) .nil rfl <| O5 (ox7 rfl) (.one rfl) .nil rfl ?_
 refine O5 (ox7 rfl) (.one rfl) .nil rfl <| O5 (ox1 .tmp) (.one rfl) .nil rfl <| O5 (ox1 .tmp) (.one rfl) .nil rfl <| O1 <| Q0 (σ' := ⟨[(2, _), (3, _), (5, _), (6, .val (v1.1)), (7, .val (v1.2))], [(2, _), (3, _), (5, _)]⟩) (j5 rfl rfl rfl rfl rfl) (j3 rfl rfl rfl) ?_
 refine Q2 ?_
 refine PT.freezeVar 2 [2] rfl (j1 rfl) ?_
 refine Q1 ?_
 refine O5 (ox_makeFunc (.cons .tmp .nil)) (.app (.one rfl) .nil) .nil rfl <| O5 (ox1 .tmp) (.one rfl) .nil rfl <| O1 <| Q0 (σ' := ⟨[(2, .elem (a0)), (3, _), (5, _), (6, _), (7, _), (8, _)], [(3, _), (5, _)]⟩) (j6 rfl rfl rfl rfl rfl rfl) (j2 rfl rfl) ?_
 refine Q2 ?_
 refine PT.block ?_
 refine Q2 (Q1 ?_)
 refine O5 (ox3 Call_Kind f33_0) (.one rfl) .nil rfl <| O5 (ox2 t3) (.one rfl) (.one rfl) rfl <| O5 (ox_eql .tmp .int) (.app (.one rfl) .nil) .nil rfl <| O5 (ox1 .tmp) (.one rfl) .nil rfl <| O1 <| Q0 (σ' := ⟨[(2, _), (3, _), (5, _), (6, _), (7, _), (8, _), (21, .val (decide (a1.Kind = (5 : Int))))], [(3, _), (5, _)]⟩) (j7 rfl rfl rfl rfl rfl rfl rfl) (j2 rfl rfl) ?_
 refine Q3 _ rfl (fun hc2 => ?_) (fun hc2 => ?_)
 ·replace hφ := if_then hφ hc2
  refine Q0 (σ' := ⟨[(2, _), (5, _)], [(5, _)]⟩) (j2 rfl rfl) (j1 rfl) ?_
  refine Q2 ?_
  refine Q8 hMixed (
    .cons (S5 (ox_load_elem t26)) ⟨.one rfl, .nil⟩ (by kernel_rfl) rfl <|
    .cons (S5 (ox_load_elem t26)) ⟨.one rfl, .nil⟩ (by kernel_rfl) rfl <|
    .cons (S5 (ox_len s26 .tmp)) ⟨.one rfl, .nil⟩ (by kernel_rfl) rfl <|
    .cons (S5 (oxa z38 u38 rfl (.cons Reply_N f38_1 .tmp Bld.nil))) ⟨(.app (.one rfl) .nil), .nil⟩ (by kernel_rfl) rfl <|
    .cons (S5 (ox1 .tmp)) ⟨.one rfl, .nil⟩ (by kernel_rfl) rfl <|
    .cons (S4 rfl rfl (ox5 t38 .tmp)) ⟨(.cons rfl (.one rfl)), .one rfl⟩ (by kernel_rfl) rfl <|
    .nil) _ [[], [], [1], [1, 2], [0], [0, 1, 2, 3, 4]] rfl (by kernel_rfl) (by kernel_rfl) ?_
  refine Q0 (σ' := ⟨[(4, .val (a0)), (5, _)], [(5, .var ({ Err := (0 : Int), N := (a0.length : Int) } : Mk.Reply) [])]⟩) (j2 rfl rfl) (j1 rfl) ?_
  refine Q5 ?_
  obtain rfl := Option.some.inj hφ
  exact Q6 hw0 rfl (.tmp rfl rfl (.cell t38 rfl rfl .nil)) rfl
 ·replace hφ := if_else hφ hc2
  refine Q0 (σ' := ⟨[(2, _), (3, _), (5, _), (6, _), (7, _), (8, _)], [(3, _), (5, _)]⟩) (j6 rfl rfl rfl rfl rfl rfl) (j2 rfl rfl) ?_
  refine Q2 (Q1 ?_)
  refine O5 (ox3 Call_Kind f33_0) (.one rfl) .nil rfl <| O5 (ox2 t3) (.one rfl) (.one rfl) rfl <| O5 (ox_eql .tmp .int) (.app (.one rfl) .nil) .nil rfl <| O5 (ox0 .tmp) (.one rfl) .nil rfl <| O4 rfl rfl rfl rfl (.plain .nil) (fun hG => (ox0 .tmp)) (j1 rfl) .nil rfl <| O4 rfl rfl rfl rfl (.cond (fun h => h) .nil) (fun hG => (ox_not .tmp)) (j1 rfl) .nil rfl ?_
  refine O5 ox8 (j2 rfl rfl) .nil rfl <| O5 (ox0 .tmp) (.one rfl) .nil rfl <| O4 rfl rfl rfl rfl (.plain .nil) (fun hG => (ox_load_elem t26)) (j1 rfl) .nil rfl <| O4 rfl rfl rfl rfl (.cond (fun h => h) .nil) (fun hG => (ox_len s26 .tmp)) (j1 rfl) .nil rfl <| O4 rfl rfl rfl rfl (.cond (fun h => h) .nil) (fun hG => (ox_geq .tmp .int)) (j1 rfl) .nil rfl <| O5 ox8 (j2 rfl rfl) .nil rfl ?_
  refine O5 (ox1 .tmp) (.one rfl) .nil rfl <| O1 <| Q0 (σ' := ⟨[(2, _), (3, _), (5, _), (6, _), (7, _), (8, _), (29, .val ((((decide (a1.Kind = (1 : Int))) && (!v1.2)) && (decide ((5 : Int) ≤ (a0.length : Int))))))], [(3, _), (5, _)]⟩) (j7 rfl rfl rfl rfl rfl rfl rfl) (j2 rfl rfl) ?_
  refine Q3 _ rfl (fun hc3 => ?_) (fun hc3 => ?_)
  ·replace hφ := if_then hφ hc3
   refine Q0 (σ' := ⟨[(5, _), (8, _)], [(5, _)]⟩) (j2 rfl rfl) (j1 rfl) ?_
   refine Q2 ?_
   obtain ⟨v4, hv4, hφ⟩ := B_some hφ
   refine Q1 ?_
   refine O5 (ox0 .tmp) (.one rfl) .nil rfl <| O5 (ox_callv (c_mkref1_Do_1 hv4) (.cons .int .nil)) (.cons rfl (.app .nil .nil)) .nil rfl <| O5 (ox7 rfl) (.one rfl) .nil rfl <| O5 (ox7 rfl) (.one rfl) .nil rfl <| O5 (ox1 .tmp) (.one rfl) .nil rfl <| O2 rfl rfl (ox5 t38 .tmp) (.cons rfl (.one rfl)) (.one rfl) <| O1 <| Q0 (σ' := ⟨[(4, .val (v4.1)), (5, _)], [(5, .var (v4.2) [])]⟩) (j2 rfl rfl) (j1 rfl) ?_
   refine Q5 ?_
   obtain rfl := Option.some.inj hφ
   exact Q6 hw0 rfl (.tmp rfl rfl (.cell t38 rfl rfl .nil)) rfl
  ·replace hφ := if_else hφ hc3
   refine Q0 (σ' := ⟨[(2, _), (3, _), (5, _), (6, _), (7, _), (8, _)], [(3, _), (5, _)]⟩) (j6 rfl rfl rfl rfl rfl rfl) (j2 rfl rfl) ?_
   refine Q2 (Q1 ?_)
   refine O5 (ox3 Call_Kind f33_0) (.one rfl) .nil rfl <| O5 (ox2 t3) (.one rfl) (.one rfl) rfl <| O5 (ox_eql .tmp .int) (.app (.one rfl) .nil) .nil rfl <| O5 (ox1 .tmp) (.one rfl) .nil rfl <| O1 <| Q0 (σ' := ⟨[(2, _), (3, _), (5, _), (6, _), (7, _), (8, _), (46, .val (decide (a1.Kind = (1 : Int))))], [(3, _), (5, _)]⟩) (j7 rfl rfl rfl rfl rfl rfl rfl) (j2 rfl rfl) ?_
   refine Q3 _ rfl (fun hc5 => ?_) (fun hc5 => ?_)
   ·replace hφ := if_then hφ hc5
    refine Q0 (σ' := ⟨[(2, _), (3, _), (5, _), (6, _)], [(3, _), (5, _)]⟩) (j4 rfl rfl rfl rfl) (j2 rfl rfl) ?_
    refine Q2 ?_
    obtain ⟨v6, hv6, hφ⟩ := B_some hφ
    refine Q1 ?_
    refine O5 (ox_load_elem t26) (.one rfl) .nil rfl <| O5 (ox3 Call_Name f33_1) (.one rfl) .nil rfl <| O5 (ox2 t3) (.one rfl) (.one rfl) rfl <| O5 (ox3 Call_N f33_3) (.one rfl) .nil rfl <| O5 (ox2 t3) (.one rfl) (.one rfl) rfl <| O5 (ox_call (c_mkref1_set hv6) (.cons .tmp (.cons .tmp (.cons .tmp .nil)))) (.app (.one rfl) (.app (.one rfl) (.app (.one rfl) .nil))) .nil rfl ?_
    refine O5 (ox0 .tmp) (.one rfl) .nil rfl <| O5 (oxa z38 u38 rfl (.cons Reply_N f38_1 .tmp Bld.nil)) (.app (.one rfl) .nil) .nil rfl <| O5 (ox1 .tmp) (.one rfl) .nil rfl <| O2 rfl rfl (ox5 t38 .tmp) (.cons rfl (.one rfl)) (.one rfl) <| O1 <| Q0 (σ' := ⟨[(4, .val (v6)), (5, _)], [(5, .var ({ Err := (0 : Int), N := v1.1 } : Mk.Reply) [])]⟩) (j2 rfl rfl) (j1 rfl) ?_
    refine Q5 ?_
    obtain rfl := Option.some.inj hφ
    exact Q6 hw0 rfl (.tmp rfl rfl (.cell t38 rfl rfl .nil)) rfl
   ·replace hφ := if_else hφ hc5
    refine Q0 (σ' := ⟨[(2, _), (3, _), (5, _), (6, _), (7, _), (8, _)], [(3, _), (5, _)]⟩) (j6 rfl rfl rfl rfl rfl rfl) (j2 rfl rfl) ?_
    refine Q2 (Q1 ?_)
    refine O5 (ox0 .tmp) (.one rfl) .nil rfl <| O5 (ox_not .tmp) (.one rfl) .nil rfl <| O5 (ox1 .tmp) (.one rfl) .nil rfl <| O1 <| Q0 (σ' := ⟨[(2, _), (3, _), (5, _), (6, _), (8, _), (58, .val (!v1.2))], [(3, _), (5, _)]⟩) (j6 rfl rfl rfl rfl rfl rfl) (j2 rfl rfl) ?_
    refine Q3 _ rfl (fun hc7 => ?_) (fun hc7 => ?_)
    ·replace hφ := if_then hφ hc7
     refine Q0 (σ' := ⟨[(5, _), (8, _)], [(5, _)]⟩) (j2 rfl rfl) (j1 rfl) ?_
     refine Q2 ?_
     obtain ⟨v8, hv8, hφ⟩ := B_some hφ
     refine Q1 ?_
     refine O5 (ox0 .tmp) (.one rfl) .nil rfl <| O5 (ox_callv (c_mkref1_Do_1 hv8) (.cons .int .nil)) (.cons rfl (.app .nil .nil)) .nil rfl <| O5 (ox7 rfl) (.one rfl) .nil rfl <| O5 (ox7 rfl) (.one rfl) .nil rfl <| O5 (ox1 .tmp) (.one rfl) .nil rfl <| O2 rfl rfl (ox5 t38 .tmp) (.cons rfl (.one rfl)) (.one rfl) <| O1 <| Q0 (σ' := ⟨[(4, .val (v8.1)), (5, _)], [(5, .var (v8.2) [])]⟩) (j2 rfl rfl) (j1 rfl) ?_
     refine Q5 ?_
     obtain rfl := Option.some.inj hφ
     exact Q6 hw0 rfl (.tmp rfl rfl (.cell t38 rfl rfl .nil)) rfl
    ·replace hφ := if_else hφ hc7
     refine Q0 (σ' := ⟨[(2, _), (3, _), (5, _), (6, _), (8, _)], [(3, _), (5, _)]⟩) (j5 rfl rfl rfl rfl rfl) (j2 rfl rfl) ?_
     refine Q2 (Q1 ?_)
     refine O5 (ox3 Call_Kind f33_0) (.one rfl) .nil rfl <| O5 (ox2 t3) (.one rfl) (.one rfl) rfl <| O5 (ox_eql .tmp .int) (.app (.one rfl) .nil) .nil rfl <| O5 (ox1 .tmp) (.one rfl) .nil rfl <| O1 <| Q0 (σ' := ⟨[(2, _), (3, _), (5, _), (6, _), (8, _), (65, .val (decide (a1.Kind = (2 : Int))))], [(3, _), (5, _)]⟩) (j6 rfl rfl rfl rfl rfl rfl) (j2 rfl rfl) ?_
     refine Q3 _ rfl (fun hc9 => ?_) (fun hc9 => ?_)
     ·replace hφ := if_then hφ hc9
      refine Q0 (σ' := ⟨[(2, _), (5, _), (6, _)], [(5, _)]⟩) (j3 rfl rfl rfl) (j1 rfl) ?_
      refine Q2 (Q1 ?_)
      refine O5 (ox_load_elem t26) (.one rfl) .nil rfl <| O5 (ox0 .tmp) (.one rfl) .nil rfl <| O5 (oxa z38 u38 rfl (.cons Reply_N f38_1 .tmp Bld.nil)) (.app (.one rfl) .nil) .nil rfl <| O5 (ox1 .tmp) (.one rfl) .nil rfl <| O2 rfl rfl (ox5 t38 .tmp) (.cons rfl (.one rfl)) (.one rfl) <| O1 <| Q0 (σ' := ⟨[(4, .val (a0)), (5, _)], [(5, .var ({ Err := (0 : Int), N := v1.1 } : Mk.Reply) [])]⟩) (j2 rfl rfl) (j1 rfl) ?_
      refine Q5 ?_
      obtain rfl := Option.some.inj hφ
      exact Q6 hw0 rfl (.tmp rfl rfl (.cell t38 rfl rfl .nil)) rfl
     ·replace hφ := if_else hφ hc9
      refine Q0 (σ' := ⟨[(2, _), (3, _), (5, _), (6, _), (8, _)], [(3, _), (5, _)]⟩) (j5 rfl rfl rfl rfl rfl) (j2 rfl rfl) ?_
      refine Q2 (Q1 ?_)
      refine O5 (ox3 Call_Kind f33_0) (.one rfl) .nil rfl <| O5 (ox2 t3) (.one rfl) (.one rfl) rfl <| O5 (ox_eql .tmp .int) (.app (.one rfl) .nil) .nil rfl <| O5 (ox1 .tmp) (.one rfl) .nil rfl <| O1 <| Q0 (σ' := ⟨[(2, _), (3, _), (5, _), (6, _), (8, _), (72, .val (decide (a1.Kind = (3 : Int))))], [(3, _), (5, _)]⟩) (j6 rfl rfl rfl rfl rfl rfl) (j2 rfl rfl) ?_
      refine Q3 _ rfl (fun hc10 => ?_) (fun hc10 => ?_)
      ·replace hφ := if_then hφ hc10
       refine Q0 (σ' := ⟨[(2, _), (3, _), (5, _), (6, _)], [(3, _), (5, _)]⟩) (j4 rfl rfl rfl rfl) (j2 rfl rfl) ?_
       refine Q2 (Q1 ?_)
       refine O5 (ox1 .nilS) .nil .nil rfl <| O1 <| Q0 (σ' := ⟨[(2, _), (3, _), (5, _), (6, _), (9, .nilS)], [(3, _), (5, _)]⟩) (j5 rfl rfl rfl rfl rfl) (j2 rfl rfl) ?_
       obtain ⟨k11, hk11, hφ⟩ := J_some hφ
       refine PT.cut (ι := Int × Mk.Reply × (List Mk.Write)) (fun p => ⟨[(5, .ptr 5 (Lens.id (α := Mk.Reply))), (6, .val (p.1)), (9, .sl 1009)], [(5, .var (p.2.1) []), (1009, .arr 99 (p.2.2))]⟩) (fun p => k11 (p.1) (p.2.1) (p.2.2) = some r) ?_ ?_
       ·skip
        refine Q2 (Q1 ?_)
        refine O5 (ox_load_elem t26) (.one rfl) .nil rfl <| O5 (ox_len s26 .tmp) (.one rfl) .nil rfl <| O5 (ox0 .int) .nil .nil rfl <| O1 <| Q0 (σ' := ⟨[(2, _), (3, _), (5, _), (6, _), (9, _), (76, .val (a0)), (77, .val (a0.length : Int)), (78, .val (0 : Int))], [(3, _), (5, _)]⟩) (j8 rfl rfl rfl rfl rfl rfl rfl rfl) (j2 rfl rfl) ?_
        refine PT.block ?_
        refine PT.nilArr 1009 9 99 (Mk.Write) rfl (by kernel_rfl) ?_
        refine PT.loop (ι := Nat × (List Mk.Write) × Int × (List Mk.Write) × Int × Int × Mk.Call × Mk.Reply × (List Mk.Write)) (fun p => ⟨[(2, .elem (p.2.1)), (3, .ptr 3 (Lens.id (α := Mk.Call))), (5, .ptr 5 (Lens.id (α := Mk.Reply))), (6, .val (p.2.2.1)), (9, .sl 1009), (76, .val (p.2.2.2.1)), (77, .val (p.2.2.2.2.1)), (78, .val (p.2.2.2.2.2.1))], [(3, .var (p.2.2.2.2.2.2.1) []), (5, .var (p.2.2.2.2.2.2.2.1) []), (1009, .arr 99 (p.2.2.2.2.2.2.2.2))]⟩) (fun p => mkref1_Do_l1 k11 p.1 (p.2.1) (p.2.2.1) (p.2.2.2.1) (p.2.2.2.2.1) (p.2.2.2.2.2.1) (p.2.2.2.2.2.2.1) (p.2.2.2.2.2.2.2.1) (p.2.2.2.2.2.2.2.2) = some r) (fun p => p.1) (((a0.length : Int) - (0 : Int)).toNat + 1, a0, v1.1, a0, (a0.length : Int), (0 : Int), a1, zRe, ([] : List Mk.Write)) hφ (j8 rfl rfl rfl rfl rfl rfl rfl rfl) (j3 rfl rfl rfl) ?_
        rintro ⟨m12, x2_m12, x6_m12, x76_m12, x77_m12, x78_m12, y3_m12, y5_m12, y1009_m12⟩ (hφ : mkref1_Do_l1 k11 m12 x2_m12 x6_m12 x76_m12 x77_m12 x78_m12 y3_m12 y5_m12 y1009_m12 = some r)
        obtain _ | m12 := m12
        ·exact (none_no hφ).elim
        rw [mkref1_Do_l1.eq_2] at hφ
        refine Q0 (σ' := ⟨[(2, .elem (x2_m12)), (3, .ptr 3 (Lens.id (α := Mk.Call))), (5, .ptr 5 (Lens.id (α := Mk.Reply))), (6, .val (x6_m12)), (9, .sl 1009), (76, .val (x76_m12)), (77, .val (x77_m12)), (78, .val (x78_m12))], [(3, .var (y3_m12) []), (5, .var (y5_m12) []), (1009, .arr 99 (y1009_m12))]⟩) (j8 rfl rfl rfl rfl rfl rfl rfl rfl) (j3 rfl rfl rfl) ?_
        refine Q2 (Q1 ?_)
        refine O5 (ox_lss .tmp .tmp) (.app (.one rfl) (.one rfl)) .nil rfl <| O1 <| Q0 (σ' := ⟨[(2, _), (3, _), (5, _), (6, _), (9, _), (76, _), (77, _), (78, _), (79, .val (decide (x78_m12 < x77_m12)))], [(3, _), (5, _), (1009, _)]⟩) (j9 rfl rfl rfl rfl rfl rfl rfl rfl rfl) (j3 rfl rfl rfl) ?_
        refine Q2 ?_
        refine Q3 _ rfl (fun hc13 => ?_) (fun hc13 => ?_)
        ·replace hφ := if_then hφ hc13
         refine Q0 (σ' := ⟨[(2, _), (3, _), (5, _), (6, _), (9, _), (76, _), (77, _), (78, _)], [(3, _), (5, _), (1009, _)]⟩) (j8 rfl rfl rfl rfl rfl rfl rfl rfl) (j3 rfl rfl rfl) ?_
         refine Q4 ?_
         obtain ⟨k14, hk14, hφ⟩ := J_some hφ
         refine PT.cut (ι := (List Mk.Write) × Int × (List Mk.Write) × Int × Int × Mk.Call × Mk.Reply × (List Mk.Write)) (fun p => ⟨[(2, .elem (p.1)), (3, .ptr 3 (Lens.id (α := Mk.Call))), (5, .ptr 5 (Lens.id (α := Mk.Reply))), (6, .val (p.2.1)), (9, .sl 1009), (76, .val (p.2.2.1)), (77, .val (p.2.2.2.1)), (78, .val (p.2.2.2.2.1))], [(3, .var (p.2.2.2.2.2.1) []), (5, .var (p.2.2.2.2.2.2.1) []), (1009, .arr 99 (p.2.2.2.2.2.2.2))]⟩) (fun p => k14 (p.1) (p.2.1) (p.2.2.1) (p.2.2.2.1) (p.2.2.2.2.1) (p.2.2.2.2.2.1) (p.2.2.2.2.2.2.1) (p.2.2.2.2.2.2.2) = some r) ?_ ?_
         ·skip
          refine PT.block ?_
          refine Q2 ?_
          obtain ⟨hb15, hφ⟩ := G_some hφ
          refine Q1 ?_
          refine O5 (ox0 .tmp) (.one rfl) .nil rfl <| O5 (ox_ix s26 .tmp .tmp hb15.1 hb15.2) (.app (.one rfl) (.one rfl)) .nil rfl <| O5 (ox_load_elem t99) (.one rfl) .nil rfl <| O3 rfl rfl (ox_alloc (id := 11) z99) .nil .nil rfl (by kernel_rfl) <| O5 (ox1 .tmp) (.one rfl) .nil rfl <| O2 rfl rfl (ox5 t99 .tmp) (.cons rfl (.one rfl)) (.one rfl) <| O1 <| Q0 (σ' := ⟨[(2, _), (3, _), (5, _), (6, _), (9, _), (10, .val (x78_m12)), (11, _), (76, _), (77, _), (78, _)], [(3, _), (5, _), (11, .var (ix x76_m12 x78_m12) []), (1009, _)]⟩) (j10 rfl rfl rfl rfl rfl rfl rfl rfl rfl rfl) (j4 rfl rfl rfl rfl) ?_
          obtain ⟨k16, hk16, hφ⟩ := J_some hφ
          refine PT.cut (ι := (List Mk.Write) × Int × Int × (List Mk.Write) × Int × Int × Mk.Call × Mk.Reply × Mk.Write × (List Mk.Write)) (fun p => ⟨[(2, .elem (p.1)), (3, .ptr 3 (Lens.id (α := Mk.Call))), (5, .ptr 5 (Lens.id (α := Mk.Reply))), (6, .val (p.2.1)), (9, .sl 1009), (10, .val (p.2.2.1)), (11, .ptr 11 (Lens.id (α := Mk.Write))), (76, .val (p.2.2.2.1)), (77, .val (p.2.2.2.2.1)), (78, .val (p.2.2.2.2.2.1))], [(3, .var (p.2.2.2.2.2.2.1) []), (5, .var (p.2.2.2.2.2.2.2.1) []), (11, .var (p.2.2.2.2.2.2.2.2.1) []), (1009, .arr 99 (p.2.2.2.2.2.2.2.2.2))]⟩) (fun p => k16 (p.1) (p.2.1) (p.2.2.1) (p.2.2.2.1) (p.2.2.2.2.1) (p.2.2.2.2.2.1) (p.2.2.2.2.2.2.1) (p.2.2.2.2.2.2.2.1) (p.2.2.2.2.2.2.2.2.1) (p.2.2.2.2.2.2.2.2.2) = some r) ?_ ?_
          ·skip
           refine Q2 (Q1 ?_)
           refine O5 (ox3 Write_At f99_0) (.one rfl) .nil rfl <| O5 (ox2 t3) (.one rfl) (.one rfl) rfl <| O5 (ox3 Call_Name f33_1) (.one rfl) .nil rfl <| O5 (ox2 t3) (.one rfl) (.one rfl) rfl <| O5 (ox_eql .tmp .tmp) (.app (.one rfl) (.one rfl)) .nil rfl <| O1 <| Q0 (σ' := ⟨[(2, _), (3, _), (5, _), (6, _), (9, _), (10, _), (11, _), (76, _), (77, _), (78, _), (87, .val (decide ((ix x76_m12 x78_m12).At = y3_m12.Name)))], [(3, _), (5, _), (11, _), (1009, _)]⟩) (j11 rfl rfl rfl rfl rfl rfl rfl rfl rfl rfl rfl) (j4 rfl rfl rfl rfl) ?_
           refine Q3 _ rfl (fun hc17 => ?_) (fun hc17 => ?_)
           ·replace hφ := if_then hφ hc17
            refine Q0 (σ' := ⟨[(2, _), (3, _), (5, _), (6, _), (9, _), (10, _), (11, _), (76, _), (77, _), (78, _)], [(3, _), (5, _), (11, _), (1009, _)]⟩) (j10 rfl rfl rfl rfl rfl rfl rfl rfl rfl rfl) (j4 rfl rfl rfl rfl) ?_
            obtain ⟨hb18, hφ⟩ := G_some hφ
            obtain ⟨hb19, hφ⟩ := G_some hφ
            refine Q1 ?_
            refine O5 (ox_load_elem t26) (.one rfl) .nil rfl <| O5 (ox_load_elem t26) (.one rfl) .nil rfl <| O5 (ox_len s26 .tmp) (.one rfl) .nil rfl <| O5 (ox_sub .tmp .int hb18) (.app (.one rfl) .nil) .nil rfl <| O5 (ox_ix s26 .tmp .tmp hb19.1 hb19.2) (.app (.one rfl) (.one rfl)) .nil rfl <| O5 (ox_load_elem t99) (.one rfl) .nil rfl ?_
            refine O2 rfl rfl (ox5 t99 .tmp) (.cons rfl (.one rfl)) (.one rfl) <| O1 <| Q0 (σ' := ⟨[(2, _), (3, _), (5, _), (6, _), (9, _), (10, _), (11, _), (76, _), (77, _), (78, _)], [(3, _), (5, _), (11, .var (ix x2_m12 ((x2_m12.length : Int) - (1 : Int))) []), (1009, _)]⟩) (j10 rfl rfl rfl rfl rfl rfl rfl rfl rfl rfl) (j4 rfl rfl rfl rfl) ?_
            exact PT.meet (x2_m12, x6_m12, x78_m12, x76_m12, x77_m12, x78_m12, y3_m12, y5_m12, (ix x2_m12 ((x2_m12.length : Int) - (1 : Int))), y1009_m12) hφ (j10 rfl rfl rfl rfl rfl rfl rfl rfl rfl rfl) (j4 rfl rfl rfl rfl)
           ·replace hφ := if_else hφ hc17
            refine Q0 (σ' := ⟨[(2, _), (3, _), (5, _), (6, _), (9, _), (10, _), (11, _), (76, _), (77, _), (78, _)], [(3, _), (5, _), (11, _), (1009, _)]⟩) (j10 rfl rfl rfl rfl rfl rfl rfl rfl rfl rfl) (j4 rfl rfl rfl rfl) ?_
            refine Q4 ?_
            exact PT.meet (x2_m12, x6_m12, x78_m12, x76_m12, x77_m12, x78_m12, y3_m12, y5_m12, (ix x76_m12 x78_m12), y1009_m12) hφ (j10 rfl rfl rfl rfl rfl rfl rfl rfl rfl rfl) (j4 rfl rfl rfl rfl)
          ·rintro ⟨x2_k16, x6_k16, x10_k16, x76_k16, x77_k16, x78_k16, y3_k16, y5_k16, y11_k16, y1009_k16⟩ hφ
           subst hk16
           refine Q0 (σ' := ⟨[(2, .elem (x2_k16)), (3, _), (5, _), (6, .val (x6_k16)), (9, _), (10, .val (x10_k16)), (11, .ptr 11 (Lens.id (α := Mk.Write))), (76, .val (x76_k16)), (77, .val (x77_k16)), (78, .val (x78_k16))], [(3, .var (y3_k16) []), (5, .var (y5_k16) []), (11, .var (y11_k16) []), (1009, .arr 99 (y1009_k16))]⟩) (j10 rfl rfl rfl rfl rfl rfl rfl rfl rfl rfl) (j4 rfl rfl rfl rfl) ?_
           refine Q2 ?_
           obtain ⟨hb20, hφ⟩ := G_some hφ
           refine Q1 ?_
           refine O5 (ox0 .tmp) (.one rfl) .nil rfl <| O5 (ox_load_elem t26) (.one rfl) .nil rfl <| O5 (ox_len s26 .tmp) (.one rfl) .nil rfl <| O5 (ox_sub .tmp .int hb20) (.app (.one rfl) .nil) .nil rfl <| O5 (ox_lss .tmp .tmp) (.app (.one rfl) (.one rfl)) .nil rfl <| O1 <| Q0 (σ' := ⟨[(2, _), (3, _), (5, _), (6, _), (9, _), (11, _), (76, _), (77, _), (78, _), (98, .val (decide (x10_k16 < ((x2_k16.length : Int) - (1 : Int)))))], [(3, _), (5, _), (11, _), (1009, _)]⟩) (j10 rfl rfl rfl rfl rfl rfl rfl rfl rfl rfl) (j4 rfl rfl rfl rfl) ?_
           refine Q3 _ rfl (fun hc21 => ?_) (fun hc21 => ?_)
           ·replace hφ := if_then hφ hc21
            refine Q0 (σ' := ⟨[(2, _), (3, _), (5, _), (6, _), (9, _), (11, _), (76, _), (77, _), (78, _)], [(3, _), (5, _), (11, _), (1009, _)]⟩) (j9 rfl rfl rfl rfl rfl rfl rfl rfl rfl) (j4 rfl rfl rfl rfl) ?_
            obtain ⟨hb22, hφ⟩ := G_some hφ
            refine Q1 ?_
            refine O5 (ox0 .tmp) (.one rfl) .nil rfl <| O5 (ox4 t99) (.one rfl) (.one rfl) rfl <| O5 (ox_buildSlice_val s26 z99 (.cons .tmp Parts.nil) rfl (by decide)) (.app (.one rfl) .nil) .nil rfl ?_
            refine Ops.putK [9, 99] rfl rfl (ox_append a26 .tmp .tmp hb22.1 hb22.2) (.app (.one rfl) (.one rfl)) (.one rfl) rfl (by kernel_rfl) ?_
            refine O5 (ox1 .tmp) (.one rfl) .nil rfl <| O1 <| Q0 (σ' := ⟨[(2, _), (3, _), (5, _), (6, _), (9, _), (76, _), (77, _), (78, _)], [(3, _), (5, _), (1009, .arr 99 (y1009_k16 ++ ([y11_k16] : List Mk.Write)))]⟩) (j8 rfl rfl rfl rfl rfl rfl rfl rfl) (j3 rfl rfl rfl) ?_
            exact PT.meet (x2_k16, x6_k16, x76_k16, x77_k16, x78_k16, y3_k16, y5_k16, (y1009_k16 ++ ([y11_k16] : List Mk.Write))) hφ (j8 rfl rfl rfl rfl rfl rfl rfl rfl) (j3 rfl rfl rfl)
           ·replace hφ := if_else hφ hc21
            refine Q0 (σ' := ⟨[(2, _), (3, _), (5, _), (6, _), (9, _), (76, _), (77, _), (78, _)], [(3, _), (5, _), (1009, _)]⟩) (j8 rfl rfl rfl rfl rfl rfl rfl rfl) (j3 rfl rfl rfl) ?_
            refine Q4 ?_
            exact PT.meet (x2_k16, x6_k16, x76_k16, x77_k16, x78_k16, y3_k16, y5_k16, y1009_k16) hφ (j8 rfl rfl rfl rfl rfl rfl rfl rfl) (j3 rfl rfl rfl)
         ·rintro ⟨x2_k14, x6_k14, x76_k14, x77_k14, x78_k14, y3_k14, y5_k14, y1009_k14⟩ hφ
          subst hk14
          refine Q0 (σ' := ⟨[(2, .elem (x2_k14)), (3, _), (5, _), (6, .val (x6_k14)), (9, _), (76, .val (x76_k14)), (77, .val (x77_k14)), (78, .val (x78_k14))], [(3, .var (y3_k14) []), (5, .var (y5_k14) []), (1009, .arr 99 (y1009_k14))]⟩) (j8 rfl rfl rfl rfl rfl rfl rfl rfl) (j3 rfl rfl rfl) ?_
          obtain ⟨hb23, hφ⟩ := G_some hφ
          refine Q1 ?_
          refine O5 (ox_add .tmp .int hb23) (.app (.one rfl) .nil) .nil rfl <| O5 (ox0 .tmp) (.one rfl) .nil rfl <| O1 <| Q0 (σ' := ⟨[(2, _), (3, _), (5, _), (6, _), (9, _), (76, _), (77, _), (78, .val (x78_k14 + (1 : Int)))], [(3, _), (5, _), (1009, _)]⟩) (j8 rfl rfl rfl rfl rfl rfl rfl rfl) (j3 rfl rfl rfl) ?_
          exact PT.next (m12, x2_k14, x6_k14, x76_k14, x77_k14, (x78_k14 + (1 : Int)), y3_k14, y5_k14, y1009_k14) hφ (Nat.lt_succ_self _) (j8 rfl rfl rfl rfl rfl rfl rfl rfl) (j3 rfl rfl rfl)
        ·replace hφ := if_else hφ hc13
         refine Q0 (σ' := ⟨[(5, _), (6, _), (9, _)], [(5, _), (1009, _)]⟩) (j3 rfl rfl rfl) (j2 rfl rfl) ?_
         refine PT.exit ?_
         exact PT.meet (x6_m12, y5_m12, y1009_m12) hφ (j3 rfl rfl rfl) (j2 rfl rfl)
       ·rintro ⟨x6_k11, y5_k11, y1009_k11⟩ hφ
        subst hk11
        refine Q0 (σ' := ⟨[(5, .ptr 5 (Lens.id (α := Mk.Reply))), (6, .val (x6_k11)), (9, .sl 1009)], [(5, .var (y5_k11) []), (1009, .arr 99 (y1009_k11))]⟩) (j3 rfl rfl rfl) (j2 rfl rfl) ?_
        refine Q2 (Q1 ?_)
        refine O5 (ox0 .tmp) (.one rfl) .nil rfl <| O5 (ox0 .tmp) (.one rfl) .nil rfl <| O5 (oxa z38 u38 rfl (.cons Reply_N f38_1 .tmp Bld.nil)) (.app (.one rfl) .nil) .nil rfl <| O5 (ox1 .tmp) (.one rfl) .nil rfl <| O2 rfl rfl (ox5 t38 .tmp) (.cons rfl (.one rfl)) (.one rfl) <| O1 <| Q0 (σ' := ⟨[(4, _), (5, _)], [(5, .var ({ Err := (0 : Int), N := x6_k11 } : Mk.Reply) []), (1009, _)]⟩) (j2 rfl rfl) (j2 rfl rfl) ?_
        refine Q5 ?_
        refine PT.freeze 1009 [4] rfl (j1 rfl) ?_
        obtain rfl := Option.some.inj hφ
        exact Q6 hw0 rfl (.tmp rfl rfl (.cell t38 rfl rfl .nil)) rfl
      ·replace hφ := if_else hφ hc10
       refine Q0 (σ' := ⟨[(2, _), (3, _), (5, _), (6, _), (8, _)], [(3, _), (5, _)]⟩) (j5 rfl rfl rfl rfl rfl) (j2 rfl rfl) ?_
       refine Q2 (Q1 ?_)
       refine O5 (ox3 Call_Kind f33_0) (.one rfl) .nil rfl <| O5 (ox2 t3) (.one rfl) (.one rfl) rfl <| O5 (ox_eql .tmp .int) (.app (.one rfl) .nil) .nil rfl <| O5 (ox1 .tmp) (.one rfl) .nil rfl <| O1 <| Q0 (σ' := ⟨[(2, _), (3, _), (5, _), (6, _), (8, _), (107, .val (decide (a1.Kind = (4 : Int))))], [(3, _), (5, _)]⟩) (j6 rfl rfl rfl rfl rfl rfl) (j2 rfl rfl) ?_
       refine Q3 _ rfl (fun hc24 => ?_) (fun hc24 => ?_)
       ·replace hφ := if_then hφ hc24
        refine Q0 (σ' := ⟨[(2, _), (3, _), (5, _), (6, _), (8, _)], [(3, _), (5, _)]⟩) (j5 rfl rfl rfl rfl rfl) (j2 rfl rfl) ?_
        refine Q2 (Q2 ?_)
        obtain ⟨hb25, hφ⟩ := G_some hφ
        obtain ⟨hb26, hφ⟩ := G_some hφ
        refine Q1 ?_
        refine O5 (ox0 .tmp) (.one rfl) .nil rfl <| O5 (ox3 Call_N f33_3) (.one rfl) .nil rfl <| O5 (ox2 t3) (.one rfl) (.one rfl) rfl <| O5 (ox_add .tmp .tmp hb25) (.app (.one rfl) (.one rfl)) .nil rfl <| O5 (ox_gtr .tmp .int) (.app (.one rfl) .nil) .nil rfl <| O5 (ox0 .tmp) (.one rfl) .nil rfl ?_
        refine O4 rfl rfl rfl rfl (.plain .nil) (fun hG => (ox0 .tmp)) (j1 rfl) .nil rfl <| O4 rfl rfl rfl rfl (.plain .nil) (fun hG => (ox3 Call_N f33_3)) (j1 rfl) .nil rfl <| O4 rfl rfl rfl rfl (.cond (fun h => h) .nil) (fun hG => (ox2 t3)) (j1 rfl) (.one rfl) rfl <| O4 rfl rfl rfl rfl (.cond (fun h => h) (.cond (fun h => h) .nil)) (fun hG => (ox_add .tmp .tmp (hb26 hG))) (j2 rfl rfl) .nil rfl <| O4 rfl rfl rfl rfl (.cond (fun h => h) .nil) (fun hG => (ox_lss .tmp .int)) (j1 rfl) .nil rfl <| O5 ox9 (j2 rfl rfl) .nil rfl <| O1 <| Q0 (σ' := ⟨[(2, _), (3, _), (5, _), (6, _), (8, _), (122, .val ((decide ((1073741824 : Int) < (v1.1 + a1.N))) || (decide ((v1.1 + a1.N) < (-1073741824 : Int)))))], [(3, _), (5, _)]⟩) (j6 rfl rfl rfl rfl rfl rfl) (j2 rfl rfl) ?_
        refine Q3 _ rfl (fun hc27 => ?_) (fun hc27 => ?_)
        ·replace hφ := if_then hφ hc27
         refine Q0 (σ' := ⟨[(5, _), (8, _)], [(5, _)]⟩) (j2 rfl rfl) (j1 rfl) ?_
         refine Q2 ?_
         obtain ⟨v28, hv28, hφ⟩ := B_some hφ
         refine Q1 ?_
         refine O5 (ox0 .tmp) (.one rfl) .nil rfl <| O5 (ox_callv (c_mkref1_Do_1 hv28) (.cons .int .nil)) (.cons rfl (.app .nil .nil)) .nil rfl <| O5 (ox7 rfl) (.one rfl) .nil rfl <| O5 (ox7 rfl) (.one rfl) .nil rfl <| O5 (ox1 .tmp) (.one rfl) .nil rfl <| O2 rfl rfl (ox5 t38 .tmp) (.cons rfl (.one rfl)) (.one rfl) <| O1 <| Q0 (σ' := ⟨[(4, .val (v28.1)), (5, _)], [(5, .var (v28.2) [])]⟩) (j2 rfl rfl) (j1 rfl) ?_
         refine Q5 ?_
         obtain rfl := Option.some.inj hφ
         exact Q6 hw0 rfl (.tmp rfl rfl (.cell t38 rfl rfl .nil)) rfl
        ·replace hφ := if_else hφ hc27
         refine Q0 (σ' := ⟨[(2, _), (3, _), (5, _), (6, _)], [(3, _), (5, _)]⟩) (j4 rfl rfl rfl rfl) (j2 rfl rfl) ?_
         refine Q4 ?_
         refine Q2 ?_
         obtain ⟨hb29, hφ⟩ := G_some hφ
         obtain ⟨v30, hv30, hφ⟩ := B_some hφ
         obtain ⟨hb31, hφ⟩ := G_some hφ
         refine Q8 hMixed (
           .cons (S5 (ox_load_elem t26)) ⟨.one rfl, .nil⟩ (by kernel_rfl) rfl <|
           .cons (S5 (ox3 Call_Name f33_1)) ⟨.one rfl, .nil⟩ (by kernel_rfl) rfl <|
           .cons (S5 (ox2 t3)) ⟨.one rfl, .one rfl⟩ (by kernel_rfl) rfl <|
           .cons (S5 (ox0 .tmp)) ⟨.one rfl, .nil⟩ (by kernel_rfl) rfl <|
           .cons (S5 (ox3 Call_N f33_3)) ⟨.one rfl, .nil⟩ (by kernel_rfl) rfl <|
           .cons (S5 (ox2 t3)) ⟨.one rfl, .one rfl⟩ (by kernel_rfl) rfl <|
           .cons (S5 (ox_add .tmp .tmp hb29)) ⟨(.app (.one rfl) (.one rfl)), .nil⟩ (by kernel_rfl) rfl <|
           .cons (S5 (ox_call (c_mkref1_set hv30) (.cons .tmp (.cons .tmp (.cons .tmp .nil))))) ⟨(.app (.one rfl) (.app (.one rfl) (.app (.one rfl) .nil))), .nil⟩ (by kernel_rfl) rfl <|
           .cons (S5 (ox0 .tmp)) ⟨.one rfl, .nil⟩ (by kernel_rfl) rfl <|
           .cons (S5 (ox3 Call_N f33_3)) ⟨.one rfl, .nil⟩ (by kernel_rfl) rfl <|
           .cons (S5 (ox2 t3)) ⟨.one rfl, .one rfl⟩ (by kernel_rfl) rfl <|
           .cons (S5 (ox_add .tmp .tmp hb31)) ⟨(.app (.one rfl) (.one rfl)), .nil⟩ (by kernel_rfl) rfl <|
           .cons (S5 (oxa z38 u38 rfl (.cons Reply_N f38_1 .tmp Bld.nil))) ⟨(.app (.one rfl) .nil), .nil⟩ (by kernel_rfl) rfl <|
           .cons (S5 (ox1 .tmp)) ⟨.one rfl, .nil⟩ (by kernel_rfl) rfl <|
           .cons (S4 rfl rfl (ox5 t38 .tmp)) ⟨(.cons rfl (.one rfl)), .one rfl⟩ (by kernel_rfl) rfl <|
           .nil) _ [[], [], [1], [], [], [4], [3, 4, 5], [0, 1, 2, 3, 4, 5, 6], [], [], [9], [8, 9, 10], [8, 9, 10, 11], [0, 1, 2, 3, 4, 5, 6, 7], [0, 1, 2, 3, 4, 5, 6, 7, 8, 9, 10, 11, 12, 13]] rfl (by kernel_rfl) (by kernel_rfl) ?_
         refine Q0 (σ' := ⟨[(4, .val (v30)), (5, _)], [(5, .var ({ Err := (0 : Int), N := (v1.1 + a1.N) } : Mk.Reply) [])]⟩) (j2 rfl rfl) (j1 rfl) ?_
         refine Q5 ?_
         obtain rfl := Option.some.inj hφ
         exact Q6 hw0 rfl (.tmp rfl rfl (.cell t38 rfl rfl .nil)) rfl
       ·replace hφ := if_else hφ hc24
        refine Q0 (σ' := ⟨[(2, _), (3, _), (5, _), (6, _), (8, _)], [(3, _), (5, _)]⟩) (j5 rfl rfl rfl rfl rfl) (j2 rfl rfl) ?_
        refine Q4 ?_
        refine Q2 ?_
        obtain ⟨v32, hv32, hφ⟩ := B_some hφ
        refine Q1 ?_
        refine O5 (ox_load_elem t26) (.one rfl) .nil rfl <| O5 (ox3 Call_Other f33_2) (.one rfl) .nil rfl <| O5 (ox2 t3) (.one rfl) (.one rfl) rfl <| O5 (ox_call (c_mkref1_get hv32) (.cons .tmp (.cons .tmp .nil))) (.app (.one rfl) (.app (.one rfl) .nil)) .nil rfl <| O5 (ox0 .tmp) (.one rfl) .nil rfl <| O5 (ox7 rfl) (.one rfl) .nil rfl ?_
        refine O5 (ox7 rfl) (.one rfl) .nil rfl <| O5 (ox1 .tmp) (.one rfl) .nil rfl <| O5 (ox1 .tmp) (.one rfl) .nil rfl <| O1 <| Q0 (σ' := ⟨[(2, _), (3, _), (5, _), (6, _), (7, .val (v32.2)), (8, _), (12, .val (v32.1))], [(3, _), (5, _)]⟩) (j7 rfl rfl rfl rfl rfl rfl rfl) (j2 rfl rfl) ?_
        refine Q2 ?_
        refine Q2 (Q1 ?_)
        refine O5 (ox0 .tmp) (.one rfl) .nil rfl <| O5 (ox_not .tmp) (.one rfl) .nil rfl <| O1 <| Q0 (σ' := ⟨[(2, _), (3, _), (5, _), (6, _), (8, _), (12, _), (148, .val (!v32.2))], [(3, _), (5, _)]⟩) (j7 rfl rfl rfl rfl rfl rfl rfl) (j2 rfl rfl) ?_
        refine Q3 _ rfl (fun hc33 => ?_) (fun hc33 => ?_)
        ·replace hφ := if_then hφ hc33
         refine Q0 (σ' := ⟨[(5, _), (8, _)], [(5, _)]⟩) (j2 rfl rfl) (j1 rfl) ?_
         refine Q2 ?_
         obtain ⟨v34, hv34, hφ⟩ := B_some hφ
         refine Q1 ?_
         refine O5 (ox0 .tmp) (.one rfl) .nil rfl <| O5 (ox_callv (c_mkref1_Do_1 hv34) (.cons .int .nil)) (.cons rfl (.app .nil .nil)) .nil rfl <| O5 (ox7 rfl) (.one rfl) .nil rfl <| O5 (ox7 rfl) (.one rfl) .nil rfl <| O5 (ox1 .tmp) (.one rfl) .nil rfl <| O2 rfl rfl (ox5 t38 .tmp) (.cons rfl (.one rfl)) (.one rfl) <| O1 <| Q0 (σ' := ⟨[(4, .val (v34.1)), (5, _)], [(5, .var (v34.2) [])]⟩) (j2 rfl rfl) (j1 rfl) ?_
         refine Q5 ?_
         obtain rfl := Option.some.inj hφ
         exact Q6 hw0 rfl (.tmp rfl rfl (.cell t38 rfl rfl .nil)) rfl
        ·replace hφ := if_else hφ hc33
         refine Q0 (σ' := ⟨[(2, _), (3, _), (5, _), (6, _), (12, _)], [(3, _), (5, _)]⟩) (j5 rfl rfl rfl rfl rfl) (j2 rfl rfl) ?_
         refine Q4 ?_
         refine Q2 ?_
         obtain ⟨v35, hv35, hφ⟩ := B_some hφ
         obtain ⟨v36, hv36, hφ⟩ := B_some hφ
         refine Q8 hMixed (
           .cons (S5 (ox_load_elem t26)) ⟨.one rfl, .nil⟩ (by kernel_rfl) rfl <|
           .cons (S5 (ox3 Call_Name f33_1)) ⟨.one rfl, .nil⟩ (by kernel_rfl) rfl <|
           .cons (S5 (ox2 t3)) ⟨.one rfl, .one rfl⟩ (by kernel_rfl) rfl <|
           .cons (S5 (ox0 .tmp)) ⟨.one rfl, .nil⟩ (by kernel_rfl) rfl <|
           .cons (S5 (ox_call (c_mkref1_set hv35) (.cons .tmp (.cons .tmp (.cons .tmp .nil))))) ⟨(.app (.one rfl) (.app (.one rfl) (.app (.one rfl) .nil))), .nil⟩ (by kernel_rfl) rfl <|
           .cons (S5 (ox3 Call_Other f33_2)) ⟨.one rfl, .nil⟩ (by kernel_rfl) rfl <|
           .cons (S5 (ox2 t3)) ⟨.one rfl, .one rfl⟩ (by kernel_rfl) rfl <|
           .cons (S5 (ox0 .tmp)) ⟨.one rfl, .nil⟩ (by kernel_rfl) rfl <|
           .cons (S5 (ox_call (c_mkref1_set hv36) (.cons .tmp (.cons .tmp (.cons .tmp .nil))))) ⟨(.app (.one rfl) (.app (.one rfl) (.app (.one rfl) .nil))), .nil⟩ (by kernel_rfl) rfl <|
           .cons (S5 (ox0 .tmp)) ⟨.one rfl, .nil⟩ (by kernel_rfl) rfl <|
           .cons (S5 (oxa z38 u38 rfl (.cons Reply_N f38_1 .tmp Bld.nil))) ⟨(.app (.one rfl) .nil), .nil⟩ (by kernel_rfl) rfl <|
           .cons (S5 (ox1 .tmp)) ⟨.one rfl, .nil⟩ (by kernel_rfl) rfl <|
           .cons (S4 rfl rfl (ox5 t38 .tmp)) ⟨(.cons rfl (.one rfl)), .one rfl⟩ (by kernel_rfl) rfl <|
           .nil) _ [[], [], [1], [], [0, 1, 2, 3], [], [5], [], [0, 1, 2, 3, 4, 5, 6, 7], [], [9], [0, 1, 2, 3, 4, 5, 6, 7, 8], [0, 1, 2, 3, 4, 5, 6, 7, 8, 9, 10, 11]] rfl (by kernel_rfl) (by kernel_rfl) ?_
         refine Q0 (σ' := ⟨[(4, .val (v36)), (5, _)], [(5, .var ({ Err := (0 : Int), N := v32.1 } : Mk.Reply) [])]⟩) (j2 rfl rfl) (j1 rfl) ?_
         refine Q5 ?_
         obtain rfl := Option.some.inj hφ
         exact Q6 hw0 rfl (.tmp rfl rfl (.cell t38 rfl rfl .nil)) rfl
theorem c_mkref1_Find {a0 : List Int} {a1 : Int} {r : Int} (hφ : mkref1_Find a0 a1 = some r) : Fn Go.Proofs.Try.prog 105 [.val a0, .val a1] (.val r) := by
 unfold mkref1_Find at hφ
 refine Fn.mk' Go.Proofs.Try.func105 rfl (by decide) rfl rfl rfl (fun w0 hw0 => ?_)
 refine Q2 (Q1 ?_)
 refine O5 (ox1 .int) .nil .nil rfl <| O1 <| Q0 (σ' := ⟨[(0, .val (a0)), (1, .val (a1))], []⟩) (j2 rfl rfl) trivial ?_
 obtain ⟨k1, hk1, hφ⟩ := J_some hφ
 refine PT.cut (ι := Unit) (fun p => ⟨[], []⟩) (fun p => k1 () = some r) ?_ ?_
 ·skip
  refine Q2 (Q1 ?_)
  refine O5 (ox1 .int) .nil .nil rfl <| O1 <| Q0 (σ' := ⟨[(0, _), (1, _), (5, .val (1 : Int))], []⟩) (j3 rfl rfl rfl) trivial ?_
  refine PT.block ?_
  refine PT.loop (ι := Nat × (List Int) × Int × Int) (fun p => ⟨[(0, .val (p.2.1)), (1, .val (p.2.2.1)), (5, .val (p.2.2.2))], []⟩) (fun p => mkref1_Find_l1 k1 p.1 (p.2.1) (p.2.2.1) (p.2.2.2) = some r) (fun p => p.1) ((((1 : Int) + ((2 : Int) * (ix a0 (0 : Int)))) - (1 : Int)).toNat + 1, a0, a1, (1 : Int)) hφ (j3 rfl rfl rfl) trivial ?_
  rintro ⟨m2, x0_m2, x1_m2, x5_m2⟩ (hφ : mkref1_Find_l1 k1 m2 x0_m2 x1_m2 x5_m2 = some r)
  obtain _ | m2 := m2
  ·exact (none_no hφ).elim
  rw [mkref1_Find_l1.eq_2] at hφ
  refine Q0 (σ' := ⟨[(0, .val (x0_m2)), (1, .val (x1_m2)), (5, .val (x5_m2))], []⟩) (j3 rfl rfl rfl) trivial ?_
  refine Q2 (Q2 ?_)
  obtain ⟨hb3, hφ⟩ := G_some hφ
  obtain ⟨hb4, hφ⟩ := G_some hφ
  obtain ⟨hb5, hφ⟩ := G_some hφ
  refine Q1 ?_
  refine O5 (ox0 .tmp) (.one rfl) .nil rfl <| O5 (ox0 .tmp) (.one rfl) .nil rfl <| O5 (ox_ix s25 .tmp .int hb3.1 hb3.2) (.app (.one rfl) .nil) .nil rfl <| O5 (ox_load_elem t3) (.one rfl) .nil rfl <| O5 (ox_mul .int .tmp hb4) (.app .nil (.one rfl)) .nil rfl <| O5 (ox_add .int .tmp hb5) (.app .nil (.one rfl)) .nil rfl ?_
  refine O5 (ox_lss .tmp .tmp) (.app (.one rfl) (.one rfl)) .nil rfl <| O1 <| Q0 (σ' := ⟨[(0, _), (1, _), (5, _), (12, .val ((decide (x5_m2 < ((1 : Int) + ((2 : Int) * (ix x0_m2 (0 : Int))))))))], []⟩) (j4 rfl rfl rfl rfl) trivial ?_
  refine Q3 _ rfl (fun hc6 => ?_) (fun hc6 => ?_)
  ·replace hφ := if_then hφ hc6
   refine Q0 (σ' := ⟨[(0, _), (1, _), (5, _)], []⟩) (j3 rfl rfl rfl) trivial ?_
   refine Q4 ?_
   refine Q2 ?_
   refine PT.block ?_
   refine Q2 ?_
   obtain ⟨hb7, hφ⟩ := G_some hφ
   refine Q1 ?_
   refine O5 (ox0 .tmp) (.one rfl) .nil rfl <| O5 (ox0 .tmp) (.one rfl) .nil rfl <| O5 (ox_ix s25 .tmp .tmp hb7.1 hb7.2) (.app (.one rfl) (.one rfl)) .nil rfl <| O5 (ox_load_elem t3) (.one rfl) .nil rfl <| O5 (ox0 .tmp) (.one rfl) .nil rfl <| O5 (ox_eql .tmp .tmp) (.app (.one rfl) (.one rfl)) .nil rfl <| O1 <| Q0 (σ' := ⟨[(0, _), (1, _), (5, _), (20, .val (decide ((ix x0_m2 x5_m2) = x1_m2)))], []⟩) (j4 rfl rfl rfl rfl) trivial ?_
   refine Q3 _ rfl (fun hc8 => ?_) (fun hc8 => ?_)
   ·replace hφ := if_then hφ hc8
    refine Q0 (σ' := ⟨[(5, _)], []⟩) (j1 rfl) trivial ?_
    refine Q2 ?_
    obtain ⟨hb9, hφ⟩ := G_some hφ
    refine Q1 ?_
    refine O5 (ox0 .tmp) (.one rfl) .nil rfl <| O5 (ox_quo .tmp .int hb9) (.app (.one rfl) .nil) .nil rfl <| O5 (ox1 .tmp) (.one rfl) .nil rfl <| O1 <| Q0 (σ' := ⟨[(4, .val (Int.tdiv x5_m2 (2 : Int)))], []⟩) (j1 rfl) trivial ?_
    refine Q5 ?_
    obtain rfl := Option.some.inj hφ
    exact Q6 hw0 rfl (.tmp rfl rfl .nil) rfl
   ·replace hφ := if_else hφ hc8
    refine Q0 (σ' := ⟨[(0, _), (1, _), (5, _)], []⟩) (j3 rfl rfl rfl) trivial ?_
    refine Q4 ?_
    obtain ⟨hb10, hφ⟩ := G_some hφ
    refine Q1 ?_
    refine O5 (ox0 .tmp) (.one rfl) .nil rfl <| O5 (ox_add .tmp .int hb10) (.app (.one rfl) .nil) .nil rfl <| O5 (ox1 .tmp) (.one rfl) .nil rfl <| O1 <| Q0 (σ' := ⟨[(0, _), (1, _), (5, .val (x5_m2 + (2 : Int)))], []⟩) (j3 rfl rfl rfl) trivial ?_
    exact PT.next (m2, x0_m2, x1_m2, (x5_m2 + (2 : Int))) hφ (Nat.lt_succ_self _) (j3 rfl rfl rfl) trivial
  ·replace hφ := if_else hφ hc6
   refine Q0 (σ' := ⟨[], []⟩) trivial trivial ?_
   refine PT.exit ?_
   exact PT.meet () hφ trivial trivial
 ·rintro ⟨⟩ hφ
  subst hk1
  refine Q0 (σ' := ⟨[], []⟩) trivial trivial ?_
  refine Q2 (Q1 ?_)
  refine O5 (ox1 .int) .nil .nil rfl <| O1 <| Q0 (σ' := ⟨[(4, .val (-1 : Int))], []⟩) (j1 rfl) trivial ?_
  refine Q5 ?_
  obtain rfl := Option.some.inj hφ
  exact Q6 hw0 rfl (.tmp rfl rfl .nil) rfl
theorem c_mkref1_Plan {a0 : List Int} {a1 : Mk.Call} {r : ((List Mk.Write) × Mk.Reply)} (hφ : mkref1_Plan a0 a1 = some r) : Fn Go.Proofs.Try.prog 71 [.val a0, .val a1] (.tup [.val r.1, .val r.2]) := by
 unfold mkref1_Plan at hφ
 refine Fn.mk' Go.Proofs.Try.func71 rfl (by decide) rfl rfl rfl (fun w0 hw0 => ?_)
 refine Q2 (Q1 ?_)
 refine O3 rfl rfl (ox_box (id := 3) .tmp) (.one rfl) .nil rfl (by kernel_rfl) <| O5 (ox1 .nilS) .nil .nil rfl <| O3 rfl rfl (ox_alloc (id := 5) z38) .nil .nil rfl (by kernel_rfl) <| O1 <| Q0 (σ' := ⟨[(0, .val (a0)), (3, _), (5, _)], [(3, .var (a1) []), (5, .var zRe [])]⟩) (j3 rfl rfl rfl) (j2 rfl rfl) ?_
 refine Q2 ?_
 obtain ⟨v1, hv1, hφ⟩ := B_some hφ
 refine Q1 ?_
 refine O5 (ox0 .tmp) (.one rfl) .nil rfl <| O5 (ox_call (c_mkref1_Of hv1) (.cons .tmp .nil)) (.app (.one rfl) .nil) .nil rfl <| O5 (ox1 .tmp) (.one rfl) .nil rfl <| O1 <| Q0 (σ' := ⟨[(0, _), (3, _), (5, _), (6, .val (v1))], [(3, _), (5, _)]⟩) (j4 rfl rfl rfl rfl) (j2 rfl rfl) ?_
 refine Q2 ?_
 obtain ⟨v2, hv2, hφ⟩ := B_some hφ
 refine Q1 ?_
 refine O5 (ox0 .tmp) (.one rfl) .nil rfl <| O5 (ox4 t33) (.one rfl) (.one rfl) rfl <| O5 (ox_call (c_mkref1_Do hv2) (.cons .tmp (.cons .tmp .nil))) (.app (.one rfl) (.app (.one rfl) .nil)) .nil rfl <| O5 (ox0 .tmp) (.one rfl) .nil rfl <| O5 (ox7 rfl) (.one rfl) .nil rfl <| O5 (ox7 rfl) (.one rfl) .nil rfl ?_
 refine O3 rfl rfl (ox_alloc (id := 8) z38) .nil .nil rfl (by kernel_rfl) <| O5 (ox1 .tmp) (.one rfl) .nil rfl <| O2 rfl rfl (ox5 t38 .tmp) (.cons rfl (.one rfl)) (.one rfl) <| O1 <| Q0 (σ' := ⟨[(0, _), (3, _), (5, _), (6, _), (7, .val (v2.1)), (8, _)], [(3, _), (5, _), (8, .var (v2.2) [])]⟩) (j6 rfl rfl rfl rfl rfl rfl) (j3 rfl rfl rfl) ?_
 refine Q2 (Q1 ?_)
 refine O5 (ox1 .nilS) .nil .nil rfl <| O1 <| Q0 (σ' := ⟨[(0, _), (3, _), (5, _), (6, _), (7, _), (8, _), (9, .nilS)], [(3, _), (5, _), (8, _)]⟩) (j7 rfl rfl rfl rfl rfl rfl rfl) (j3 rfl rfl rfl) ?_
 refine Q2 ?_
 refine Q2 (Q1 ?_)
 refine O5 (ox3 Reply_Err f38_0) (.one rfl) .nil rfl <| O5 (ox2 t36) (.one rfl) (.one rfl) rfl <| O5 (ox_neq .tmp .int) (.app (.one rfl) .nil) .nil rfl <| O1 <| Q0 (σ' := ⟨[(0, _), (3, _), (5, _), (6, _), (7, _), (8, _), (9, _), (22, .val (!decide (v2.2.Err = (0 : Int))))], [(3, _), (5, _), (8, _)]⟩) (j8 rfl rfl rfl rfl rfl rfl rfl rfl) (j3 rfl rfl rfl) ?_
 refine Q3 _ rfl (fun hc3 => ?_) (fun hc3 => ?_)
 ·replace hφ := if_then hφ hc3
  refine Q0 (σ' := ⟨[(5, _), (8, _)], [(5, _), (8, _)]⟩) (j2 rfl rfl) (j2 rfl rfl) ?_
  refine Q2 ?_
  refine Q8 hMixed (
    .cons (S5 (ox4 t38)) ⟨.one rfl, .one rfl⟩ (by kernel_rfl) rfl <|
    .cons (S5 (ox1 .nilS)) ⟨.nil, .nil⟩ (by kernel_rfl) rfl <|
    .cons (S4 rfl rfl (ox5 t38 .tmp)) ⟨(.cons rfl (.one rfl)), .one rfl⟩ (by kernel_rfl) rfl <|
    .nil) _ [[], [], [0, 1]] rfl (by kernel_rfl) (by kernel_rfl) ?_
  refine Q0 (σ' := ⟨[(4, .nilS), (5, _)], [(5, .var (v2.2) [])]⟩) (j2 rfl rfl) (j1 rfl) ?_
  refine Q5 ?_
  refine PT.asNil 4 (Mk.Write) rfl ?_
  obtain rfl := Option.some.inj hφ
  exact Q6 hw0 rfl (.tmp rfl rfl (.cell t38 rfl rfl .nil)) rfl
 ·replace hφ := if_else hφ hc3
  refine Q0 (σ' := ⟨[(0, _), (3, _), (5, _), (6, _), (7, _), (8, _), (9, _)], [(3, _), (5, _), (8, _)]⟩) (j7 rfl rfl rfl rfl rfl rfl rfl) (j3 rfl rfl rfl) ?_
  refine Q4 ?_
  refine Q2 ?_
  obtain ⟨v4, hv4, hφ⟩ := B_some hφ
  refine Q1 ?_
  refine O5 (ox0 .tmp) (.one rfl) .nil rfl <| O5 (ox3 Call_Name f33_1) (.one rfl) .nil rfl <| O5 (ox2 t3) (.one rfl) (.one rfl) rfl <| O5 (ox_call (c_mkref1_Find hv4) (.cons .tmp (.cons .tmp .nil))) (.app (.one rfl) (.app (.one rfl) .nil)) .nil rfl <| O5 (ox1 .tmp) (.one rfl) .nil rfl <| O1 <| Q0 (σ' := ⟨[(0, _), (3, _), (5, _), (6, _), (7, _), (8, _), (9, _), (10, .val (v4))], [(3, _), (5, _), (8, _)]⟩) (j8 rfl rfl rfl rfl rfl rfl rfl rfl) (j3 rfl rfl rfl) ?_
  obtain ⟨k5, hk5, hφ⟩ := J_some hφ
  refine PT.cut (ι := (List Mk.Write) × (List Mk.Write) × Mk.Reply × Mk.Reply × (List Mk.Write)) (fun p => ⟨[(5, .ptr 5 (Lens.id (α := Mk.Reply))), (6, .val (p.1)), (7, .val (p.2.1)), (8, .ptr 8 (Lens.id (α := Mk.Reply))), (9, .sl 1009)], [(5, .var (p.2.2.1) []), (8, .var (p.2.2.2.1) []), (1009, .arr 99 (p.2.2.2.2))]⟩) (fun p => k5 (p.1) (p.2.1) (p.2.2.1) (p.2.2.2.1) (p.2.2.2.2) = some r) ?_ ?_
  ·skip
   refine PT.block ?_
   refine Q2 (Q1 ?_)
   refine O5 (ox3 Call_Kind f33_0) (.one rfl) .nil rfl <| O5 (ox2 t3) (.one rfl) (.one rfl) rfl <| O5 (ox_eql .tmp .int) (.app (.one rfl) .nil) .nil rfl <| O5 (ox1 .tmp) (.one rfl) .nil rfl <| O1 <| Q0 (σ' := ⟨[(0, _), (3, _), (5, _), (6, _), (7, _), (8, _), (9, _), (10, _), (28, .val (decide (a1.Kind = (6 : Int))))], [(3, _), (5, _), (8, _)]⟩) (j9 rfl rfl rfl rfl rfl rfl rfl rfl rfl) (j3 rfl rfl rfl) ?_
   refine Q3 _ rfl (fun hc6 => ?_) (fun hc6 => ?_)
   ·replace hφ := if_then hφ hc6
    refine Q0 (σ' := ⟨[(0, _), (3, _), (5, _), (7, _), (8, _), (10, _)], [(3, _), (5, _), (8, _)]⟩) (j6 rfl rfl rfl rfl rfl rfl) (j3 rfl rfl rfl) ?_
    refine Q2 ?_
    obtain ⟨v7, hv7, hφ⟩ := B_some hφ
    refine Q1 ?_
    refine O5 (ox0 .tmp) (.one rfl) .nil rfl <| O5 (ox3 Call_Other f33_2) (.one rfl) .nil rfl <| O5 (ox2 t3) (.one rfl) (.one rfl) rfl <| O5 (ox_call (c_mkref1_Find hv7) (.cons .tmp (.cons .tmp .nil))) (.app (.one rfl) (.app (.one rfl) .nil)) .nil rfl <| O5 (ox1 .tmp) (.one rfl) .nil rfl <| O1 <| Q0 (σ' := ⟨[(5, _), (7, _), (8, _), (10, _), (11, .val (v7))], [(5, _), (8, _)]⟩) (j5 rfl rfl rfl rfl rfl) (j2 rfl rfl) ?_
    refine Q2 ?_
    obtain ⟨hb8, hφ⟩ := G_some hφ
    obtain ⟨hb9, hφ⟩ := G_some hφ
    obtain ⟨hb10, hφ⟩ := G_some hφ
    obtain ⟨hb11, hφ⟩ := G_some hφ
    obtain ⟨hb12, hφ⟩ := G_some hφ
    obtain ⟨hb13, hφ⟩ := G_some hφ
    refine Q8 hMixed (
      .cons (S5 (ox0 .tmp)) ⟨.one rfl, .nil⟩ (by kernel_rfl) rfl <|
      .cons (S5 (ox_mul .int .tmp hb8)) ⟨(.app .nil (.one rfl)), .nil⟩ (by kernel_rfl) rfl <|
      .cons (S5 (ox_add .int .tmp hb9)) ⟨(.app .nil (.one rfl)), .nil⟩ (by kernel_rfl) rfl <|
      .cons (S5 (ox0 .tmp)) ⟨.one rfl, .nil⟩ (by kernel_rfl) rfl <|
      .cons (S5 (ox0 .tmp)) ⟨.one rfl, .nil⟩ (by kernel_rfl) rfl <|
      .cons (S5 (ox_ix s26 .tmp .tmp hb10.1 hb10.2)) ⟨(.app (.one rfl) (.one rfl)), .nil⟩ (by kernel_rfl) rfl <|
      .cons (S5 (ox_fieldAddr_elem Write_N f99_1)) ⟨.one rfl, .nil⟩ (by kernel_rfl) rfl <|
      .cons (S5 (ox_load_elem t3)) ⟨.one rfl, .nil⟩ (by kernel_rfl) rfl <|
      .cons (S5 (oxa z99 u99 rfl (.cons Write_At f99_0 .tmp (.cons Write_N f99_1 .tmp Bld.nil)))) ⟨(.app (.one rfl) (.app (.one rfl) .nil)), .nil⟩ (by kernel_rfl) rfl <|
      .cons (S5 (ox0 .tmp)) ⟨.one rfl, .nil⟩ (by kernel_rfl) rfl <|
      .cons (S5 (ox_mul .int .tmp hb11)) ⟨(.app .nil (.one rfl)), .nil⟩ (by kernel_rfl) rfl <|
      .cons (S5 (ox_add .int .tmp hb12)) ⟨(.app .nil (.one rfl)), .nil⟩ (by kernel_rfl) rfl <|
      .cons (S5 (ox0 .tmp)) ⟨.one rfl, .nil⟩ (by kernel_rfl) rfl <|
      .cons (S5 (ox0 .tmp)) ⟨.one rfl, .nil⟩ (by kernel_rfl) rfl <|
      .cons (S5 (ox_ix s26 .tmp .tmp hb13.1 hb13.2)) ⟨(.app (.one rfl) (.one rfl)), .nil⟩ (by kernel_rfl) rfl <|
      .cons (S5 (ox_fieldAddr_elem Write_N f99_1)) ⟨.one rfl, .nil⟩ (by kernel_rfl) rfl <|
      .cons (S5 (ox_load_elem t3)) ⟨.one rfl, .nil⟩ (by kernel_rfl) rfl <|
      .cons (S5 (oxa z99 u99 rfl (.cons Write_At f99_0 .tmp (.cons Write_N f99_1 .tmp Bld.nil)))) ⟨(.app (.one rfl) (.app (.one rfl) .nil)), .nil⟩ (by kernel_rfl) rfl <|
      .cons (S5 (ox_buildSlice_val s26 z99 (.cons .tmp (.cons .tmp Parts.nil)) rfl (by decide))) ⟨(.app (.one rfl) (.app (.one rfl) .nil)), .nil⟩ (by kernel_rfl) rfl <|
      .cons (S5 (ox4 t38)) ⟨.one rfl, .one rfl⟩ (by kernel_rfl) rfl <|
      .cons (S5 (ox1 .tmp)) ⟨.one rfl, .nil⟩ (by kernel_rfl) rfl <|
      .cons (S4 rfl rfl (ox5 t38 .tmp)) ⟨(.cons rfl (.one rfl)), .one rfl⟩ (by kernel_rfl) rfl <|
      .nil) _ [[], [0], [0, 1], [], [], [3, 4], [3, 4, 5], [3, 4, 5, 6], [0, 1, 2, 3, 4, 5, 6, 7], [], [9], [9, 10], [], [], [12, 13], [12, 13, 14], [12, 13, 14, 15], [9, 10, 11, 12, 13, 14, 15, 16], [0, 1, 2, 3, 4, 5, 6, 7, 8, 9, 10, 11, 12, 13, 14, 15, 16, 17], [], [0, 1, 2, 3, 4, 5, 6, 7, 8, 9, 10, 11, 12, 13, 14, 15, 16, 17, 18], [0, 1, 2, 3, 4, 5, 6, 7, 8, 9, 10, 11, 12, 13, 14, 15, 16, 17, 18, 19, 20]] rfl (by kernel_rfl) (by kernel_rfl) ?_
    refine Q0 (σ' := ⟨[(4, .val (([({ At := ((2 : Int) + ((2 : Int) * v4)), N := (ix v2.1 v4).N } : Mk.Write), ({ At := ((2 : Int) + ((2 : Int) * v7)), N := (ix v2.1 v7).N } : Mk.Write)] : List Mk.Write))), (5, _)], [(5, .var (v2.2) [])]⟩) (j2 rfl rfl) (j1 rfl) ?_
    refine Q5 ?_
    obtain rfl := Option.some.inj hφ
    exact Q6 hw0 rfl (.tmp rfl rfl (.cell t38 rfl rfl .nil)) rfl
   ·replace hφ := if_else hφ hc6
    refine Q0 (σ' := ⟨[(3, _), (5, _), (6, _), (7, _), (8, _), (9, _), (10, _)], [(3, _), (5, _), (8, _)]⟩) (j7 rfl rfl rfl rfl rfl rfl rfl) (j3 rfl rfl rfl) ?_
    refine Q2 (Q1 ?_)
    refine O5 (ox3 Call_Kind f33_0) (.one rfl) .nil rfl <| O5 (ox2 t3) (.one rfl) (.one rfl) rfl <| O5 (ox_eql .tmp .int) (.app (.one rfl) .nil) .nil rfl <| O5 (ox0 .tmp) (.one rfl) .nil rfl <| O4 rfl rfl rfl rfl (.plain .nil) (fun hG => (ox0 .tmp)) (j1 rfl) .nil rfl <| O4 rfl rfl rfl rfl (.plain .nil) (fun hG => (ox0 .tmp)) (j1 rfl) .nil rfl ?_
    refine O4 rfl rfl rfl rfl (.cond (fun h => h) .nil) (fun hG => (ox_len s26 .tmp)) (j1 rfl) .nil rfl <| O4 rfl rfl rfl rfl (.cond (fun h => h) (.cond (fun h => h) .nil)) (fun hG => (ox_lss .tmp .tmp)) (j2 rfl rfl) .nil rfl <| O5 ox8 (j2 rfl rfl) .nil rfl <| O5 (ox1 .tmp) (.one rfl) .nil rfl <| O1 <| Q0 (σ' := ⟨[(3, _), (5, _), (6, _), (7, _), (8, _), (9, _), (10, _), (56, .val ((decide (a1.Kind = (3 : Int))) && (decide (v4 < (v2.1.length : Int)))))], [(3, _), (5, _), (8, _)]⟩) (j8 rfl rfl rfl rfl rfl rfl rfl rfl) (j3 rfl rfl rfl) ?_
    refine Q3 _ rfl (fun hc14 => ?_) (fun hc14 => ?_)
    ·replace hφ := if_then hφ hc14
     refine Q0 (σ' := ⟨[(5, _), (6, _), (7, _), (8, _), (10, _)], [(5, _), (8, _)]⟩) (j5 rfl rfl rfl rfl rfl) (j2 rfl rfl) ?_
     obtain ⟨hb15, hφ⟩ := G_some hφ
     obtain ⟨hb16, hφ⟩ := G_some hφ
     obtain ⟨hb17, hφ⟩ := G_some hφ
     obtain ⟨hb18, hφ⟩ := G_some hφ
     obtain ⟨hb19, hφ⟩ := G_some hφ
     obtain ⟨hb20, hφ⟩ := G_some hφ
     refine Q8 hMixed (
       .cons (S5 (ox0 .tmp)) ⟨.one rfl, .nil⟩ (by kernel_rfl) rfl <|
       .cons (S5 (ox_mul .int .tmp hb15)) ⟨(.app .nil (.one rfl)), .nil⟩ (by kernel_rfl) rfl <|
       .cons (S5 (ox_add .int .tmp hb16)) ⟨(.app .nil (.one rfl)), .nil⟩ (by kernel_rfl) rfl <|
       .cons (S5 (ox0 .tmp)) ⟨.one rfl, .nil⟩ (by kernel_rfl) rfl <|
       .cons (S5 (ox0 .tmp)) ⟨.one rfl, .nil⟩ (by kernel_rfl) rfl <|
       .cons (S5 (ox_ix s26 .tmp .tmp hb17.1 hb17.2)) ⟨(.app (.one rfl) (.one rfl)), .nil⟩ (by kernel_rfl) rfl <|
       .cons (S5 (ox_fieldAddr_elem Write_At f99_0)) ⟨.one rfl, .nil⟩ (by kernel_rfl) rfl <|
       .cons (S5 (ox_load_elem t3)) ⟨.one rfl, .nil⟩ (by kernel_rfl) rfl <|
       .cons (S5 (oxa z99 u99 rfl (.cons Write_At f99_0 .tmp (.cons Write_N f99_1 .tmp Bld.nil)))) ⟨(.app (.one rfl) (.app (.one rfl) .nil)), .nil⟩ (by kernel_rfl) rfl <|
       .cons (S5 (ox0 .tmp)) ⟨.one rfl, .nil⟩ (by kernel_rfl) rfl <|
       .cons (S5 (ox_mul .int .tmp hb18)) ⟨(.app .nil (.one rfl)), .nil⟩ (by kernel_rfl) rfl <|
       .cons (S5 (ox_add .int .tmp hb19)) ⟨(.app .nil (.one rfl)), .nil⟩ (by kernel_rfl) rfl <|
       .cons (S5 (ox0 .tmp)) ⟨.one rfl, .nil⟩ (by kernel_rfl) rfl <|
       .cons (S5 (ox0 .tmp)) ⟨.one rfl, .nil⟩ (by kernel_rfl) rfl <|
       .cons (S5 (ox_ix s26 .tmp .tmp hb20.1 hb20.2)) ⟨(.app (.one rfl) (.one rfl)), .nil⟩ (by kernel_rfl) rfl <|
       .cons (S5 (ox_fieldAddr_elem Write_N f99_1)) ⟨.one rfl, .nil⟩ (by kernel_rfl) rfl <|
       .cons (S5 (ox_load_elem t3)) ⟨.one rfl, .nil⟩ (by kernel_rfl) rfl <|
       .cons (S5 (oxa z99 u99 rfl (.cons Write_At f99_0 .tmp (.cons Write_N f99_1 .tmp Bld.nil)))) ⟨(.app (.one rfl) (.app (.one rfl) .nil)), .nil⟩ (by kernel_rfl) rfl <|
       .cons (S5 (ox_buildSlice_arr (id := 1009) s26 z99 (.cons .tmp (.cons .tmp Parts.nil)) rfl (by decide))) ⟨(.app (.one rfl) (.app (.one rfl) .nil)), .nil⟩ (by kernel_rfl) rfl <|
       .cons (S5 (ox1 .tmp)) ⟨.one rfl, .nil⟩ (by kernel_rfl) rfl <|
       .nil) _ [[], [0], [0, 1], [], [], [3, 4], [3, 4, 5], [3, 4, 5, 6], [0, 1, 2, 3, 4, 5, 6, 7], [], [9], [9, 10], [], [], [12, 13], [12, 13, 14], [12, 13, 14, 15], [9, 10, 11, 12, 13, 14, 15, 16], [0, 1, 2, 3, 4, 5, 6, 7, 8, 9, 10, 11, 12, 13, 14, 15, 16, 17], [0, 1, 2, 3, 4, 5, 6, 7, 8, 9, 10, 11, 12, 13, 14, 15, 16, 17, 18]] rfl (by kernel_rfl) (by kernel_rfl) ?_
     refine Q0 (σ' := ⟨[(5, _), (6, _), (7, _), (8, _), (9, _)], [(5, _), (8, _), (1009, .arr 99 (([({ At := ((1 : Int) + ((2 : Int) * v4)), N := (ix v2.1 v4).At } : Mk.Write), ({ At := ((2 : Int) + ((2 : Int) * v4)), N := (ix v2.1 v4).N } : Mk.Write)] : List Mk.Write)))]⟩) (j5 rfl rfl rfl rfl rfl) (j3 rfl rfl rfl) ?_
     exact PT.meet (v1, v2.1, zRe, v2.2, ([({ At := ((1 : Int) + ((2 : Int) * v4)), N := (ix v2.1 v4).At } : Mk.Write), ({ At := ((2 : Int) + ((2 : Int) * v4)), N := (ix v2.1 v4).N } : Mk.Write)] : List Mk.Write)) hφ (j5 rfl rfl rfl rfl rfl) (j3 rfl rfl rfl)
    ·replace hφ := if_else hφ hc14
     refine Q0 (σ' := ⟨[(3, _), (5, _), (6, _), (7, _), (8, _), (9, _), (10, _)], [(3, _), (5, _), (8, _)]⟩) (j7 rfl rfl rfl rfl rfl rfl rfl) (j3 rfl rfl rfl) ?_
     refine Q2 (Q1 ?_)
     refine O5 (ox3 Call_Kind f33_0) (.one rfl) .nil rfl <| O5 (ox2 t3) (.one rfl) (.one rfl) rfl <| O5 (ox_eql .tmp .int) (.app (.one rfl) .nil) .nil rfl <| O5 (ox0 .tmp) (.one rfl) .nil rfl <| O4 rfl rfl rfl rfl (.plain .nil) (fun hG => (ox0 .tmp)) (j1 rfl) .nil rfl <| O4 rfl rfl rfl rfl (.cond (fun h => h) .nil) (fun hG => (ox_lss .tmp .int)) (j1 rfl) .nil rfl ?_
     refine O5 ox8 (j2 rfl rfl) .nil rfl <| O5 (ox1 .tmp) (.one rfl) .nil rfl <| O1 <| Q0 (σ' := ⟨[(3, _), (5, _), (6, _), (7, _), (8, _), (9, _), (10, _), (85, .val ((decide (a1.Kind = (1 : Int))) && (decide (v4 < (0 : Int)))))], [(3, _), (5, _), (8, _)]⟩) (j8 rfl rfl rfl rfl rfl rfl rfl rfl) (j3 rfl rfl rfl) ?_
     refine Q3 _ rfl (fun hc21 => ?_) (fun hc21 => ?_)
     ·replace hφ := if_then hφ hc21
      refine Q0 (σ' := ⟨[(3, _), (5, _), (6, _), (7, _), (8, _)], [(3, _), (5, _), (8, _)]⟩) (j5 rfl rfl rfl rfl rfl) (j3 rfl rfl rfl) ?_
      obtain ⟨hb22, hφ⟩ := G_some hφ
      obtain ⟨hb23, hφ⟩ := G_some hφ
      obtain ⟨hb24, hφ⟩ := G_some hφ
      refine Q1 ?_
      refine O5 (ox0 .tmp) (.one rfl) .nil rfl <| O5 (ox_len s26 .tmp) (.one rfl) .nil rfl <| O5 (ox_mul .int .tmp hb22) (.app .nil (.one rfl)) .nil rfl <| O5 (ox_sub .tmp .int hb23) (.app (.one rfl) .nil) .nil rfl <| O5 (ox3 Call_Name f33_1) (.one rfl) .nil rfl <| O5 (ox2 t3) (.one rfl) (.one rfl) rfl ?_
      refine O5 (oxa z99 u99 rfl (.cons Write_At f99_0 .tmp (.cons Write_N f99_1 .tmp Bld.nil))) (.app (.one rfl) (.app (.one rfl) .nil)) .nil rfl <| O5 (ox0 .tmp) (.one rfl) .nil rfl <| O5 (ox_len s26 .tmp) (.one rfl) .nil rfl <| O5 (ox_mul .int .tmp hb24) (.app .nil (.one rfl)) .nil rfl <| O5 (ox3 Call_N f33_3) (.one rfl) .nil rfl <| O5 (ox2 t3) (.one rfl) (.one rfl) rfl ?_
      refine O5 (oxa z99 u99 rfl (.cons Write_At f99_0 .tmp (.cons Write_N f99_1 .tmp Bld.nil))) (.app (.one rfl) (.app (.one rfl) .nil)) .nil rfl <| O3 rfl rfl (ox_buildSlice_arr (id := 1009) s26 z99 (.cons .tmp (.cons .tmp Parts.nil)) rfl (by decide)) (.app (.one rfl) (.app (.one rfl) .nil)) .nil rfl (by kernel_rfl) <| O5 (ox1 .tmp) (.one rfl) .nil rfl <| O1 <| Q0 (σ' := ⟨[(5, _), (6, _), (7, _), (8, _), (9, _)], [(5, _), (8, _), (1009, .arr 99 (([({ At := (((2 : Int) * (v2.1.length : Int)) - (1 : Int)), N := a1.Name } : Mk.Write), ({ At := ((2 : Int) * (v2.1.length : Int)), N := a1.N } : Mk.Write)] : List Mk.Write)))]⟩) (j5 rfl rfl rfl rfl rfl) (j3 rfl rfl rfl) ?_
      exact PT.meet (v1, v2.1, zRe, v2.2, ([({ At := (((2 : Int) * (v2.1.length : Int)) - (1 : Int)), N := a1.Name } : Mk.Write), ({ At := ((2 : Int) * (v2.1.length : Int)), N := a1.N } : Mk.Write)] : List Mk.Write)) hφ (j5 rfl rfl rfl rfl rfl) (j3 rfl rfl rfl)
     ·replace hφ := if_else hφ hc21
      refine Q0 (σ' := ⟨[(3, _), (5, _), (6, _), (7, _), (8, _), (9, _), (10, _)], [(3, _), (5, _), (8, _)]⟩) (j7 rfl rfl rfl rfl rfl rfl rfl) (j3 rfl rfl rfl) ?_
      refine Q2 (Q1 ?_)
      refine O5 (ox3 Call_Kind f33_0) (.one rfl) .nil rfl <| O5 (ox2 t3) (.one rfl) (.one rfl) rfl <| O5 (ox_eql .tmp .int) (.app (.one rfl) .nil) .nil rfl <| O5 (ox0 .tmp) (.one rfl) .nil rfl <| O4 rfl rfl rfl rfl (.plain .nil) (fun hG => (ox3 Call_Kind f33_0)) (j1 rfl) .nil rfl <| O4 rfl rfl rfl rfl (.cond (fun h => h) .nil) (fun hG => (ox2 t3)) (j1 rfl) (.one rfl) rfl ?_
      refine O4 rfl rfl rfl rfl (.cond (fun h => h) .nil) (fun hG => (ox_eql .tmp .int)) (j1 rfl) .nil rfl <| O5 ox9 (j2 rfl rfl) .nil rfl <| O5 (ox1 .tmp) (.one rfl) .nil rfl <| O1 <| Q0 (σ' := ⟨[(5, _), (6, _), (7, _), (8, _), (9, _), (10, _), (107, .val ((decide (a1.Kind = (1 : Int))) || (decide (a1.Kind = (4 : Int)))))], [(5, _), (8, _)]⟩) (j7 rfl rfl rfl rfl rfl rfl rfl) (j2 rfl rfl) ?_
      refine Q3 _ rfl (fun hc25 => ?_) (fun hc25 => ?_)
      ·replace hφ := if_then hφ hc25
       refine Q0 (σ' := ⟨[(5, _), (7, _), (8, _), (10, _)], [(5, _), (8, _)]⟩) (j4 rfl rfl rfl rfl) (j2 rfl rfl) ?_
       refine Q2 ?_
       obtain ⟨hb26, hφ⟩ := G_some hφ
       obtain ⟨hb27, hφ⟩ := G_some hφ
       obtain ⟨hb28, hφ⟩ := G_some hφ
       refine Q8 hMixed (
         .cons (S5 (ox0 .tmp)) ⟨.one rfl, .nil⟩ (by kernel_rfl) rfl <|
         .cons (S5 (ox_mul .int .tmp hb26)) ⟨(.app .nil (.one rfl)), .nil⟩ (by kernel_rfl) rfl <|
         .cons (S5 (ox_add .int .tmp hb27)) ⟨(.app .nil (.one rfl)), .nil⟩ (by kernel_rfl) rfl <|
         .cons (S5 (ox0 .tmp)) ⟨.one rfl, .nil⟩ (by kernel_rfl) rfl <|
         .cons (S5 (ox0 .tmp)) ⟨.one rfl, .nil⟩ (by kernel_rfl) rfl <|
         .cons (S5 (ox_ix s26 .tmp .tmp hb28.1 hb28.2)) ⟨(.app (.one rfl) (.one rfl)), .nil⟩ (by kernel_rfl) rfl <|
         .cons (S5 (ox_fieldAddr_elem Write_N f99_1)) ⟨.one rfl, .nil⟩ (by kernel_rfl) rfl <|
         .cons (S5 (ox_load_elem t3)) ⟨.one rfl, .nil⟩ (by kernel_rfl) rfl <|
         .cons (S5 (oxa z99 u99 rfl (.cons Write_At f99_0 .tmp (.cons Write_N f99_1 .tmp Bld.nil)))) ⟨(.app (.one rfl) (.app (.one rfl) .nil)), .nil⟩ (by kernel_rfl) rfl <|
         .cons (S5 (ox_buildSlice_val s26 z99 (.cons .tmp Parts.nil) rfl (by decide))) ⟨(.app (.one rfl) .nil), .nil⟩ (by kernel_rfl) rfl <|
         .cons (S5 (ox4 t38)) ⟨.one rfl, .one rfl⟩ (by kernel_rfl) rfl <|
         .cons (S5 (ox1 .tmp)) ⟨.one rfl, .nil⟩ (by kernel_rfl) rfl <|
         .cons (S4 rfl rfl (ox5 t38 .tmp)) ⟨(.cons rfl (.one rfl)), .one rfl⟩ (by kernel_rfl) rfl <|
         .nil) _ [[], [0], [0, 1], [], [], [3, 4], [3, 4, 5], [3, 4, 5, 6], [0, 1, 2, 3, 4, 5, 6, 7], [0, 1, 2, 3, 4, 5, 6, 7, 8], [], [0, 1, 2, 3, 4, 5, 6, 7, 8, 9], [0, 1, 2, 3, 4, 5, 6, 7, 8, 9, 10, 11]] rfl (by kernel_rfl) (by kernel_rfl) ?_
       refine Q0 (σ' := ⟨[(4, .val (([({ At := ((2 : Int) + ((2 : Int) * v4)), N := (ix v2.1 v4).N } : Mk.Write)] : List Mk.Write))), (5, _)], [(5, .var (v2.2) [])]⟩) (j2 rfl rfl) (j1 rfl) ?_
       refine Q5 ?_
       obtain rfl := Option.some.inj hφ
       exact Q6 hw0 rfl (.tmp rfl rfl (.cell t38 rfl rfl .nil)) rfl
      ·replace hφ := if_else hφ hc25
       refine Q0 (σ' := ⟨[(5, _), (6, _), (7, _), (8, _), (9, _)], [(5, _), (8, _)]⟩) (j5 rfl rfl rfl rfl rfl) (j2 rfl rfl) ?_
       refine Q4 ?_
       refine PT.nilArr 1009 9 99 (Mk.Write) rfl (by kernel_rfl) ?_
       exact PT.meet (v1, v2.1, zRe, v2.2, ([] : List Mk.Write)) hφ (j5 rfl rfl rfl rfl rfl) (j3 rfl rfl rfl)
  ·rintro ⟨x6_k5, x7_k5, y5_k5, y8_k5, y1009_k5⟩ hφ
   subst hk5
   refine Q0 (σ' := ⟨[(5, .ptr 5 (Lens.id (α := Mk.Reply))), (6, .val (x6_k5)), (7, .val (x7_k5)), (8, .ptr 8 (Lens.id (α := Mk.Reply))), (9, .sl 1009)], [(5, .var (y5_k5) []), (8, .var (y8_k5) []), (1009, .arr 99 (y1009_k5))]⟩) (j5 rfl rfl rfl rfl rfl) (j3 rfl rfl rfl) ?_
   obtain ⟨k29, hk29, hφ⟩ := J_some hφ
   refine PT.cut (ι := Mk.Reply × Mk.Reply × (List Mk.Write)) (fun p => ⟨[(5, .ptr 5 (Lens.id (α := Mk.Reply))), (8, .ptr 8 (Lens.id (α := Mk.Reply))), (9, .sl 1009)], [(5, .var (p.1) []), (8, .var (p.2.1) []), (1009, .arr 99 (p.2.2))]⟩) (fun p => k29 (p.1) (p.2.1) (p.2.2) = some r) ?_ ?_
   ·skip
    refine Q2 (Q1 ?_)
    refine O5 (ox0 .tmp) (.one rfl) .nil rfl <| O5 (ox_len s26 .tmp) (.one rfl) .nil rfl <| O5 (ox0 .tmp) (.one rfl) .nil rfl <| O5 (ox_len s26 .tmp) (.one rfl) .nil rfl <| O5 (ox_neq .tmp .tmp) (.app (.one rfl) (.one rfl)) .nil rfl <| O1 <| Q0 (σ' := ⟨[(5, _), (7, _), (8, _), (9, _), (131, .val (!decide ((x7_k5.length : Int) = (x6_k5.length : Int))))], [(5, _), (8, _), (1009, _)]⟩) (j5 rfl rfl rfl rfl rfl) (j3 rfl rfl rfl) ?_
    refine Q3 _ rfl (fun hc30 => ?_) (fun hc30 => ?_)
    ·replace hφ := if_then hφ hc30
     refine Q0 (σ' := ⟨[(5, _), (7, _), (8, _), (9, _)], [(5, _), (8, _), (1009, _)]⟩) (j4 rfl rfl rfl rfl) (j3 rfl rfl rfl) ?_
     obtain ⟨hb31, hφ⟩ := G_some hφ
     refine Q1 ?_
     refine O5 (ox0 .tmp) (.one rfl) .nil rfl <| O5 (ox0 .tmp) (.one rfl) .nil rfl <| O5 (ox_len s26 .tmp) (.one rfl) .nil rfl <| O5 (oxa z99 u99 rfl (.cons Write_N f99_1 .tmp Bld.nil)) (.app (.one rfl) .nil) .nil rfl <| O5 (ox_buildSlice_val s26 z99 (.cons .tmp Parts.nil) rfl (by decide)) (.app (.one rfl) .nil) .nil rfl ?_
     refine Ops.putK [9, 132] rfl rfl (ox_append a26 .tmp .tmp hb31.1 hb31.2) (.app (.one rfl) (.one rfl)) (.one rfl) rfl (by kernel_rfl) ?_
     refine O5 (ox1 .tmp) (.one rfl) .nil rfl <| O1 <| Q0 (σ' := ⟨[(5, _), (8, _), (9, _)], [(5, _), (8, _), (1009, .arr 99 (y1009_k5 ++ ([({ At := (0 : Int), N := (x7_k5.length : Int) } : Mk.Write)] : List Mk.Write)))]⟩) (j3 rfl rfl rfl) (j3 rfl rfl rfl) ?_
     exact PT.meet (y5_k5, y8_k5, (y1009_k5 ++ ([({ At := (0 : Int), N := (x7_k5.length : Int) } : Mk.Write)] : List Mk.Write))) hφ (j3 rfl rfl rfl) (j3 rfl rfl rfl)
    ·replace hφ := if_else hφ hc30
     refine Q0 (σ' := ⟨[(5, _), (8, _), (9, _)], [(5, _), (8, _), (1009, _)]⟩) (j3 rfl rfl rfl) (j3 rfl rfl rfl) ?_
     refine Q4 ?_
     exact PT.meet (y5_k5, y8_k5, y1009_k5) hφ (j3 rfl rfl rfl) (j3 rfl rfl rfl)
   ·rintro ⟨y5_k29, y8_k29, y1009_k29⟩ hφ
    subst hk29
    refine Q0 (σ' := ⟨[(5, _), (8, _), (9, _)], [(5, .var (y5_k29) []), (8, .var (y8_k29) []), (1009, .arr 99 (y1009_k29))]⟩) (j3 rfl rfl rfl) (j3 rfl rfl rfl) ?_
    refine Q2 ?_
    refine Q8 hMixed (
      .cons (S5 (ox0 .tmp)) ⟨.one rfl, .nil⟩ (by kernel_rfl) rfl <|
      .cons (S5 (ox4 t38)) ⟨.one rfl, .one rfl⟩ (by kernel_rfl) rfl <|
      .cons (S5 (ox1 .tmp)) ⟨.one rfl, .nil⟩ (by kernel_rfl) rfl <|
      .cons (S4 rfl rfl (ox5 t38 .tmp)) ⟨(.cons rfl (.one rfl)), .one rfl⟩ (by kernel_rfl) rfl <|
      .nil) _ [[], [], [0], [0, 1, 2]] rfl (by kernel_rfl) (by kernel_rfl) ?_
    refine Q0 (σ' := ⟨[(4, _), (5, _)], [(5, .var (y8_k29) []), (1009, _)]⟩) (j2 rfl rfl) (j2 rfl rfl) ?_
    refine Q5 ?_
    refine PT.freeze 1009 [4] rfl (j1 rfl) ?_
    obtain rfl := Option.some.inj hφ
    exact Q6 hw0 rfl (.tmp rfl rfl (.cell t38 rfl rfl .nil)) rfl
theorem c_mkref1_SameWrites {a0 : List Mk.Write} {a1 : List Mk.Write} {r : Bool} (hφ : mkref1_SameWrites a0 a1 = some r) : Fn Go.Proofs.Try.prog 23 [.val a0, .val a1] (.val r) := by
 unfold mkref1_SameWrites at hφ
 refine Fn.mk' Go.Proofs.Try.func23 rfl (by decide) rfl rfl rfl (fun w0 hw0 => ?_)
 refine Q2 (Q1 ?_)
 refine O5 (ox1 .bool) .nil .nil rfl <| O1 <| Q0 (σ' := ⟨[(0, .val (a0)), (1, .val (a1))], []⟩) (j2 rfl rfl) trivial ?_
 refine Q2 ?_
 refine Q2 (Q1 ?_)
 refine O5 (ox0 .tmp) (.one rfl) .nil rfl <| O5 (ox_len s26 .tmp) (.one rfl) .nil rfl <| O5 (ox0 .tmp) (.one rfl) .nil rfl <| O5 (ox_len s26 .tmp) (.one rfl) .nil rfl <| O5 (ox_neq .tmp .tmp) (.app (.one rfl) (.one rfl)) .nil rfl <| O1 <| Q0 (σ' := ⟨[(0, _), (1, _), (10, .val (!decide ((a0.length : Int) = (a1.length : Int))))], []⟩) (j3 rfl rfl rfl) trivial ?_
 refine Q3 _ rfl (fun hc1 => ?_) (fun hc1 => ?_)
 ·replace hφ := if_then hφ hc1
  refine Q0 (σ' := ⟨[], []⟩) trivial trivial ?_
  refine Q2 (Q1 ?_)
  refine O5 (ox1 .bool) .nil .nil rfl <| O1 <| Q0 (σ' := ⟨[(4, .val (false))], []⟩) (j1 rfl) trivial ?_
  refine Q5 ?_
  obtain rfl := Option.some.inj hφ
  exact Q6 hw0 rfl (.tmp rfl rfl .nil) rfl
 ·replace hφ := if_else hφ hc1
  refine Q0 (σ' := ⟨[(0, _), (1, _)], []⟩) (j2 rfl rfl) trivial ?_
  refine Q4 ?_
  obtain ⟨k2, hk2, hφ⟩ := J_some hφ
  refine PT.cut (ι := Unit) (fun p => ⟨[], []⟩) (fun p => k2 () = some r) ?_ ?_
  ·skip
   refine Q2 (Q1 ?_)
   refine O5 (ox0 .tmp) (.one rfl) .nil rfl <| O5 (ox_len s26 .tmp) (.one rfl) .nil rfl <| O5 (ox0 .int) .nil .nil rfl <| O1 <| Q0 (σ' := ⟨[(0, _), (1, _), (12, .val (a0.length : Int)), (13, .val (0 : Int))], []⟩) (j4 rfl rfl rfl rfl) trivial ?_
   refine PT.block ?_
   refine PT.loop (ι := Nat × (List Mk.Write) × (List Mk.Write) × Int × Int) (fun p => ⟨[(0, .val (p.2.1)), (1, .val (p.2.2.1)), (12, .val (p.2.2.2.1)), (13, .val (p.2.2.2.2))], []⟩) (fun p => mkref1_SameWrites_l1 k2 p.1 (p.2.1) (p.2.2.1) (p.2.2.2.1) (p.2.2.2.2) = some r) (fun p => p.1) (((a0.length : Int) - (0 : Int)).toNat + 1, a0, a1, (a0.length : Int), (0 : Int)) hφ (j4 rfl rfl rfl rfl) trivial ?_
   rintro ⟨m3, x0_m3, x1_m3, x12_m3, x13_m3⟩ (hφ : mkref1_SameWrites_l1 k2 m3 x0_m3 x1_m3 x12_m3 x13_m3 = some r)
   obtain _ | m3 := m3
   ·exact (none_no hφ).elim
   rw [mkref1_SameWrites_l1.eq_2] at hφ
   refine Q0 (σ' := ⟨[(0, .val (x0_m3)), (1, .val (x1_m3)), (12, .val (x12_m3)), (13, .val (x13_m3))], []⟩) (j4 rfl rfl rfl rfl) trivial ?_
   refine Q2 (Q1 ?_)
   refine O5 (ox_lss .tmp .tmp) (.app (.one rfl) (.one rfl)) .nil rfl <| O1 <| Q0 (σ' := ⟨[(0, _), (1, _), (12, _), (13, _), (14, .val (decide (x13_m3 < x12_m3)))], []⟩) (j5 rfl rfl rfl rfl rfl) trivial ?_
   refine Q2 ?_
   refine Q3 _ rfl (fun hc4 => ?_) (fun hc4 => ?_)
   ·replace hφ := if_then hφ hc4
    refine Q0 (σ' := ⟨[(0, _), (1, _), (12, _), (13, _)], []⟩) (j4 rfl rfl rfl rfl) trivial ?_
    refine Q4 ?_
    refine Q2 ?_
    refine PT.block ?_
    refine Q2 (Q1 ?_)
    refine O5 (ox0 .tmp) (.one rfl) .nil rfl <| O5 (ox1 .tmp) (.one rfl) .nil rfl <| O1 <| Q0 (σ' := ⟨[(0, _), (1, _), (5, .val (x13_m3)), (12, _), (13, _)], []⟩) (j5 rfl rfl rfl rfl rfl) trivial ?_
    refine Q2 ?_
    obtain ⟨hb5, hφ⟩ := G_some hφ
    obtain ⟨hb6, hφ⟩ := G_some hφ
    refine Q8 hMixed (
      .cons (S5 (ox0 .tmp)) ⟨.one rfl, .nil⟩ (by kernel_rfl) rfl <|
      .cons (S5 (ox0 .tmp)) ⟨.one rfl, .nil⟩ (by kernel_rfl) rfl <|
      .cons (S5 (ox_ix s26 .tmp .tmp hb5.1 hb5.2)) ⟨(.app (.one rfl) (.one rfl)), .nil⟩ (by kernel_rfl) rfl <|
      .cons (S5 (ox_load_elem t99)) ⟨.one rfl, .nil⟩ (by kernel_rfl) rfl <|
      .cons (S5 (ox0 .tmp)) ⟨.one rfl, .nil⟩ (by kernel_rfl) rfl <|
      .cons (S5 (ox0 .tmp)) ⟨.one rfl, .nil⟩ (by kernel_rfl) rfl <|
      .cons (S5 (ox_ix s26 .tmp .tmp hb6.1 hb6.2)) ⟨(.app (.one rfl) (.one rfl)), .nil⟩ (by kernel_rfl) rfl <|
      .cons (S5 (ox_load_elem t99)) ⟨.one rfl, .nil⟩ (by kernel_rfl) rfl <|
      .cons (S5 (ox_neqT e99 .tmp .tmp)) ⟨(.app (.one rfl) (.one rfl)), .nil⟩ (by kernel_rfl) rfl <|
      .nil) _ [[], [], [0, 1], [0, 1, 2], [], [], [4, 5], [4, 5, 6], [0, 1, 2, 3, 4, 5, 6, 7]] rfl (by kernel_rfl) (by kernel_rfl) ?_
    refine Q0 (σ' := ⟨[(0, _), (1, _), (12, _), (13, _), (24, .val (!decide ((ix x0_m3 x13_m3) = (ix x1_m3 x13_m3))))], []⟩) (j5 rfl rfl rfl rfl rfl) trivial ?_
    refine Q3 _ rfl (fun hc7 => ?_) (fun hc7 => ?_)
    ·replace hφ := if_then hφ hc7
     refine Q0 (σ' := ⟨[], []⟩) trivial trivial ?_
     refine Q2 (Q1 ?_)
     refine O5 (ox1 .bool) .nil .nil rfl <| O1 <| Q0 (σ' := ⟨[(4, .val (false))], []⟩) (j1 rfl) trivial ?_
     refine Q5 ?_
     obtain rfl := Option.some.inj hφ
     exact Q6 hw0 rfl (.tmp rfl rfl .nil) rfl
    ·replace hφ := if_else hφ hc7
     refine Q0 (σ' := ⟨[(0, _), (1, _), (12, _), (13, _)], []⟩) (j4 rfl rfl rfl rfl) trivial ?_
     refine Q4 ?_
     obtain ⟨hb8, hφ⟩ := G_some hφ
     refine Q1 ?_
     refine O5 (ox_add .tmp .int hb8) (.app (.one rfl) .nil) .nil rfl <| O5 (ox0 .tmp) (.one rfl) .nil rfl <| O1 <| Q0 (σ' := ⟨[(0, _), (1, _), (12, _), (13, .val (x13_m3 + (1 : Int)))], []⟩) (j4 rfl rfl rfl rfl) trivial ?_
     exact PT.next (m3, x0_m3, x1_m3, x12_m3, (x13_m3 + (1 : Int))) hφ (Nat.lt_succ_self _) (j4 rfl rfl rfl rfl) trivial
   ·replace hφ := if_else hφ hc4
    refine Q0 (σ' := ⟨[], []⟩) trivial trivial ?_
    refine PT.exit ?_
    exact PT.meet () hφ trivial trivial
  ·rintro ⟨⟩ hφ
   subst hk2
   refine Q0 (σ' := ⟨[], []⟩) trivial trivial ?_
   refine Q2 (Q1 ?_)
   refine O5 (ox1 .bool) .nil .nil rfl <| O1 <| Q0 (σ' := ⟨[(4, .val (true))], []⟩) (j1 rfl) trivial ?_
   refine Q5 ?_
   obtain rfl := Option.some.inj hφ
   exact Q6 hw0 rfl (.tmp rfl rfl .nil) rfl
theorem c_mkref1_Set {a0 : List Int} {a1 : List Mk.Write} {r : (List Int)} (hφ : mkref1_Set a0 a1 = some r) : Fn Go.Proofs.Try.prog 95 [.val a0, .val a1] (.val r) := by
 unfold mkref1_Set at hφ
 refine Fn.mk' Go.Proofs.Try.func95 rfl (by decide) rfl rfl rfl (fun w0 hw0 => ?_)
 refine Q2 (Q1 ?_)
 refine O5 (ox1 .nilS) .nil .nil rfl <| O1 <| Q0 (σ' := ⟨[(0, .val (a0)), (1, .val (a1))], []⟩) (j2 rfl rfl) trivial ?_
 refine Q2 (Q1 ?_)
 refine O5 (ox1 .nilS) .nil .nil rfl <| O1 <| Q0 (σ' := ⟨[(0, _), (1, _), (5, .nilS)], []⟩) (j3 rfl rfl rfl) trivial ?_
 obtain ⟨k1, hk1, hφ⟩ := J_some hφ
 refine PT.cut (ι := (List Int)) (fun p => ⟨[(5, .sl 1005)], [(1005, .arr 3 (p))]⟩) (fun p => k1 (p) = some r) ?_ ?_
 ·skip
  refine Q2 (Q1 ?_)
  refine O5 (ox0 .tmp) (.one rfl) .nil rfl <| O5 (ox_len s25 .tmp) (.one rfl) .nil rfl <| O5 (ox0 .int) .nil .nil rfl <| O1 <| Q0 (σ' := ⟨[(1, _), (5, _), (10, .val (a0)), (11, .val (a0.length : Int)), (12, .val (0 : Int))], []⟩) (j5 rfl rfl rfl rfl rfl) trivial ?_
  refine PT.block ?_
  refine PT.nilArr 1005 5 3 (Int) rfl (by kernel_rfl) ?_
  refine PT.loop (ι := Nat × (List Mk.Write) × (List Int) × Int × Int × (List Int)) (fun p => ⟨[(1, .val (p.2.1)), (5, .sl 1005), (10, .val (p.2.2.1)), (11, .val (p.2.2.2.1)), (12, .val (p.2.2.2.2.1))], [(1005, .arr 3 (p.2.2.2.2.2))]⟩) (fun p => mkref1_Set_l1 k1 p.1 (p.2.1) (p.2.2.1) (p.2.2.2.1) (p.2.2.2.2.1) (p.2.2.2.2.2) = some r) (fun p => p.1) (((a0.length : Int) - (0 : Int)).toNat + 1, a1, a0, (a0.length : Int), (0 : Int), ([] : List Int)) hφ (j5 rfl rfl rfl rfl rfl) (j1 rfl) ?_
  rintro ⟨m2, x1_m2, x10_m2, x11_m2, x12_m2, y1005_m2⟩ (hφ : mkref1_Set_l1 k1 m2 x1_m2 x10_m2 x11_m2 x12_m2 y1005_m2 = some r)
  obtain _ | m2 := m2
  ·exact (none_no hφ).elim
  rw [mkref1_Set_l1.eq_2] at hφ
  refine Q0 (σ' := ⟨[(1, .val (x1_m2)), (5, .sl 1005), (10, .val (x10_m2)), (11, .val (x11_m2)), (12, .val (x12_m2))], [(1005, .arr 3 (y1005_m2))]⟩) (j5 rfl rfl rfl rfl rfl) (j1 rfl) ?_
  refine Q2 (Q1 ?_)
  refine O5 (ox_lss .tmp .tmp) (.app (.one rfl) (.one rfl)) .nil rfl <| O1 <| Q0 (σ' := ⟨[(1, _), (5, _), (10, _), (11, _), (12, _), (13, .val (decide (x12_m2 < x11_m2)))], [(1005, _)]⟩) (j6 rfl rfl rfl rfl rfl rfl) (j1 rfl) ?_
  refine Q2 ?_
  refine Q3 _ rfl (fun hc3 => ?_) (fun hc3 => ?_)
  ·replace hφ := if_then hφ hc3
   refine Q0 (σ' := ⟨[(1, _), (5, _), (10, _), (11, _), (12, _)], [(1005, _)]⟩) (j5 rfl rfl rfl rfl rfl) (j1 rfl) ?_
   refine Q4 ?_
   refine Q2 ?_
   refine PT.block ?_
   refine Q2 ?_
   obtain ⟨hb4, hφ⟩ := G_some hφ
   refine Q1 ?_
   refine O5 (ox0 .tmp) (.one rfl) .nil rfl <| O5 (ox_ix s25 .tmp .tmp hb4.1 hb4.2) (.app (.one rfl) (.one rfl)) .nil rfl <| O5 (ox_load_elem t3) (.one rfl) .nil rfl <| O5 (ox1 .tmp) (.one rfl) .nil rfl <| O5 (ox1 .tmp) (.one rfl) .nil rfl <| O1 <| Q0 (σ' := ⟨[(1, _), (5, _), (6, .val (x12_m2)), (7, .val (ix x10_m2 x12_m2)), (10, _), (11, _), (12, _)], [(1005, _)]⟩) (j7 rfl rfl rfl rfl rfl rfl rfl) (j1 rfl) ?_
   obtain ⟨k5, hk5, hφ⟩ := J_some hφ
   refine PT.cut (ι := (List Mk.Write) × Int × (List Int) × Int × Int × (List Int)) (fun p => ⟨[(1, .val (p.1)), (5, .sl 1005), (7, .val (p.2.1)), (10, .val (p.2.2.1)), (11, .val (p.2.2.2.1)), (12, .val (p.2.2.2.2.1))], [(1005, .arr 3 (p.2.2.2.2.2))]⟩) (fun p => k5 (p.1) (p.2.1) (p.2.2.1) (p.2.2.2.1) (p.2.2.2.2.1) (p.2.2.2.2.2) = some r) ?_ ?_
   ·skip
    refine Q2 (Q1 ?_)
    refine O5 (ox0 .tmp) (.one rfl) .nil rfl <| O5 (ox_len s26 .tmp) (.one rfl) .nil rfl <| O5 (ox0 .int) .nil .nil rfl <| O1 <| Q0 (σ' := ⟨[(1, _), (5, _), (6, _), (7, _), (10, _), (11, _), (12, _), (17, .val (x1_m2)), (18, .val (x1_m2.length : Int)), (19, .val (0 : Int))], [(1005, _)]⟩) (j10 rfl rfl rfl rfl rfl rfl rfl rfl rfl rfl) (j1 rfl) ?_
    refine PT.block ?_
    refine PT.loop (ι := Nat × (List Mk.Write) × Int × Int × (List Int) × Int × Int × (List Mk.Write) × Int × Int × (List Int)) (fun p => ⟨[(1, .val (p.2.1)), (5, .sl 1005), (6, .val (p.2.2.1)), (7, .val (p.2.2.2.1)), (10, .val (p.2.2.2.2.1)), (11, .val (p.2.2.2.2.2.1)), (12, .val (p.2.2.2.2.2.2.1)), (17, .val (p.2.2.2.2.2.2.2.1)), (18, .val (p.2.2.2.2.2.2.2.2.1)), (19, .val (p.2.2.2.2.2.2.2.2.2.1))], [(1005, .arr 3 (p.2.2.2.2.2.2.2.2.2.2))]⟩) (fun p => mkref1_Set_l2 k5 p.1 (p.2.1) (p.2.2.1) (p.2.2.2.1) (p.2.2.2.2.1) (p.2.2.2.2.2.1) (p.2.2.2.2.2.2.1) (p.2.2.2.2.2.2.2.1) (p.2.2.2.2.2.2.2.2.1) (p.2.2.2.2.2.2.2.2.2.1) (p.2.2.2.2.2.2.2.2.2.2) = some r) (fun p => p.1) (((x1_m2.length : Int) - (0 : Int)).toNat + 1, x1_m2, x12_m2, (ix x10_m2 x12_m2), x10_m2, x11_m2, x12_m2, x1_m2, (x1_m2.length : Int), (0 : Int), y1005_m2) hφ (j10 rfl rfl rfl rfl rfl rfl rfl rfl rfl rfl) (j1 rfl) ?_
    rintro ⟨m6, x1_m6, x6_m6, x7_m6, x10_m6, x11_m6, x12_m6, x17_m6, x18_m6, x19_m6, y1005_m6⟩ (hφ : mkref1_Set_l2 k5 m6 x1_m6 x6_m6 x7_m6 x10_m6 x11_m6 x12_m6 x17_m6 x18_m6 x19_m6 y1005_m6 = some r)
    obtain _ | m6 := m6
    ·exact (none_no hφ).elim
    rw [mkref1_Set_l2.eq_2] at hφ
    refine Q0 (σ' := ⟨[(1, .val (x1_m6)), (5, _), (6, .val (x6_m6)), (7, .val (x7_m6)), (10, .val (x10_m6)), (11, .val (x11_m6)), (12, .val (x12_m6)), (17, .val (x17_m6)), (18, .val (x18_m6)), (19, .val (x19_m6))], [(1005, .arr 3 (y1005_m6))]⟩) (j10 rfl rfl rfl rfl rfl rfl rfl rfl rfl rfl) (j1 rfl) ?_
    refine Q2 (Q1 ?_)
    refine O5 (ox_lss .tmp .tmp) (.app (.one rfl) (.one rfl)) .nil rfl <| O1 <| Q0 (σ' := ⟨[(1, _), (5, _), (6, _), (7, _), (10, _), (11, _), (12, _), (17, _), (18, _), (19, _), (20, .val (decide (x19_m6 < x18_m6)))], [(1005, _)]⟩) (j11 rfl rfl rfl rfl rfl rfl rfl rfl rfl rfl rfl) (j1 rfl) ?_
    refine Q2 ?_
    refine Q3 _ rfl (fun hc7 => ?_) (fun hc7 => ?_)
    ·replace hφ := if_then hφ hc7
     refine Q0 (σ' := ⟨[(1, _), (5, _), (6, _), (7, _), (10, _), (11, _), (12, _), (17, _), (18, _), (19, _)], [(1005, _)]⟩) (j10 rfl rfl rfl rfl rfl rfl rfl rfl rfl rfl) (j1 rfl) ?_
     refine Q4 ?_
     obtain ⟨k8, hk8, hφ⟩ := J_some hφ
     refine PT.cut (ι := (List Mk.Write) × Int × Int × (List Int) × Int × Int × (List Mk.Write) × Int × Int × (List Int)) (fun p => ⟨[(1, .val (p.1)), (5, .sl 1005), (6, .val (p.2.1)), (7, .val (p.2.2.1)), (10, .val (p.2.2.2.1)), (11, .val (p.2.2.2.2.1)), (12, .val (p.2.2.2.2.2.1)), (17, .val (p.2.2.2.2.2.2.1)), (18, .val (p.2.2.2.2.2.2.2.1)), (19, .val (p.2.2.2.2.2.2.2.2.1))], [(1005, .arr 3 (p.2.2.2.2.2.2.2.2.2))]⟩) (fun p => k8 (p.1) (p.2.1) (p.2.2.1) (p.2.2.2.1) (p.2.2.2.2.1) (p.2.2.2.2.2.1) (p.2.2.2.2.2.2.1) (p.2.2.2.2.2.2.2.1) (p.2.2.2.2.2.2.2.2.1) (p.2.2.2.2.2.2.2.2.2) = some r) ?_ ?_
     ·skip
      refine PT.block ?_
      refine Q2 ?_
      obtain ⟨hb9, hφ⟩ := G_some hφ
      refine Q1 ?_
      refine O5 (ox_ix s26 .tmp .tmp hb9.1 hb9.2) (.app (.one rfl) (.one rfl)) .nil rfl <| O5 (ox_load_elem t99) (.one rfl) .nil rfl <| O3 rfl rfl (ox_alloc (id := 9) z99) .nil .nil rfl (by kernel_rfl) <| O2 rfl rfl (ox5 t99 .tmp) (.cons rfl (.one rfl)) (.one rfl) <| O1 <| Q0 (σ' := ⟨[(1, _), (5, _), (6, _), (7, _), (9, _), (10, _), (11, _), (12, _), (17, _), (18, _), (19, _)], [(9, .var (ix x17_m6 x19_m6) []), (1005, _)]⟩) (j11 rfl rfl rfl rfl rfl rfl rfl rfl rfl rfl rfl) (j2 rfl rfl) ?_
      refine Q2 (Q1 ?_)
      refine O5 (ox3 Write_At f99_0) (.one rfl) .nil rfl <| O5 (ox2 t3) (.one rfl) (.one rfl) rfl <| O5 (ox0 .tmp) (.one rfl) .nil rfl <| O5 (ox_eql .tmp .tmp) (.app (.one rfl) (.one rfl)) .nil rfl <| O1 <| Q0 (σ' := ⟨[(1, _), (5, _), (6, _), (7, _), (9, _), (10, _), (11, _), (12, _), (17, _), (18, _), (19, _), (26, .val (decide ((ix x17_m6 x19_m6).At = x6_m6)))], [(9, _), (1005, _)]⟩) (j12 rfl rfl rfl rfl rfl rfl rfl rfl rfl rfl rfl rfl) (j2 rfl rfl) ?_
      refine Q3 _ rfl (fun hc10 => ?_) (fun hc10 => ?_)
      ·replace hφ := if_then hφ hc10
       refine Q0 (σ' := ⟨[(1, _), (5, _), (6, _), (9, _), (10, _), (11, _), (12, _), (17, _), (18, _), (19, _)], [(9, _), (1005, _)]⟩) (j10 rfl rfl rfl rfl rfl rfl rfl rfl rfl rfl) (j2 rfl rfl) ?_
       refine Q1 ?_
       refine O5 (ox3 Write_N f99_1) (.one rfl) .nil rfl <| O5 (ox2 t3) (.one rfl) (.one rfl) rfl <| O5 (ox1 .tmp) (.one rfl) .nil rfl <| O1 <| Q0 (σ' := ⟨[(1, _), (5, _), (6, _), (7, .val ((ix x17_m6 x19_m6).N)), (10, _), (11, _), (12, _), (17, _), (18, _), (19, _)], [(1005, _)]⟩) (j10 rfl rfl rfl rfl rfl rfl rfl rfl rfl rfl) (j1 rfl) ?_
       exact PT.meet (x1_m6, x6_m6, (ix x17_m6 x19_m6).N, x10_m6, x11_m6, x12_m6, x17_m6, x18_m6, x19_m6, y1005_m6) hφ (j10 rfl rfl rfl rfl rfl rfl rfl rfl rfl rfl) (j1 rfl)
      ·replace hφ := if_else hφ hc10
       refine Q0 (σ' := ⟨[(1, _), (5, _), (6, _), (7, _), (10, _), (11, _), (12, _), (17, _), (18, _), (19, _)], [(1005, _)]⟩) (j10 rfl rfl rfl rfl rfl rfl rfl rfl rfl rfl) (j1 rfl) ?_
       refine Q4 ?_
       exact PT.meet (x1_m6, x6_m6, x7_m6, x10_m6, x11_m6, x12_m6, x17_m6, x18_m6, x19_m6, y1005_m6) hφ (j10 rfl rfl rfl rfl rfl rfl rfl rfl rfl rfl) (j1 rfl)
     ·rintro ⟨x1_k8, x6_k8, x7_k8, x10_k8, x11_k8, x12_k8, x17_k8, x18_k8, x19_k8, y1005_k8⟩ hφ
      subst hk8
      refine Q0 (σ' := ⟨[(1, .val (x1_k8)), (5, _), (6, .val (x6_k8)), (7, .val (x7_k8)), (10, .val (x10_k8)), (11, .val (x11_k8)), (12, .val (x12_k8)), (17, .val (x17_k8)), (18, .val (x18_k8)), (19, .val (x19_k8))], [(1005, .arr 3 (y1005_k8))]⟩) (j10 rfl rfl rfl rfl rfl rfl rfl rfl rfl rfl) (j1 rfl) ?_
      obtain ⟨hb11, hφ⟩ := G_some hφ
      refine Q1 ?_
      refine O5 (ox_add .tmp .int hb11) (.app (.one rfl) .nil) .nil rfl <| O5 (ox0 .tmp) (.one rfl) .nil rfl <| O1 <| Q0 (σ' := ⟨[(1, _), (5, _), (6, _), (7, _), (10, _), (11, _), (12, _), (17, _), (18, _), (19, .val (x19_k8 + (1 : Int)))], [(1005, _)]⟩) (j10 rfl rfl rfl rfl rfl rfl rfl rfl rfl rfl) (j1 rfl) ?_
      exact PT.next (m6, x1_k8, x6_k8, x7_k8, x10_k8, x11_k8, x12_k8, x17_k8, x18_k8, (x19_k8 + (1 : Int)), y1005_k8) hφ (Nat.lt_succ_self _) (j10 rfl rfl rfl rfl rfl rfl rfl rfl rfl rfl) (j1 rfl)
    ·replace hφ := if_else hφ hc7
     refine Q0 (σ' := ⟨[(1, _), (5, _), (7, _), (10, _), (11, _), (12, _)], [(1005, _)]⟩) (j6 rfl rfl rfl rfl rfl rfl) (j1 rfl) ?_
     refine PT.exit ?_
     exact PT.meet (x1_m6, x7_m6, x10_m6, x11_m6, x12_m6, y1005_m6) hφ (j6 rfl rfl rfl rfl rfl rfl) (j1 rfl)
   ·rintro ⟨x1_k5, x7_k5, x10_k5, x11_k5, x12_k5, y1005_k5⟩ hφ
    subst hk5
    refine Q0 (σ' := ⟨[(1, .val (x1_k5)), (5, _), (7, .val (x7_k5)), (10, .val (x10_k5)), (11, .val (x11_k5)), (12, .val (x12_k5))], [(1005, .arr 3 (y1005_k5))]⟩) (j6 rfl rfl rfl rfl rfl rfl) (j1 rfl) ?_
    obtain ⟨hb12, hφ⟩ := G_some hφ
    refine Q1 ?_
    refine O5 (ox0 .tmp) (.one rfl) .nil rfl <| O5 (ox0 .tmp) (.one rfl) .nil rfl <| O5 (ox_buildSlice_val s25 z3 (.cons .tmp Parts.nil) rfl (by decide)) (.app (.one rfl) .nil) .nil rfl ?_
    refine Ops.putK [5, 30] rfl rfl (ox_append a25 .tmp .tmp hb12.1 hb12.2) (.app (.one rfl) (.one rfl)) (.one rfl) rfl (by kernel_rfl) ?_
    refine O5 (ox1 .tmp) (.one rfl) .nil rfl <| O1 <| Q0 (σ' := ⟨[(1, _), (5, _), (10, _), (11, _), (12, _)], [(1005, .arr 3 (y1005_k5 ++ ([x7_k5] : List Int)))]⟩) (j5 rfl rfl rfl rfl rfl) (j1 rfl) ?_
    obtain ⟨hb13, hφ⟩ := G_some hφ
    refine Q1 ?_
    refine O5 (ox_add .tmp .int hb13) (.app (.one rfl) .nil) .nil rfl <| O5 (ox0 .tmp) (.one rfl) .nil rfl <| O1 <| Q0 (σ' := ⟨[(1, _), (5, _), (10, _), (11, _), (12, .val (x12_k5 + (1 : Int)))], [(1005, _)]⟩) (j5 rfl rfl rfl rfl rfl) (j1 rfl) ?_
    exact PT.next (m2, x1_k5, x10_k5, x11_k5, (x12_k5 + (1 : Int)), (y1005_k5 ++ ([x7_k5] : List Int))) hφ (Nat.lt_succ_self _) (j5 rfl rfl rfl rfl rfl) (j1 rfl)
  ·replace hφ := if_else hφ hc3
   refine Q0 (σ' := ⟨[(5, _)], [(1005, _)]⟩) (j1 rfl) (j1 rfl) ?_
   refine PT.exit ?_
   exact PT.meet (y1005_m2) hφ (j1 rfl) (j1 rfl)
 ·rintro y1005_k1 hφ
  subst hk1
  refine Q0 (σ' := ⟨[(5, .sl 1005)], [(1005, .arr 3 (y1005_k1))]⟩) (j1 rfl) (j1 rfl) ?_
  refine Q2 (Q1 ?_)
  refine O5 (ox0 .tmp) (.one rfl) .nil rfl <| O5 (ox1 .tmp) (.one rfl) .nil rfl <| O1 <| Q0 (σ' := ⟨[(4, _)], [(1005, _)]⟩) (j1 rfl) (j1 rfl) ?_
  refine Q5 ?_
  refine PT.freeze 1005 [4] rfl (j1 rfl) ?_
  obtain rfl := Option.some.inj hφ
  exact Q6 hw0 rfl (.tmp rfl rfl .nil) rfl
theorem c_mkref1_Set2 {a0 : List Int} {a1 : List Mk.Write} {r : (List Int)} (hφ : mkref1_Set2 a0 a1 = some r) : Fn Go.Proofs.Try.prog 57 [.val a0, .val a1] (.val r) := by
 unfold mkref1_Set2 at hφ
 refine Fn.mk' Go.Proofs.Try.func57 rfl (by decide) rfl rfl rfl (fun w0 hw0 => ?_)
 refine Q2 (Q1 ?_)
 refine O5 (ox1 .nilS) .nil .nil rfl <| O1 <| Q0 (σ' := ⟨[(0, .val (a0)), (1, .val (a1))], []⟩) (j2 rfl rfl) trivial ?_
 obtain ⟨k1, hk1, hφ⟩ := J_some hφ
 refine PT.cut (ι := (List Int)) (fun p => ⟨[(0, .val (p))], []⟩) (fun p => k1 (p) = some r) ?_ ?_
 ·skip
  refine Q2 (Q1 ?_)
  refine O5 (ox0 .tmp) (.one rfl) .nil rfl <| O5 (ox_len s26 .tmp) (.one rfl) .nil rfl <| O5 (ox0 .int) .nil .nil rfl <| O1 <| Q0 (σ' := ⟨[(0, _), (7, .val (a1)), (8, .val (a1.length : Int)), (9, .val (0 : Int))], []⟩) (j4 rfl rfl rfl rfl) trivial ?_
  refine PT.block ?_
  refine PT.loop (ι := Nat × (List Int) × (List Mk.Write) × Int × Int) (fun p => ⟨[(0, .val (p.2.1)), (7, .val (p.2.2.1)), (8, .val (p.2.2.2.1)), (9, .val (p.2.2.2.2))], []⟩) (fun p => mkref1_Set2_l1 k1 p.1 (p.2.1) (p.2.2.1) (p.2.2.2.1) (p.2.2.2.2) = some r) (fun p => p.1) (((a1.length : Int) - (0 : Int)).toNat + 1, a0, a1, (a1.length : Int), (0 : Int)) hφ (j4 rfl rfl rfl rfl) trivial ?_
  rintro ⟨m2, x0_m2, x7_m2, x8_m2, x9_m2⟩ (hφ : mkref1_Set2_l1 k1 m2 x0_m2 x7_m2 x8_m2 x9_m2 = some r)
  obtain _ | m2 := m2
  ·exact (none_no hφ).elim
  rw [mkref1_Set2_l1.eq_2] at hφ
  refine Q0 (σ' := ⟨[(0, .val (x0_m2)), (7, .val (x7_m2)), (8, .val (x8_m2)), (9, .val (x9_m2))], []⟩) (j4 rfl rfl rfl rfl) trivial ?_
  refine Q2 (Q1 ?_)
  refine O5 (ox_lss .tmp .tmp) (.app (.one rfl) (.one rfl)) .nil rfl <| O1 <| Q0 (σ' := ⟨[(0, _), (7, _), (8, _), (9, _), (10, .val (decide (x9_m2 < x8_m2)))], []⟩) (j5 rfl rfl rfl rfl rfl) trivial ?_
  refine Q2 ?_
  refine Q3 _ rfl (fun hc3 => ?_) (fun hc3 => ?_)
  ·replace hφ := if_then hφ hc3
   refine Q0 (σ' := ⟨[(0, _), (7, _), (8, _), (9, _)], []⟩) (j4 rfl rfl rfl rfl) trivial ?_
   refine Q4 ?_
   refine Q2 ?_
   refine PT.block ?_
   refine Q2 ?_
   obtain ⟨hb4, hφ⟩ := G_some hφ
   refine Q1 ?_
   refine O5 (ox_ix s26 .tmp .tmp hb4.1 hb4.2) (.app (.one rfl) (.one rfl)) .nil rfl <| O5 (ox_load_elem t99) (.one rfl) .nil rfl <| O3 rfl rfl (ox_alloc (id := 6) z99) .nil .nil rfl (by kernel_rfl) <| O2 rfl rfl (ox5 t99 .tmp) (.cons rfl (.one rfl)) (.one rfl) <| O1 <| Q0 (σ' := ⟨[(0, _), (6, _), (7, _), (8, _), (9, _)], [(6, .var (ix x7_m2 x9_m2) [])]⟩) (j5 rfl rfl rfl rfl rfl) (j1 rfl) ?_
   obtain ⟨v5, hv5, hφ⟩ := B_some hφ
   refine Q1 ?_
   refine O5 (ox0 .tmp) (.one rfl) .nil rfl <| O5 (ox4 t99) (.one rfl) (.one rfl) rfl <| O5 (ox_buildSlice_val s26 z99 (.cons .tmp Parts.nil) rfl (by decide)) (.app (.one rfl) .nil) .nil rfl <| O5 (ox_call (c_mkref1_Set hv5) (.cons .tmp (.cons .tmp .nil))) (.app (.one rfl) (.app (.one rfl) .nil)) .nil rfl <| O5 (ox1 .tmp) (.one rfl) .nil rfl <| O1 <| Q0 (σ' := ⟨[(0, .val (v5)), (7, _), (8, _), (9, _)], []⟩) (j4 rfl rfl rfl rfl) trivial ?_
   obtain ⟨hb6, hφ⟩ := G_some hφ
   refine Q1 ?_
   refine O5 (ox_add .tmp .int hb6) (.app (.one rfl) .nil) .nil rfl <| O5 (ox0 .tmp) (.one rfl) .nil rfl <| O1 <| Q0 (σ' := ⟨[(0, _), (7, _), (8, _), (9, .val (x9_m2 + (1 : Int)))], []⟩) (j4 rfl rfl rfl rfl) trivial ?_
   exact PT.next (m2, v5, x7_m2, x8_m2, (x9_m2 + (1 : Int))) hφ (Nat.lt_succ_self _) (j4 rfl rfl rfl rfl) trivial
  ·replace hφ := if_else hφ hc3
   refine Q0 (σ' := ⟨[(0, _)], []⟩) (j1 rfl) trivial ?_
   refine PT.exit ?_
   exact PT.meet (x0_m2) hφ (j1 rfl) trivial
 ·rintro x0_k1 hφ
  subst hk1
  refine Q0 (σ' := ⟨[(0, .val (x0_k1))], []⟩) (j1 rfl) trivial ?_
  refine Q2 (Q1 ?_)
  refine O5 (ox0 .tmp) (.one rfl) .nil rfl <| O5 (ox1 .tmp) (.one rfl) .nil rfl <| O1 <| Q0 (σ' := ⟨[(4, .val (x0_k1))], []⟩) (j1 rfl) trivial ?_
  refine Q5 ?_
  obtain rfl := Option.some.inj hφ
  exact Q6 hw0 rfl (.tmp rfl rfl .nil) rfl
end Go.Gx
end
section
namespace Go.Gx
open Sp
theorem c_cell_New  {r : (List Int)} (hφ : cell_New  = some r) : Fn Go.Proofs.Try.prog 106 [] (.val r) := by
 unfold cell_New at hφ
 refine Fn.mk' Go.Proofs.Try.func106 rfl (by decide) rfl rfl rfl (fun w0 hw0 => ?_)
 refine Q2 (Q1 ?_)
 refine O5 (ox1 .nilS) .nil .nil rfl <| O1 <| Q0 (σ' := ⟨[], []⟩) trivial trivial ?_
 refine Q2 ?_
 obtain ⟨hb1, hφ⟩ := G_some hφ
 refine Q1 ?_
 refine O5 (ox_makeIntsV s25 (by kernel_rfl) (by kernel_rfl) .int .int hb1) (.app .nil .nil) .nil rfl <| O5 (ox1 .tmp) (.one rfl) .nil rfl <| O1 <| Q0 (σ' := ⟨[(0, .val (List.replicate (Int.toNat (11 : Int)) (0 : Int)))], []⟩) (j1 rfl) trivial ?_
 refine Q5 ?_
 obtain rfl := Option.some.inj hφ
 exact Q6 hw0 rfl (.tmp rfl rfl .nil) rfl
theorem c_mkref1_SameInts {a0 : List Int} {a1 : List Int} {r : Bool} (hφ : mkref1_SameInts a0 a1 = some r) : Fn Go.Proofs.Try.prog 72 [.val a0, .val a1] (.val r) := by
 unfold mkref1_SameInts at hφ
 refine Fn.mk' Go.Proofs.Try.func72 rfl (by decide) rfl rfl rfl (fun w0 hw0 => ?_)
 refine Q2 (Q1 ?_)
 refine O5 (ox1 .bool) .nil .nil rfl <| O1 <| Q0 (σ' := ⟨[(0, .val (a0)), (1, .val (a1))], []⟩) (j2 rfl rfl) trivial ?_
 refine Q2 ?_
 refine Q2 (Q1 ?_)
 refine O5 (ox0 .tmp) (.one rfl) .nil rfl <| O5 (ox_len s25 .tmp) (.one rfl) .nil rfl <| O5 (ox0 .tmp) (.one rfl) .nil rfl <| O5 (ox_len s25 .tmp) (.one rfl) .nil rfl <| O5 (ox_neq .tmp .tmp) (.app (.one rfl) (.one rfl)) .nil rfl <| O1 <| Q0 (σ' := ⟨[(0, _), (1, _), (10, .val (!decide ((a0.length : Int) = (a1.length : Int))))], []⟩) (j3 rfl rfl rfl) trivial ?_
 refine Q3 _ rfl (fun hc1 => ?_) (fun hc1 => ?_)
 ·replace hφ := if_then hφ hc1
  refine Q0 (σ' := ⟨[], []⟩) trivial trivial ?_
  refine Q2 (Q1 ?_)
  refine O5 (ox1 .bool) .nil .nil rfl <| O1 <| Q0 (σ' := ⟨[(4, .val (false))], []⟩) (j1 rfl) trivial ?_
  refine Q5 ?_
  obtain rfl := Option.some.inj hφ
  exact Q6 hw0 rfl (.tmp rfl rfl .nil) rfl
 ·replace hφ := if_else hφ hc1
  refine Q0 (σ' := ⟨[(0, _), (1, _)], []⟩) (j2 rfl rfl) trivial ?_
  refine Q4 ?_
  obtain ⟨k2, hk2, hφ⟩ := J_some hφ
  refine PT.cut (ι := Unit) (fun p => ⟨[], []⟩) (fun p => k2 () = some r) ?_ ?_
  ·skip
   refine Q2 (Q1 ?_)
   refine O5 (ox0 .tmp) (.one rfl) .nil rfl <| O5 (ox_len s25 .tmp) (.one rfl) .nil rfl <| O5 (ox0 .int) .nil .nil rfl <| O1 <| Q0 (σ' := ⟨[(0, _), (1, _), (12, .val (a0.length : Int)), (13, .val (0 : Int))], []⟩) (j4 rfl rfl rfl rfl) trivial ?_
   refine PT.block ?_
   refine PT.loop (ι := Nat × (List Int) × (List Int) × Int × Int) (fun p => ⟨[(0, .val (p.2.1)), (1, .val (p.2.2.1)), (12, .val (p.2.2.2.1)), (13, .val (p.2.2.2.2))], []⟩) (fun p => mkref1_SameInts_l1 k2 p.1 (p.2.1) (p.2.2.1) (p.2.2.2.1) (p.2.2.2.2) = some r) (fun p => p.1) (((a0.length : Int) - (0 : Int)).toNat + 1, a0, a1, (a0.length : Int), (0 : Int)) hφ (j4 rfl rfl rfl rfl) trivial ?_
   rintro ⟨m3, x0_m3, x1_m3, x12_m3, x13_m3⟩ (hφ : mkref1_SameInts_l1 k2 m3 x0_m3 x1_m3 x12_m3 x13_m3 = some r)
   obtain _ | m3 := m3
   ·exact (none_no hφ).elim
   rw [mkref1_SameInts_l1.eq_2] at hφ
   refine Q0 (σ' := ⟨[(0, .val (x0_m3)), (1, .val (x1_m3)), (12, .val (x12_m3)), (13, .val (x13_m3))], []⟩) (j4 rfl rfl rfl rfl) trivial ?_
   refine Q2 (Q1 ?_)
   refine O5 (ox_lss .tmp .tmp) (.app (.one rfl) (.one rfl)) .nil rfl <| O1 <| Q0 (σ' := ⟨[(0, _), (1, _), (12, _), (13, _), (14, .val (decide (x13_m3 < x12_m3)))], []⟩) (j5 rfl rfl rfl rfl rfl) trivial ?_
   refine Q2 ?_
   refine Q3 _ rfl (fun hc4 => ?_) (fun hc4 => ?_)
   ·replace hφ := if_then hφ hc4
    refine Q0 (σ' := ⟨[(0, _), (1, _), (12, _), (13, _)], []⟩) (j4 rfl rfl rfl rfl) trivial ?_
    refine Q4 ?_
    refine Q2 ?_
    refine PT.block ?_
    refine Q2 (Q1 ?_)
    refine O5 (ox0 .tmp) (.one rfl) .nil rfl <| O5 (ox1 .tmp) (.one rfl) .nil rfl <| O1 <| Q0 (σ' := ⟨[(0, _), (1, _), (5, .val (x13_m3)), (12, _), (13, _)], []⟩) (j5 rfl rfl rfl rfl rfl) trivial ?_
    refine Q2 ?_
    obtain ⟨hb5, hφ⟩ := G_some hφ
    obtain ⟨hb6, hφ⟩ := G_some hφ
    refine Q8 hMixed (
      .cons (S5 (ox0 .tmp)) ⟨.one rfl, .nil⟩ (by kernel_rfl) rfl <|
      .cons (S5 (ox0 .tmp)) ⟨.one rfl, .nil⟩ (by kernel_rfl) rfl <|
      .cons (S5 (ox_ix s25 .tmp .tmp hb5.1 hb5.2)) ⟨(.app (.one rfl) (.one rfl)), .nil⟩ (by kernel_rfl) rfl <|
      .cons (S5 (ox_load_elem t3)) ⟨.one rfl, .nil⟩ (by kernel_rfl) rfl <|
      .cons (S5 (ox0 .tmp)) ⟨.one rfl, .nil⟩ (by kernel_rfl) rfl <|
      .cons (S5 (ox0 .tmp)) ⟨.one rfl, .nil⟩ (by kernel_rfl) rfl <|
      .cons (S5 (ox_ix s25 .tmp .tmp hb6.1 hb6.2)) ⟨(.app (.one rfl) (.one rfl)), .nil⟩ (by kernel_rfl) rfl <|
      .cons (S5 (ox_load_elem t3)) ⟨.one rfl, .nil⟩ (by kernel_rfl) rfl <|
      .cons (S5 (ox_neq .tmp .tmp)) ⟨(.app (.one rfl) (.one rfl)), .nil⟩ (by kernel_rfl) rfl <|
      .nil) _ [[], [], [0, 1], [0, 1, 2], [], [], [4, 5], [4, 5, 6], [0, 1, 2, 3, 4, 5, 6, 7]] rfl (by kernel_rfl) (by kernel_rfl) ?_
    refine Q0 (σ' := ⟨[(0, _), (1, _), (12, _), (13, _), (24, .val (!decide ((ix x0_m3 x13_m3) = (ix x1_m3 x13_m3))))], []⟩) (j5 rfl rfl rfl rfl rfl) trivial ?_
    refine Q3 _ rfl (fun hc7 => ?_) (fun hc7 => ?_)
    ·replace hφ := if_then hφ hc7
     refine Q0 (σ' := ⟨[], []⟩) trivial trivial ?_
     refine Q2 (Q1 ?_)
     refine O5 (ox1 .bool) .nil .nil rfl <| O1 <| Q0 (σ' := ⟨[(4, .val (false))], []⟩) (j1 rfl) trivial ?_
     refine Q5 ?_
     obtain rfl := Option.some.inj hφ
     exact Q6 hw0 rfl (.tmp rfl rfl .nil) rfl
    ·replace hφ := if_else hφ hc7
     refine Q0 (σ' := ⟨[(0, _), (1, _), (12, _), (13, _)], []⟩) (j4 rfl rfl rfl rfl) trivial ?_
     refine Q4 ?_
     obtain ⟨hb8, hφ⟩ := G_some hφ
     refine Q1 ?_
     refine O5 (ox_add .tmp .int hb8) (.app (.one rfl) .nil) .nil rfl <| O5 (ox0 .tmp) (.one rfl) .nil rfl <| O1 <| Q0 (σ' := ⟨[(0, _), (1, _), (12, _), (13, .val (x13_m3 + (1 : Int)))], []⟩) (j4 rfl rfl rfl rfl) trivial ?_
     exact PT.next (m3, x0_m3, x1_m3, x12_m3, (x13_m3 + (1 : Int))) hφ (Nat.lt_succ_self _) (j4 rfl rfl rfl rfl) trivial
   ·replace hφ := if_else hφ hc4
    refine Q0 (σ' := ⟨[], []⟩) trivial trivial ?_
    refine PT.exit ?_
    exact PT.meet () hφ trivial trivial
  ·rintro ⟨⟩ hφ
   subst hk2
   refine Q0 (σ' := ⟨[], []⟩) trivial trivial ?_
   refine Q2 (Q1 ?_)
   refine O5 (ox1 .bool) .nil .nil rfl <| O1 <| Q0 (σ' := ⟨[(4, .val (true))], []⟩) (j1 rfl) trivial ?_
   refine Q5 ?_
   obtain rfl := Option.some.inj hφ
   exact Q6 hw0 rfl (.tmp rfl rfl .nil) rfl
theorem c_slices_Clone___int_int_ {a0 : List Int} {r : (List Int)} (hφ : slices_Clone___int_int_ a0 = some r) : Fn Go.Proofs.Try.prog 96 [.val a0] (.val r) := by
 unfold slices_Clone___int_int_ at hφ
 refine Fn.mk' Go.Proofs.Try.func96 rfl (by decide) rfl rfl rfl (fun w0 hw0 => ?_)
 refine Q2 (Q1 ?_)
 refine O5 (ox1 .nilS) .nil .nil rfl <| O1 <| Q0 (σ' := ⟨[(0, .val (a0))], []⟩) (j1 rfl) trivial ?_
 refine Q2 ?_
 refine Q2 (Q1 ?_)
 refine O5 (ox0 .tmp) (.one rfl) .nil rfl <| O5 (ox_isNil (by kernel_rfl) .tmp .nilS) (.app (.one rfl) .nil) .nil rfl <| O1 <| Q0 (σ' := ⟨[(0, _), (4, _)], []⟩) (j2 rfl rfl) trivial ?_
 refine PT.condB _ rfl (fun hc1 => ?_) (fun _ => ?_)
 ·have hc1e := hc1 rfl
  refine Q0 (σ' := ⟨[], []⟩) trivial trivial ?_
  refine Q2 (Q1 ?_)
  refine O5 (ox1 .nilS) .nil .nil rfl <| O1 <| Q0 (σ' := ⟨[(2, .nilS)], []⟩) (j1 rfl) trivial ?_
  refine Q5 ?_
  refine PT.asNil 2 (Int) rfl ?_
  rw [hc1e] at hφ
  obtain ⟨_, hφ⟩ := G_some hφ
  obtain rfl := Option.some.inj hφ
  exact Q6 hw0 rfl (.tmp rfl rfl .nil) rfl
 ·skip
  refine Q0 (σ' := ⟨[(0, _)], []⟩) (j1 rfl) trivial ?_
  refine Q4 ?_
  refine Q2 ?_
  obtain ⟨hb2, hφ⟩ := G_some hφ
  refine Q1 ?_
  refine O3 rfl rfl (ox_buildSlice_arr (id := 5) s25 z3 Parts.nil rfl (by decide)) .nil .nil rfl (by kernel_rfl) <| O5 (ox0 .tmp) (.one rfl) .nil rfl ?_
  refine Ops.putK [5] rfl rfl (ox_append a25 .tmp .tmp hb2.1 hb2.2) (.app (.one rfl) (.one rfl)) (.one rfl) rfl (by kernel_rfl) ?_
  refine O5 (ox1 .tmp) (.one rfl) .nil rfl <| O1 <| Q0 (σ' := ⟨[(2, _)], [(5, .arr 3 (([] : List Int) ++ a0))]⟩) (j1 rfl) (j1 rfl) ?_
  refine Q5 ?_
  refine PT.freeze 5 [2] rfl (j1 rfl) ?_
  obtain rfl := Option.some.inj hφ
  exact Q6 hw0 rfl (.tmp rfl rfl .nil) rfl
theorem x_slices_Clone___int_int_ {a0 : List Int} {r : (List Int)} (hφ : slices_Clone___int_int_ a0 = some r) : FnX Go.Proofs.Try.prog 96 [.val a0] [] (.sl 5) [(5, .arr 3 r)] [] := by
 unfold slices_Clone___int_int_ at hφ
 refine FnX.mk' Go.Proofs.Try.func96 rfl (by decide) rfl (fun w0 m0 => ?_)
 refine Q2 (Q1 ?_)
 refine O5 (ox1 .nilS) .nil .nil rfl <| O1 <| Q0 (σ' := ⟨[(0, .val (a0))], []⟩) (j1 rfl) trivial ?_
 refine Q2 ?_
 refine Q2 (Q1 ?_)
 refine O5 (ox0 .tmp) (.one rfl) .nil rfl <| O5 (ox_isNil (by kernel_rfl) .tmp .nilS) (.app (.one rfl) .nil) .nil rfl <| O1 <| Q0 (σ' := ⟨[(0, _), (4, _)], []⟩) (j2 rfl rfl) trivial ?_
 refine PT.condB _ rfl (fun hc1 => ?_) (fun _ => ?_)
 ·have hc1e := hc1 rfl
  refine Q0 (σ' := ⟨[], []⟩) trivial trivial ?_
  refine Q2 (Q1 ?_)
  refine O5 (ox1 .nilS) .nil .nil rfl <| O1 <| Q0 (σ' := ⟨[(2, .nilS)], []⟩) (j1 rfl) trivial ?_
  refine Q5 ?_
  refine PT.nilArr 5 2 3 (Int) rfl (by kernel_rfl) ?_
  rw [hc1e] at hφ
  obtain ⟨_, hφ⟩ := G_some hφ
  obtain rfl := Option.some.inj hφ
  exact Q7 rfl (.tmp rfl .nil) rfl (j1 rfl) trivial
 ·skip
  refine Q0 (σ' := ⟨[(0, _)], []⟩) (j1 rfl) trivial ?_
  refine Q4 ?_
  refine Q2 ?_
  obtain ⟨hb2, hφ⟩ := G_some hφ
  refine Q1 ?_
  refine O3 rfl rfl (ox_buildSlice_arr (id := 5) s25 z3 Parts.nil rfl (by decide)) .nil .nil rfl (by kernel_rfl) <| O5 (ox0 .tmp) (.one rfl) .nil rfl ?_
  refine Ops.putK [5] rfl rfl (ox_append a25 .tmp .tmp hb2.1 hb2.2) (.app (.one rfl) (.one rfl)) (.one rfl) rfl (by kernel_rfl) ?_
  refine O5 (ox1 .tmp) (.one rfl) .nil rfl <| O1 <| Q0 (σ' := ⟨[(2, _)], [(5, .arr 3 (([] : List Int) ++ a0))]⟩) (j1 rfl) (j1 rfl) ?_
  refine Q5 ?_
  obtain rfl := Option.some.inj hφ
  exact Q7 rfl (.tmp rfl .nil) rfl (j1 rfl) trivial
theorem c_slices_Clone___api_Write_api_Write_ {a0 : List Mk.Write} {r : (List Mk.Write)} (hφ : slices_Clone___api_Write_api_Write_ a0 = some r) : Fn Go.Proofs.Try.prog 62 [.val a0] (.val r) := by
 unfold slices_Clone___api_Write_api_Write_ at hφ
 refine Fn.mk' Go.Proofs.Try.func62 rfl (by decide) rfl rfl rfl (fun w0 hw0 => ?_)
 refine Q2 (Q1 ?_)
 refine O5 (ox1 .nilS) .nil .nil rfl <| O1 <| Q0 (σ' := ⟨[(0, .val (a0))], []⟩) (j1 rfl) trivial ?_
 refine Q2 ?_
 refine Q2 (Q1 ?_)
 refine O5 (ox0 .tmp) (.one rfl) .nil rfl <| O5 (ox_isNil (by kernel_rfl) .tmp .nilS) (.app (.one rfl) .nil) .nil rfl <| O1 <| Q0 (σ' := ⟨[(0, _), (4, _)], []⟩) (j2 rfl rfl) trivial ?_
 refine PT.condB _ rfl (fun hc1 => ?_) (fun _ => ?_)
 ·have hc1e := hc1 rfl
  refine Q0 (σ' := ⟨[], []⟩) trivial trivial ?_
  refine Q2 (Q1 ?_)
  refine O5 (ox1 .nilS) .nil .nil rfl <| O1 <| Q0 (σ' := ⟨[(2, .nilS)], []⟩) (j1 rfl) trivial ?_
  refine Q5 ?_
  refine PT.asNil 2 (Mk.Write) rfl ?_
  rw [hc1e] at hφ
  obtain ⟨_, hφ⟩ := G_some hφ
  obtain rfl := Option.some.inj hφ
  exact Q6 hw0 rfl (.tmp rfl rfl .nil) rfl
 ·skip
  refine Q0 (σ' := ⟨[(0, _)], []⟩) (j1 rfl) trivial ?_
  refine Q4 ?_
  refine Q2 ?_
  obtain ⟨hb2, hφ⟩ := G_some hφ
  refine Q1 ?_
  refine O3 rfl rfl (ox_buildSlice_arr (id := 5) s26 z99 Parts.nil rfl (by decide)) .nil .nil rfl (by kernel_rfl) <| O5 (ox0 .tmp) (.one rfl) .nil rfl ?_
  refine Ops.putK [5] rfl rfl (ox_append a26 .tmp .tmp hb2.1 hb2.2) (.app (.one rfl) (.one rfl)) (.one rfl) rfl (by kernel_rfl) ?_
  refine O5 (ox1 .tmp) (.one rfl) .nil rfl <| O1 <| Q0 (σ' := ⟨[(2, _)], [(5, .arr 99 (([] : List Mk.Write) ++ a0))]⟩) (j1 rfl) (j1 rfl) ?_
  refine Q5 ?_
  refine PT.freeze 5 [2] rfl (j1 rfl) ?_
  obtain rfl := Option.some.inj hφ
  exact Q6 hw0 rfl (.tmp rfl rfl .nil) rfl
theorem c_cell_Set {a0 : List Int} {a1 : List Mk.Write} {r : (List Int)} (hφ : cell_Set a0 a1 = some r) : Fn Go.Proofs.Try.prog 94 [.val a0, .val a1] (.val r) := by
 unfold cell_Set at hφ
 refine Fn.mk' Go.Proofs.Try.func94 rfl (by decide) rfl rfl rfl (fun w0 hw0 => ?_)
 refine Q2 (Q1 ?_)
 refine O5 (ox1 .nilS) .nil .nil rfl <| O1 <| Q0 (σ' := ⟨[(0, .val (a0)), (1, .val (a1))], []⟩) (j2 rfl rfl) trivial ?_
 refine Q2 ?_
 obtain ⟨v1, hv1, hφ⟩ := B_some hφ
 refine Q1 ?_
 refine O5 (ox0 .tmp) (.one rfl) .nil rfl <| O3 rfl rfl (ox_callX (x_slices_Clone___int_int_ hv1) [] [(5, 9)] [(5, 9)] [] (.cons .tmp .nil) rfl rfl rfl rfl rfl rfl rfl rfl trivial rfl rfl rfl rfl) (.app (.one rfl) .nil) .nil rfl (by kernel_rfl) <| O5 (ox1 .tmp) (.one rfl) .nil rfl <| O1 <| Q0 (σ' := ⟨[(1, _), (5, _)], [(9, .arr 3 (v1))]⟩) (j2 rfl rfl) (j1 rfl) ?_
 obtain ⟨k2, hk2, hφ⟩ := J_some hφ
 refine PT.cut (ι := (List Int)) (fun p => ⟨[(5, .sl 9)], [(9, .arr 3 (p))]⟩) (fun p => k2 (p) = some r) ?_ ?_
 ·skip
  refine Q2 (Q1 ?_)
  refine O5 (ox0 .tmp) (.one rfl) .nil rfl <| O5 (ox_len s26 .tmp) (.one rfl) .nil rfl <| O5 (ox0 .int) .nil .nil rfl <| O1 <| Q0 (σ' := ⟨[(5, _), (10, .val (a1)), (11, .val (a1.length : Int)), (12, .val (0 : Int))], [(9, _)]⟩) (j4 rfl rfl rfl rfl) (j1 rfl) ?_
  refine PT.block ?_
  refine PT.loop (ι := Nat × (List Mk.Write) × Int × Int × (List Int)) (fun p => ⟨[(5, .sl 9), (10, .val (p.2.1)), (11, .val (p.2.2.1)), (12, .val (p.2.2.2.1))], [(9, .arr 3 (p.2.2.2.2))]⟩) (fun p => cell_Set_l1 k2 p.1 (p.2.1) (p.2.2.1) (p.2.2.2.1) (p.2.2.2.2) = some r) (fun p => p.1) (((a1.length : Int) - (0 : Int)).toNat + 1, a1, (a1.length : Int), (0 : Int), v1) hφ (j4 rfl rfl rfl rfl) (j1 rfl) ?_
  rintro ⟨m3, x10_m3, x11_m3, x12_m3, y9_m3⟩ (hφ : cell_Set_l1 k2 m3 x10_m3 x11_m3 x12_m3 y9_m3 = some r)
  obtain _ | m3 := m3
  ·exact (none_no hφ).elim
  rw [cell_Set_l1.eq_2] at hφ
  refine Q0 (σ' := ⟨[(5, .sl 9), (10, .val (x10_m3)), (11, .val (x11_m3)), (12, .val (x12_m3))], [(9, .arr 3 (y9_m3))]⟩) (j4 rfl rfl rfl rfl) (j1 rfl) ?_
  refine Q2 (Q1 ?_)
  refine O5 (ox_lss .tmp .tmp) (.app (.one rfl) (.one rfl)) .nil rfl <| O1 <| Q0 (σ' := ⟨[(5, _), (10, _), (11, _), (12, _), (13, .val (decide (x12_m3 < x11_m3)))], [(9, _)]⟩) (j5 rfl rfl rfl rfl rfl) (j1 rfl) ?_
  refine Q2 ?_
  refine Q3 _ rfl (fun hc4 => ?_) (fun hc4 => ?_)
  ·replace hφ := if_then hφ hc4
   refine Q0 (σ' := ⟨[(5, _), (10, _), (11, _), (12, _)], [(9, _)]⟩) (j4 rfl rfl rfl rfl) (j1 rfl) ?_
   refine Q4 ?_
   obtain ⟨k5, hk5, hφ⟩ := J_some hφ
   refine PT.cut (ι := (List Mk.Write) × Int × Int × (List Int)) (fun p => ⟨[(5, .sl 9), (10, .val (p.1)), (11, .val (p.2.1)), (12, .val (p.2.2.1))], [(9, .arr 3 (p.2.2.2))]⟩) (fun p => k5 (p.1) (p.2.1) (p.2.2.1) (p.2.2.2) = some r) ?_ ?_
   ·skip
    refine PT.block ?_
    refine Q2 ?_
    obtain ⟨hb6, hφ⟩ := G_some hφ
    refine Q1 ?_
    refine O5 (ox_ix s26 .tmp .tmp hb6.1 hb6.2) (.app (.one rfl) (.one rfl)) .nil rfl <| O5 (ox_load_elem t99) (.one rfl) .nil rfl <| O3 rfl rfl (ox_alloc (id := 7) z99) .nil .nil rfl (by kernel_rfl) <| O2 rfl rfl (ox5 t99 .tmp) (.cons rfl (.one rfl)) (.one rfl) <| O1 <| Q0 (σ' := ⟨[(5, _), (7, _), (10, _), (11, _), (12, _)], [(7, .var (ix x10_m3 x12_m3) []), (9, _)]⟩) (j5 rfl rfl rfl rfl rfl) (j2 rfl rfl) ?_
    refine Q2 (Q1 ?_)
    refine O5 (ox3 Write_At f99_0) (.one rfl) .nil rfl <| O5 (ox2 t3) (.one rfl) (.one rfl) rfl <| O5 (ox_geq .tmp .int) (.app (.one rfl) .nil) .nil rfl <| O5 (ox0 .tmp) (.one rfl) .nil rfl <| O4 rfl rfl rfl rfl (.plain .nil) (fun hG => (ox3 Write_At f99_0)) (j1 rfl) .nil rfl <| O4 rfl rfl rfl rfl (.cond (fun h => h) .nil) (fun hG => (ox2 t3)) (j1 rfl) (.one rfl) rfl ?_
    refine O4 rfl rfl rfl rfl (.plain .nil) (fun hG => (ox0 .tmp)) (j1 rfl) .nil rfl <| O4 rfl rfl rfl rfl (.cond (fun h => h) .nil) (fun hG => (ox_len_arr s25 .tmp)) (j1 rfl) (.one rfl) rfl <| O4 rfl rfl rfl rfl (.cond (fun h => h) (.cond (fun h => h) .nil)) (fun hG => (ox_lss .tmp .tmp)) (j2 rfl rfl) .nil rfl <| O5 ox8 (j2 rfl rfl) .nil rfl <| O1 <| Q0 (σ' := ⟨[(5, _), (7, _), (10, _), (11, _), (12, _), (25, .val ((decide ((0 : Int) ≤ (ix x10_m3 x12_m3).At)) && (decide ((ix x10_m3 x12_m3).At < (y9_m3.length : Int)))))], [(7, _), (9, _)]⟩) (j6 rfl rfl rfl rfl rfl rfl) (j2 rfl rfl) ?_
    refine Q3 _ rfl (fun hc7 => ?_) (fun hc7 => ?_)
    ·replace hφ := if_then hφ hc7
     refine Q0 (σ' := ⟨[(5, _), (7, _), (10, _), (11, _), (12, _)], [(7, _), (9, _)]⟩) (j5 rfl rfl rfl rfl rfl) (j2 rfl rfl) ?_
     obtain ⟨hb8, hφ⟩ := G_some hφ
     refine Q1 ?_
     refine O5 (ox0 .tmp) (.one rfl) .nil rfl <| O5 (ox3 Write_At f99_0) (.one rfl) .nil rfl <| O5 (ox2 t3) (.one rfl) (.one rfl) rfl <| O5 (ox3 Write_N f99_1) (.one rfl) .nil rfl <| O5 (ox2 t3) (.one rfl) (.one rfl) rfl <| O5 (ox_index_arr s25 .tmp .tmp hb8.1 hb8.2) (.app (.one rfl) (.one rfl)) (.one rfl) rfl ?_
     refine O2 rfl rfl (ox_store_ax t3 .tmp hb8) (.cons rfl (.one rfl)) (.one rfl) <| O1 <| Q0 (σ' := ⟨[(5, _), (10, _), (11, _), (12, _)], [(9, .arr 3 (up y9_m3 (ix x10_m3 x12_m3).At (ix x10_m3 x12_m3).N))]⟩) (j4 rfl rfl rfl rfl) (j1 rfl) ?_
     exact PT.meet (x10_m3, x11_m3, x12_m3, (up y9_m3 (ix x10_m3 x12_m3).At (ix x10_m3 x12_m3).N)) hφ (j4 rfl rfl rfl rfl) (j1 rfl)
    ·replace hφ := if_else hφ hc7
     refine Q0 (σ' := ⟨[(5, _), (10, _), (11, _), (12, _)], [(9, _)]⟩) (j4 rfl rfl rfl rfl) (j1 rfl) ?_
     refine Q4 ?_
     exact PT.meet (x10_m3, x11_m3, x12_m3, y9_m3) hφ (j4 rfl rfl rfl rfl) (j1 rfl)
   ·rintro ⟨x10_k5, x11_k5, x12_k5, y9_k5⟩ hφ
    subst hk5
    refine Q0 (σ' := ⟨[(5, _), (10, .val (x10_k5)), (11, .val (x11_k5)), (12, .val (x12_k5))], [(9, .arr 3 (y9_k5))]⟩) (j4 rfl rfl rfl rfl) (j1 rfl) ?_
    obtain ⟨hb9, hφ⟩ := G_some hφ
    refine Q1 ?_
    refine O5 (ox_add .tmp .int hb9) (.app (.one rfl) .nil) .nil rfl <| O5 (ox0 .tmp) (.one rfl) .nil rfl <| O1 <| Q0 (σ' := ⟨[(5, _), (10, _), (11, _), (12, .val (x12_k5 + (1 : Int)))], [(9, _)]⟩) (j4 rfl rfl rfl rfl) (j1 rfl) ?_
    exact PT.next (m3, x10_k5, x11_k5, (x12_k5 + (1 : Int)), y9_k5) hφ (Nat.lt_succ_self _) (j4 rfl rfl rfl rfl) (j1 rfl)
  ·replace hφ := if_else hφ hc4
   refine Q0 (σ' := ⟨[(5, _)], [(9, _)]⟩) (j1 rfl) (j1 rfl) ?_
   refine PT.exit ?_
   exact PT.meet (y9_m3) hφ (j1 rfl) (j1 rfl)
 ·rintro y9_k2 hφ
  subst hk2
  refine Q0 (σ' := ⟨[(5, .sl 9)], [(9, .arr 3 (y9_k2))]⟩) (j1 rfl) (j1 rfl) ?_
  refine Q2 (Q1 ?_)
  refine O5 (ox0 .tmp) (.one rfl) .nil rfl <| O5 (ox1 .tmp) (.one rfl) .nil rfl <| O1 <| Q0 (σ' := ⟨[(4, _)], [(9, _)]⟩) (j1 rfl) (j1 rfl) ?_
  refine Q5 ?_
  refine PT.freeze 9 [4] rfl (j1 rfl) ?_
  obtain rfl := Option.some.inj hφ
  exact Q6 hw0 rfl (.tmp rfl rfl .nil) rfl
theorem x_slices_Reverse___api_Write_api_Write_ {a0 : List Mk.Write} {r : (List Mk.Write)} (hφ : slices_Reverse___api_Write_api_Write_ a0 = some r) : FnX Go.Proofs.Try.prog 121 [.sl 600] [(600, .arr 99 (a0))] (.tup []) [(600, .arr 99 r)] [600] := by
 unfold slices_Reverse___api_Write_api_Write_ at hφ
 refine FnX.mk' Go.Proofs.Try.func121 rfl (by decide) rfl (fun w0 m0 => ?_)
 refine Q2 ?_
 obtain ⟨hb1, hφ⟩ := G_some hφ
 refine Q1 ?_
 refine O5 (ox0 .tmp) (.one rfl) .nil rfl <| O5 (ox_len_arr s26 .tmp) (.one rfl) (.one rfl) rfl <| O5 (ox_sub .tmp .int hb1) (.app (.one rfl) .nil) .nil rfl <| O5 (ox1 .int) .nil .nil rfl <| O5 (ox1 .tmp) (.one rfl) .nil rfl <| O1 <| Q0 (σ' := ⟨[(0, _), (2, .val (0 : Int)), (3, .val ((a0.length : Int) - (1 : Int)))], [(600, .arr 99 (a0)), (1500, .pin 600 (m0.blk 600) (m0.sv 600))]⟩) (j3 rfl rfl rfl) (j2 rfl rfl) ?_
 refine PT.block ?_
 refine PT.loop (ι := Nat × Int × Int × (List Mk.Write)) (fun p => ⟨[(0, .sl 600), (2, .val (p.2.1)), (3, .val (p.2.2.1))], [(600, .arr 99 (p.2.2.2)), (1500, .pin 600 (m0.blk 600) (m0.sv 600))]⟩) (fun p => slices_Reverse___api_Write_api_Write__l1  p.1 (p.2.1) (p.2.2.1) (p.2.2.2) = some r) (fun p => p.1) ((((a0.length : Int) - (1 : Int)) - (0 : Int)).toNat + 1, (0 : Int), ((a0.length : Int) - (1 : Int)), a0) hφ (j3 rfl rfl rfl) (j2 rfl rfl) ?_
 rintro ⟨m2, x2_m2, x3_m2, y600_m2⟩ (hφ : slices_Reverse___api_Write_api_Write__l1  m2 x2_m2 x3_m2 y600_m2 = some r)
 obtain _ | m2 := m2
 ·exact (none_no hφ).elim
 rw [slices_Reverse___api_Write_api_Write__l1.eq_2] at hφ
 refine Q0 (σ' := ⟨[(0, .sl 600), (2, .val (x2_m2)), (3, .val (x3_m2))], [(600, .arr 99 (y600_m2)), (1500, _)]⟩) (j3 rfl rfl rfl) (j2 rfl rfl) ?_
 refine Q2 ?_
 refine Q2 (Q1 ?_)
 refine O5 (ox0 .tmp) (.one rfl) .nil rfl <| O5 (ox0 .tmp) (.one rfl) .nil rfl <| O5 (ox_lss .tmp .tmp) (.app (.one rfl) (.one rfl)) .nil rfl <| O1 <| Q0 (σ' := ⟨[(0, _), (2, _), (3, _), (9, .val (decide (x2_m2 < x3_m2)))], [(600, _), (1500, _)]⟩) (j4 rfl rfl rfl rfl) (j2 rfl rfl) ?_
 refine Q3 _ rfl (fun hc3 => ?_) (fun hc3 => ?_)
 ·replace hφ := if_then hφ hc3
  refine Q0 (σ' := ⟨[(0, _), (2, _), (3, _)], [(600, _), (1500, _)]⟩) (j3 rfl rfl rfl) (j2 rfl rfl) ?_
  refine Q4 ?_
  refine Q2 ?_
  refine PT.block ?_
  obtain ⟨hb4, hφ⟩ := G_some hφ
  obtain ⟨hb5, hφ⟩ := G_some hφ
  obtain ⟨hb6, hφ⟩ := G_some hφ
  obtain ⟨hb7, hφ⟩ := G_some hφ
  refine Q8 hMixed (
    .cons (S5 (ox0 .tmp)) ⟨.one rfl, .nil⟩ (by kernel_rfl) rfl <|
    .cons (S5 (ox0 .tmp)) ⟨.one rfl, .nil⟩ (by kernel_rfl) rfl <|
    .cons (S5 (ox0 .tmp)) ⟨.one rfl, .nil⟩ (by kernel_rfl) rfl <|
    .cons (S5 (ox0 .tmp)) ⟨.one rfl, .nil⟩ (by kernel_rfl) rfl <|
    .cons (S5 (ox0 .tmp)) ⟨.one rfl, .nil⟩ (by kernel_rfl) rfl <|
    .cons (S5 (ox0 .tmp)) ⟨.one rfl, .nil⟩ (by kernel_rfl) rfl <|
    .cons (S5 (ox_index_arr s26 .tmp .tmp hb4.1 hb4.2)) ⟨(.app (.one rfl) (.one rfl)), .one rfl⟩ (by kernel_rfl) rfl <|
    .cons (S5 (ox_load_ax t99 hb4)) ⟨.one rfl, .one rfl⟩ (by kernel_rfl) rfl <|
    .cons (S5 (ox0 .tmp)) ⟨.one rfl, .nil⟩ (by kernel_rfl) rfl <|
    .cons (S5 (ox0 .tmp)) ⟨.one rfl, .nil⟩ (by kernel_rfl) rfl <|
    .cons (S5 (ox_index_arr s26 .tmp .tmp hb5.1 hb5.2)) ⟨(.app (.one rfl) (.one rfl)), .one rfl⟩ (by kernel_rfl) rfl <|
    .cons (S5 (ox_load_ax t99 hb5)) ⟨.one rfl, .one rfl⟩ (by kernel_rfl) rfl <|
    .cons (S5 (ox_index_arr s26 .tmp .tmp hb6.1 hb6.2)) ⟨(.app (.one rfl) (.one rfl)), .one rfl⟩ (by kernel_rfl) rfl <|
    .cons (S4 rfl rfl (ox_store_ax t99 .tmp hb6)) ⟨(.cons rfl (.one rfl)), .one rfl⟩ (by kernel_rfl) rfl <|
    .cons (S5 (ox_index_arr s26 .tmp .tmp hb7.1 hb7.2)) ⟨(.app (.one rfl) (.one rfl)), .one rfl⟩ (by kernel_rfl) rfl <|
    .cons (S4 rfl rfl (ox_store_ax t99 .tmp hb7)) ⟨(.cons rfl (.one rfl)), .one rfl⟩ (by kernel_rfl) rfl <|
    .nil) _ [[], [], [], [], [], [], [4, 5], [4, 5, 6], [], [], [8, 9], [8, 9, 10], [0, 1, 4, 5, 6, 7, 8, 9, 10, 11], [0, 1, 4, 5, 6, 7, 8, 9, 10, 11, 12], [0, 1, 2, 3, 4, 5, 6, 7, 8, 9, 10, 11, 12, 13], [0, 1, 2, 3, 4, 5, 6, 7, 8, 9, 10, 11, 12, 13, 14]] rfl (by kernel_rfl) (by kernel_rfl) ?_
  refine Q0 (σ' := ⟨[(0, _), (2, _), (3, _)], [(600, .arr 99 (up (up y600_m2 x2_m2 (ix y600_m2 x3_m2)) x3_m2 (ix y600_m2 x2_m2))), (1500, _)]⟩) (j3 rfl rfl rfl) (j2 rfl rfl) ?_
  obtain ⟨hb8, hφ⟩ := G_some hφ
  obtain ⟨hb9, hφ⟩ := G_some hφ
  refine Q1 ?_
  refine O5 (ox0 .tmp) (.one rfl) .nil rfl <| O5 (ox_add .tmp .int hb8) (.app (.one rfl) .nil) .nil rfl <| O5 (ox0 .tmp) (.one rfl) .nil rfl <| O5 (ox_sub .tmp .int hb9) (.app (.one rfl) .nil) .nil rfl <| O5 (ox1 .tmp) (.one rfl) .nil rfl <| O5 (ox1 .tmp) (.one rfl) .nil rfl <| O1 <| Q0 (σ' := ⟨[(0, _), (2, .val (x2_m2 + (1 : Int))), (3, .val (x3_m2 - (1 : Int)))], [(600, _), (1500, _)]⟩) (j3 rfl rfl rfl) (j2 rfl rfl) ?_
  exact PT.next (m2, (x2_m2 + (1 : Int)), (x3_m2 - (1 : Int)), (up (up y600_m2 x2_m2 (ix y600_m2 x3_m2)) x3_m2 (ix y600_m2 x2_m2))) hφ (Nat.lt_succ_self _) (j3 rfl rfl rfl) (j2 rfl rfl)
 ·replace hφ := if_else hφ hc3
  refine Q0 (σ' := ⟨[], [(600, _), (1500, _)]⟩) trivial (j2 rfl rfl) ?_
  refine PT.exit ?_
  obtain rfl := Option.some.inj hφ
  exact Q7 rfl .nil rfl (j1 rfl) (j1 rfl)
theorem x_cell_Undo {a0 : List Int} {a1 : List Mk.Write} {r : (List Mk.Write)} (hφ : cell_Undo a0 a1 = some r) : FnX Go.Proofs.Try.prog 102 [.val a0, .val a1] [] (.sl 1006) [(1006, .arr 99 r)] [] := by
 unfold cell_Undo at hφ
 refine FnX.mk' Go.Proofs.Try.func102 rfl (by decide) rfl (fun w0 m0 => ?_)
 refine Q2 (Q1 ?_)
 refine O5 (ox1 .nilS) .nil .nil rfl <| O1 <| Q0 (σ' := ⟨[(0, .val (a0)), (1, .val (a1))], []⟩) (j2 rfl rfl) trivial ?_
 refine Q2 ?_
 obtain ⟨v1, hv1, hφ⟩ := B_some hφ
 refine Q1 ?_
 refine O5 (ox0 .tmp) (.one rfl) .nil rfl <| O3 rfl rfl (ox_callX (x_slices_Clone___int_int_ hv1) [] [(5, 10)] [(5, 10)] [] (.cons .tmp .nil) rfl rfl rfl rfl rfl rfl rfl rfl trivial rfl rfl rfl rfl) (.app (.one rfl) .nil) .nil rfl (by kernel_rfl) <| O5 (ox1 .tmp) (.one rfl) .nil rfl <| O1 <| Q0 (σ' := ⟨[(1, _), (5, _)], [(10, .arr 3 (v1))]⟩) (j2 rfl rfl) (j1 rfl) ?_
 refine Q2 (Q1 ?_)
 refine O5 (ox1 .nilS) .nil .nil rfl <| O1 <| Q0 (σ' := ⟨[(1, _), (5, _), (6, .nilS)], [(10, _)]⟩) (j3 rfl rfl rfl) (j1 rfl) ?_
 obtain ⟨k2, hk2, hφ⟩ := J_some hφ
 refine PT.cut (ι := (List Mk.Write)) (fun p => ⟨[(6, .sl 1006)], [(1006, .arr 99 (p))]⟩) (fun p => k2 (p) = some r) ?_ ?_
 ·skip
  refine Q2 (Q1 ?_)
  refine O5 (ox0 .tmp) (.one rfl) .nil rfl <| O5 (ox_len s26 .tmp) (.one rfl) .nil rfl <| O5 (ox0 .int) .nil .nil rfl <| O1 <| Q0 (σ' := ⟨[(5, _), (6, _), (11, .val (a1)), (12, .val (a1.length : Int)), (13, .val (0 : Int))], [(10, _)]⟩) (j5 rfl rfl rfl rfl rfl) (j1 rfl) ?_
  refine PT.block ?_
  refine PT.nilArr 1006 6 99 (Mk.Write) rfl (by kernel_rfl) ?_
  refine PT.loop (ι := Nat × (List Mk.Write) × Int × Int × (List Int) × (List Mk.Write)) (fun p => ⟨[(5, .sl 10), (6, .sl 1006), (11, .val (p.2.1)), (12, .val (p.2.2.1)), (13, .val (p.2.2.2.1))], [(10, .arr 3 (p.2.2.2.2.1)), (1006, .arr 99 (p.2.2.2.2.2))]⟩) (fun p => cell_Undo_l1 k2 p.1 (p.2.1) (p.2.2.1) (p.2.2.2.1) (p.2.2.2.2.1) (p.2.2.2.2.2) = some r) (fun p => p.1) (((a1.length : Int) - (0 : Int)).toNat + 1, a1, (a1.length : Int), (0 : Int), v1, ([] : List Mk.Write)) hφ (j5 rfl rfl rfl rfl rfl) (j2 rfl rfl) ?_
  rintro ⟨m3, x11_m3, x12_m3, x13_m3, y10_m3, y1006_m3⟩ (hφ : cell_Undo_l1 k2 m3 x11_m3 x12_m3 x13_m3 y10_m3 y1006_m3 = some r)
  obtain _ | m3 := m3
  ·exact (none_no hφ).elim
  rw [cell_Undo_l1.eq_2] at hφ
  refine Q0 (σ' := ⟨[(5, .sl 10), (6, .sl 1006), (11, .val (x11_m3)), (12, .val (x12_m3)), (13, .val (x13_m3))], [(10, .arr 3 (y10_m3)), (1006, .arr 99 (y1006_m3))]⟩) (j5 rfl rfl rfl rfl rfl) (j2 rfl rfl) ?_
  refine Q2 (Q1 ?_)
  refine O5 (ox_lss .tmp .tmp) (.app (.one rfl) (.one rfl)) .nil rfl <| O1 <| Q0 (σ' := ⟨[(5, _), (6, _), (11, _), (12, _), (13, _), (14, .val (decide (x13_m3 < x12_m3)))], [(10, _), (1006, _)]⟩) (j6 rfl rfl rfl rfl rfl rfl) (j2 rfl rfl) ?_
  refine Q2 ?_
  refine Q3 _ rfl (fun hc4 => ?_) (fun hc4 => ?_)
  ·replace hφ := if_then hφ hc4
   refine Q0 (σ' := ⟨[(5, _), (6, _), (11, _), (12, _), (13, _)], [(10, _), (1006, _)]⟩) (j5 rfl rfl rfl rfl rfl) (j2 rfl rfl) ?_
   refine Q4 ?_
   obtain ⟨k5, hk5, hφ⟩ := J_some hφ
   refine PT.cut (ι := (List Mk.Write) × Int × Int × (List Int) × (List Mk.Write)) (fun p => ⟨[(5, .sl 10), (6, .sl 1006), (11, .val (p.1)), (12, .val (p.2.1)), (13, .val (p.2.2.1))], [(10, .arr 3 (p.2.2.2.1)), (1006, .arr 99 (p.2.2.2.2))]⟩) (fun p => k5 (p.1) (p.2.1) (p.2.2.1) (p.2.2.2.1) (p.2.2.2.2) = some r) ?_ ?_
   ·skip
    refine PT.block ?_
    refine Q2 ?_
    obtain ⟨hb6, hφ⟩ := G_some hφ
    refine Q1 ?_
    refine O5 (ox_ix s26 .tmp .tmp hb6.1 hb6.2) (.app (.one rfl) (.one rfl)) .nil rfl <| O5 (ox_load_elem t99) (.one rfl) .nil rfl <| O3 rfl rfl (ox_alloc (id := 8) z99) .nil .nil rfl (by kernel_rfl) <| O2 rfl rfl (ox5 t99 .tmp) (.cons rfl (.one rfl)) (.one rfl) <| O1 <| Q0 (σ' := ⟨[(5, _), (6, _), (8, _), (11, _), (12, _), (13, _)], [(8, .var (ix x11_m3 x13_m3) []), (10, _), (1006, _)]⟩) (j6 rfl rfl rfl rfl rfl rfl) (j3 rfl rfl rfl) ?_
    refine Q2 ?_
    refine Q2 (Q1 ?_)
    refine O5 (ox3 Write_At f99_0) (.one rfl) .nil rfl <| O5 (ox2 t3) (.one rfl) (.one rfl) rfl <| O5 (ox_lss .tmp .int) (.app (.one rfl) .nil) .nil rfl <| O5 (ox0 .tmp) (.one rfl) .nil rfl <| O4 rfl rfl rfl rfl (.plain .nil) (fun hG => (ox3 Write_At f99_0)) (j1 rfl) .nil rfl <| O4 rfl rfl rfl rfl (.cond (fun h => h) .nil) (fun hG => (ox2 t3)) (j1 rfl) (.one rfl) rfl ?_
    refine O4 rfl rfl rfl rfl (.plain .nil) (fun hG => (ox0 .tmp)) (j1 rfl) .nil rfl <| O4 rfl rfl rfl rfl (.cond (fun h => h) .nil) (fun hG => (ox_len_arr s25 .tmp)) (j1 rfl) (.one rfl) rfl <| O4 rfl rfl rfl rfl (.cond (fun h => h) (.cond (fun h => h) .nil)) (fun hG => (ox_geq .tmp .tmp)) (j2 rfl rfl) .nil rfl <| O5 ox9 (j2 rfl rfl) .nil rfl <| O1 <| Q0 (σ' := ⟨[(5, _), (6, _), (8, _), (11, _), (12, _), (13, _), (26, .val ((decide ((ix x11_m3 x13_m3).At < (0 : Int))) || (decide ((y10_m3.length : Int) ≤ (ix x11_m3 x13_m3).At))))], [(8, _), (10, _), (1006, _)]⟩) (j7 rfl rfl rfl rfl rfl rfl rfl) (j3 rfl rfl rfl) ?_
    refine Q3 _ rfl (fun hc7 => ?_) (fun hc7 => ?_)
    ·replace hφ := if_then hφ hc7
     refine Q0 (σ' := ⟨[(5, _), (6, _), (11, _), (12, _), (13, _)], [(10, _), (1006, _)]⟩) (j5 rfl rfl rfl rfl rfl) (j2 rfl rfl) ?_
     refine PT.exit ?_
     exact PT.meet (x11_m3, x12_m3, x13_m3, y10_m3, y1006_m3) hφ (j5 rfl rfl rfl rfl rfl) (j2 rfl rfl)
    ·replace hφ := if_else hφ hc7
     refine Q0 (σ' := ⟨[(5, _), (6, _), (8, _), (11, _), (12, _), (13, _)], [(8, _), (10, _), (1006, _)]⟩) (j6 rfl rfl rfl rfl rfl rfl) (j3 rfl rfl rfl) ?_
     refine Q4 ?_
     refine Q2 ?_
     obtain ⟨hb8, hφ⟩ := G_some hφ
     obtain ⟨hb9, hφ⟩ := G_some hφ
     refine Q8 hMixed (
       .cons (S5 (ox0 .tmp)) ⟨.one rfl, .nil⟩ (by kernel_rfl) rfl <|
       .cons (S5 (ox3 Write_At f99_0)) ⟨.one rfl, .nil⟩ (by kernel_rfl) rfl <|
       .cons (S5 (ox2 t3)) ⟨.one rfl, .one rfl⟩ (by kernel_rfl) rfl <|
       .cons (S5 (ox0 .tmp)) ⟨.one rfl, .nil⟩ (by kernel_rfl) rfl <|
       .cons (S5 (ox3 Write_At f99_0)) ⟨.one rfl, .nil⟩ (by kernel_rfl) rfl <|
       .cons (S5 (ox2 t3)) ⟨.one rfl, .one rfl⟩ (by kernel_rfl) rfl <|
       .cons (S5 (ox_index_arr s25 .tmp .tmp hb8.1 hb8.2)) ⟨(.app (.one rfl) (.one rfl)), .one rfl⟩ (by kernel_rfl) rfl <|
       .cons (S5 (ox_load_ax t3 hb8)) ⟨.one rfl, .one rfl⟩ (by kernel_rfl) rfl <|
       .cons (S5 (oxa z99 u99 rfl (.cons Write_At f99_0 .tmp (.cons Write_N f99_1 .tmp Bld.nil)))) ⟨(.app (.one rfl) (.app (.one rfl) .nil)), .nil⟩ (by kernel_rfl) rfl <|
       .cons (S5 (ox_buildSlice_val s26 z99 (.cons .tmp Parts.nil) rfl (by decide))) ⟨(.app (.one rfl) .nil), .nil⟩ (by kernel_rfl) rfl <|
       .cons (Step.putK [6, 27] rfl rfl (ox_append a26 .tmp .tmp hb9.1 hb9.2)) ⟨(.app (.one rfl) (.one rfl)), .one rfl⟩ (by kernel_rfl) rfl <|
       .cons (S5 (ox1 .tmp)) ⟨.one rfl, .nil⟩ (by kernel_rfl) rfl <|
       .nil) _ [[], [], [1], [], [], [4], [3, 4, 5], [3, 4, 5, 6], [1, 2, 3, 4, 5, 6, 7], [1, 2, 3, 4, 5, 6, 7, 8], [0, 1, 2, 3, 4, 5, 6, 7, 8, 9], [0, 1, 2, 3, 4, 5, 6, 7, 8, 9, 10]] rfl (by kernel_rfl) (by kernel_rfl) ?_
     refine Q0 (σ' := ⟨[(5, _), (6, _), (8, _), (11, _), (12, _), (13, _)], [(8, _), (10, _), (1006, .arr 99 ((y1006_m3 ++ ([({ At := (ix x11_m3 x13_m3).At, N := (ix y10_m3 (ix x11_m3 x13_m3).At) } : Mk.Write)] : List Mk.Write))))]⟩) (j6 rfl rfl rfl rfl rfl rfl) (j3 rfl rfl rfl) ?_
     obtain ⟨hb10, hφ⟩ := G_some hφ
     refine Q1 ?_
     refine O5 (ox0 .tmp) (.one rfl) .nil rfl <| O5 (ox3 Write_At f99_0) (.one rfl) .nil rfl <| O5 (ox2 t3) (.one rfl) (.one rfl) rfl <| O5 (ox3 Write_N f99_1) (.one rfl) .nil rfl <| O5 (ox2 t3) (.one rfl) (.one rfl) rfl <| O5 (ox_index_arr s25 .tmp .tmp hb10.1 hb10.2) (.app (.one rfl) (.one rfl)) (.one rfl) rfl ?_
     refine O2 rfl rfl (ox_store_ax t3 .tmp hb10) (.cons rfl (.one rfl)) (.one rfl) <| O1 <| Q0 (σ' := ⟨[(5, _), (6, _), (11, _), (12, _), (13, _)], [(10, .arr 3 (up y10_m3 (ix x11_m3 x13_m3).At (ix x11_m3 x13_m3).N)), (1006, _)]⟩) (j5 rfl rfl rfl rfl rfl) (j2 rfl rfl) ?_
     exact PT.meet (x11_m3, x12_m3, x13_m3, (up y10_m3 (ix x11_m3 x13_m3).At (ix x11_m3 x13_m3).N), (y1006_m3 ++ ([({ At := (ix x11_m3 x13_m3).At, N := (ix y10_m3 (ix x11_m3 x13_m3).At) } : Mk.Write)] : List Mk.Write))) hφ (j5 rfl rfl rfl rfl rfl) (j2 rfl rfl)
   ·rintro ⟨x11_k5, x12_k5, x13_k5, y10_k5, y1006_k5⟩ hφ
    subst hk5
    refine Q0 (σ' := ⟨[(5, _), (6, _), (11, .val (x11_k5)), (12, .val (x12_k5)), (13, .val (x13_k5))], [(10, .arr 3 (y10_k5)), (1006, .arr 99 (y1006_k5))]⟩) (j5 rfl rfl rfl rfl rfl) (j2 rfl rfl) ?_
    obtain ⟨hb11, hφ⟩ := G_some hφ
    refine Q1 ?_
    refine O5 (ox_add .tmp .int hb11) (.app (.one rfl) .nil) .nil rfl <| O5 (ox0 .tmp) (.one rfl) .nil rfl <| O1 <| Q0 (σ' := ⟨[(5, _), (6, _), (11, _), (12, _), (13, .val (x13_k5 + (1 : Int)))], [(10, _), (1006, _)]⟩) (j5 rfl rfl rfl rfl rfl) (j2 rfl rfl) ?_
    exact PT.next (m3, x11_k5, x12_k5, (x13_k5 + (1 : Int)), y10_k5, y1006_k5) hφ (Nat.lt_succ_self _) (j5 rfl rfl rfl rfl rfl) (j2 rfl rfl)
  ·replace hφ := if_else hφ hc4
   refine Q0 (σ' := ⟨[(6, _)], [(1006, _)]⟩) (j1 rfl) (j1 rfl) ?_
   refine PT.exit ?_
   exact PT.meet (y1006_m3) hφ (j1 rfl) (j1 rfl)
 ·rintro y1006_k2 hφ
  subst hk2
  refine Q0 (σ' := ⟨[(6, .sl 1006)], [(1006, .arr 99 (y1006_k2))]⟩) (j1 rfl) (j1 rfl) ?_
  refine Q2 ?_
  obtain ⟨v12, hv12, hφ⟩ := B_some hφ
  refine Q1 ?_
  refine O5 (ox0 .tmp) (.one rfl) .nil rfl <| O3 rfl rfl (ox_callX (x_slices_Reverse___api_Write_api_Write_ hv12) [(600, 1006)] [(600, 1006)] [] [] (.cons .tmp .nil) rfl rfl rfl rfl rfl rfl rfl rfl (j1 rfl) rfl rfl rfl rfl) (.app (.one rfl) .nil) (.cons rfl .nil) rfl (by kernel_rfl) <| O1 <| Q0 (σ' := ⟨[(6, _)], [(1006, .arr 99 (v12))]⟩) (j1 rfl) (j1 rfl) ?_
  refine Q2 (Q1 ?_)
  refine O5 (ox0 .tmp) (.one rfl) .nil rfl <| O5 (ox1 .tmp) (.one rfl) .nil rfl <| O1 <| Q0 (σ' := ⟨[(4, _)], [(1006, _)]⟩) (j1 rfl) (j1 rfl) ?_
  refine Q5 ?_
  obtain rfl := Option.some.inj hφ
  exact Q7 rfl (.tmp rfl .nil) rfl (j1 rfl) trivial
end Go.Gx
end
section
namespace Go.Gx
open Sp
theorem c_wire_who {a0 : Int} {a1 : Int} {r : Int} (hφ : wire_who a0 a1 = some r) : Fn Go.Proofs.Try.prog 131 [.val a0, .val a1] (.val r) := by
 unfold wire_who at hφ
 refine Fn.mk' Go.Proofs.Try.func131 rfl (by decide) rfl rfl rfl (fun w0 hw0 => ?_)
 refine Q2 (Q1 ?_)
 refine O5 (ox1 .int) .nil .nil rfl <| O1 <| Q0 (σ' := ⟨[(0, .val (a0)), (1, .val (a1))], []⟩) (j2 rfl rfl) trivial ?_
 refine Q2 ?_
 refine Q2 (Q1 ?_)
 refine O5 (ox0 .tmp) (.one rfl) .nil rfl <| O5 (ox_lss .tmp .int) (.app (.one rfl) .nil) .nil rfl <| O5 (ox0 .tmp) (.one rfl) .nil rfl <| O4 rfl rfl rfl rfl (.plain .nil) (fun hG => (ox0 .tmp)) (j1 rfl) .nil rfl <| O4 rfl rfl rfl rfl (.cond (fun h => h) .nil) (fun hG => (ox_geq .tmp .int)) (j1 rfl) .nil rfl <| O5 ox9 (j2 rfl rfl) .nil rfl ?_
 refine O5 (ox0 .tmp) (.one rfl) .nil rfl <| O4 rfl rfl rfl rfl (.plain .nil) (fun hG => (ox0 .tmp)) (j1 rfl) .nil rfl <| O4 rfl rfl rfl rfl (.cond (fun h => h) .nil) (fun hG => (ox_lss .tmp .int)) (j1 rfl) .nil rfl <| O5 ox9 (j2 rfl rfl) .nil rfl <| O5 (ox0 .tmp) (.one rfl) .nil rfl <| O4 rfl rfl rfl rfl (.plain .nil) (fun hG => (ox0 .tmp)) (j1 rfl) .nil rfl ?_
 refine O4 rfl rfl rfl rfl (.cond (fun h => h) .nil) (fun hG => (ox_geq .tmp .int)) (j1 rfl) .nil rfl <| O5 ox9 (j2 rfl rfl) .nil rfl <| O1 <| Q0 (σ' := ⟨[(18, .val (((((decide (a0 < (0 : Int))) || (decide ((3 : Int) ≤ a0))) || (decide (a1 < (0 : Int)))) || (decide ((8 : Int) ≤ a1)))))], []⟩) (j1 rfl) trivial ?_
 refine Q3 _ rfl (fun hc1 => ?_) (fun hc1 => ?_)
 ·replace hφ := if_then hφ hc1
  refine Q0 (σ' := ⟨[], []⟩) trivial trivial ?_
  refine Q2 (Q1 ?_)
  refine O5 (ox1 .int) .nil .nil rfl <| O1 <| Q0 (σ' := ⟨[(4, .val (3 : Int))], []⟩) (j1 rfl) trivial ?_
  refine Q5 ?_
  obtain rfl := Option.some.inj hφ
  exact Q6 hw0 rfl (.tmp rfl rfl .nil) rfl
 ·replace hφ := if_else hφ hc1
  refine Q0 (σ' := ⟨[], []⟩) trivial trivial ?_
  refine Q4 ?_
  refine Q2 (Q1 ?_)
  refine O5 (ox1 .int) .nil .nil rfl <| O1 <| Q0 (σ' := ⟨[(4, .val (0 : Int))], []⟩) (j1 rfl) trivial ?_
  refine Q5 ?_
  obtain rfl := Option.some.inj hφ
  exact Q6 hw0 rfl (.tmp rfl rfl .nil) rfl
theorem c_model_Wrong_1 {a0 : Int} {r : Bool} (hφ : model_Wrong_1 a0 = some r) : Fn Go.Proofs.Try.prog 107 [.val a0] (.val r) := by
 unfold model_Wrong_1 at hφ
 refine Fn.mk' Go.Proofs.Try.func107 rfl (by decide) rfl rfl rfl (fun w0 hw0 => ?_)
 refine Q2 (Q1 ?_)
 refine O5 (ox1 .bool) .nil .nil rfl <| O1 <| Q0 (σ' := ⟨[(0, .val (a0))], []⟩) (j1 rfl) trivial ?_
 refine Q2 (Q1 ?_)
 refine O5 (ox0 .tmp) (.one rfl) .nil rfl <| O5 (ox_geq .tmp .int) (.app (.one rfl) .nil) .nil rfl <| O5 (ox0 .tmp) (.one rfl) .nil rfl <| O4 rfl rfl rfl rfl (.plain .nil) (fun hG => (ox0 .tmp)) (j1 rfl) .nil rfl <| O4 rfl rfl rfl rfl (.cond (fun h => h) .nil) (fun hG => (ox_leq .tmp .int)) (j1 rfl) .nil rfl <| O5 ox8 (j2 rfl rfl) .nil rfl ?_
 refine O5 (ox1 .tmp) (.one rfl) .nil rfl <| O1 <| Q0 (σ' := ⟨[(2, .val ((decide ((1 : Int) ≤ a0)) && (decide (a0 ≤ (255 : Int)))))], []⟩) (j1 rfl) trivial ?_
 refine Q5 ?_
 obtain rfl := Option.some.inj hφ
 exact Q6 hw0 rfl (.tmp rfl rfl .nil) rfl
theorem c_model_Wrong {a0 : Mk.Call} {r : Int} (hφ : model_Wrong a0 = some r) : Fn Go.Proofs.Try.prog 80 [.val a0] (.val r) := by
 unfold model_Wrong at hφ
 refine Fn.mk' Go.Proofs.Try.func80 rfl (by decide) rfl rfl rfl (fun w0 hw0 => ?_)
 refine Q2 (Q1 ?_)
 refine O3 rfl rfl (ox_box (id := 1) .tmp) (.one rfl) .nil rfl (by kernel_rfl) <| O5 (ox1 .int) .nil .nil rfl <| O1 <| Q0 (σ' := ⟨[(1, _)], [(1, .var (a0) [])]⟩) (j1 rfl) (j1 rfl) ?_
 refine Q2 (Q1 ?_)
 refine O5 (ox1 .func) .nil .nil rfl <| O1 <| Q0 (σ' := ⟨[(1, _), (3, _)], [(1, _)]⟩) (j2 rfl rfl) (j1 rfl) ?_
 refine Q2 ?_
 refine PT.block ?_
 refine Q2 (Q1 ?_)
 refine O5 (ox3 Call_Kind f33_0) (.one rfl) .nil rfl <| O5 (ox2 t3) (.one rfl) (.one rfl) rfl <| O5 (ox_lss .tmp .int) (.app (.one rfl) .nil) .nil rfl <| O5 (ox0 .tmp) (.one rfl) .nil rfl <| O4 rfl rfl rfl rfl (.plain .nil) (fun hG => (ox3 Call_Kind f33_0)) (j1 rfl) .nil rfl <| O4 rfl rfl rfl rfl (.cond (fun h => h) .nil) (fun hG => (ox2 t3)) (j1 rfl) (.one rfl) rfl ?_
 refine O4 rfl rfl rfl rfl (.cond (fun h => h) .nil) (fun hG => (ox_gtr .tmp .int)) (j1 rfl) .nil rfl <| O5 ox9 (j2 rfl rfl) .nil rfl <| O5 (ox1 .tmp) (.one rfl) .nil rfl <| O1 <| Q0 (σ' := ⟨[(1, _), (3, _), (4, .val ((decide (a0.Kind < (1 : Int))) || (decide ((6 : Int) < a0.Kind))))], [(1, _)]⟩) (j3 rfl rfl rfl) (j1 rfl) ?_
 refine Q3 _ rfl (fun hc1 => ?_) (fun hc1 => ?_)
 ·replace hφ := if_then hφ hc1
  refine Q0 (σ' := ⟨[], []⟩) trivial trivial ?_
  refine Q2 (Q1 ?_)
  refine O5 (ox1 .int) .nil .nil rfl <| O1 <| Q0 (σ' := ⟨[(2, .val (1 : Int))], []⟩) (j1 rfl) trivial ?_
  refine Q5 ?_
  obtain rfl := Option.some.inj hφ
  exact Q6 hw0 rfl (.tmp rfl rfl .nil) rfl
 ·replace hφ := if_else hφ hc1
  refine Q0 (σ' := ⟨[(1, _), (3, _)], [(1, _)]⟩) (j2 rfl rfl) (j1 rfl) ?_
  obtain ⟨k2, hk2, hφ⟩ := J_some hφ
  refine PT.cut (ι := Bool × Mk.Call) (fun p => ⟨[(1, .ptr 1 (Lens.id (α := Mk.Call))), (13, .val (p.1))], [(1, .var (p.2) [])]⟩) (fun p => k2 (p.1) (p.2) = some r) ?_ ?_
  ·skip
   refine Q2 ?_
   obtain ⟨v3, hv3, hφ⟩ := B_some hφ
   refine Q8 hMixed (
     .cons (S5 (ox3 Call_Kind f33_0)) ⟨.one rfl, .nil⟩ (by kernel_rfl) rfl <|
     .cons (S5 (ox2 t3)) ⟨.one rfl, .one rfl⟩ (by kernel_rfl) rfl <|
     .cons (S5 (ox_neq .tmp .int)) ⟨(.app (.one rfl) .nil), .nil⟩ (by kernel_rfl) rfl <|
     .cons (S5 (ox0 .tmp)) ⟨.one rfl, .nil⟩ (by kernel_rfl) rfl <|
     .cons (S5 (ox3 Call_Name f33_1)) ⟨.one rfl, .nil⟩ (by kernel_rfl) rfl <|
     .cons (S5 (ox2 t3)) ⟨.one rfl, .one rfl⟩ (by kernel_rfl) rfl <|
     .cons (S5 (ox_callv (c_model_Wrong_1 hv3) (.cons .tmp .nil))) ⟨(.cons rfl (.app (.one rfl) .nil)), .nil⟩ (by kernel_rfl) rfl <|
     .cons (S5 (ox_neqB e4 .tmp .tmp)) ⟨(.app (.one rfl) (.one rfl)), .nil⟩ (by kernel_rfl) rfl <|
     .cons (S5 (ox0 .tmp)) ⟨.one rfl, .nil⟩ (by kernel_rfl) rfl <|
     .cons (S3 rfl rfl rfl Grd.plain _ (by first | exact Iff.rfl | simp) (.plain .nil) (fun hG => (ox3 Call_Kind f33_0))) ⟨(.cons rfl (j1 rfl)), .nil⟩ (by kernel_rfl) rfl <|
     .cons (S3 rfl rfl rfl Grd.plain _ (by first | exact Iff.rfl | simp) (.cond (fun h => h) .nil) (fun hG => (ox2 t3))) ⟨(.cons rfl (j1 rfl)), .one rfl⟩ (by kernel_rfl) rfl <|
     .cons (S3 rfl rfl rfl Grd.plain _ (by first | exact Iff.rfl | simp) (.cond (fun h => h) .nil) (fun hG => (ox_eql .tmp .int))) ⟨(.cons rfl (j1 rfl)), .nil⟩ (by kernel_rfl) rfl <|
     .cons (S3 rfl rfl rfl Grd.plain _ (by first | exact Iff.rfl | simp) (.cond (fun h => h) .nil) (fun hG => (ox0 .tmp))) ⟨(.cons rfl (j1 rfl)), .nil⟩ (by kernel_rfl) rfl <|
     .cons (S3 rfl rfl rfl Grd.cond _ (by first | exact Iff.rfl | simp) (.plain .nil) (fun hG => (ox3 Call_Name f33_1))) ⟨(.cons rfl (j1 rfl)), .nil⟩ (by kernel_rfl) rfl <|
     .cons (S3 rfl rfl rfl Grd.cond _ (by first | exact Iff.rfl | simp) (.cond (fun h => h) .nil) (fun hG => (ox2 t3))) ⟨(.cons rfl (j1 rfl)), .one rfl⟩ (by kernel_rfl) rfl <|
     .cons (S3 rfl rfl rfl Grd.cond _ (by first | exact Iff.rfl | simp) (.cond (fun h => h) .nil) (fun hG => (ox_neq .tmp .int))) ⟨(.cons rfl (j1 rfl)), .nil⟩ (by kernel_rfl) rfl <|
     .cons (S3 rfl rfl rfl Grd.plain _ (by first | exact Iff.rfl | simp) (.cond (fun h => h) (.part (fun h => h) .nil)) (fun hG => ox8)) ⟨(.cons rfl (j2 rfl rfl)), .nil⟩ (by kernel_rfl) rfl <|
     .cons (S5 ox9) ⟨(j2 rfl rfl), .nil⟩ (by kernel_rfl) rfl <|
     .cons (S5 (ox1 .tmp)) ⟨.one rfl, .nil⟩ (by kernel_rfl) rfl <|
     .nil) _ [[], [0], [0, 1], [], [], [4], [3, 4, 5], [0, 1, 2, 3, 4, 5, 6], [0, 1, 2, 3, 4, 5, 6, 7], [0, 1, 2, 3, 4, 5, 6, 7, 8], [0, 1, 2, 3, 4, 5, 6, 7, 8, 9], [0, 1, 2, 3, 4, 5, 6, 7, 8, 9, 10], [0, 1, 2, 3, 4, 5, 6, 7, 8, 9, 10, 11], [0, 1, 2, 3, 4, 5, 6, 7, 8, 9, 10, 11, 12], [0, 1, 2, 3, 4, 5, 6, 7, 8, 9, 10, 11, 12, 13], [0, 1, 2, 3, 4, 5, 6, 7, 8, 9, 10, 11, 12, 13, 14], [0, 1, 2, 3, 4, 5, 6, 7, 8, 9, 10, 11, 12, 13, 14, 15], [0, 1, 2, 3, 4, 5, 6, 7, 8, 9, 10, 11, 12, 13, 14, 15, 16], [0, 1, 2, 3, 4, 5, 6, 7, 8, 9, 10, 11, 12, 13, 14, 15, 16, 17]] rfl (by kernel_rfl) (by kernel_rfl) ?_
   refine Q0 (σ' := ⟨[(1, _), (3, _), (13, .val (((!decide ((!decide (a0.Kind = (5 : Int))) = v3)) || ((decide (a0.Kind = (5 : Int))) && (!decide (a0.Name = (0 : Int)))))))], [(1, _)]⟩) (j3 rfl rfl rfl) (j1 rfl) ?_
   refine Q3 _ rfl (fun hc4 => ?_) (fun hc4 => ?_)
   ·replace hφ := if_then hφ hc4
    refine Q0 (σ' := ⟨[(1, _), (13, _)], [(1, _)]⟩) (j2 rfl rfl) (j1 rfl) ?_
    refine Q4 ?_
    exact PT.meet (((!decide ((!decide (a0.Kind = (5 : Int))) = v3)) || ((decide (a0.Kind = (5 : Int))) && (!decide (a0.Name = (0 : Int))))), a0) hφ (j2 rfl rfl) (j1 rfl)
   ·replace hφ := if_else hφ hc4
    refine Q0 (σ' := ⟨[(1, _), (3, _)], [(1, _)]⟩) (j2 rfl rfl) (j1 rfl) ?_
    obtain ⟨v5, hv5, hφ⟩ := B_some hφ
    refine Q8 hMixed (
      .cons (S5 (ox3 Call_Kind f33_0)) ⟨.one rfl, .nil⟩ (by kernel_rfl) rfl <|
      .cons (S5 (ox2 t3)) ⟨.one rfl, .one rfl⟩ (by kernel_rfl) rfl <|
      .cons (S5 (ox_eql .tmp .int)) ⟨(.app (.one rfl) .nil), .nil⟩ (by kernel_rfl) rfl <|
      .cons (S5 (ox0 .tmp)) ⟨.one rfl, .nil⟩ (by kernel_rfl) rfl <|
      .cons (S5 (ox3 Call_Other f33_2)) ⟨.one rfl, .nil⟩ (by kernel_rfl) rfl <|
      .cons (S5 (ox2 t3)) ⟨.one rfl, .one rfl⟩ (by kernel_rfl) rfl <|
      .cons (S5 (ox_callv (c_model_Wrong_1 hv5) (.cons .tmp .nil))) ⟨(.cons rfl (.app (.one rfl) .nil)), .nil⟩ (by kernel_rfl) rfl <|
      .cons (S5 (ox_neqB e4 .tmp .tmp)) ⟨(.app (.one rfl) (.one rfl)), .nil⟩ (by kernel_rfl) rfl <|
      .cons (S5 (ox0 .tmp)) ⟨.one rfl, .nil⟩ (by kernel_rfl) rfl <|
      .cons (S3 rfl rfl rfl Grd.plain _ (by first | exact Iff.rfl | simp) (.plain .nil) (fun hG => (ox3 Call_Kind f33_0))) ⟨(.cons rfl (j1 rfl)), .nil⟩ (by kernel_rfl) rfl <|
      .cons (S3 rfl rfl rfl Grd.plain _ (by first | exact Iff.rfl | simp) (.cond (fun h => h) .nil) (fun hG => (ox2 t3))) ⟨(.cons rfl (j1 rfl)), .one rfl⟩ (by kernel_rfl) rfl <|
      .cons (S3 rfl rfl rfl Grd.plain _ (by first | exact Iff.rfl | simp) (.cond (fun h => h) .nil) (fun hG => (ox_neq .tmp .int))) ⟨(.cons rfl (j1 rfl)), .nil⟩ (by kernel_rfl) rfl <|
      .cons (S3 rfl rfl rfl Grd.plain _ (by first | exact Iff.rfl | simp) (.cond (fun h => h) .nil) (fun hG => (ox0 .tmp))) ⟨(.cons rfl (j1 rfl)), .nil⟩ (by kernel_rfl) rfl <|
      .cons (S3 rfl rfl rfl Grd.cond _ (by first | exact Iff.rfl | simp) (.plain .nil) (fun hG => (ox3 Call_Other f33_2))) ⟨(.cons rfl (j1 rfl)), .nil⟩ (by kernel_rfl) rfl <|
      .cons (S3 rfl rfl rfl Grd.cond _ (by first | exact Iff.rfl | simp) (.cond (fun h => h) .nil) (fun hG => (ox2 t3))) ⟨(.cons rfl (j1 rfl)), .one rfl⟩ (by kernel_rfl) rfl <|
      .cons (S3 rfl rfl rfl Grd.cond _ (by first | exact Iff.rfl | simp) (.cond (fun h => h) .nil) (fun hG => (ox_neq .tmp .int))) ⟨(.cons rfl (j1 rfl)), .nil⟩ (by kernel_rfl) rfl <|
      .cons (S3 rfl rfl rfl Grd.plain _ (by first | exact Iff.rfl | simp) (.cond (fun h => h) (.part (fun h => h) .nil)) (fun hG => ox8)) ⟨(.cons rfl (j2 rfl rfl)), .nil⟩ (by kernel_rfl) rfl <|
      .cons (S5 ox9) ⟨(j2 rfl rfl), .nil⟩ (by kernel_rfl) rfl <|
      .cons (S5 (ox1 .tmp)) ⟨.one rfl, .nil⟩ (by kernel_rfl) rfl <|
      .nil) _ [[], [0], [0, 1], [], [], [4], [3, 4, 5], [0, 1, 2, 3, 4, 5, 6], [0, 1, 2, 3, 4, 5, 6, 7], [0, 1, 2, 3, 4, 5, 6, 7, 8], [0, 1, 2, 3, 4, 5, 6, 7, 8, 9], [0, 1, 2, 3, 4, 5, 6, 7, 8, 9, 10], [0, 1, 2, 3, 4, 5, 6, 7, 8, 9, 10, 11], [0, 1, 2, 3, 4, 5, 6, 7, 8, 9, 10, 11, 12], [0, 1, 2, 3, 4, 5, 6, 7, 8, 9, 10, 11, 12, 13], [0, 1, 2, 3, 4, 5, 6, 7, 8, 9, 10, 11, 12, 13, 14], [0, 1, 2, 3, 4, 5, 6, 7, 8, 9, 10, 11, 12, 13, 14, 15], [0, 1, 2, 3, 4, 5, 6, 7, 8, 9, 10, 11, 12, 13, 14, 15, 16], [0, 1, 2, 3, 4, 5, 6, 7, 8, 9, 10, 11, 12, 13, 14, 15, 16, 17]] rfl (by kernel_rfl) (by kernel_rfl) ?_
    refine Q0 (σ' := ⟨[(1, _), (13, .val (((!decide ((decide (a0.Kind = (6 : Int))) = v5)) || ((!decide (a0.Kind = (6 : Int))) && (!decide (a0.Other = (0 : Int)))))))], [(1, _)]⟩) (j2 rfl rfl) (j1 rfl) ?_
    exact PT.meet (((!decide ((decide (a0.Kind = (6 : Int))) = v5)) || ((!decide (a0.Kind = (6 : Int))) && (!decide (a0.Other = (0 : Int))))), a0) hφ (j2 rfl rfl) (j1 rfl)
  ·rintro ⟨x13_k2, y1_k2⟩ hφ
   subst hk2
   refine Q0 (σ' := ⟨[(1, .ptr 1 (Lens.id (α := Mk.Call))), (13, .val (x13_k2))], [(1, .var (y1_k2) [])]⟩) (j2 rfl rfl) (j1 rfl) ?_
   refine Q3 _ rfl (fun hc6 => ?_) (fun hc6 => ?_)
   ·replace hφ := if_then hφ hc6
    refine Q0 (σ' := ⟨[], []⟩) trivial trivial ?_
    refine Q2 (Q1 ?_)
    refine O5 (ox1 .int) .nil .nil rfl <| O1 <| Q0 (σ' := ⟨[(2, .val (7 : Int))], []⟩) (j1 rfl) trivial ?_
    refine Q5 ?_
    obtain rfl := Option.some.inj hφ
    exact Q6 hw0 rfl (.tmp rfl rfl .nil) rfl
   ·replace hφ := if_else hφ hc6
    refine Q0 (σ' := ⟨[(1, _)], [(1, _)]⟩) (j1 rfl) (j1 rfl) ?_
    refine Q2 (Q1 ?_)
    refine O5 (ox3 Call_N f33_3) (.one rfl) .nil rfl <| O5 (ox2 t3) (.one rfl) (.one rfl) rfl <| O5 (ox_lss .tmp .int) (.app (.one rfl) .nil) .nil rfl <| O5 (ox0 .tmp) (.one rfl) .nil rfl <| O4 rfl rfl rfl rfl (.plain .nil) (fun hG => (ox3 Call_N f33_3)) (j1 rfl) .nil rfl <| O4 rfl rfl rfl rfl (.cond (fun h => h) .nil) (fun hG => (ox2 t3)) (j1 rfl) (.one rfl) rfl ?_
    refine O4 rfl rfl rfl rfl (.cond (fun h => h) .nil) (fun hG => (ox_gtr .tmp .int)) (j1 rfl) .nil rfl <| O5 ox9 (j2 rfl rfl) .nil rfl <| O5 (ox0 .tmp) (.one rfl) .nil rfl <| O4 rfl rfl rfl rfl (.plain .nil) (fun hG => (ox3 Call_Kind f33_0)) (j1 rfl) .nil rfl <| O4 rfl rfl rfl rfl (.cond (fun h => h) .nil) (fun hG => (ox2 t3)) (j1 rfl) (.one rfl) rfl <| O4 rfl rfl rfl rfl (.cond (fun h => h) .nil) (fun hG => (ox_neq .tmp .int)) (j1 rfl) .nil rfl ?_
    refine O4 rfl rfl rfl rfl (.cond (fun h => h) .nil) (fun hG => (ox0 .tmp)) (j1 rfl) .nil rfl ?_
    refine Ops.guard2 rfl rfl rfl rfl (.plain .nil) (fun hG => (ox3 Call_Kind f33_0)) (j1 rfl) .nil rfl ?_
    refine Ops.guard2 rfl rfl rfl rfl (.cond (fun h => h) .nil) (fun hG => (ox2 t3)) (j1 rfl) (.one rfl) rfl ?_
    refine Ops.guard2 rfl rfl rfl rfl (.cond (fun h => h) .nil) (fun hG => (ox_neq .tmp .int)) (j1 rfl) .nil rfl ?_
    refine O4 rfl rfl rfl rfl (.cond (fun h => h) (.part (fun h => h) .nil)) (fun hG => ox8) (j2 rfl rfl) .nil rfl <| O4 rfl rfl rfl rfl (.cond (fun h => h) .nil) (fun hG => (ox0 .tmp)) (j1 rfl) .nil rfl ?_
    refine Ops.guard2 rfl rfl rfl rfl (.plain .nil) (fun hG => (ox3 Call_N f33_3)) (j1 rfl) .nil rfl ?_
    refine Ops.guard2 rfl rfl rfl rfl (.cond (fun h => h) .nil) (fun hG => (ox2 t3)) (j1 rfl) (.one rfl) rfl ?_
    refine Ops.guard2 rfl rfl rfl rfl (.cond (fun h => h) .nil) (fun hG => (ox_neq .tmp .int)) (j1 rfl) .nil rfl ?_
    refine O4 rfl rfl rfl rfl (.cond (fun h => h) (.part (fun h => h) .nil)) (fun hG => ox8) (j2 rfl rfl) .nil rfl <| O5 ox9 (j2 rfl rfl) .nil rfl <| O5 (ox1 .tmp) (.one rfl) .nil rfl <| O1 <| Q0 (σ' := ⟨[(50, .val ((((decide (y1_k2.N < (-1073741824 : Int))) || (decide ((1073741824 : Int) < y1_k2.N))) || (((!decide (y1_k2.Kind = (1 : Int))) && (!decide (y1_k2.Kind = (4 : Int)))) && (!decide (y1_k2.N = (0 : Int)))))))], []⟩) (j1 rfl) trivial ?_
    refine Q3 _ rfl (fun hc7 => ?_) (fun hc7 => ?_)
    ·replace hφ := if_then hφ hc7
     refine Q0 (σ' := ⟨[], []⟩) trivial trivial ?_
     refine Q2 (Q1 ?_)
     refine O5 (ox1 .int) .nil .nil rfl <| O1 <| Q0 (σ' := ⟨[(2, .val (3 : Int))], []⟩) (j1 rfl) trivial ?_
     refine Q5 ?_
     obtain rfl := Option.some.inj hφ
     exact Q6 hw0 rfl (.tmp rfl rfl .nil) rfl
    ·replace hφ := if_else hφ hc7
     refine Q0 (σ' := ⟨[], []⟩) trivial trivial ?_
     refine Q4 ?_
     refine Q2 (Q1 ?_)
     refine O5 (ox1 .int) .nil .nil rfl <| O1 <| Q0 (σ' := ⟨[(2, .val (0 : Int))], []⟩) (j1 rfl) trivial ?_
     refine Q5 ?_
     obtain rfl := Option.some.inj hφ
     exact Q6 hw0 rfl (.tmp rfl rfl .nil) rfl
theorem c_wire_WrongRequest {a0 : Mk.Request} {r : Int} (hφ : wire_WrongRequest a0 = some r) : Fn Go.Proofs.Try.prog 118 [.val a0] (.val r) := by
 unfold wire_WrongRequest at hφ
 refine Fn.mk' Go.Proofs.Try.func118 rfl (by decide) rfl rfl rfl (fun w0 hw0 => ?_)
 refine Q2 (Q1 ?_)
 refine O3 rfl rfl (ox_box (id := 1) .tmp) (.one rfl) .nil rfl (by kernel_rfl) <| O5 (ox1 .int) .nil .nil rfl <| O1 <| Q0 (σ' := ⟨[(1, _)], [(1, .var (a0) [])]⟩) (j1 rfl) (j1 rfl) ?_
 refine Q2 (Q2 ?_)
 obtain ⟨v1, hv1, hφ⟩ := B_some hφ
 refine Q1 ?_
 refine O5 (ox3 Request_Client f35_0) (.one rfl) .nil rfl <| O5 (ox2 t3) (.one rfl) (.one rfl) rfl <| O5 (ox3 Request_Token f35_1) (.one rfl) .nil rfl <| O5 (ox2 t3) (.one rfl) (.one rfl) rfl <| O5 (ox_call (c_wire_who hv1) (.cons .tmp (.cons .tmp .nil))) (.app (.one rfl) (.app (.one rfl) .nil)) .nil rfl <| O5 (ox1 .tmp) (.one rfl) .nil rfl <| O1 <| Q0 (σ' := ⟨[(1, _), (3, .val (v1))], [(1, _)]⟩) (j2 rfl rfl) (j1 rfl) ?_
 refine Q2 (Q1 ?_)
 refine O5 (ox0 .tmp) (.one rfl) .nil rfl <| O5 (ox_neq .tmp .int) (.app (.one rfl) .nil) .nil rfl <| O1 <| Q0 (σ' := ⟨[(1, _), (3, _), (10, .val (!decide (v1 = (0 : Int))))], [(1, _)]⟩) (j3 rfl rfl rfl) (j1 rfl) ?_
 refine Q3 _ rfl (fun hc2 => ?_) (fun hc2 => ?_)
 ·replace hφ := if_then hφ hc2
  refine Q0 (σ' := ⟨[(3, _)], []⟩) (j1 rfl) trivial ?_
  refine Q2 (Q1 ?_)
  refine O5 (ox0 .tmp) (.one rfl) .nil rfl <| O5 (ox1 .tmp) (.one rfl) .nil rfl <| O1 <| Q0 (σ' := ⟨[(2, .val (v1))], []⟩) (j1 rfl) trivial ?_
  refine Q5 ?_
  obtain rfl := Option.some.inj hφ
  exact Q6 hw0 rfl (.tmp rfl rfl .nil) rfl
 ·replace hφ := if_else hφ hc2
  refine Q0 (σ' := ⟨[(1, _)], [(1, _)]⟩) (j1 rfl) (j1 rfl) ?_
  refine Q4 ?_
  refine Q2 ?_
  obtain ⟨v3, hv3, hφ⟩ := B_some hφ
  refine Q1 ?_
  refine O5 (ox3 Request_Call f35_2) (.one rfl) .nil rfl <| O5 (ox2 t33) (.one rfl) (.one rfl) rfl <| O5 (ox_call (c_model_Wrong hv3) (.cons .tmp .nil)) (.app (.one rfl) .nil) .nil rfl <| O5 (ox1 .tmp) (.one rfl) .nil rfl <| O1 <| Q0 (σ' := ⟨[(2, .val (v3))], []⟩) (j1 rfl) trivial ?_
  refine Q5 ?_
  obtain rfl := Option.some.inj hφ
  exact Q6 hw0 rfl (.tmp rfl rfl .nil) rfl
theorem c_mkref1_who {a0 : Int} {a1 : Int} {r : Bool} (hφ : mkref1_who a0 a1 = some r) : Fn Go.Proofs.Try.prog 73 [.val a0, .val a1] (.val r) := by
 unfold mkref1_who at hφ
 refine Fn.mk' Go.Proofs.Try.func73 rfl (by decide) rfl rfl rfl (fun w0 hw0 => ?_)
 refine Q2 (Q1 ?_)
 refine O5 (ox1 .bool) .nil .nil rfl <| O1 <| Q0 (σ' := ⟨[(0, .val (a0)), (1, .val (a1))], []⟩) (j2 rfl rfl) trivial ?_
 refine Q2 (Q1 ?_)
 refine O5 (ox0 .tmp) (.one rfl) .nil rfl <| O5 (ox_geq .tmp .int) (.app (.one rfl) .nil) .nil rfl <| O5 (ox0 .tmp) (.one rfl) .nil rfl <| O4 rfl rfl rfl rfl (.plain .nil) (fun hG => (ox0 .tmp)) (j1 rfl) .nil rfl <| O4 rfl rfl rfl rfl (.cond (fun h => h) .nil) (fun hG => (ox_lss .tmp .int)) (j1 rfl) .nil rfl <| O5 ox8 (j2 rfl rfl) .nil rfl ?_
 refine O5 (ox0 .tmp) (.one rfl) .nil rfl <| O4 rfl rfl rfl rfl (.plain .nil) (fun hG => (ox0 .tmp)) (j1 rfl) .nil rfl <| O4 rfl rfl rfl rfl (.cond (fun h => h) .nil) (fun hG => (ox_geq .tmp .int)) (j1 rfl) .nil rfl <| O5 ox8 (j2 rfl rfl) .nil rfl <| O5 (ox0 .tmp) (.one rfl) .nil rfl <| O4 rfl rfl rfl rfl (.plain .nil) (fun hG => (ox0 .tmp)) (j1 rfl) .nil rfl ?_
 refine O4 rfl rfl rfl rfl (.cond (fun h => h) .nil) (fun hG => (ox_lss .tmp .int)) (j1 rfl) .nil rfl <| O5 ox8 (j2 rfl rfl) .nil rfl <| O5 (ox1 .tmp) (.one rfl) .nil rfl <| O1 <| Q0 (σ' := ⟨[(4, .val (((((decide ((0 : Int) ≤ a0)) && (decide (a0 < (3 : Int)))) && (decide ((0 : Int) ≤ a1))) && (decide (a1 < (8 : Int))))))], []⟩) (j1 rfl) trivial ?_
 refine Q5 ?_
 obtain rfl := Option.some.inj hφ
 exact Q6 hw0 rfl (.tmp rfl rfl .nil) rfl
theorem c_mkref1_WrongRequest {a0 : Mk.Request} {r : Int} (hφ : mkref1_WrongRequest a0 = some r) : Fn Go.Proofs.Try.prog 37 [.val a0] (.val r) := by
 unfold mkref1_WrongRequest at hφ
 refine Fn.mk' Go.Proofs.Try.func37 rfl (by decide) rfl rfl rfl (fun w0 hw0 => ?_)
 refine Q2 (Q1 ?_)
 refine O3 rfl rfl (ox_box (id := 1) .tmp) (.one rfl) .nil rfl (by kernel_rfl) <| O5 (ox1 .int) .nil .nil rfl <| O1 <| Q0 (σ' := ⟨[(1, _)], [(1, .var (a0) [])]⟩) (j1 rfl) (j1 rfl) ?_
 refine Q2 (Q2 ?_)
 obtain ⟨v1, hv1, hφ⟩ := B_some hφ
 refine Q1 ?_
 refine O5 (ox3 Request_Client f35_0) (.one rfl) .nil rfl <| O5 (ox2 t3) (.one rfl) (.one rfl) rfl <| O5 (ox3 Request_Token f35_1) (.one rfl) .nil rfl <| O5 (ox2 t3) (.one rfl) (.one rfl) rfl <| O5 (ox_call (c_mkref1_who hv1) (.cons .tmp (.cons .tmp .nil))) (.app (.one rfl) (.app (.one rfl) .nil)) .nil rfl <| O5 (ox_not .tmp) (.one rfl) .nil rfl <| O1 <| Q0 (σ' := ⟨[(1, _), (8, .val (!v1))], [(1, _)]⟩) (j2 rfl rfl) (j1 rfl) ?_
 refine Q3 _ rfl (fun hc2 => ?_) (fun hc2 => ?_)
 ·replace hφ := if_then hφ hc2
  refine Q0 (σ' := ⟨[], []⟩) trivial trivial ?_
  refine Q2 (Q1 ?_)
  refine O5 (ox1 .int) .nil .nil rfl <| O1 <| Q0 (σ' := ⟨[(2, .val (3 : Int))], []⟩) (j1 rfl) trivial ?_
  refine Q5 ?_
  obtain rfl := Option.some.inj hφ
  exact Q6 hw0 rfl (.tmp rfl rfl .nil) rfl
 ·replace hφ := if_else hφ hc2
  refine Q0 (σ' := ⟨[(1, _)], [(1, _)]⟩) (j1 rfl) (j1 rfl) ?_
  refine Q4 ?_
  refine Q2 ?_
  obtain ⟨v3, hv3, hφ⟩ := B_some hφ
  refine Q1 ?_
  refine O5 (ox3 Request_Call f35_2) (.one rfl) .nil rfl <| O5 (ox2 t33) (.one rfl) (.one rfl) rfl <| O5 (ox_call (c_mkref1_WrongCall hv3) (.cons .tmp .nil)) (.app (.one rfl) .nil) .nil rfl <| O5 (ox1 .tmp) (.one rfl) .nil rfl <| O1 <| Q0 (σ' := ⟨[(2, .val (v3))], []⟩) (j1 rfl) trivial ?_
  refine Q5 ?_
  obtain rfl := Option.some.inj hφ
  exact Q6 hw0 rfl (.tmp rfl rfl .nil) rfl
theorem c_wire_WrongAnswer {a0 : Mk.Answer} {r : Int} (hφ : wire_WrongAnswer a0 = some r) : Fn Go.Proofs.Try.prog 125 [.val a0] (.val r) := by
 unfold wire_WrongAnswer at hφ
 refine Fn.mk' Go.Proofs.Try.func125 rfl (by decide) rfl rfl rfl (fun w0 hw0 => ?_)
 refine Q2 (Q1 ?_)
 refine O3 rfl rfl (ox_box (id := 1) .tmp) (.one rfl) .nil rfl (by kernel_rfl) <| O5 (ox1 .int) .nil .nil rfl <| O1 <| Q0 (σ' := ⟨[(1, _)], [(1, .var (a0) [])]⟩) (j1 rfl) (j1 rfl) ?_
 refine Q2 (Q2 ?_)
 obtain ⟨v1, hv1, hφ⟩ := B_some hφ
 refine Q1 ?_
 refine O5 (ox3 Answer_Client f74_0) (.one rfl) .nil rfl <| O5 (ox2 t3) (.one rfl) (.one rfl) rfl <| O5 (ox3 Answer_Token f74_1) (.one rfl) .nil rfl <| O5 (ox2 t3) (.one rfl) (.one rfl) rfl <| O5 (ox_call (c_wire_who hv1) (.cons .tmp (.cons .tmp .nil))) (.app (.one rfl) (.app (.one rfl) .nil)) .nil rfl <| O5 (ox1 .tmp) (.one rfl) .nil rfl <| O1 <| Q0 (σ' := ⟨[(1, _), (3, .val (v1))], [(1, _)]⟩) (j2 rfl rfl) (j1 rfl) ?_
 refine Q2 (Q1 ?_)
 refine O5 (ox0 .tmp) (.one rfl) .nil rfl <| O5 (ox_neq .tmp .int) (.app (.one rfl) .nil) .nil rfl <| O1 <| Q0 (σ' := ⟨[(1, _), (3, _), (11, .val (!decide (v1 = (0 : Int))))], [(1, _)]⟩) (j3 rfl rfl rfl) (j1 rfl) ?_
 refine Q3 _ rfl (fun hc2 => ?_) (fun hc2 => ?_)
 ·replace hφ := if_then hφ hc2
  refine Q0 (σ' := ⟨[(3, _)], []⟩) (j1 rfl) trivial ?_
  refine Q2 (Q1 ?_)
  refine O5 (ox0 .tmp) (.one rfl) .nil rfl <| O5 (ox1 .tmp) (.one rfl) .nil rfl <| O1 <| Q0 (σ' := ⟨[(2, .val (v1))], []⟩) (j1 rfl) trivial ?_
  refine Q5 ?_
  obtain rfl := Option.some.inj hφ
  exact Q6 hw0 rfl (.tmp rfl rfl .nil) rfl
 ·replace hφ := if_else hφ hc2
  refine Q0 (σ' := ⟨[(1, _)], [(1, _)]⟩) (j1 rfl) (j1 rfl) ?_
  refine Q4 ?_
  refine Q2 (Q1 ?_)
  refine O5 (ox3 Answer_Reply f74_2) (.one rfl) .nil rfl <| O5 (ox2 t38) (.one rfl) (.one rfl) rfl <| O3 rfl rfl (ox_alloc (id := 4) z38) .nil .nil rfl (by kernel_rfl) <| O2 rfl rfl (ox5 t38 .tmp) (.cons rfl (.one rfl)) (.one rfl) <| O1 <| Q0 (σ' := ⟨[(4, _)], [(4, .var (a0.Reply) [])]⟩) (j1 rfl) (j1 rfl) ?_
  refine Q2 ?_
  refine Q2 (Q1 ?_)
  refine O5 (ox3 Reply_Err f38_0) (.one rfl) .nil rfl <| O5 (ox2 t36) (.one rfl) (.one rfl) rfl <| O5 (ox_lss .tmp .int) (.app (.one rfl) .nil) .nil rfl <| O5 (ox0 .tmp) (.one rfl) .nil rfl <| O4 rfl rfl rfl rfl (.plain .nil) (fun hG => (ox3 Reply_Err f38_0)) (j1 rfl) .nil rfl <| O4 rfl rfl rfl rfl (.cond (fun h => h) .nil) (fun hG => (ox2 t36)) (j1 rfl) (.one rfl) rfl ?_
  refine O4 rfl rfl rfl rfl (.cond (fun h => h) .nil) (fun hG => (ox_gtr .tmp .int)) (j1 rfl) .nil rfl <| O5 ox9 (j2 rfl rfl) .nil rfl <| O5 (ox0 .tmp) (.one rfl) .nil rfl <| O4 rfl rfl rfl rfl (.plain .nil) (fun hG => (ox3 Reply_N f38_1)) (j1 rfl) .nil rfl <| O4 rfl rfl rfl rfl (.cond (fun h => h) .nil) (fun hG => (ox2 t3)) (j1 rfl) (.one rfl) rfl <| O4 rfl rfl rfl rfl (.cond (fun h => h) .nil) (fun hG => (ox_lss .tmp .int)) (j1 rfl) .nil rfl ?_
  refine O5 ox9 (j2 rfl rfl) .nil rfl <| O5 (ox0 .tmp) (.one rfl) .nil rfl <| O4 rfl rfl rfl rfl (.plain .nil) (fun hG => (ox3 Reply_N f38_1)) (j1 rfl) .nil rfl <| O4 rfl rfl rfl rfl (.cond (fun h => h) .nil) (fun hG => (ox2 t3)) (j1 rfl) (.one rfl) rfl <| O4 rfl rfl rfl rfl (.cond (fun h => h) .nil) (fun hG => (ox_gtr .tmp .int)) (j1 rfl) .nil rfl <| O5 ox9 (j2 rfl rfl) .nil rfl ?_
  refine O5 (ox0 .tmp) (.one rfl) .nil rfl <| O4 rfl rfl rfl rfl (.plain .nil) (fun hG => (ox3 Reply_Err f38_0)) (j1 rfl) .nil rfl <| O4 rfl rfl rfl rfl (.cond (fun h => h) .nil) (fun hG => (ox2 t36)) (j1 rfl) (.one rfl) rfl <| O4 rfl rfl rfl rfl (.cond (fun h => h) .nil) (fun hG => (ox_neq .tmp .int)) (j1 rfl) .nil rfl <| O4 rfl rfl rfl rfl (.cond (fun h => h) .nil) (fun hG => (ox0 .tmp)) (j1 rfl) .nil rfl ?_
  refine Ops.guard2 rfl rfl rfl rfl (.plain .nil) (fun hG => (ox3 Reply_N f38_1)) (j1 rfl) .nil rfl ?_
  refine Ops.guard2 rfl rfl rfl rfl (.cond (fun h => h) .nil) (fun hG => (ox2 t3)) (j1 rfl) (.one rfl) rfl ?_
  refine Ops.guard2 rfl rfl rfl rfl (.cond (fun h => h) .nil) (fun hG => (ox_neq .tmp .int)) (j1 rfl) .nil rfl ?_
  refine O4 rfl rfl rfl rfl (.cond (fun h => h) (.part (fun h => h) .nil)) (fun hG => ox8) (j2 rfl rfl) .nil rfl <| O5 ox9 (j2 rfl rfl) .nil rfl <| O1 <| Q0 (σ' := ⟨[(42, .val ((((((decide (a0.Reply.Err < (0 : Int))) || (decide ((12 : Int) < a0.Reply.Err))) || (decide (a0.Reply.N < (-1073741824 : Int)))) || (decide ((1073741824 : Int) < a0.Reply.N))) || ((!decide (a0.Reply.Err = (0 : Int))) && (!decide (a0.Reply.N = (0 : Int)))))))], []⟩) (j1 rfl) trivial ?_
  refine Q3 _ rfl (fun hc3 => ?_) (fun hc3 => ?_)
  ·replace hφ := if_then hφ hc3
   refine Q0 (σ' := ⟨[], []⟩) trivial trivial ?_
   refine Q2 (Q1 ?_)
   refine O5 (ox1 .int) .nil .nil rfl <| O1 <| Q0 (σ' := ⟨[(2, .val (3 : Int))], []⟩) (j1 rfl) trivial ?_
   refine Q5 ?_
   obtain rfl := Option.some.inj hφ
   exact Q6 hw0 rfl (.tmp rfl rfl .nil) rfl
  ·replace hφ := if_else hφ hc3
   refine Q0 (σ' := ⟨[], []⟩) trivial trivial ?_
   refine Q4 ?_
   refine Q2 (Q1 ?_)
   refine O5 (ox1 .int) .nil .nil rfl <| O1 <| Q0 (σ' := ⟨[(2, .val (0 : Int))], []⟩) (j1 rfl) trivial ?_
   refine Q5 ?_
   obtain rfl := Option.some.inj hφ
   exact Q6 hw0 rfl (.tmp rfl rfl .nil) rfl
theorem c_mkref1_WrongAnswer {a0 : Mk.Answer} {r : Int} (hφ : mkref1_WrongAnswer a0 = some r) : Fn Go.Proofs.Try.prog 128 [.val a0] (.val r) := by
 unfold mkref1_WrongAnswer at hφ
 refine Fn.mk' Go.Proofs.Try.func128 rfl (by decide) rfl rfl rfl (fun w0 hw0 => ?_)
 refine Q2 (Q1 ?_)
 refine O3 rfl rfl (ox_box (id := 1) .tmp) (.one rfl) .nil rfl (by kernel_rfl) <| O5 (ox1 .int) .nil .nil rfl <| O1 <| Q0 (σ' := ⟨[(1, _)], [(1, .var (a0) [])]⟩) (j1 rfl) (j1 rfl) ?_
 refine Q2 (Q1 ?_)
 refine O5 (ox3 Answer_Reply f74_2) (.one rfl) .nil rfl <| O5 (ox2 t38) (.one rfl) (.one rfl) rfl <| O3 rfl rfl (ox_alloc (id := 3) z38) .nil .nil rfl (by kernel_rfl) <| O2 rfl rfl (ox5 t38 .tmp) (.cons rfl (.one rfl)) (.one rfl) <| O1 <| Q0 (σ' := ⟨[(1, _), (3, _)], [(1, _), (3, .var (a0.Reply) [])]⟩) (j2 rfl rfl) (j2 rfl rfl) ?_
 refine Q2 (Q2 ?_)
 obtain ⟨v1, hv1, hφ⟩ := B_some hφ
 refine Q1 ?_
 refine O5 (ox3 Answer_Client f74_0) (.one rfl) .nil rfl <| O5 (ox2 t3) (.one rfl) (.one rfl) rfl <| O5 (ox3 Answer_Token f74_1) (.one rfl) .nil rfl <| O5 (ox2 t3) (.one rfl) (.one rfl) rfl <| O5 (ox_call (c_mkref1_who hv1) (.cons .tmp (.cons .tmp .nil))) (.app (.one rfl) (.app (.one rfl) .nil)) .nil rfl <| O5 (ox_not .tmp) (.one rfl) .nil rfl ?_
 refine O5 (ox0 .tmp) (.one rfl) .nil rfl <| O4 rfl rfl rfl rfl (.plain .nil) (fun hG => (ox3 Reply_Err f38_0)) (j1 rfl) .nil rfl <| O4 rfl rfl rfl rfl (.cond (fun h => h) .nil) (fun hG => (ox2 t36)) (j1 rfl) (.one rfl) rfl <| O4 rfl rfl rfl rfl (.cond (fun h => h) .nil) (fun hG => (ox_lss .tmp .int)) (j1 rfl) .nil rfl <| O5 ox9 (j2 rfl rfl) .nil rfl <| O5 (ox0 .tmp) (.one rfl) .nil rfl ?_
 refine O4 rfl rfl rfl rfl (.plain .nil) (fun hG => (ox3 Reply_Err f38_0)) (j1 rfl) .nil rfl <| O4 rfl rfl rfl rfl (.cond (fun h => h) .nil) (fun hG => (ox2 t36)) (j1 rfl) (.one rfl) rfl <| O4 rfl rfl rfl rfl (.cond (fun h => h) .nil) (fun hG => (ox_gtr .tmp .int)) (j1 rfl) .nil rfl <| O5 ox9 (j2 rfl rfl) .nil rfl <| O5 (ox0 .tmp) (.one rfl) .nil rfl <| O4 rfl rfl rfl rfl (.plain .nil) (fun hG => (ox3 Reply_N f38_1)) (j1 rfl) .nil rfl ?_
 refine O4 rfl rfl rfl rfl (.cond (fun h => h) .nil) (fun hG => (ox2 t3)) (j1 rfl) (.one rfl) rfl <| O4 rfl rfl rfl rfl (.cond (fun h => h) .nil) (fun hG => (ox_gtr .tmp .int)) (j1 rfl) .nil rfl <| O5 ox9 (j2 rfl rfl) .nil rfl <| O5 (ox0 .tmp) (.one rfl) .nil rfl <| O4 rfl rfl rfl rfl (.plain .nil) (fun hG => (ox3 Reply_N f38_1)) (j1 rfl) .nil rfl <| O4 rfl rfl rfl rfl (.cond (fun h => h) .nil) (fun hG => (ox2 t3)) (j1 rfl) (.one rfl) rfl ?_
 refine O4 rfl rfl rfl rfl (.cond (fun h => h) .nil) (fun hG => (ox_lss .tmp .int)) (j1 rfl) .nil rfl <| O5 ox9 (j2 rfl rfl) .nil rfl <| O5 (ox0 .tmp) (.one rfl) .nil rfl <| O4 rfl rfl rfl rfl (.plain .nil) (fun hG => (ox3 Reply_Err f38_0)) (j1 rfl) .nil rfl <| O4 rfl rfl rfl rfl (.cond (fun h => h) .nil) (fun hG => (ox2 t36)) (j1 rfl) (.one rfl) rfl <| O4 rfl rfl rfl rfl (.cond (fun h => h) .nil) (fun hG => (ox_gtr .tmp .int)) (j1 rfl) .nil rfl ?_
 refine O4 rfl rfl rfl rfl (.cond (fun h => h) .nil) (fun hG => (ox0 .tmp)) (j1 rfl) .nil rfl ?_
 refine Ops.guard2 rfl rfl rfl rfl (.plain .nil) (fun hG => (ox3 Reply_N f38_1)) (j1 rfl) .nil rfl ?_
 refine Ops.guard2 rfl rfl rfl rfl (.cond (fun h => h) .nil) (fun hG => (ox2 t3)) (j1 rfl) (.one rfl) rfl ?_
 refine Ops.guard2 rfl rfl rfl rfl (.cond (fun h => h) .nil) (fun hG => (ox_neq .tmp .int)) (j1 rfl) .nil rfl ?_
 refine O4 rfl rfl rfl rfl (.cond (fun h => h) (.part (fun h => h) .nil)) (fun hG => ox8) (j2 rfl rfl) .nil rfl <| O5 ox9 (j2 rfl rfl) .nil rfl <| O1 <| Q0 (σ' := ⟨[(41, .val (((((((!v1) || (decide (a0.Reply.Err < (0 : Int)))) || (decide ((12 : Int) < a0.Reply.Err))) || (decide ((1073741824 : Int) < a0.Reply.N))) || (decide (a0.Reply.N < (-1073741824 : Int)))) || ((decide ((0 : Int) < a0.Reply.Err)) && (!decide (a0.Reply.N = (0 : Int)))))))], []⟩) (j1 rfl) trivial ?_
 refine Q3 _ rfl (fun hc2 => ?_) (fun hc2 => ?_)
 ·replace hφ := if_then hφ hc2
  refine Q0 (σ' := ⟨[], []⟩) trivial trivial ?_
  refine Q2 (Q1 ?_)
  refine O5 (ox1 .int) .nil .nil rfl <| O1 <| Q0 (σ' := ⟨[(2, .val (3 : Int))], []⟩) (j1 rfl) trivial ?_
  refine Q5 ?_
  obtain rfl := Option.some.inj hφ
  exact Q6 hw0 rfl (.tmp rfl rfl .nil) rfl
 ·replace hφ := if_else hφ hc2
  refine Q0 (σ' := ⟨[], []⟩) trivial trivial ?_
  refine Q4 ?_
  refine Q2 (Q1 ?_)
  refine O5 (ox1 .int) .nil .nil rfl <| O1 <| Q0 (σ' := ⟨[(2, .val (0 : Int))], []⟩) (j1 rfl) trivial ?_
  refine Q5 ?_
  obtain rfl := Option.some.inj hφ
  exact Q6 hw0 rfl (.tmp rfl rfl .nil) rfl
theorem x_wire_num {a0 : List UInt8} {a1 : Int} {r : (List UInt8)} (hφ : wire_num a0 a1 = some r) : FnX Go.Proofs.Try.prog 103 [.sl 600, .val a1] [(600, .arr 5 (a0))] (.val r) [] [] := by
 unfold wire_num at hφ
 refine FnX.mk' Go.Proofs.Try.func103 rfl (by decide) rfl (fun w0 m0 => ?_)
 refine Q2 (Q1 ?_)
 refine O5 (ox1 .nilS) .nil .nil rfl <| O1 <| Q0 (σ' := ⟨[(0, _), (1, .val (a1))], [(600, .arr 5 (a0))]⟩) (j2 rfl rfl) (j1 rfl) ?_
 refine Q2 ?_
 obtain ⟨hb1, hφ⟩ := G_some hφ
 refine Q1 ?_
 refine O5 (ox0 .tmp) (.one rfl) .nil rfl <| O5 (ox0 .tmp) (.one rfl) .nil rfl <| O5 (ox_shrI 24 .tmp rfl rfl) (.one rfl) .nil rfl <| O5 (ox_i64_u8 (by kernel_rfl) .tmp) (.one rfl) .nil rfl <| O5 (ox0 .tmp) (.one rfl) .nil rfl <| O5 (ox_shrI 16 .tmp rfl rfl) (.one rfl) .nil rfl ?_
 refine O5 (ox_i64_u8 (by kernel_rfl) .tmp) (.one rfl) .nil rfl <| O5 (ox0 .tmp) (.one rfl) .nil rfl <| O5 (ox_shrI 8 .tmp rfl rfl) (.one rfl) .nil rfl <| O5 (ox_i64_u8 (by kernel_rfl) .tmp) (.one rfl) .nil rfl <| O5 (ox0 .tmp) (.one rfl) .nil rfl <| O5 (ox_i64_u8 (by kernel_rfl) .tmp) (.one rfl) .nil rfl ?_
 refine O5 (ox_buildSlice_val s63 z5 (.cons .tmp (.cons .tmp (.cons .tmp (.cons .tmp Parts.nil)))) rfl (by decide)) ((.app (.one rfl) (.app (.one rfl) (.app (.one rfl) (.app (.one rfl) .nil))))) .nil rfl ?_
 refine Ops.putK [0, 5] rfl rfl (ox_append a63 .tmp .tmp hb1.1 hb1.2) (.app (.one rfl) (.one rfl)) (.one rfl) rfl (by kernel_rfl) ?_
 refine O5 (ox1 .tmp) (.one rfl) .nil rfl <| O1 <| Q0 (σ' := ⟨[(4, _)], [(600, .arr 5 (a0 ++ ([(u8 (shrI a1 24)), (u8 (shrI a1 16)), (u8 (shrI a1 8)), (u8 a1)] : List UInt8)))]⟩) (j1 rfl) (j1 rfl) ?_
 refine Q5 ?_
 refine PT.freeze 600 [4] rfl (j1 rfl) ?_
 obtain rfl := Option.some.inj hφ
 exact Q7 rfl (.tmp rfl .nil) rfl trivial trivial
theorem c_wire_Request {a0 : Mk.Request} {r : (List UInt8)} (hφ : wire_Request a0 = some r) : Fn Go.Proofs.Try.prog 124 [.val a0] (.val r) := by
 unfold wire_Request at hφ
 refine Fn.mk' Go.Proofs.Try.func124 rfl (by decide) rfl rfl rfl (fun w0 hw0 => ?_)
 refine Q2 (Q1 ?_)
 refine O3 rfl rfl (ox_box (id := 1) .tmp) (.one rfl) .nil rfl (by kernel_rfl) <| O5 (ox1 .nilS) .nil .nil rfl <| O1 <| Q0 (σ' := ⟨[(1, _)], [(1, .var (a0) [])]⟩) (j1 rfl) (j1 rfl) ?_
 refine Q2 (Q1 ?_)
 refine O5 (ox3 Request_Call f35_2) (.one rfl) .nil rfl <| O5 (ox2 t33) (.one rfl) (.one rfl) rfl <| O3 rfl rfl (ox_alloc (id := 3) z33) .nil .nil rfl (by kernel_rfl) <| O2 rfl rfl (ox5 t33 .tmp) (.cons rfl (.one rfl)) (.one rfl) <| O1 <| Q0 (σ' := ⟨[(1, _), (3, _)], [(1, _), (3, .var (a0.Call) [])]⟩) (j2 rfl rfl) (j2 rfl rfl) ?_
 refine Q2 ?_
 obtain ⟨v1, hv1, hφ⟩ := B_some hφ
 refine Q1 ?_
 refine O5 (ox3 Request_Client f35_0) (.one rfl) .nil rfl <| O5 (ox2 t3) (.one rfl) (.one rfl) rfl <| O5 (ox_i64_u8 (by kernel_rfl) .tmp) (.one rfl) .nil rfl <| O5 (ox3 Request_Token f35_1) (.one rfl) .nil rfl <| O5 (ox2 t3) (.one rfl) (.one rfl) rfl <| O5 (ox_i64_u8 (by kernel_rfl) .tmp) (.one rfl) .nil rfl ?_
 refine O5 (ox3 Call_Kind f33_0) (.one rfl) .nil rfl <| O5 (ox2 t3) (.one rfl) (.one rfl) rfl <| O5 (ox_i64_u8 (by kernel_rfl) .tmp) (.one rfl) .nil rfl <| O5 (ox3 Call_Name f33_1) (.one rfl) .nil rfl <| O5 (ox2 t3) (.one rfl) (.one rfl) rfl <| O5 (ox_i64_u8 (by kernel_rfl) .tmp) (.one rfl) .nil rfl ?_
 refine O5 (ox3 Call_Other f33_2) (.one rfl) .nil rfl <| O5 (ox2 t3) (.one rfl) (.one rfl) rfl <| O5 (ox_i64_u8 (by kernel_rfl) .tmp) (.one rfl) .nil rfl <| O3 rfl rfl (ox_buildSlice_arr (id := 21) s63 z5 (.cons (.u8 (n := 113)) (.cons .tmp (.cons .tmp (.cons .tmp (.cons .tmp (.cons .tmp Parts.nil)))))) rfl (by decide)) ((.app .nil (.app (.one rfl) (.app (.one rfl) (.app (.one rfl) (.app (.one rfl) (.app (.one rfl) .nil))))))) .nil rfl (by kernel_rfl) <| O5 (ox3 Call_N f33_3) (.one rfl) .nil rfl <| O5 (ox2 t3) (.one rfl) (.one rfl) rfl ?_
 refine O3 rfl rfl (ox_callX (x_wire_num hv1) [(600, 21)] [] [] [21] (.cons .tmp (.cons .tmp .nil)) rfl rfl rfl rfl rfl rfl rfl rfl (j1 rfl) rfl rfl rfl rfl) (.app (.one rfl) (.app (.one rfl) .nil)) (.cons rfl .nil) rfl (by kernel_rfl) <| O5 (ox1 .tmp) (.one rfl) .nil rfl <| O1 <| Q0 (σ' := ⟨[(2, .val (v1))], []⟩) (j1 rfl) trivial ?_
 refine Q5 ?_
 obtain rfl := Option.some.inj hφ
 exact Q6 hw0 rfl (.tmp rfl rfl .nil) rfl
theorem c_mkref1_four {a0 : Int} {r : ByteArray} (hφ : mkref1_four a0 = some r) : Fn Go.Proofs.Try.prog 75 [.val a0] (.val r) := by
 unfold mkref1_four at hφ
 refine Fn.mk' Go.Proofs.Try.func75 rfl (by decide) rfl rfl rfl (fun w0 hw0 => ?_)
 refine Q2 (Q1 ?_)
 refine O5 (ox1 (.str (by decide))) .nil .nil rfl <| O1 <| Q0 (σ' := ⟨[(0, .val (a0))], []⟩) (j1 rfl) trivial ?_
 refine Q2 (Q1 ?_)
 refine O5 (ox0 .tmp) (.one rfl) .nil rfl <| O5 (ox_i64_u32 (by kernel_rfl) .tmp) (.one rfl) .nil rfl <| O5 (ox1 .tmp) (.one rfl) .nil rfl <| O1 <| Q0 (σ' := ⟨[(3, .val (u32 a0))], []⟩) (j1 rfl) trivial ?_
 refine Q2 (Q1 ?_)
 refine O5 (ox0 .tmp) (.one rfl) .nil rfl <| O5 (ox_quoU .tmp .u32 (by decide)) (.app (.one rfl) .nil) .nil rfl <| O5 (ox_u32_u8 (by kernel_rfl) .tmp) (.one rfl) .nil rfl <| O5 (ox0 .tmp) (.one rfl) .nil rfl <| O5 (ox_quoU .tmp .u32 (by decide)) (.app (.one rfl) .nil) .nil rfl <| O5 (ox_remU .tmp .u32 (by decide)) (.app (.one rfl) .nil) .nil rfl ?_
 refine O5 (ox_u32_u8 (by kernel_rfl) .tmp) (.one rfl) .nil rfl <| O5 (ox0 .tmp) (.one rfl) .nil rfl <| O5 (ox_quoU .tmp .u32 (by decide)) (.app (.one rfl) .nil) .nil rfl <| O5 (ox_remU .tmp .u32 (by decide)) (.app (.one rfl) .nil) .nil rfl <| O5 (ox_u32_u8 (by kernel_rfl) .tmp) (.one rfl) .nil rfl <| O5 (ox0 .tmp) (.one rfl) .nil rfl ?_
 refine O5 (ox_remU .tmp .u32 (by decide)) (.app (.one rfl) .nil) .nil rfl <| O5 (ox_u32_u8 (by kernel_rfl) .tmp) (.one rfl) .nil rfl <| O5 (ox_buildSlice_val s63 z5 (.cons .tmp (.cons .tmp (.cons .tmp (.cons .tmp Parts.nil)))) rfl (by decide)) ((.app (.one rfl) (.app (.one rfl) (.app (.one rfl) (.app (.one rfl) .nil))))) .nil rfl <| O5 (ox_bts (e := 5) (by kernel_rfl) .tmp) (.one rfl) .nil rfl <| O5 (ox1 .tmp) (.one rfl) .nil rfl <| O1 <| Q0 (σ' := ⟨[(2, .val ((bts ([(u8 (u32 (Int.tdiv (u32 a0).n (⟨16777216⟩ : U32).n)).n), (u8 (⟨Int.tmod (u32 (Int.tdiv (u32 a0).n (⟨65536⟩ : U32).n)).n (⟨256⟩ : U32).n⟩ : U32).n), (u8 (⟨Int.tmod (u32 (Int.tdiv (u32 a0).n (⟨256⟩ : U32).n)).n (⟨256⟩ : U32).n⟩ : U32).n), (u8 (⟨Int.tmod (u32 a0).n (⟨256⟩ : U32).n⟩ : U32).n)] : List UInt8))))], []⟩) (j1 rfl) trivial ?_
 refine Q5 ?_
 obtain rfl := Option.some.inj hφ
 exact Q6 hw0 rfl (.tmp rfl rfl .nil) rfl
theorem c_mkref1_RequestBytes {a0 : Mk.Request} {r : (List UInt8)} (hφ : mkref1_RequestBytes a0 = some r) : Fn Go.Proofs.Try.prog 39 [.val a0] (.val r) := by
 unfold mkref1_RequestBytes at hφ
 refine Fn.mk' Go.Proofs.Try.func39 rfl (by decide) rfl rfl rfl (fun w0 hw0 => ?_)
 refine Q2 (Q1 ?_)
 refine O3 rfl rfl (ox_box (id := 1) .tmp) (.one rfl) .nil rfl (by kernel_rfl) <| O5 (ox1 .nilS) .nil .nil rfl <| O1 <| Q0 (σ' := ⟨[(1, _)], [(1, .var (a0) [])]⟩) (j1 rfl) (j1 rfl) ?_
 refine Q2 ?_
 obtain ⟨hb1, hφ⟩ := G_some hφ
 obtain ⟨v2, hv2, hφ⟩ := B_some hφ
 obtain ⟨hb3, hφ⟩ := G_some hφ
 refine Q8 hMixed (
   .cons (S5 (ox3 Request_Client f35_0)) ⟨.one rfl, .nil⟩ (by kernel_rfl) rfl <|
   .cons (S5 (ox2 t3)) ⟨.one rfl, .one rfl⟩ (by kernel_rfl) rfl <|
   .cons (S5 (ox_i64_u8 (by kernel_rfl) .tmp)) ⟨.one rfl, .nil⟩ (by kernel_rfl) rfl <|
   .cons (S5 (ox3 Request_Token f35_1)) ⟨.one rfl, .nil⟩ (by kernel_rfl) rfl <|
   .cons (S5 (ox2 t3)) ⟨.one rfl, .one rfl⟩ (by kernel_rfl) rfl <|
   .cons (S5 (ox_i64_u8 (by kernel_rfl) .tmp)) ⟨.one rfl, .nil⟩ (by kernel_rfl) rfl <|
   .cons (S5 (ox3 Request_Call f35_2)) ⟨.one rfl, .nil⟩ (by kernel_rfl) rfl <|
   .cons (S5 (ox_fieldAddr_ptr Call_Kind f33_0)) ⟨.one rfl, .nil⟩ (by kernel_rfl) rfl <|
   .cons (S5 (ox2 t3)) ⟨.one rfl, .one rfl⟩ (by kernel_rfl) rfl <|
   .cons (S5 (ox_i64_u8 (by kernel_rfl) .tmp)) ⟨.one rfl, .nil⟩ (by kernel_rfl) rfl <|
   .cons (S5 (ox3 Request_Call f35_2)) ⟨.one rfl, .nil⟩ (by kernel_rfl) rfl <|
   .cons (S5 (ox_fieldAddr_ptr Call_Name f33_1)) ⟨.one rfl, .nil⟩ (by kernel_rfl) rfl <|
   .cons (S5 (ox2 t3)) ⟨.one rfl, .one rfl⟩ (by kernel_rfl) rfl <|
   .cons (S5 (ox_i64_u8 (by kernel_rfl) .tmp)) ⟨.one rfl, .nil⟩ (by kernel_rfl) rfl <|
   .cons (S5 (ox3 Request_Call f35_2)) ⟨.one rfl, .nil⟩ (by kernel_rfl) rfl <|
   .cons (S5 (ox_fieldAddr_ptr Call_Other f33_2)) ⟨.one rfl, .nil⟩ (by kernel_rfl) rfl <|
   .cons (S5 (ox2 t3)) ⟨.one rfl, .one rfl⟩ (by kernel_rfl) rfl <|
   .cons (S5 (ox_i64_u8 (by kernel_rfl) .tmp)) ⟨.one rfl, .nil⟩ (by kernel_rfl) rfl <|
   .cons (S5 (ox_buildSlice_val s63 z5 (.cons .tmp (.cons .tmp (.cons .tmp (.cons .tmp (.cons .tmp Parts.nil))))) rfl (by decide))) ⟨(.app (.one rfl) (.app (.one rfl) (.app (.one rfl) (.app (.one rfl) (.app (.one rfl) .nil))))), .nil⟩ (by kernel_rfl) rfl <|
   .cons (S5 (ox_bts (e := 5) (by kernel_rfl) .tmp)) ⟨.one rfl, .nil⟩ (by kernel_rfl) rfl <|
   .cons (S5 (ox_addStr (.str (by decide)) .tmp hb1)) ⟨(.app .nil (.one rfl)), .nil⟩ (by kernel_rfl) rfl <|
   .cons (S5 (ox3 Request_Call f35_2)) ⟨.one rfl, .nil⟩ (by kernel_rfl) rfl <|
   .cons (S5 (ox_fieldAddr_ptr Call_N f33_3)) ⟨.one rfl, .nil⟩ (by kernel_rfl) rfl <|
   .cons (S5 (ox2 t3)) ⟨.one rfl, .one rfl⟩ (by kernel_rfl) rfl <|
   .cons (S5 (ox_call (c_mkref1_four hv2) (.cons .tmp .nil))) ⟨(.app (.one rfl) .nil), .nil⟩ (by kernel_rfl) rfl <|
   .cons (S5 (ox_addStr .tmp .tmp hb3)) ⟨(.app (.one rfl) (.one rfl)), .nil⟩ (by kernel_rfl) rfl <|
   .cons (S5 (ox_stb (e := 5) (by kernel_rfl) .tmp)) ⟨.one rfl, .nil⟩ (by kernel_rfl) rfl <|
   .cons (S5 (ox1 .tmp)) ⟨.one rfl, .nil⟩ (by kernel_rfl) rfl <|
   .nil) _ [[], [0], [0, 1], [], [3], [3, 4], [], [6], [6, 7], [6, 7, 8], [], [10], [10, 11], [10, 11, 12], [], [14], [14, 15], [14, 15, 16], [0, 1, 2, 3, 4, 5, 6, 7, 8, 9, 10, 11, 12, 13, 14, 15, 16, 17], [0, 1, 2, 3, 4, 5, 6, 7, 8, 9, 10, 11, 12, 13, 14, 15, 16, 17, 18], [0, 1, 2, 3, 4, 5, 6, 7, 8, 9, 10, 11, 12, 13, 14, 15, 16, 17, 18, 19], [], [21], [21, 22], [21, 22, 23], [0, 1, 2, 3, 4, 5, 6, 7, 8, 9, 10, 11, 12, 13, 14, 15, 16, 17, 18, 19, 20, 21, 22, 23, 24], [0, 1, 2, 3, 4, 5, 6, 7, 8, 9, 10, 11, 12, 13, 14, 15, 16, 17, 18, 19, 20, 21, 22, 23, 24, 25], [0, 1, 2, 3, 4, 5, 6, 7, 8, 9, 10, 11, 12, 13, 14, 15, 16, 17, 18, 19, 20, 21, 22, 23, 24, 25, 26]] rfl (by kernel_rfl) (by kernel_rfl) ?_
 refine Q0 (σ' := ⟨[(2, .val ((stb (((⟨#[113]⟩ : ByteArray) ++ (bts ([(u8 a0.Client), (u8 a0.Token), (u8 a0.Call.Kind), (u8 a0.Call.Name), (u8 a0.Call.Other)] : List UInt8))) ++ v2))))], []⟩) (j1 rfl) trivial ?_
 refine Q5 ?_
 obtain rfl := Option.some.inj hφ
 exact Q6 hw0 rfl (.tmp rfl rfl .nil) rfl
theorem c_wire_Answer {a0 : Mk.Answer} {r : (List UInt8)} (hφ : wire_Answer a0 = some r) : Fn Go.Proofs.Try.prog 66 [.val a0] (.val r) := by
 unfold wire_Answer at hφ
 refine Fn.mk' Go.Proofs.Try.func66 rfl (by decide) rfl rfl rfl (fun w0 hw0 => ?_)
 refine Q2 (Q1 ?_)
 refine O3 rfl rfl (ox_box (id := 1) .tmp) (.one rfl) .nil rfl (by kernel_rfl) <| O5 (ox1 .nilS) .nil .nil rfl <| O1 <| Q0 (σ' := ⟨[(1, _)], [(1, .var (a0) [])]⟩) (j1 rfl) (j1 rfl) ?_
 refine Q2 ?_
 obtain ⟨v1, hv1, hφ⟩ := B_some hφ
 refine Q1 ?_
 refine O5 (ox3 Answer_Client f74_0) (.one rfl) .nil rfl <| O5 (ox2 t3) (.one rfl) (.one rfl) rfl <| O5 (ox_i64_u8 (by kernel_rfl) .tmp) (.one rfl) .nil rfl <| O5 (ox3 Answer_Token f74_1) (.one rfl) .nil rfl <| O5 (ox2 t3) (.one rfl) (.one rfl) rfl <| O5 (ox_i64_u8 (by kernel_rfl) .tmp) (.one rfl) .nil rfl ?_
 refine O5 (ox3 Answer_Reply f74_2) (.one rfl) .nil rfl <| O5 (ox_fieldAddr_ptr Reply_Err f38_0) (.one rfl) .nil rfl <| O5 (ox2 t36) (.one rfl) (.one rfl) rfl <| O5 (ox_i64_u8 (by kernel_rfl) .tmp) (.one rfl) .nil rfl <| O3 rfl rfl (ox_buildSlice_arr (id := 13) s63 z5 (.cons (.u8 (n := 97)) (.cons .tmp (.cons .tmp (.cons .tmp Parts.nil)))) rfl (by decide)) ((.app .nil (.app (.one rfl) (.app (.one rfl) (.app (.one rfl) .nil))))) .nil rfl (by kernel_rfl) <| O5 (ox3 Answer_Reply f74_2) (.one rfl) .nil rfl ?_
 refine O5 (ox_fieldAddr_ptr Reply_N f38_1) (.one rfl) .nil rfl <| O5 (ox2 t3) (.one rfl) (.one rfl) rfl <| O3 rfl rfl (ox_callX (x_wire_num hv1) [(600, 13)] [] [] [13] (.cons .tmp (.cons .tmp .nil)) rfl rfl rfl rfl rfl rfl rfl rfl (j1 rfl) rfl rfl rfl rfl) (.app (.one rfl) (.app (.one rfl) .nil)) (.cons rfl .nil) rfl (by kernel_rfl) <| O5 (ox1 .tmp) (.one rfl) .nil rfl <| O1 <| Q0 (σ' := ⟨[(2, .val (v1))], []⟩) (j1 rfl) trivial ?_
 refine Q5 ?_
 obtain rfl := Option.some.inj hφ
 exact Q6 hw0 rfl (.tmp rfl rfl .nil) rfl
theorem c_mkref1_AnswerBytes {a0 : Mk.Answer} {r : (List UInt8)} (hφ : mkref1_AnswerBytes a0 = some r) : Fn Go.Proofs.Try.prog 40 [.val a0] (.val r) := by
 unfold mkref1_AnswerBytes at hφ
 refine Fn.mk' Go.Proofs.Try.func40 rfl (by decide) rfl rfl rfl (fun w0 hw0 => ?_)
 refine Q2 (Q1 ?_)
 refine O3 rfl rfl (ox_box (id := 1) .tmp) (.one rfl) .nil rfl (by kernel_rfl) <| O5 (ox1 .nilS) .nil .nil rfl <| O1 <| Q0 (σ' := ⟨[(1, _)], [(1, .var (a0) [])]⟩) (j1 rfl) (j1 rfl) ?_
 refine Q2 ?_
 obtain ⟨hb1, hφ⟩ := G_some hφ
 obtain ⟨v2, hv2, hφ⟩ := B_some hφ
 obtain ⟨hb3, hφ⟩ := G_some hφ
 refine Q8 hMixed (
   .cons (S5 (ox3 Answer_Client f74_0)) ⟨.one rfl, .nil⟩ (by kernel_rfl) rfl <|
   .cons (S5 (ox2 t3)) ⟨.one rfl, .one rfl⟩ (by kernel_rfl) rfl <|
   .cons (S5 (ox_i64_u8 (by kernel_rfl) .tmp)) ⟨.one rfl, .nil⟩ (by kernel_rfl) rfl <|
   .cons (S5 (ox3 Answer_Token f74_1)) ⟨.one rfl, .nil⟩ (by kernel_rfl) rfl <|
   .cons (S5 (ox2 t3)) ⟨.one rfl, .one rfl⟩ (by kernel_rfl) rfl <|
   .cons (S5 (ox_i64_u8 (by kernel_rfl) .tmp)) ⟨.one rfl, .nil⟩ (by kernel_rfl) rfl <|
   .cons (S5 (ox3 Answer_Reply f74_2)) ⟨.one rfl, .nil⟩ (by kernel_rfl) rfl <|
   .cons (S5 (ox_fieldAddr_ptr Reply_Err f38_0)) ⟨.one rfl, .nil⟩ (by kernel_rfl) rfl <|
   .cons (S5 (ox2 t36)) ⟨.one rfl, .one rfl⟩ (by kernel_rfl) rfl <|
   .cons (S5 (ox_i64_u8 (by kernel_rfl) .tmp)) ⟨.one rfl, .nil⟩ (by kernel_rfl) rfl <|
   .cons (S5 (ox_buildSlice_val s63 z5 (.cons .tmp (.cons .tmp (.cons .tmp Parts.nil))) rfl (by decide))) ⟨(.app (.one rfl) (.app (.one rfl) (.app (.one rfl) .nil))), .nil⟩ (by kernel_rfl) rfl <|
   .cons (S5 (ox_bts (e := 5) (by kernel_rfl) .tmp)) ⟨.one rfl, .nil⟩ (by kernel_rfl) rfl <|
   .cons (S5 (ox_addStr (.str (by decide)) .tmp hb1)) ⟨(.app .nil (.one rfl)), .nil⟩ (by kernel_rfl) rfl <|
   .cons (S5 (ox3 Answer_Reply f74_2)) ⟨.one rfl, .nil⟩ (by kernel_rfl) rfl <|
   .cons (S5 (ox_fieldAddr_ptr Reply_N f38_1)) ⟨.one rfl, .nil⟩ (by kernel_rfl) rfl <|
   .cons (S5 (ox2 t3)) ⟨.one rfl, .one rfl⟩ (by kernel_rfl) rfl <|
   .cons (S5 (ox_call (c_mkref1_four hv2) (.cons .tmp .nil))) ⟨(.app (.one rfl) .nil), .nil⟩ (by kernel_rfl) rfl <|
   .cons (S5 (ox_addStr .tmp .tmp hb3)) ⟨(.app (.one rfl) (.one rfl)), .nil⟩ (by kernel_rfl) rfl <|
   .cons (S5 (ox_stb (e := 5) (by kernel_rfl) .tmp)) ⟨.one rfl, .nil⟩ (by kernel_rfl) rfl <|
   .cons (S5 (ox1 .tmp)) ⟨.one rfl, .nil⟩ (by kernel_rfl) rfl <|
   .nil) _ [[], [0], [0, 1], [], [3], [3, 4], [], [6], [6, 7], [6, 7, 8], [0, 1, 2, 3, 4, 5, 6, 7, 8, 9], [0, 1, 2, 3, 4, 5, 6, 7, 8, 9, 10], [0, 1, 2, 3, 4, 5, 6, 7, 8, 9, 10, 11], [], [13], [13, 14], [13, 14, 15], [0, 1, 2, 3, 4, 5, 6, 7, 8, 9, 10, 11, 12, 13, 14, 15, 16], [0, 1, 2, 3, 4, 5, 6, 7, 8, 9, 10, 11, 12, 13, 14, 15, 16, 17], [0, 1, 2, 3, 4, 5, 6, 7, 8, 9, 10, 11, 12, 13, 14, 15, 16, 17, 18]] rfl (by kernel_rfl) (by kernel_rfl) ?_
 refine Q0 (σ' := ⟨[(2, .val ((stb (((⟨#[97]⟩ : ByteArray) ++ (bts ([(u8 a0.Client), (u8 a0.Token), (u8 a0.Reply.Err)] : List UInt8))) ++ v2))))], []⟩) (j1 rfl) trivial ?_
 refine Q5 ?_
 obtain rfl := Option.some.inj hφ
 exact Q6 hw0 rfl (.tmp rfl rfl .nil) rfl
theorem c_wire_get {a0 : List UInt8} {r : Int} (hφ : wire_get a0 = some r) : Fn Go.Proofs.Try.prog 117 [.val a0] (.val r) := by
 unfold wire_get at hφ
 refine Fn.mk' Go.Proofs.Try.func117 rfl (by decide) rfl rfl rfl (fun w0 hw0 => ?_)
 refine Q2 (Q1 ?_)
 refine O5 (ox1 .int) .nil .nil rfl <| O1 <| Q0 (σ' := ⟨[(0, .val (a0))], []⟩) (j1 rfl) trivial ?_
 refine Q2 ?_
 obtain ⟨hb1, hφ⟩ := G_some hφ
 obtain ⟨hb2, hφ⟩ := G_some hφ
 obtain ⟨hb3, hφ⟩ := G_some hφ
 obtain ⟨hb4, hφ⟩ := G_some hφ
 refine Q8 hMixed (
   .cons (S5 (ox0 .tmp)) ⟨.one rfl, .nil⟩ (by kernel_rfl) rfl <|
   .cons (S5 (ox_ix s63 .tmp .int hb1.1 hb1.2)) ⟨(.app (.one rfl) .nil), .nil⟩ (by kernel_rfl) rfl <|
   .cons (S5 (ox_load_elem t5)) ⟨.one rfl, .nil⟩ (by kernel_rfl) rfl <|
   .cons (S5 (ox_u8_u32 (by kernel_rfl) .tmp)) ⟨.one rfl, .nil⟩ (by kernel_rfl) rfl <|
   .cons (S5 (ox_shlU 24 .tmp rfl rfl)) ⟨.one rfl, .nil⟩ (by kernel_rfl) rfl <|
   .cons (S5 (ox0 .tmp)) ⟨.one rfl, .nil⟩ (by kernel_rfl) rfl <|
   .cons (S5 (ox_ix s63 .tmp .int hb2.1 hb2.2)) ⟨(.app (.one rfl) .nil), .nil⟩ (by kernel_rfl) rfl <|
   .cons (S5 (ox_load_elem t5)) ⟨.one rfl, .nil⟩ (by kernel_rfl) rfl <|
   .cons (S5 (ox_u8_u32 (by kernel_rfl) .tmp)) ⟨.one rfl, .nil⟩ (by kernel_rfl) rfl <|
   .cons (S5 (ox_shlU 16 .tmp rfl rfl)) ⟨.one rfl, .nil⟩ (by kernel_rfl) rfl <|
   .cons (S5 (ox_orU .tmp .tmp)) ⟨(.app (.one rfl) (.one rfl)), .nil⟩ (by kernel_rfl) rfl <|
   .cons (S5 (ox0 .tmp)) ⟨.one rfl, .nil⟩ (by kernel_rfl) rfl <|
   .cons (S5 (ox_ix s63 .tmp .int hb3.1 hb3.2)) ⟨(.app (.one rfl) .nil), .nil⟩ (by kernel_rfl) rfl <|
   .cons (S5 (ox_load_elem t5)) ⟨.one rfl, .nil⟩ (by kernel_rfl) rfl <|
   .cons (S5 (ox_u8_u32 (by kernel_rfl) .tmp)) ⟨.one rfl, .nil⟩ (by kernel_rfl) rfl <|
   .cons (S5 (ox_shlU 8 .tmp rfl rfl)) ⟨.one rfl, .nil⟩ (by kernel_rfl) rfl <|
   .cons (S5 (ox_orU .tmp .tmp)) ⟨(.app (.one rfl) (.one rfl)), .nil⟩ (by kernel_rfl) rfl <|
   .cons (S5 (ox0 .tmp)) ⟨.one rfl, .nil⟩ (by kernel_rfl) rfl <|
   .cons (S5 (ox_ix s63 .tmp .int hb4.1 hb4.2)) ⟨(.app (.one rfl) .nil), .nil⟩ (by kernel_rfl) rfl <|
   .cons (S5 (ox_load_elem t5)) ⟨.one rfl, .nil⟩ (by kernel_rfl) rfl <|
   .cons (S5 (ox_u8_u32 (by kernel_rfl) .tmp)) ⟨.one rfl, .nil⟩ (by kernel_rfl) rfl <|
   .cons (S5 (ox_orU .tmp .tmp)) ⟨(.app (.one rfl) (.one rfl)), .nil⟩ (by kernel_rfl) rfl <|
   .cons (S5 (ox_u32_i32 (by kernel_rfl) .tmp)) ⟨.one rfl, .nil⟩ (by kernel_rfl) rfl <|
   .cons (S5 (ox_i32_i64 (by kernel_rfl) .tmp)) ⟨.one rfl, .nil⟩ (by kernel_rfl) rfl <|
   .cons (S5 (ox1 .tmp)) ⟨.one rfl, .nil⟩ (by kernel_rfl) rfl <|
   .nil) _ [[], [0], [0, 1], [0, 1, 2], [0, 1, 2, 3], [], [5], [5, 6], [5, 6, 7], [5, 6, 7, 8], [0, 1, 2, 3, 4, 5, 6, 7, 8, 9], [], [11], [11, 12], [11, 12, 13], [11, 12, 13, 14], [0, 1, 2, 3, 4, 5, 6, 7, 8, 9, 10, 11, 12, 13, 14, 15], [], [17], [17, 18], [17, 18, 19], [0, 1, 2, 3, 4, 5, 6, 7, 8, 9, 10, 11, 12, 13, 14, 15, 16, 17, 18, 19, 20], [0, 1, 2, 3, 4, 5, 6, 7, 8, 9, 10, 11, 12, 13, 14, 15, 16, 17, 18, 19, 20, 21], [0, 1, 2, 3, 4, 5, 6, 7, 8, 9, 10, 11, 12, 13, 14, 15, 16, 17, 18, 19, 20, 21, 22], [0, 1, 2, 3, 4, 5, 6, 7, 8, 9, 10, 11, 12, 13, 14, 15, 16, 17, 18, 19, 20, 21, 22, 23]] rfl (by kernel_rfl) (by kernel_rfl) ?_
 refine Q0 (σ' := ⟨[(2, .val ((i32 (orU (orU (orU (shlU (⟨(((ix a0 (0 : Int)).toNat : Nat) : Int)⟩ : U32) 24) (shlU (⟨(((ix a0 (1 : Int)).toNat : Nat) : Int)⟩ : U32) 16)) (shlU (⟨(((ix a0 (2 : Int)).toNat : Nat) : Int)⟩ : U32) 8)) (⟨(((ix a0 (3 : Int)).toNat : Nat) : Int)⟩ : U32)).n).n))], []⟩) (j1 rfl) trivial ?_
 refine Q5 ?_
 obtain rfl := Option.some.inj hφ
 exact Q6 hw0 rfl (.tmp rfl rfl .nil) rfl
theorem c_wire_ReadRequest {a0 : List UInt8} {r : (Mk.Request × Int)} (hφ : wire_ReadRequest a0 = some r) : Fn Go.Proofs.Try.prog 99 [.val a0] (.tup [.val r.1, .val r.2]) := by
 unfold wire_ReadRequest at hφ
 refine Fn.mk' Go.Proofs.Try.func99 rfl (by decide) rfl rfl rfl (fun w0 hw0 => ?_)
 refine Q2 (Q1 ?_)
 refine O3 rfl rfl (ox_alloc (id := 2) z35) .nil .nil rfl (by kernel_rfl) <| O5 (ox1 .int) .nil .nil rfl <| O1 <| Q0 (σ' := ⟨[(0, .val (a0)), (2, _)], [(2, .var zRq [])]⟩) (j2 rfl rfl) (j1 rfl) ?_
 refine Q2 (Q2 ?_)
 obtain ⟨hb1, hφ⟩ := G_some hφ
 refine Q1 ?_
 refine O5 (ox0 .tmp) (.one rfl) .nil rfl <| O5 (ox_len s63 .tmp) (.one rfl) .nil rfl <| O5 (ox_neq .tmp .int) (.app (.one rfl) .nil) .nil rfl <| O5 (ox0 .tmp) (.one rfl) .nil rfl <| O4 rfl rfl rfl rfl (.plain .nil) (fun hG => (ox0 .tmp)) (j1 rfl) .nil rfl <| O4 rfl rfl rfl rfl (.cond (fun h => h) .nil) (fun hG => (ox_ix s63 .tmp .int (hb1 hG).1 (hb1 hG).2)) (j1 rfl) .nil rfl ?_
 refine O4 rfl rfl rfl rfl (.cond (fun h => h) .nil) (fun hG => (ox_load_elem t5)) (j1 rfl) .nil rfl <| O4 rfl rfl rfl rfl (.cond (fun h => h) .nil) (fun hG => (ox_neqU8 .tmp (.u8 (n := 113)))) (j1 rfl) .nil rfl <| O5 ox9 (j2 rfl rfl) .nil rfl <| O1 <| Q0 (σ' := ⟨[(0, _), (2, _), (14, .val (((!decide ((a0.length : Int) = (10 : Int))) || (!decide ((ix a0 (0 : Int)) = (UInt8.ofNat 113))))))], [(2, _)]⟩) (j3 rfl rfl rfl) (j1 rfl) ?_
 refine Q3 _ rfl (fun hc2 => ?_) (fun hc2 => ?_)
 ·replace hφ := if_then hφ hc2
  refine Q0 (σ' := ⟨[(2, _)], [(2, _)]⟩) (j1 rfl) (j1 rfl) ?_
  refine Q2 (Q1 ?_)
  refine O5 (oxa z35 u35 rfl Bld.nil) .nil .nil rfl <| O2 rfl rfl (ox5 t35 .tmp) (.cons rfl (.one rfl)) (.one rfl) <| O5 (ox1 .int) .nil .nil rfl <| O1 <| Q0 (σ' := ⟨[(2, _), (3, .val (2 : Int))], [(2, _)]⟩) (j2 rfl rfl) (j1 rfl) ?_
  refine Q5 ?_
  obtain rfl := Option.some.inj hφ
  exact Q6 hw0 rfl (.cell t35 rfl rfl (.tmp rfl rfl .nil)) rfl
 ·replace hφ := if_else hφ hc2
  refine Q0 (σ' := ⟨[(0, _), (2, _)], [(2, _)]⟩) (j2 rfl rfl) (j1 rfl) ?_
  refine Q4 ?_
  refine Q2 ?_
  obtain ⟨hb3, hφ⟩ := G_some hφ
  obtain ⟨hb4, hφ⟩ := G_some hφ
  obtain ⟨hb5, hφ⟩ := G_some hφ
  obtain ⟨hb6, hφ⟩ := G_some hφ
  obtain ⟨hb7, hφ⟩ := G_some hφ
  obtain ⟨hb8, hφ⟩ := G_some hφ
  obtain ⟨v9, hv9, hφ⟩ := B_some hφ
  refine Q8 hMixed (
    .cons (S5 (ox0 .tmp)) ⟨.one rfl, .nil⟩ (by kernel_rfl) rfl <|
    .cons (S5 (ox_ix s63 .tmp .int hb3.1 hb3.2)) ⟨(.app (.one rfl) .nil), .nil⟩ (by kernel_rfl) rfl <|
    .cons (S5 (ox_load_elem t5)) ⟨.one rfl, .nil⟩ (by kernel_rfl) rfl <|
    .cons (S5 (ox_u8_i64 (by kernel_rfl) .tmp)) ⟨.one rfl, .nil⟩ (by kernel_rfl) rfl <|
    .cons (S5 (ox0 .tmp)) ⟨.one rfl, .nil⟩ (by kernel_rfl) rfl <|
    .cons (S5 (ox_ix s63 .tmp .int hb4.1 hb4.2)) ⟨(.app (.one rfl) .nil), .nil⟩ (by kernel_rfl) rfl <|
    .cons (S5 (ox_load_elem t5)) ⟨.one rfl, .nil⟩ (by kernel_rfl) rfl <|
    .cons (S5 (ox_u8_i64 (by kernel_rfl) .tmp)) ⟨.one rfl, .nil⟩ (by kernel_rfl) rfl <|
    .cons (S5 (ox0 .tmp)) ⟨.one rfl, .nil⟩ (by kernel_rfl) rfl <|
    .cons (S5 (ox_ix s63 .tmp .int hb5.1 hb5.2)) ⟨(.app (.one rfl) .nil), .nil⟩ (by kernel_rfl) rfl <|
    .cons (S5 (ox_load_elem t5)) ⟨.one rfl, .nil⟩ (by kernel_rfl) rfl <|
    .cons (S5 (ox_u8_i64 (by kernel_rfl) .tmp)) ⟨.one rfl, .nil⟩ (by kernel_rfl) rfl <|
    .cons (S5 (ox0 .tmp)) ⟨.one rfl, .nil⟩ (by kernel_rfl) rfl <|
    .cons (S5 (ox_ix s63 .tmp .int hb6.1 hb6.2)) ⟨(.app (.one rfl) .nil), .nil⟩ (by kernel_rfl) rfl <|
    .cons (S5 (ox_load_elem t5)) ⟨.one rfl, .nil⟩ (by kernel_rfl) rfl <|
    .cons (S5 (ox_u8_i64 (by kernel_rfl) .tmp)) ⟨.one rfl, .nil⟩ (by kernel_rfl) rfl <|
    .cons (S5 (ox0 .tmp)) ⟨.one rfl, .nil⟩ (by kernel_rfl) rfl <|
    .cons (S5 (ox_ix s63 .tmp .int hb7.1 hb7.2)) ⟨(.app (.one rfl) .nil), .nil⟩ (by kernel_rfl) rfl <|
    .cons (S5 (ox_load_elem t5)) ⟨.one rfl, .nil⟩ (by kernel_rfl) rfl <|
    .cons (S5 (ox_u8_i64 (by kernel_rfl) .tmp)) ⟨.one rfl, .nil⟩ (by kernel_rfl) rfl <|
    .cons (S5 (ox0 .tmp)) ⟨.one rfl, .nil⟩ (by kernel_rfl) rfl <|
    .cons (S5 (ox_slice s63 .tmp (.some .int) .none hb8.1 hb8.2.1 hb8.2.2)) ⟨(.app (.one rfl) (.app .nil .nil)), .nil⟩ (by kernel_rfl) rfl <|
    .cons (S5 (ox_call (c_wire_get hv9) (.cons .tmp .nil))) ⟨(.app (.one rfl) .nil), .nil⟩ (by kernel_rfl) rfl <|
    .cons (S5 (oxa z33 u33 rfl (.cons Call_Kind f33_0 .tmp (.cons Call_Name f33_1 .tmp (.cons Call_Other f33_2 .tmp (.cons Call_N f33_3 .tmp Bld.nil)))))) ⟨(.app (.one rfl) (.app (.one rfl) (.app (.one rfl) (.app (.one rfl) .nil)))), .nil⟩ (by kernel_rfl) rfl <|
    .cons (S5 (oxa z35 u35 rfl (.cons Request_Client f35_0 .tmp (.cons Request_Token f35_1 .tmp (.cons Request_Call f35_2 .tmp Bld.nil))))) ⟨(.app (.one rfl) (.app (.one rfl) (.app (.one rfl) .nil))), .nil⟩ (by kernel_rfl) rfl <|
    .cons (S5 (ox_alloc (id := 4) z35)) ⟨.nil, .nil⟩ (by kernel_rfl) rfl <|
    .cons (S4 rfl rfl (ox5 t35 .tmp)) ⟨(.cons rfl (.one rfl)), .one rfl⟩ (by kernel_rfl) rfl <|
    .nil) _ [[], [0], [0, 1], [0, 1, 2], [], [4], [4, 5], [4, 5, 6], [], [8], [8, 9], [8, 9, 10], [], [12], [12, 13], [12, 13, 14], [], [16], [16, 17], [16, 17, 18], [], [20], [20, 21], [8, 9, 10, 11, 12, 13, 14, 15, 16, 17, 18, 19, 20, 21, 22], [0, 1, 2, 3, 4, 5, 6, 7, 8, 9, 10, 11, 12, 13, 14, 15, 16, 17, 18, 19, 20, 21, 22, 23], [], [0, 1, 2, 3, 4, 5, 6, 7, 8, 9, 10, 11, 12, 13, 14, 15, 16, 17, 18, 19, 20, 21, 22, 23, 24, 25]] rfl (by kernel_rfl) (by kernel_rfl) ?_
  refine Q0 (σ' := ⟨[(2, _), (4, _)], [(2, _), (4, .var (({ Client := (((ix a0 (1 : Int)).toNat : Nat) : Int), Token := (((ix a0 (2 : Int)).toNat : Nat) : Int), Call := ({ Kind := (((ix a0 (3 : Int)).toNat : Nat) : Int), Name := (((ix a0 (4 : Int)).toNat : Nat) : Int), Other := (((ix a0 (5 : Int)).toNat : Nat) : Int), N := v9 } : Mk.Call) } : Mk.Request)) [])]⟩) (j2 rfl rfl) (j2 rfl rfl) ?_
  refine Q2 (Q2 ?_)
  obtain ⟨v10, hv10, hφ⟩ := B_some hφ
  refine Q1 ?_
  refine O5 (ox4 t35) (.one rfl) (.one rfl) rfl <| O5 (ox_call (c_wire_WrongRequest hv10) (.cons .tmp .nil)) (.app (.one rfl) .nil) .nil rfl <| O5 (ox1 .tmp) (.one rfl) .nil rfl <| O1 <| Q0 (σ' := ⟨[(2, _), (4, _), (5, .val (v10))], [(2, _), (4, _)]⟩) (j3 rfl rfl rfl) (j2 rfl rfl) ?_
  refine Q2 (Q1 ?_)
  refine O5 (ox0 .tmp) (.one rfl) .nil rfl <| O5 (ox_neq .tmp .int) (.app (.one rfl) .nil) .nil rfl <| O1 <| Q0 (σ' := ⟨[(2, _), (4, _), (5, _), (44, .val (!decide (v10 = (0 : Int))))], [(2, _), (4, _)]⟩) (j4 rfl rfl rfl rfl) (j2 rfl rfl) ?_
  refine Q3 _ rfl (fun hc11 => ?_) (fun hc11 => ?_)
  ·replace hφ := if_then hφ hc11
   refine Q0 (σ' := ⟨[(2, _), (5, _)], [(2, _)]⟩) (j2 rfl rfl) (j1 rfl) ?_
   refine Q2 (Q1 ?_)
   refine O5 (oxa z35 u35 rfl Bld.nil) .nil .nil rfl <| O5 (ox0 .tmp) (.one rfl) .nil rfl <| O2 rfl rfl (ox5 t35 .tmp) (.cons rfl (.one rfl)) (.one rfl) <| O5 (ox1 .tmp) (.one rfl) .nil rfl <| O1 <| Q0 (σ' := ⟨[(2, _), (3, .val (v10))], [(2, _)]⟩) (j2 rfl rfl) (j1 rfl) ?_
   refine Q5 ?_
   obtain rfl := Option.some.inj hφ
   exact Q6 hw0 rfl (.cell t35 rfl rfl (.tmp rfl rfl .nil)) rfl
  ·replace hφ := if_else hφ hc11
   refine Q0 (σ' := ⟨[(2, _), (4, _)], [(2, _), (4, _)]⟩) (j2 rfl rfl) (j2 rfl rfl) ?_
   refine Q4 ?_
   refine Q2 (Q1 ?_)
   refine O5 (ox4 t35) (.one rfl) (.one rfl) rfl <| O2 rfl rfl (ox5 t35 .tmp) (.cons rfl (.one rfl)) (.one rfl) <| O5 (ox1 .int) .nil .nil rfl <| O1 <| Q0 (σ' := ⟨[(2, _), (3, .val (0 : Int))], [(2, .var (({ Client := (((ix a0 (1 : Int)).toNat : Nat) : Int), Token := (((ix a0 (2 : Int)).toNat : Nat) : Int), Call := ({ Kind := (((ix a0 (3 : Int)).toNat : Nat) : Int), Name := (((ix a0 (4 : Int)).toNat : Nat) : Int), Other := (((ix a0 (5 : Int)).toNat : Nat) : Int), N := v9 } : Mk.Call) } : Mk.Request)) [])]⟩) (j2 rfl rfl) (j1 rfl) ?_
   refine Q5 ?_
   obtain rfl := Option.some.inj hφ
   exact Q6 hw0 rfl (.cell t35 rfl rfl (.tmp rfl rfl .nil)) rfl
theorem c_mkref1_num {a0 : List UInt8} {r : Int} (hφ : mkref1_num a0 = some r) : Fn Go.Proofs.Try.prog 104 [.val a0] (.val r) := by
 unfold mkref1_num at hφ
 refine Fn.mk' Go.Proofs.Try.func104 rfl (by decide) rfl rfl rfl (fun w0 hw0 => ?_)
 refine Q2 (Q1 ?_)
 refine O5 (ox1 .int) .nil .nil rfl <| O1 <| Q0 (σ' := ⟨[(0, .val (a0))], []⟩) (j1 rfl) trivial ?_
 refine Q2 (Q1 ?_)
 refine O5 (ox1 .u32) .nil .nil rfl <| O1 <| Q0 (σ' := ⟨[(0, _), (3, .val (⟨0⟩ : U32))], []⟩) (j2 rfl rfl) trivial ?_
 obtain ⟨k1, hk1, hφ⟩ := J_some hφ
 refine PT.cut (ι := U32) (fun p => ⟨[(3, .val (p))], []⟩) (fun p => k1 (p) = some r) ?_ ?_
 ·skip
  refine Q2 (Q1 ?_)
  refine O5 (ox0 .int) .nil .nil rfl <| O1 <| Q0 (σ' := ⟨[(0, _), (3, _), (5, .val (0 : Int))], []⟩) (j3 rfl rfl rfl) trivial ?_
  refine PT.block ?_
  refine PT.loop (ι := Nat × (List UInt8) × U32 × Int) (fun p => ⟨[(0, .val (p.2.1)), (3, .val (p.2.2.1)), (5, .val (p.2.2.2))], []⟩) (fun p => mkref1_num_l1 k1 p.1 (p.2.1) (p.2.2.1) (p.2.2.2) = some r) (fun p => p.1) (((4 : Int) - (0 : Int)).toNat + 1, a0, (⟨0⟩ : U32), (0 : Int)) hφ (j3 rfl rfl rfl) trivial ?_
  rintro ⟨m2, x0_m2, x3_m2, x5_m2⟩ (hφ : mkref1_num_l1 k1 m2 x0_m2 x3_m2 x5_m2 = some r)
  obtain _ | m2 := m2
  ·exact (none_no hφ).elim
  rw [mkref1_num_l1.eq_2] at hφ
  refine Q0 (σ' := ⟨[(0, .val (x0_m2)), (3, .val (x3_m2)), (5, .val (x5_m2))], []⟩) (j3 rfl rfl rfl) trivial ?_
  refine Q2 (Q1 ?_)
  refine O5 (ox_lss .tmp .int) (.app (.one rfl) .nil) .nil rfl <| O1 <| Q0 (σ' := ⟨[(0, _), (3, _), (5, _), (6, .val (decide (x5_m2 < (4 : Int))))], []⟩) (j4 rfl rfl rfl rfl) trivial ?_
  refine Q2 ?_
  refine Q3 _ rfl (fun hc3 => ?_) (fun hc3 => ?_)
  ·replace hφ := if_then hφ hc3
   refine Q0 (σ' := ⟨[(0, _), (3, _), (5, _)], []⟩) (j3 rfl rfl rfl) trivial ?_
   refine Q4 ?_
   refine Q2 ?_
   refine PT.block ?_
   refine Q2 (Q1 ?_)
   refine O5 (ox0 .tmp) (.one rfl) .nil rfl <| O5 (ox1 .tmp) (.one rfl) .nil rfl <| O1 <| Q0 (σ' := ⟨[(0, _), (3, _), (4, .val (x5_m2)), (5, _)], []⟩) (j4 rfl rfl rfl rfl) trivial ?_
   obtain ⟨hb4, hφ⟩ := G_some hφ
   refine Q1 ?_
   refine O5 (ox0 .tmp) (.one rfl) .nil rfl <| O5 (ox_mulU .u32 .tmp) (.app .nil (.one rfl)) .nil rfl <| O5 (ox0 .tmp) (.one rfl) .nil rfl <| O5 (ox0 .tmp) (.one rfl) .nil rfl <| O5 (ox_ix s63 .tmp .tmp hb4.1 hb4.2) (.app (.one rfl) (.one rfl)) .nil rfl <| O5 (ox_load_elem t5) (.one rfl) .nil rfl ?_
   refine O5 (ox_u8_u32 (by kernel_rfl) .tmp) (.one rfl) .nil rfl <| O5 (ox_addU .tmp .tmp) (.app (.one rfl) (.one rfl)) .nil rfl <| O5 (ox1 .tmp) (.one rfl) .nil rfl <| O1 <| Q0 (σ' := ⟨[(0, _), (3, .val ((u32 ((u32 ((⟨256⟩ : U32).n * x3_m2.n)).n + (⟨(((ix x0_m2 x5_m2).toNat : Nat) : Int)⟩ : U32).n)))), (5, _)], []⟩) (j3 rfl rfl rfl) trivial ?_
   obtain ⟨hb5, hφ⟩ := G_some hφ
   refine Q1 ?_
   refine O5 (ox_add .tmp .int hb5) (.app (.one rfl) .nil) .nil rfl <| O5 (ox0 .tmp) (.one rfl) .nil rfl <| O1 <| Q0 (σ' := ⟨[(0, _), (3, _), (5, .val (x5_m2 + (1 : Int)))], []⟩) (j3 rfl rfl rfl) trivial ?_
   exact PT.next (m2, x0_m2, (u32 ((u32 ((⟨256⟩ : U32).n * x3_m2.n)).n + (⟨(((ix x0_m2 x5_m2).toNat : Nat) : Int)⟩ : U32).n)), (x5_m2 + (1 : Int))) hφ (Nat.lt_succ_self _) (j3 rfl rfl rfl) trivial
  ·replace hφ := if_else hφ hc3
   refine Q0 (σ' := ⟨[(3, _)], []⟩) (j1 rfl) trivial ?_
   refine PT.exit ?_
   exact PT.meet (x3_m2) hφ (j1 rfl) trivial
 ·rintro x3_k1 hφ
  subst hk1
  refine Q0 (σ' := ⟨[(3, .val (x3_k1))], []⟩) (j1 rfl) trivial ?_
  refine Q2 (Q1 ?_)
  refine O5 (ox0 .tmp) (.one rfl) .nil rfl <| O5 (ox_u32_i32 (by kernel_rfl) .tmp) (.one rfl) .nil rfl <| O5 (ox_i32_i64 (by kernel_rfl) .tmp) (.one rfl) .nil rfl <| O5 (ox1 .tmp) (.one rfl) .nil rfl <| O1 <| Q0 (σ' := ⟨[(2, .val ((i32 x3_k1.n).n))], []⟩) (j1 rfl) trivial ?_
  refine Q5 ?_
  obtain rfl := Option.some.inj hφ
  exact Q6 hw0 rfl (.tmp rfl rfl .nil) rfl
theorem c_mkref1_ReadRequest {a0 : List UInt8} {r : (Mk.Request × Int)} (hφ : mkref1_ReadRequest a0 = some r) : Fn Go.Proofs.Try.prog 70 [.val a0] (.tup [.val r.1, .val r.2]) := by
 unfold mkref1_ReadRequest at hφ
 refine Fn.mk' Go.Proofs.Try.func70 rfl (by decide) rfl rfl rfl (fun w0 hw0 => ?_)
 refine Q2 (Q1 ?_)
 refine O3 rfl rfl (ox_alloc (id := 2) z35) .nil .nil rfl (by kernel_rfl) <| O5 (ox1 .int) .nil .nil rfl <| O1 <| Q0 (σ' := ⟨[(0, .val (a0)), (2, _)], [(2, .var zRq [])]⟩) (j2 rfl rfl) (j1 rfl) ?_
 refine Q2 (Q2 ?_)
 obtain ⟨hb1, hφ⟩ := G_some hφ
 refine Q1 ?_
 refine O5 (ox0 .tmp) (.one rfl) .nil rfl <| O5 (ox_len s63 .tmp) (.one rfl) .nil rfl <| O5 (ox_neq .tmp .int) (.app (.one rfl) .nil) .nil rfl <| O5 (ox0 .tmp) (.one rfl) .nil rfl <| O4 rfl rfl rfl rfl (.plain .nil) (fun hG => (ox0 .tmp)) (j1 rfl) .nil rfl <| O4 rfl rfl rfl rfl (.cond (fun h => h) .nil) (fun hG => (ox_ix s63 .tmp .int (hb1 hG).1 (hb1 hG).2)) (j1 rfl) .nil rfl ?_
 refine O4 rfl rfl rfl rfl (.cond (fun h => h) .nil) (fun hG => (ox_load_elem t5)) (j1 rfl) .nil rfl <| O4 rfl rfl rfl rfl (.cond (fun h => h) .nil) (fun hG => (ox_neqU8 .tmp (.u8 (n := 113)))) (j1 rfl) .nil rfl <| O5 ox9 (j2 rfl rfl) .nil rfl <| O1 <| Q0 (σ' := ⟨[(0, _), (2, _), (14, .val (((!decide ((a0.length : Int) = (10 : Int))) || (!decide ((ix a0 (0 : Int)) = (UInt8.ofNat 113))))))], [(2, _)]⟩) (j3 rfl rfl rfl) (j1 rfl) ?_
 refine Q3 _ rfl (fun hc2 => ?_) (fun hc2 => ?_)
 ·replace hφ := if_then hφ hc2
  refine Q0 (σ' := ⟨[(2, _)], [(2, _)]⟩) (j1 rfl) (j1 rfl) ?_
  refine Q2 (Q1 ?_)
  refine O5 (oxa z35 u35 rfl Bld.nil) .nil .nil rfl <| O2 rfl rfl (ox5 t35 .tmp) (.cons rfl (.one rfl)) (.one rfl) <| O5 (ox1 .int) .nil .nil rfl <| O1 <| Q0 (σ' := ⟨[(2, _), (3, .val (2 : Int))], [(2, _)]⟩) (j2 rfl rfl) (j1 rfl) ?_
  refine Q5 ?_
  obtain rfl := Option.some.inj hφ
  exact Q6 hw0 rfl (.cell t35 rfl rfl (.tmp rfl rfl .nil)) rfl
 ·replace hφ := if_else hφ hc2
  refine Q0 (σ' := ⟨[(0, _), (2, _)], [(2, _)]⟩) (j2 rfl rfl) (j1 rfl) ?_
  refine Q4 ?_
  refine Q2 ?_
  obtain ⟨hb3, hφ⟩ := G_some hφ
  obtain ⟨hb4, hφ⟩ := G_some hφ
  obtain ⟨hb5, hφ⟩ := G_some hφ
  obtain ⟨hb6, hφ⟩ := G_some hφ
  obtain ⟨hb7, hφ⟩ := G_some hφ
  obtain ⟨hb8, hφ⟩ := G_some hφ
  obtain ⟨v9, hv9, hφ⟩ := B_some hφ
  refine Q8 hMixed (
    .cons (S5 (ox0 .tmp)) ⟨.one rfl, .nil⟩ (by kernel_rfl) rfl <|
    .cons (S5 (ox_ix s63 .tmp .int hb3.1 hb3.2)) ⟨(.app (.one rfl) .nil), .nil⟩ (by kernel_rfl) rfl <|
    .cons (S5 (ox_load_elem t5)) ⟨.one rfl, .nil⟩ (by kernel_rfl) rfl <|
    .cons (S5 (ox_u8_i64 (by kernel_rfl) .tmp)) ⟨.one rfl, .nil⟩ (by kernel_rfl) rfl <|
    .cons (S5 (ox0 .tmp)) ⟨.one rfl, .nil⟩ (by kernel_rfl) rfl <|
    .cons (S5 (ox_ix s63 .tmp .int hb4.1 hb4.2)) ⟨(.app (.one rfl) .nil), .nil⟩ (by kernel_rfl) rfl <|
    .cons (S5 (ox_load_elem t5)) ⟨.one rfl, .nil⟩ (by kernel_rfl) rfl <|
    .cons (S5 (ox_u8_i64 (by kernel_rfl) .tmp)) ⟨.one rfl, .nil⟩ (by kernel_rfl) rfl <|
    .cons (S5 (ox0 .tmp)) ⟨.one rfl, .nil⟩ (by kernel_rfl) rfl <|
    .cons (S5 (ox_ix s63 .tmp .int hb5.1 hb5.2)) ⟨(.app (.one rfl) .nil), .nil⟩ (by kernel_rfl) rfl <|
    .cons (S5 (ox_load_elem t5)) ⟨.one rfl, .nil⟩ (by kernel_rfl) rfl <|
    .cons (S5 (ox_u8_i64 (by kernel_rfl) .tmp)) ⟨.one rfl, .nil⟩ (by kernel_rfl) rfl <|
    .cons (S5 (ox0 .tmp)) ⟨.one rfl, .nil⟩ (by kernel_rfl) rfl <|
    .cons (S5 (ox_ix s63 .tmp .int hb6.1 hb6.2)) ⟨(.app (.one rfl) .nil), .nil⟩ (by kernel_rfl) rfl <|
    .cons (S5 (ox_load_elem t5)) ⟨.one rfl, .nil⟩ (by kernel_rfl) rfl <|
    .cons (S5 (ox_u8_i64 (by kernel_rfl) .tmp)) ⟨.one rfl, .nil⟩ (by kernel_rfl) rfl <|
    .cons (S5 (ox0 .tmp)) ⟨.one rfl, .nil⟩ (by kernel_rfl) rfl <|
    .cons (S5 (ox_ix s63 .tmp .int hb7.1 hb7.2)) ⟨(.app (.one rfl) .nil), .nil⟩ (by kernel_rfl) rfl <|
    .cons (S5 (ox_load_elem t5)) ⟨.one rfl, .nil⟩ (by kernel_rfl) rfl <|
    .cons (S5 (ox_u8_i64 (by kernel_rfl) .tmp)) ⟨.one rfl, .nil⟩ (by kernel_rfl) rfl <|
    .cons (S5 (ox0 .tmp)) ⟨.one rfl, .nil⟩ (by kernel_rfl) rfl <|
    .cons (S5 (ox_slice s63 .tmp (.some .int) .none hb8.1 hb8.2.1 hb8.2.2)) ⟨(.app (.one rfl) (.app .nil .nil)), .nil⟩ (by kernel_rfl) rfl <|
    .cons (S5 (ox_call (c_mkref1_num hv9) (.cons .tmp .nil))) ⟨(.app (.one rfl) .nil), .nil⟩ (by kernel_rfl) rfl <|
    .cons (S5 (oxa z33 u33 rfl (.cons Call_Kind f33_0 .tmp (.cons Call_Name f33_1 .tmp (.cons Call_Other f33_2 .tmp (.cons Call_N f33_3 .tmp Bld.nil)))))) ⟨(.app (.one rfl) (.app (.one rfl) (.app (.one rfl) (.app (.one rfl) .nil)))), .nil⟩ (by kernel_rfl) rfl <|
    .cons (S5 (oxa z35 u35 rfl (.cons Request_Client f35_0 .tmp (.cons Request_Token f35_1 .tmp (.cons Request_Call f35_2 .tmp Bld.nil))))) ⟨(.app (.one rfl) (.app (.one rfl) (.app (.one rfl) .nil))), .nil⟩ (by kernel_rfl) rfl <|
    .cons (S5 (ox_alloc (id := 4) z35)) ⟨.nil, .nil⟩ (by kernel_rfl) rfl <|
    .cons (S4 rfl rfl (ox5 t35 .tmp)) ⟨(.cons rfl (.one rfl)), .one rfl⟩ (by kernel_rfl) rfl <|
    .nil) _ [[], [0], [0, 1], [0, 1, 2], [], [4], [4, 5], [4, 5, 6], [], [8], [8, 9], [8, 9, 10], [], [12], [12, 13], [12, 13, 14], [], [16], [16, 17], [16, 17, 18], [], [20], [20, 21], [8, 9, 10, 11, 12, 13, 14, 15, 16, 17, 18, 19, 20, 21, 22], [0, 1, 2, 3, 4, 5, 6, 7, 8, 9, 10, 11, 12, 13, 14, 15, 16, 17, 18, 19, 20, 21, 22, 23], [], [0, 1, 2, 3, 4, 5, 6, 7, 8, 9, 10, 11, 12, 13, 14, 15, 16, 17, 18, 19, 20, 21, 22, 23, 24, 25]] rfl (by kernel_rfl) (by kernel_rfl) ?_
  refine Q0 (σ' := ⟨[(2, _), (4, _)], [(2, _), (4, .var (({ Client := (((ix a0 (1 : Int)).toNat : Nat) : Int), Token := (((ix a0 (2 : Int)).toNat : Nat) : Int), Call := ({ Kind := (((ix a0 (3 : Int)).toNat : Nat) : Int), Name := (((ix a0 (4 : Int)).toNat : Nat) : Int), Other := (((ix a0 (5 : Int)).toNat : Nat) : Int), N := v9 } : Mk.Call) } : Mk.Request)) [])]⟩) (j2 rfl rfl) (j2 rfl rfl) ?_
  refine Q2 (Q2 ?_)
  obtain ⟨v10, hv10, hφ⟩ := B_some hφ
  refine Q1 ?_
  refine O5 (ox4 t35) (.one rfl) (.one rfl) rfl <| O5 (ox_call (c_mkref1_WrongRequest hv10) (.cons .tmp .nil)) (.app (.one rfl) .nil) .nil rfl <| O5 (ox1 .tmp) (.one rfl) .nil rfl <| O1 <| Q0 (σ' := ⟨[(2, _), (4, _), (5, .val (v10))], [(2, _), (4, _)]⟩) (j3 rfl rfl rfl) (j2 rfl rfl) ?_
  refine Q2 (Q1 ?_)
  refine O5 (ox0 .tmp) (.one rfl) .nil rfl <| O5 (ox_neq .tmp .int) (.app (.one rfl) .nil) .nil rfl <| O1 <| Q0 (σ' := ⟨[(2, _), (4, _), (5, _), (44, .val (!decide (v10 = (0 : Int))))], [(2, _), (4, _)]⟩) (j4 rfl rfl rfl rfl) (j2 rfl rfl) ?_
  refine Q3 _ rfl (fun hc11 => ?_) (fun hc11 => ?_)
  ·replace hφ := if_then hφ hc11
   refine Q0 (σ' := ⟨[(2, _), (5, _)], [(2, _)]⟩) (j2 rfl rfl) (j1 rfl) ?_
   refine Q2 (Q1 ?_)
   refine O5 (oxa z35 u35 rfl Bld.nil) .nil .nil rfl <| O5 (ox0 .tmp) (.one rfl) .nil rfl <| O2 rfl rfl (ox5 t35 .tmp) (.cons rfl (.one rfl)) (.one rfl) <| O5 (ox1 .tmp) (.one rfl) .nil rfl <| O1 <| Q0 (σ' := ⟨[(2, _), (3, .val (v10))], [(2, _)]⟩) (j2 rfl rfl) (j1 rfl) ?_
   refine Q5 ?_
   obtain rfl := Option.some.inj hφ
   exact Q6 hw0 rfl (.cell t35 rfl rfl (.tmp rfl rfl .nil)) rfl
  ·replace hφ := if_else hφ hc11
   refine Q0 (σ' := ⟨[(2, _), (4, _)], [(2, _), (4, _)]⟩) (j2 rfl rfl) (j2 rfl rfl) ?_
   refine Q4 ?_
   refine Q2 (Q1 ?_)
   refine O5 (ox4 t35) (.one rfl) (.one rfl) rfl <| O2 rfl rfl (ox5 t35 .tmp) (.cons rfl (.one rfl)) (.one rfl) <| O5 (ox1 .int) .nil .nil rfl <| O1 <| Q0 (σ' := ⟨[(2, _), (3, .val (0 : Int))], [(2, .var (({ Client := (((ix a0 (1 : Int)).toNat : Nat) : Int), Token := (((ix a0 (2 : Int)).toNat : Nat) : Int), Call := ({ Kind := (((ix a0 (3 : Int)).toNat : Nat) : Int), Name := (((ix a0 (4 : Int)).toNat : Nat) : Int), Other := (((ix a0 (5 : Int)).toNat : Nat) : Int), N := v9 } : Mk.Call) } : Mk.Request)) [])]⟩) (j2 rfl rfl) (j1 rfl) ?_
   refine Q5 ?_
   obtain rfl := Option.some.inj hφ
   exact Q6 hw0 rfl (.cell t35 rfl rfl (.tmp rfl rfl .nil)) rfl
theorem c_wire_ReadAnswer {a0 : List UInt8} {r : (Mk.Answer × Int)} (hφ : wire_ReadAnswer a0 = some r) : Fn Go.Proofs.Try.prog 111 [.val a0] (.tup [.val r.1, .val r.2]) := by
 unfold wire_ReadAnswer at hφ
 refine Fn.mk' Go.Proofs.Try.func111 rfl (by decide) rfl rfl rfl (fun w0 hw0 => ?_)
 refine Q2 (Q1 ?_)
 refine O3 rfl rfl (ox_alloc (id := 2) z74) .nil .nil rfl (by kernel_rfl) <| O5 (ox1 .int) .nil .nil rfl <| O1 <| Q0 (σ' := ⟨[(0, .val (a0)), (2, _)], [(2, .var ({ Client := (0 : Int), Token := (0 : Int), Reply := zRe } : Mk.Answer) [])]⟩) (j2 rfl rfl) (j1 rfl) ?_
 refine Q2 (Q2 ?_)
 obtain ⟨hb1, hφ⟩ := G_some hφ
 refine Q1 ?_
 refine O5 (ox0 .tmp) (.one rfl) .nil rfl <| O5 (ox_len s63 .tmp) (.one rfl) .nil rfl <| O5 (ox_neq .tmp .int) (.app (.one rfl) .nil) .nil rfl <| O5 (ox0 .tmp) (.one rfl) .nil rfl <| O4 rfl rfl rfl rfl (.plain .nil) (fun hG => (ox0 .tmp)) (j1 rfl) .nil rfl <| O4 rfl rfl rfl rfl (.cond (fun h => h) .nil) (fun hG => (ox_ix s63 .tmp .int (hb1 hG).1 (hb1 hG).2)) (j1 rfl) .nil rfl ?_
 refine O4 rfl rfl rfl rfl (.cond (fun h => h) .nil) (fun hG => (ox_load_elem t5)) (j1 rfl) .nil rfl <| O4 rfl rfl rfl rfl (.cond (fun h => h) .nil) (fun hG => (ox_neqU8 .tmp (.u8 (n := 97)))) (j1 rfl) .nil rfl <| O5 ox9 (j2 rfl rfl) .nil rfl <| O1 <| Q0 (σ' := ⟨[(0, _), (2, _), (14, .val (((!decide ((a0.length : Int) = (8 : Int))) || (!decide ((ix a0 (0 : Int)) = (UInt8.ofNat 97))))))], [(2, _)]⟩) (j3 rfl rfl rfl) (j1 rfl) ?_
 refine Q3 _ rfl (fun hc2 => ?_) (fun hc2 => ?_)
 ·replace hφ := if_then hφ hc2
  refine Q0 (σ' := ⟨[(2, _)], [(2, _)]⟩) (j1 rfl) (j1 rfl) ?_
  refine Q2 (Q1 ?_)
  refine O5 (oxa z74 u74 rfl Bld.nil) .nil .nil rfl <| O2 rfl rfl (ox5 t74 .tmp) (.cons rfl (.one rfl)) (.one rfl) <| O5 (ox1 .int) .nil .nil rfl <| O1 <| Q0 (σ' := ⟨[(2, _), (3, .val (2 : Int))], [(2, _)]⟩) (j2 rfl rfl) (j1 rfl) ?_
  refine Q5 ?_
  obtain rfl := Option.some.inj hφ
  exact Q6 hw0 rfl (.cell t74 rfl rfl (.tmp rfl rfl .nil)) rfl
 ·replace hφ := if_else hφ hc2
  refine Q0 (σ' := ⟨[(0, _), (2, _)], [(2, _)]⟩) (j2 rfl rfl) (j1 rfl) ?_
  refine Q4 ?_
  refine Q2 ?_
  obtain ⟨hb3, hφ⟩ := G_some hφ
  obtain ⟨hb4, hφ⟩ := G_some hφ
  obtain ⟨hb5, hφ⟩ := G_some hφ
  obtain ⟨hb6, hφ⟩ := G_some hφ
  obtain ⟨v7, hv7, hφ⟩ := B_some hφ
  refine Q8 hMixed (
    .cons (S5 (ox0 .tmp)) ⟨.one rfl, .nil⟩ (by kernel_rfl) rfl <|
    .cons (S5 (ox_ix s63 .tmp .int hb3.1 hb3.2)) ⟨(.app (.one rfl) .nil), .nil⟩ (by kernel_rfl) rfl <|
    .cons (S5 (ox_load_elem t5)) ⟨.one rfl, .nil⟩ (by kernel_rfl) rfl <|
    .cons (S5 (ox_u8_i64 (by kernel_rfl) .tmp)) ⟨.one rfl, .nil⟩ (by kernel_rfl) rfl <|
    .cons (S5 (ox0 .tmp)) ⟨.one rfl, .nil⟩ (by kernel_rfl) rfl <|
    .cons (S5 (ox_ix s63 .tmp .int hb4.1 hb4.2)) ⟨(.app (.one rfl) .nil), .nil⟩ (by kernel_rfl) rfl <|
    .cons (S5 (ox_load_elem t5)) ⟨.one rfl, .nil⟩ (by kernel_rfl) rfl <|
    .cons (S5 (ox_u8_i64 (by kernel_rfl) .tmp)) ⟨.one rfl, .nil⟩ (by kernel_rfl) rfl <|
    .cons (S5 (ox0 .tmp)) ⟨.one rfl, .nil⟩ (by kernel_rfl) rfl <|
    .cons (S5 (ox_ix s63 .tmp .int hb5.1 hb5.2)) ⟨(.app (.one rfl) .nil), .nil⟩ (by kernel_rfl) rfl <|
    .cons (S5 (ox_load_elem t5)) ⟨.one rfl, .nil⟩ (by kernel_rfl) rfl <|
    .cons (S5 (ox_u8_i64 (by kernel_rfl) .tmp)) ⟨.one rfl, .nil⟩ (by kernel_rfl) rfl <|
    .cons (S5 (ox0 .tmp)) ⟨.one rfl, .nil⟩ (by kernel_rfl) rfl <|
    .cons (S5 (ox_slice s63 .tmp (.some .int) .none hb6.1 hb6.2.1 hb6.2.2)) ⟨(.app (.one rfl) (.app .nil .nil)), .nil⟩ (by kernel_rfl) rfl <|
    .cons (S5 (ox_call (c_wire_get hv7) (.cons .tmp .nil))) ⟨(.app (.one rfl) .nil), .nil⟩ (by kernel_rfl) rfl <|
    .cons (S5 (oxa z38 u38 rfl (.cons Reply_Err f38_0 .tmp (.cons Reply_N f38_1 .tmp Bld.nil)))) ⟨(.app (.one rfl) (.app (.one rfl) .nil)), .nil⟩ (by kernel_rfl) rfl <|
    .cons (S5 (oxa z74 u74 rfl (.cons Answer_Client f74_0 .tmp (.cons Answer_Token f74_1 .tmp (.cons Answer_Reply f74_2 .tmp Bld.nil))))) ⟨(.app (.one rfl) (.app (.one rfl) (.app (.one rfl) .nil))), .nil⟩ (by kernel_rfl) rfl <|
    .cons (S5 (ox_alloc (id := 4) z74)) ⟨.nil, .nil⟩ (by kernel_rfl) rfl <|
    .cons (S4 rfl rfl (ox5 t74 .tmp)) ⟨(.cons rfl (.one rfl)), .one rfl⟩ (by kernel_rfl) rfl <|
    .nil) _ [[], [0], [0, 1], [0, 1, 2], [], [4], [4, 5], [4, 5, 6], [], [8], [8, 9], [8, 9, 10], [], [12], [12, 13], [8, 9, 10, 11, 12, 13, 14], [0, 1, 2, 3, 4, 5, 6, 7, 8, 9, 10, 11, 12, 13, 14, 15], [], [0, 1, 2, 3, 4, 5, 6, 7, 8, 9, 10, 11, 12, 13, 14, 15, 16, 17]] rfl (by kernel_rfl) (by kernel_rfl) ?_
  refine Q0 (σ' := ⟨[(2, _), (4, _)], [(2, _), (4, .var (({ Client := (((ix a0 (1 : Int)).toNat : Nat) : Int), Token := (((ix a0 (2 : Int)).toNat : Nat) : Int), Reply := ({ Err := (((ix a0 (3 : Int)).toNat : Nat) : Int), N := v7 } : Mk.Reply) } : Mk.Answer)) [])]⟩) (j2 rfl rfl) (j2 rfl rfl) ?_
  refine Q2 (Q2 ?_)
  obtain ⟨v8, hv8, hφ⟩ := B_some hφ
  refine Q1 ?_
  refine O5 (ox4 t74) (.one rfl) (.one rfl) rfl <| O5 (ox_call (c_wire_WrongAnswer hv8) (.cons .tmp .nil)) (.app (.one rfl) .nil) .nil rfl <| O5 (ox1 .tmp) (.one rfl) .nil rfl <| O1 <| Q0 (σ' := ⟨[(2, _), (4, _), (5, .val (v8))], [(2, _), (4, _)]⟩) (j3 rfl rfl rfl) (j2 rfl rfl) ?_
  refine Q2 (Q1 ?_)
  refine O5 (ox0 .tmp) (.one rfl) .nil rfl <| O5 (ox_neq .tmp .int) (.app (.one rfl) .nil) .nil rfl <| O1 <| Q0 (σ' := ⟨[(2, _), (4, _), (5, _), (36, .val (!decide (v8 = (0 : Int))))], [(2, _), (4, _)]⟩) (j4 rfl rfl rfl rfl) (j2 rfl rfl) ?_
  refine Q3 _ rfl (fun hc9 => ?_) (fun hc9 => ?_)
  ·replace hφ := if_then hφ hc9
   refine Q0 (σ' := ⟨[(2, _), (5, _)], [(2, _)]⟩) (j2 rfl rfl) (j1 rfl) ?_
   refine Q2 (Q1 ?_)
   refine O5 (oxa z74 u74 rfl Bld.nil) .nil .nil rfl <| O5 (ox0 .tmp) (.one rfl) .nil rfl <| O2 rfl rfl (ox5 t74 .tmp) (.cons rfl (.one rfl)) (.one rfl) <| O5 (ox1 .tmp) (.one rfl) .nil rfl <| O1 <| Q0 (σ' := ⟨[(2, _), (3, .val (v8))], [(2, _)]⟩) (j2 rfl rfl) (j1 rfl) ?_
   refine Q5 ?_
   obtain rfl := Option.some.inj hφ
   exact Q6 hw0 rfl (.cell t74 rfl rfl (.tmp rfl rfl .nil)) rfl
  ·replace hφ := if_else hφ hc9
   refine Q0 (σ' := ⟨[(2, _), (4, _)], [(2, _), (4, _)]⟩) (j2 rfl rfl) (j2 rfl rfl) ?_
   refine Q4 ?_
   refine Q2 (Q1 ?_)
   refine O5 (ox4 t74) (.one rfl) (.one rfl) rfl <| O2 rfl rfl (ox5 t74 .tmp) (.cons rfl (.one rfl)) (.one rfl) <| O5 (ox1 .int) .nil .nil rfl <| O1 <| Q0 (σ' := ⟨[(2, _), (3, .val (0 : Int))], [(2, .var (({ Client := (((ix a0 (1 : Int)).toNat : Nat) : Int), Token := (((ix a0 (2 : Int)).toNat : Nat) : Int), Reply := ({ Err := (((ix a0 (3 : Int)).toNat : Nat) : Int), N := v7 } : Mk.Reply) } : Mk.Answer)) [])]⟩) (j2 rfl rfl) (j1 rfl) ?_
   refine Q5 ?_
   obtain rfl := Option.some.inj hφ
   exact Q6 hw0 rfl (.cell t74 rfl rfl (.tmp rfl rfl .nil)) rfl
theorem c_mkref1_ReadAnswer {a0 : List UInt8} {r : (Mk.Answer × Int)} (hφ : mkref1_ReadAnswer a0 = some r) : Fn Go.Proofs.Try.prog 115 [.val a0] (.tup [.val r.1, .val r.2]) := by
 unfold mkref1_ReadAnswer at hφ
 refine Fn.mk' Go.Proofs.Try.func115 rfl (by decide) rfl rfl rfl (fun w0 hw0 => ?_)
 refine Q2 (Q1 ?_)
 refine O3 rfl rfl (ox_alloc (id := 2) z74) .nil .nil rfl (by kernel_rfl) <| O5 (ox1 .int) .nil .nil rfl <| O1 <| Q0 (σ' := ⟨[(0, .val (a0)), (2, _)], [(2, .var ({ Client := (0 : Int), Token := (0 : Int), Reply := zRe } : Mk.Answer) [])]⟩) (j2 rfl rfl) (j1 rfl) ?_
 refine Q2 (Q2 ?_)
 obtain ⟨hb1, hφ⟩ := G_some hφ
 refine Q1 ?_
 refine O5 (ox0 .tmp) (.one rfl) .nil rfl <| O5 (ox_len s63 .tmp) (.one rfl) .nil rfl <| O5 (ox_neq .tmp .int) (.app (.one rfl) .nil) .nil rfl <| O5 (ox0 .tmp) (.one rfl) .nil rfl <| O4 rfl rfl rfl rfl (.plain .nil) (fun hG => (ox0 .tmp)) (j1 rfl) .nil rfl <| O4 rfl rfl rfl rfl (.cond (fun h => h) .nil) (fun hG => (ox_ix s63 .tmp .int (hb1 hG).1 (hb1 hG).2)) (j1 rfl) .nil rfl ?_
 refine O4 rfl rfl rfl rfl (.cond (fun h => h) .nil) (fun hG => (ox_load_elem t5)) (j1 rfl) .nil rfl <| O4 rfl rfl rfl rfl (.cond (fun h => h) .nil) (fun hG => (ox_neqU8 .tmp (.u8 (n := 97)))) (j1 rfl) .nil rfl <| O5 ox9 (j2 rfl rfl) .nil rfl <| O1 <| Q0 (σ' := ⟨[(0, _), (2, _), (14, .val (((!decide ((a0.length : Int) = (8 : Int))) || (!decide ((ix a0 (0 : Int)) = (UInt8.ofNat 97))))))], [(2, _)]⟩) (j3 rfl rfl rfl) (j1 rfl) ?_
 refine Q3 _ rfl (fun hc2 => ?_) (fun hc2 => ?_)
 ·replace hφ := if_then hφ hc2
  refine Q0 (σ' := ⟨[(2, _)], [(2, _)]⟩) (j1 rfl) (j1 rfl) ?_
  refine Q2 (Q1 ?_)
  refine O5 (oxa z74 u74 rfl Bld.nil) .nil .nil rfl <| O2 rfl rfl (ox5 t74 .tmp) (.cons rfl (.one rfl)) (.one rfl) <| O5 (ox1 .int) .nil .nil rfl <| O1 <| Q0 (σ' := ⟨[(2, _), (3, .val (2 : Int))], [(2, _)]⟩) (j2 rfl rfl) (j1 rfl) ?_
  refine Q5 ?_
  obtain rfl := Option.some.inj hφ
  exact Q6 hw0 rfl (.cell t74 rfl rfl (.tmp rfl rfl .nil)) rfl
 ·replace hφ := if_else hφ hc2
  refine Q0 (σ' := ⟨[(0, _), (2, _)], [(2, _)]⟩) (j2 rfl rfl) (j1 rfl) ?_
  refine Q4 ?_
  refine Q2 ?_
  obtain ⟨hb3, hφ⟩ := G_some hφ
  obtain ⟨hb4, hφ⟩ := G_some hφ
  obtain ⟨hb5, hφ⟩ := G_some hφ
  obtain ⟨hb6, hφ⟩ := G_some hφ
  obtain ⟨v7, hv7, hφ⟩ := B_some hφ
  refine Q8 hMixed (
    .cons (S5 (ox0 .tmp)) ⟨.one rfl, .nil⟩ (by kernel_rfl) rfl <|
    .cons (S5 (ox_ix s63 .tmp .int hb3.1 hb3.2)) ⟨(.app (.one rfl) .nil), .nil⟩ (by kernel_rfl) rfl <|
    .cons (S5 (ox_load_elem t5)) ⟨.one rfl, .nil⟩ (by kernel_rfl) rfl <|
    .cons (S5 (ox_u8_i64 (by kernel_rfl) .tmp)) ⟨.one rfl, .nil⟩ (by kernel_rfl) rfl <|
    .cons (S5 (ox0 .tmp)) ⟨.one rfl, .nil⟩ (by kernel_rfl) rfl <|
    .cons (S5 (ox_ix s63 .tmp .int hb4.1 hb4.2)) ⟨(.app (.one rfl) .nil), .nil⟩ (by kernel_rfl) rfl <|
    .cons (S5 (ox_load_elem t5)) ⟨.one rfl, .nil⟩ (by kernel_rfl) rfl <|
    .cons (S5 (ox_u8_i64 (by kernel_rfl) .tmp)) ⟨.one rfl, .nil⟩ (by kernel_rfl) rfl <|
    .cons (S5 (ox0 .tmp)) ⟨.one rfl, .nil⟩ (by kernel_rfl) rfl <|
    .cons (S5 (ox_ix s63 .tmp .int hb5.1 hb5.2)) ⟨(.app (.one rfl) .nil), .nil⟩ (by kernel_rfl) rfl <|
    .cons (S5 (ox_load_elem t5)) ⟨.one rfl, .nil⟩ (by kernel_rfl) rfl <|
    .cons (S5 (ox_u8_i64 (by kernel_rfl) .tmp)) ⟨.one rfl, .nil⟩ (by kernel_rfl) rfl <|
    .cons (S5 (ox0 .tmp)) ⟨.one rfl, .nil⟩ (by kernel_rfl) rfl <|
    .cons (S5 (ox_slice s63 .tmp (.some .int) .none hb6.1 hb6.2.1 hb6.2.2)) ⟨(.app (.one rfl) (.app .nil .nil)), .nil⟩ (by kernel_rfl) rfl <|
    .cons (S5 (ox_call (c_mkref1_num hv7) (.cons .tmp .nil))) ⟨(.app (.one rfl) .nil), .nil⟩ (by kernel_rfl) rfl <|
    .cons (S5 (oxa z38 u38 rfl (.cons Reply_Err f38_0 .tmp (.cons Reply_N f38_1 .tmp Bld.nil)))) ⟨(.app (.one rfl) (.app (.one rfl) .nil)), .nil⟩ (by kernel_rfl) rfl <|
    .cons (S5 (oxa z74 u74 rfl (.cons Answer_Client f74_0 .tmp (.cons Answer_Token f74_1 .tmp (.cons Answer_Reply f74_2 .tmp Bld.nil))))) ⟨(.app (.one rfl) (.app (.one rfl) (.app (.one rfl) .nil))), .nil⟩ (by kernel_rfl) rfl <|
    .cons (S5 (ox_alloc (id := 4) z74)) ⟨.nil, .nil⟩ (by kernel_rfl) rfl <|
    .cons (S4 rfl rfl (ox5 t74 .tmp)) ⟨(.cons rfl (.one rfl)), .one rfl⟩ (by kernel_rfl) rfl <|
    .nil) _ [[], [0], [0, 1], [0, 1, 2], [], [4], [4, 5], [4, 5, 6], [], [8], [8, 9], [8, 9, 10], [], [12], [12, 13], [8, 9, 10, 11, 12, 13, 14], [0, 1, 2, 3, 4, 5, 6, 7, 8, 9, 10, 11, 12, 13, 14, 15], [], [0, 1, 2, 3, 4, 5, 6, 7, 8, 9, 10, 11, 12, 13, 14, 15, 16, 17]] rfl (by kernel_rfl) (by kernel_rfl) ?_
  refine Q0 (σ' := ⟨[(2, _), (4, _)], [(2, _), (4, .var (({ Client := (((ix a0 (1 : Int)).toNat : Nat) : Int), Token := (((ix a0 (2 : Int)).toNat : Nat) : Int), Reply := ({ Err := (((ix a0 (3 : Int)).toNat : Nat) : Int), N := v7 } : Mk.Reply) } : Mk.Answer)) [])]⟩) (j2 rfl rfl) (j2 rfl rfl) ?_
  refine Q2 (Q2 ?_)
  obtain ⟨v8, hv8, hφ⟩ := B_some hφ
  refine Q1 ?_
  refine O5 (ox4 t74) (.one rfl) (.one rfl) rfl <| O5 (ox_call (c_mkref1_WrongAnswer hv8) (.cons .tmp .nil)) (.app (.one rfl) .nil) .nil rfl <| O5 (ox1 .tmp) (.one rfl) .nil rfl <| O1 <| Q0 (σ' := ⟨[(2, _), (4, _), (5, .val (v8))], [(2, _), (4, _)]⟩) (j3 rfl rfl rfl) (j2 rfl rfl) ?_
  refine Q2 (Q1 ?_)
  refine O5 (ox0 .tmp) (.one rfl) .nil rfl <| O5 (ox_neq .tmp .int) (.app (.one rfl) .nil) .nil rfl <| O1 <| Q0 (σ' := ⟨[(2, _), (4, _), (5, _), (36, .val (!decide (v8 = (0 : Int))))], [(2, _), (4, _)]⟩) (j4 rfl rfl rfl rfl) (j2 rfl rfl) ?_
  refine Q3 _ rfl (fun hc9 => ?_) (fun hc9 => ?_)
  ·replace hφ := if_then hφ hc9
   refine Q0 (σ' := ⟨[(2, _), (5, _)], [(2, _)]⟩) (j2 rfl rfl) (j1 rfl) ?_
   refine Q2 (Q1 ?_)
   refine O5 (oxa z74 u74 rfl Bld.nil) .nil .nil rfl <| O5 (ox0 .tmp) (.one rfl) .nil rfl <| O2 rfl rfl (ox5 t74 .tmp) (.cons rfl (.one rfl)) (.one rfl) <| O5 (ox1 .tmp) (.one rfl) .nil rfl <| O1 <| Q0 (σ' := ⟨[(2, _), (3, .val (v8))], [(2, _)]⟩) (j2 rfl rfl) (j1 rfl) ?_
   refine Q5 ?_
   obtain rfl := Option.some.inj hφ
   exact Q6 hw0 rfl (.cell t74 rfl rfl (.tmp rfl rfl .nil)) rfl
  ·replace hφ := if_else hφ hc9
   refine Q0 (σ' := ⟨[(2, _), (4, _)], [(2, _), (4, _)]⟩) (j2 rfl rfl) (j2 rfl rfl) ?_
   refine Q4 ?_
   refine Q2 (Q1 ?_)
   refine O5 (ox4 t74) (.one rfl) (.one rfl) rfl <| O2 rfl rfl (ox5 t74 .tmp) (.cons rfl (.one rfl)) (.one rfl) <| O5 (ox1 .int) .nil .nil rfl <| O1 <| Q0 (σ' := ⟨[(2, _), (3, .val (0 : Int))], [(2, .var (({ Client := (((ix a0 (1 : Int)).toNat : Nat) : Int), Token := (((ix a0 (2 : Int)).toNat : Nat) : Int), Reply := ({ Err := (((ix a0 (3 : Int)).toNat : Nat) : Int), N := v7 } : Mk.Reply) } : Mk.Answer)) [])]⟩) (j2 rfl rfl) (j1 rfl) ?_
   refine Q5 ?_
   obtain rfl := Option.some.inj hφ
   exact Q6 hw0 rfl (.cell t74 rfl rfl (.tmp rfl rfl .nil)) rfl
end Go.Gx
end
