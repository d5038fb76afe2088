/- WHAT THE STATEMENTS OF THIS GROUP NEED, part 2: laid together by prune.py out of own texts. -/
import Derived.Test.YtjclefplnjicgaaDoorZTx1
set_option linter.unusedVariables false
set_option linter.unusedSimpArgs false
set_option maxRecDepth 20000
set_option maxHeartbeats 4000000
section
namespace Go.Gx
open Sp
theorem c_mkref1_WrongCall {a0 : Mk.Call} {r : Int} (hφ : mkref1_WrongCall a0 = some r) : Fn Go.Proofs.Tryd.prog 11 [.val a0] (.val r) := by
 unfold mkref1_WrongCall at hφ
 refine Fn.mk' Go.Proofs.Tryd.func11 rfl (by decide) rfl rfl rfl (fun w0 hw0 => ?_)
 refine Q2 (Q1 ?_)
 refine O3 rfl rfl (ox_box (id := 1) .tmp) (.one rfl) .nil rfl (by kernel_rfl) <| O5 (ox1 .int) .nil .nil rfl <| O1 <| Q0 (σ' := ⟨[(1, _)], [(1, .var (a0) [])]⟩) (j1 rfl) (j1 rfl) ?_
 refine Q2 ?_
 refine Q2 (Q1 ?_)
 refine O5 (ox3 Call_Kind f23_0) (.one rfl) .nil rfl <| O5 (ox2 t3) (.one rfl) (.one rfl) rfl <| O5 (ox_lss .tmp .int) (.app (.one rfl) .nil) .nil rfl <| O5 (ox0 .tmp) (.one rfl) .nil rfl <| O4 rfl rfl rfl rfl (.plain .nil) (fun hG => (ox3 Call_Kind f23_0)) (j1 rfl) .nil rfl <| O4 rfl rfl rfl rfl (.cond (fun h => h) .nil) (fun hG => (ox2 t3)) (j1 rfl) (.one rfl) rfl ?_
 refine O4 rfl rfl rfl rfl (.cond (fun h => h) .nil) (fun hG => (ox_gtr .tmp .int)) (j1 rfl) .nil rfl <| O5 ox9 (j2 rfl rfl) .nil rfl <| O1 <| Q0 (σ' := ⟨[(1, _), (15, .val ((decide (a0.Kind < (1 : Int))) || (decide ((6 : Int) < a0.Kind))))], [(1, _)]⟩) (j2 rfl rfl) (j1 rfl) ?_
 refine Q3 _ rfl (fun hc1 => ?_) (fun hc1 => ?_)
 ·replace hφ := if_then hφ hc1
  refine Q0 (σ' := ⟨[], []⟩) trivial trivial ?_
  refine Q2 (Q1 ?_)
  refine O5 (ox1 .int) .nil .nil rfl <| O1 <| Q0 (σ' := ⟨[(2, .val (1 : Int))], []⟩) (j1 rfl) trivial ?_
  refine Q5 ?_
  obtain rfl := Option.some.inj hφ
  exact Q6 hw0 rfl (.tmp rfl rfl .nil) rfl
 ·replace hφ := if_else hφ hc1
  refine Q0 (σ' := ⟨[(1, _)], [(1, _)]⟩) (j1 rfl) (j1 rfl) ?_
  refine Q4 ?_
  refine Q2 (Q1 ?_)
  refine O5 (ox1 .int) .nil .nil rfl <| O5 (ox1 .int) .nil .nil rfl <| O1 <| Q0 (σ' := ⟨[(1, _), (3, .val (1 : Int)), (4, .val (255 : Int))], [(1, _)]⟩) (j3 rfl rfl rfl) (j1 rfl) ?_
  obtain ⟨k2, hk2, hφ⟩ := J_some hφ
  refine PT.cut (ι := Int × Int × Mk.Call) (fun p => ⟨[(1, .ptr 1 (Lens.id (α := Mk.Call))), (3, .val (p.1)), (4, .val (p.2.1))], [(1, .var (p.2.2) [])]⟩) (fun p => k2 (p.1) (p.2.1) (p.2.2) = some r) ?_ ?_
  ·skip
   refine Q2 (Q1 ?_)
   refine O5 (ox3 Call_Kind f23_0) (.one rfl) .nil rfl <| O5 (ox2 t3) (.one rfl) (.one rfl) rfl <| O5 (ox_eql .tmp .int) (.app (.one rfl) .nil) .nil rfl <| O1 <| Q0 (σ' := ⟨[(1, _), (3, _), (4, _), (18, .val (decide (a0.Kind = (5 : Int))))], [(1, _)]⟩) (j4 rfl rfl rfl rfl) (j1 rfl) ?_
   refine Q3 _ rfl (fun hc3 => ?_) (fun hc3 => ?_)
   ·replace hφ := if_then hφ hc3
    refine Q0 (σ' := ⟨[(1, _)], [(1, _)]⟩) (j1 rfl) (j1 rfl) ?_
    refine Q1 ?_
    refine O5 (ox1 .int) .nil .nil rfl <| O5 (ox1 .int) .nil .nil rfl <| O1 <| Q0 (σ' := ⟨[(1, _), (3, .val (0 : Int)), (4, .val (0 : Int))], [(1, _)]⟩) (j3 rfl rfl rfl) (j1 rfl) ?_
    exact PT.meet ((0 : Int), (0 : Int), a0) hφ (j3 rfl rfl rfl) (j1 rfl)
   ·replace hφ := if_else hφ hc3
    refine Q0 (σ' := ⟨[(1, _), (3, _), (4, _)], [(1, _)]⟩) (j3 rfl rfl rfl) (j1 rfl) ?_
    refine Q4 ?_
    exact PT.meet ((1 : Int), (255 : Int), a0) hφ (j3 rfl rfl rfl) (j1 rfl)
  ·rintro ⟨x3_k2, x4_k2, y1_k2⟩ hφ
   subst hk2
   refine Q0 (σ' := ⟨[(1, .ptr 1 (Lens.id (α := Mk.Call))), (3, .val (x3_k2)), (4, .val (x4_k2))], [(1, .var (y1_k2) [])]⟩) (j3 rfl rfl rfl) (j1 rfl) ?_
   refine Q2 (Q1 ?_)
   refine O5 (ox1 .int) .nil .nil rfl <| O5 (ox1 .int) .nil .nil rfl <| O1 <| Q0 (σ' := ⟨[(1, _), (3, _), (4, _), (5, .val (0 : Int)), (6, .val (0 : Int))], [(1, _)]⟩) (j5 rfl rfl rfl rfl rfl) (j1 rfl) ?_
   obtain ⟨k4, hk4, hφ⟩ := J_some hφ
   refine PT.cut (ι := Int × Int × Int × Int × Mk.Call) (fun p => ⟨[(1, .ptr 1 (Lens.id (α := Mk.Call))), (3, .val (p.1)), (4, .val (p.2.1)), (5, .val (p.2.2.1)), (6, .val (p.2.2.2.1))], [(1, .var (p.2.2.2.2) [])]⟩) (fun p => k4 (p.1) (p.2.1) (p.2.2.1) (p.2.2.2.1) (p.2.2.2.2) = some r) ?_ ?_
   ·skip
    refine Q2 (Q1 ?_)
    refine O5 (ox3 Call_Kind f23_0) (.one rfl) .nil rfl <| O5 (ox2 t3) (.one rfl) (.one rfl) rfl <| O5 (ox_eql .tmp .int) (.app (.one rfl) .nil) .nil rfl <| O1 <| Q0 (σ' := ⟨[(1, _), (3, _), (4, _), (5, _), (6, _), (21, .val (decide (y1_k2.Kind = (6 : Int))))], [(1, _)]⟩) (j6 rfl rfl rfl rfl rfl rfl) (j1 rfl) ?_
    refine Q3 _ rfl (fun hc5 => ?_) (fun hc5 => ?_)
    ·replace hφ := if_then hφ hc5
     refine Q0 (σ' := ⟨[(1, _), (3, _), (4, _)], [(1, _)]⟩) (j3 rfl rfl rfl) (j1 rfl) ?_
     refine Q1 ?_
     refine O5 (ox1 .int) .nil .nil rfl <| O5 (ox1 .int) .nil .nil rfl <| O1 <| Q0 (σ' := ⟨[(1, _), (3, _), (4, _), (5, .val (1 : Int)), (6, .val (255 : Int))], [(1, _)]⟩) (j5 rfl rfl rfl rfl rfl) (j1 rfl) ?_
     exact PT.meet (x3_k2, x4_k2, (1 : Int), (255 : Int), y1_k2) hφ (j5 rfl rfl rfl rfl rfl) (j1 rfl)
    ·replace hφ := if_else hφ hc5
     refine Q0 (σ' := ⟨[(1, _), (3, _), (4, _), (5, _), (6, _)], [(1, _)]⟩) (j5 rfl rfl rfl rfl rfl) (j1 rfl) ?_
     refine Q4 ?_
     exact PT.meet (x3_k2, x4_k2, (0 : Int), (0 : Int), y1_k2) hφ (j5 rfl rfl rfl rfl rfl) (j1 rfl)
   ·rintro ⟨x3_k4, x4_k4, x5_k4, x6_k4, y1_k4⟩ hφ
    subst hk4
    refine Q0 (σ' := ⟨[(1, _), (3, .val (x3_k4)), (4, .val (x4_k4)), (5, .val (x5_k4)), (6, .val (x6_k4))], [(1, .var (y1_k4) [])]⟩) (j5 rfl rfl rfl rfl rfl) (j1 rfl) ?_
    refine Q2 ?_
    refine Q2 (Q1 ?_)
    refine O5 (ox3 Call_Name f23_1) (.one rfl) .nil rfl <| O5 (ox2 t3) (.one rfl) (.one rfl) rfl <| O5 (ox0 .tmp) (.one rfl) .nil rfl <| O5 (ox_lss .tmp .tmp) (.app (.one rfl) (.one rfl)) .nil rfl <| O5 (ox0 .tmp) (.one rfl) .nil rfl <| O4 rfl rfl rfl rfl (.plain .nil) (fun hG => (ox3 Call_Name f23_1)) (j1 rfl) .nil rfl ?_
    refine O4 rfl rfl rfl rfl (.cond (fun h => h) .nil) (fun hG => (ox2 t3)) (j1 rfl) (.one rfl) rfl <| O4 rfl rfl rfl rfl (.plain .nil) (fun hG => (ox0 .tmp)) (j1 rfl) .nil rfl <| O4 rfl rfl rfl rfl (.cond (fun h => h) (.cond (fun h => h) .nil)) (fun hG => (ox_gtr .tmp .tmp)) (j2 rfl rfl) .nil rfl <| O5 ox9 (j2 rfl rfl) .nil rfl <| O5 (ox0 .tmp) (.one rfl) .nil rfl <| O4 rfl rfl rfl rfl (.plain .nil) (fun hG => (ox3 Call_Other f23_2)) (j1 rfl) .nil rfl ?_
    refine O4 rfl rfl rfl rfl (.cond (fun h => h) .nil) (fun hG => (ox2 t3)) (j1 rfl) (.one rfl) rfl <| O4 rfl rfl rfl rfl (.plain .nil) (fun hG => (ox0 .tmp)) (j1 rfl) .nil rfl <| O4 rfl rfl rfl rfl (.cond (fun h => h) (.cond (fun h => h) .nil)) (fun hG => (ox_lss .tmp .tmp)) (j2 rfl rfl) .nil rfl <| O5 ox9 (j2 rfl rfl) .nil rfl <| O5 (ox0 .tmp) (.one rfl) .nil rfl <| O4 rfl rfl rfl rfl (.plain .nil) (fun hG => (ox3 Call_Other f23_2)) (j1 rfl) .nil rfl ?_
    refine O4 rfl rfl rfl rfl (.cond (fun h => h) .nil) (fun hG => (ox2 t3)) (j1 rfl) (.one rfl) rfl <| O4 rfl rfl rfl rfl (.plain .nil) (fun hG => (ox0 .tmp)) (j1 rfl) .nil rfl <| O4 rfl rfl rfl rfl (.cond (fun h => h) (.cond (fun h => h) .nil)) (fun hG => (ox_gtr .tmp .tmp)) (j2 rfl rfl) .nil rfl <| O5 ox9 (j2 rfl rfl) .nil rfl <| O1 <| Q0 (σ' := ⟨[(1, _), (43, .val (((((decide (y1_k4.Name < x3_k4)) || (decide (x4_k4 < y1_k4.Name))) || (decide (y1_k4.Other < x5_k4))) || (decide (x6_k4 < y1_k4.Other)))))], [(1, _)]⟩) (j2 rfl rfl) (j1 rfl) ?_
    refine Q3 _ rfl (fun hc6 => ?_) (fun hc6 => ?_)
    ·replace hφ := if_then hφ hc6
     refine Q0 (σ' := ⟨[], []⟩) trivial trivial ?_
     refine Q2 (Q1 ?_)
     refine O5 (ox1 .int) .nil .nil rfl <| O1 <| Q0 (σ' := ⟨[(2, .val (7 : Int))], []⟩) (j1 rfl) trivial ?_
     refine Q5 ?_
     obtain rfl := Option.some.inj hφ
     exact Q6 hw0 rfl (.tmp rfl rfl .nil) rfl
    ·replace hφ := if_else hφ hc6
     refine Q0 (σ' := ⟨[(1, _)], [(1, _)]⟩) (j1 rfl) (j1 rfl) ?_
     refine Q4 ?_
     refine Q2 (Q1 ?_)
     refine O5 (ox1 .int) .nil .nil rfl <| O1 <| Q0 (σ' := ⟨[(1, _), (7, .val (0 : Int))], [(1, _)]⟩) (j2 rfl rfl) (j1 rfl) ?_
     obtain ⟨k7, hk7, hφ⟩ := J_some hφ
     refine PT.cut (ι := Int × Mk.Call) (fun p => ⟨[(1, .ptr 1 (Lens.id (α := Mk.Call))), (7, .val (p.1))], [(1, .var (p.2) [])]⟩) (fun p => k7 (p.1) (p.2) = some r) ?_ ?_
     ·skip
      refine Q2 (Q1 ?_)
      refine O5 (ox3 Call_Kind f23_0) (.one rfl) .nil rfl <| O5 (ox2 t3) (.one rfl) (.one rfl) rfl <| O5 (ox_eql .tmp .int) (.app (.one rfl) .nil) .nil rfl <| O5 (ox0 .tmp) (.one rfl) .nil rfl <| O4 rfl rfl rfl rfl (.plain .nil) (fun hG => (ox3 Call_Kind f23_0)) (j1 rfl) .nil rfl <| O4 rfl rfl rfl rfl (.cond (fun h => h) .nil) (fun hG => (ox2 t3)) (j1 rfl) (.one rfl) rfl ?_
      refine O4 rfl rfl rfl rfl (.cond (fun h => h) .nil) (fun hG => (ox_eql .tmp .int)) (j1 rfl) .nil rfl <| O5 ox9 (j2 rfl rfl) .nil rfl <| O1 <| Q0 (σ' := ⟨[(1, _), (7, _), (51, .val ((decide (y1_k4.Kind = (1 : Int))) || (decide (y1_k4.Kind = (4 : Int)))))], [(1, _)]⟩) (j3 rfl rfl rfl) (j1 rfl) ?_
      refine Q3 _ rfl (fun hc8 => ?_) (fun hc8 => ?_)
      ·replace hφ := if_then hφ hc8
       refine Q0 (σ' := ⟨[(1, _)], [(1, _)]⟩) (j1 rfl) (j1 rfl) ?_
       refine Q1 ?_
       refine O5 (ox1 .int) .nil .nil rfl <| O1 <| Q0 (σ' := ⟨[(1, _), (7, .val (1073741824 : Int))], [(1, _)]⟩) (j2 rfl rfl) (j1 rfl) ?_
       exact PT.meet ((1073741824 : Int), y1_k4) hφ (j2 rfl rfl) (j1 rfl)
      ·replace hφ := if_else hφ hc8
       refine Q0 (σ' := ⟨[(1, _), (7, _)], [(1, _)]⟩) (j2 rfl rfl) (j1 rfl) ?_
       refine Q4 ?_
       exact PT.meet ((0 : Int), y1_k4) hφ (j2 rfl rfl) (j1 rfl)
     ·rintro ⟨x7_k7, y1_k7⟩ hφ
      subst hk7
      refine Q0 (σ' := ⟨[(1, _), (7, .val (x7_k7))], [(1, .var (y1_k7) [])]⟩) (j2 rfl rfl) (j1 rfl) ?_
      refine Q2 (Q2 ?_)
      obtain ⟨hb9, hφ⟩ := G_some hφ
      refine Q1 ?_
      refine O5 (ox3 Call_N f23_3) (.one rfl) .nil rfl <| O5 (ox2 t3) (.one rfl) (.one rfl) rfl <| O5 (ox0 .tmp) (.one rfl) .nil rfl <| O5 (ox_neg .tmp hb9) (.one rfl) .nil rfl <| O5 (ox_lss .tmp .tmp) (.app (.one rfl) (.one rfl)) .nil rfl <| O5 (ox0 .tmp) (.one rfl) .nil rfl ?_
      refine O4 rfl rfl rfl rfl (.plain .nil) (fun hG => (ox3 Call_N f23_3)) (j1 rfl) .nil rfl <| O4 rfl rfl rfl rfl (.cond (fun h => h) .nil) (fun hG => (ox2 t3)) (j1 rfl) (.one rfl) rfl <| O4 rfl rfl rfl rfl (.plain .nil) (fun hG => (ox0 .tmp)) (j1 rfl) .nil rfl <| O4 rfl rfl rfl rfl (.cond (fun h => h) (.cond (fun h => h) .nil)) (fun hG => (ox_gtr .tmp .tmp)) (j2 rfl rfl) .nil rfl <| O5 ox9 (j2 rfl rfl) .nil rfl <| O1 <| Q0 (σ' := ⟨[(62, .val ((decide (y1_k7.N < (-x7_k7))) || (decide (x7_k7 < y1_k7.N))))], []⟩) (j1 rfl) trivial ?_
      refine Q3 _ rfl (fun hc10 => ?_) (fun hc10 => ?_)
      ·replace hφ := if_then hφ hc10
       refine Q0 (σ' := ⟨[], []⟩) trivial trivial ?_
       refine Q2 (Q1 ?_)
       refine O5 (ox1 .int) .nil .nil rfl <| O1 <| Q0 (σ' := ⟨[(2, .val (3 : Int))], []⟩) (j1 rfl) trivial ?_
       refine Q5 ?_
       obtain rfl := Option.some.inj hφ
       exact Q6 hw0 rfl (.tmp rfl rfl .nil) rfl
      ·replace hφ := if_else hφ hc10
       refine Q0 (σ' := ⟨[], []⟩) trivial trivial ?_
       refine Q4 ?_
       refine Q2 (Q1 ?_)
       refine O5 (ox1 .int) .nil .nil rfl <| O1 <| Q0 (σ' := ⟨[(2, .val (0 : Int))], []⟩) (j1 rfl) trivial ?_
       refine Q5 ?_
       obtain rfl := Option.some.inj hφ
       exact Q6 hw0 rfl (.tmp rfl rfl .nil) rfl
end Go.Gx
end
section
namespace Go.Gx
open Sp
theorem c_model_Wrong_1 {a0 : Int} {r : Bool} (hφ : model_Wrong_1 a0 = some r) : Fn Go.Proofs.Tryd.prog 30 [.val a0] (.val r) := by
 unfold model_Wrong_1 at hφ
 refine Fn.mk' Go.Proofs.Tryd.func30 rfl (by decide) rfl rfl rfl (fun w0 hw0 => ?_)
 refine Q2 (Q1 ?_)
 refine O5 (ox1 .bool) .nil .nil rfl <| O1 <| Q0 (σ' := ⟨[(0, .val (a0))], []⟩) (j1 rfl) trivial ?_
 refine Q2 (Q1 ?_)
 refine O5 (ox0 .tmp) (.one rfl) .nil rfl <| O5 (ox_geq .tmp .int) (.app (.one rfl) .nil) .nil rfl <| O5 (ox0 .tmp) (.one rfl) .nil rfl <| O4 rfl rfl rfl rfl (.plain .nil) (fun hG => (ox0 .tmp)) (j1 rfl) .nil rfl <| O4 rfl rfl rfl rfl (.cond (fun h => h) .nil) (fun hG => (ox_leq .tmp .int)) (j1 rfl) .nil rfl <| O5 ox8 (j2 rfl rfl) .nil rfl ?_
 refine O5 (ox1 .tmp) (.one rfl) .nil rfl <| O1 <| Q0 (σ' := ⟨[(2, .val ((decide ((1 : Int) ≤ a0)) && (decide (a0 ≤ (255 : Int)))))], []⟩) (j1 rfl) trivial ?_
 refine Q5 ?_
 obtain rfl := Option.some.inj hφ
 exact Q6 hw0 rfl (.tmp rfl rfl .nil) rfl
theorem c_model_Wrong {a0 : Mk.Call} {r : Int} (hφ : model_Wrong a0 = some r) : Fn Go.Proofs.Tryd.prog 22 [.val a0] (.val r) := by
 unfold model_Wrong at hφ
 refine Fn.mk' Go.Proofs.Tryd.func22 rfl (by decide) rfl rfl rfl (fun w0 hw0 => ?_)
 refine Q2 (Q1 ?_)
 refine O3 rfl rfl (ox_box (id := 1) .tmp) (.one rfl) .nil rfl (by kernel_rfl) <| O5 (ox1 .int) .nil .nil rfl <| O1 <| Q0 (σ' := ⟨[(1, _)], [(1, .var (a0) [])]⟩) (j1 rfl) (j1 rfl) ?_
 refine Q2 (Q1 ?_)
 refine O5 (ox1 .func) .nil .nil rfl <| O1 <| Q0 (σ' := ⟨[(1, _), (3, _)], [(1, _)]⟩) (j2 rfl rfl) (j1 rfl) ?_
 refine Q2 ?_
 refine PT.block ?_
 refine Q2 (Q1 ?_)
 refine O5 (ox3 Call_Kind f23_0) (.one rfl) .nil rfl <| O5 (ox2 t3) (.one rfl) (.one rfl) rfl <| O5 (ox_lss .tmp .int) (.app (.one rfl) .nil) .nil rfl <| O5 (ox0 .tmp) (.one rfl) .nil rfl <| O4 rfl rfl rfl rfl (.plain .nil) (fun hG => (ox3 Call_Kind f23_0)) (j1 rfl) .nil rfl <| O4 rfl rfl rfl rfl (.cond (fun h => h) .nil) (fun hG => (ox2 t3)) (j1 rfl) (.one rfl) rfl ?_
 refine O4 rfl rfl rfl rfl (.cond (fun h => h) .nil) (fun hG => (ox_gtr .tmp .int)) (j1 rfl) .nil rfl <| O5 ox9 (j2 rfl rfl) .nil rfl <| O5 (ox1 .tmp) (.one rfl) .nil rfl <| O1 <| Q0 (σ' := ⟨[(1, _), (3, _), (4, .val ((decide (a0.Kind < (1 : Int))) || (decide ((6 : Int) < a0.Kind))))], [(1, _)]⟩) (j3 rfl rfl rfl) (j1 rfl) ?_
 refine Q3 _ rfl (fun hc1 => ?_) (fun hc1 => ?_)
 ·replace hφ := if_then hφ hc1
  refine Q0 (σ' := ⟨[], []⟩) trivial trivial ?_
  refine Q2 (Q1 ?_)
  refine O5 (ox1 .int) .nil .nil rfl <| O1 <| Q0 (σ' := ⟨[(2, .val (1 : Int))], []⟩) (j1 rfl) trivial ?_
  refine Q5 ?_
  obtain rfl := Option.some.inj hφ
  exact Q6 hw0 rfl (.tmp rfl rfl .nil) rfl
 ·replace hφ := if_else hφ hc1
  refine Q0 (σ' := ⟨[(1, _), (3, _)], [(1, _)]⟩) (j2 rfl rfl) (j1 rfl) ?_
  obtain ⟨k2, hk2, hφ⟩ := J_some hφ
  refine PT.cut (ι := Bool × Mk.Call) (fun p => ⟨[(1, .ptr 1 (Lens.id (α := Mk.Call))), (13, .val (p.1))], [(1, .var (p.2) [])]⟩) (fun p => k2 (p.1) (p.2) = some r) ?_ ?_
  ·skip
   refine Q2 ?_
   obtain ⟨v3, hv3, hφ⟩ := B_some hφ
   refine Q8 hMixed (
     .cons (S5 (ox3 Call_Kind f23_0)) ⟨.one rfl, .nil⟩ (by kernel_rfl) rfl <|
     .cons (S5 (ox2 t3)) ⟨.one rfl, .one rfl⟩ (by kernel_rfl) rfl <|
     .cons (S5 (ox_neq .tmp .int)) ⟨(.app (.one rfl) .nil), .nil⟩ (by kernel_rfl) rfl <|
     .cons (S5 (ox0 .tmp)) ⟨.one rfl, .nil⟩ (by kernel_rfl) rfl <|
     .cons (S5 (ox3 Call_Name f23_1)) ⟨.one rfl, .nil⟩ (by kernel_rfl) rfl <|
     .cons (S5 (ox2 t3)) ⟨.one rfl, .one rfl⟩ (by kernel_rfl) rfl <|
     .cons (S5 (ox_callv (c_model_Wrong_1 hv3) (.cons .tmp .nil))) ⟨(.cons rfl (.app (.one rfl) .nil)), .nil⟩ (by kernel_rfl) rfl <|
     .cons (S5 (ox_neqB e4 .tmp .tmp)) ⟨(.app (.one rfl) (.one rfl)), .nil⟩ (by kernel_rfl) rfl <|
     .cons (S5 (ox0 .tmp)) ⟨.one rfl, .nil⟩ (by kernel_rfl) rfl <|
     .cons (S3 rfl rfl rfl Grd.plain _ (by first | exact Iff.rfl | (simp; done) | (simp; intros; exact Iff.rfl)) (.plain .nil) (fun hG => (ox3 Call_Kind f23_0))) ⟨(.cons rfl (j1 rfl)), .nil⟩ (by kernel_rfl) rfl <|
     .cons (S3 rfl rfl rfl Grd.plain _ (by first | exact Iff.rfl | (simp; done) | (simp; intros; exact Iff.rfl)) (.cond (fun h => h) .nil) (fun hG => (ox2 t3))) ⟨(.cons rfl (j1 rfl)), .one rfl⟩ (by kernel_rfl) rfl <|
     .cons (S3 rfl rfl rfl Grd.plain _ (by first | exact Iff.rfl | (simp; done) | (simp; intros; exact Iff.rfl)) (.cond (fun h => h) .nil) (fun hG => (ox_eql .tmp .int))) ⟨(.cons rfl (j1 rfl)), .nil⟩ (by kernel_rfl) rfl <|
     .cons (S3 rfl rfl rfl Grd.plain _ (by first | exact Iff.rfl | (simp; done) | (simp; intros; exact Iff.rfl)) (.cond (fun h => h) .nil) (fun hG => (ox0 .tmp))) ⟨(.cons rfl (j1 rfl)), .nil⟩ (by kernel_rfl) rfl <|
     .cons (S3 rfl rfl rfl Grd.cond _ (by first | exact Iff.rfl | (simp; done) | (simp; intros; exact Iff.rfl)) (.plain .nil) (fun hG => (ox3 Call_Name f23_1))) ⟨(.cons rfl (j1 rfl)), .nil⟩ (by kernel_rfl) rfl <|
     .cons (S3 rfl rfl rfl Grd.cond _ (by first | exact Iff.rfl | (simp; done) | (simp; intros; exact Iff.rfl)) (.cond (fun h => h) .nil) (fun hG => (ox2 t3))) ⟨(.cons rfl (j1 rfl)), .one rfl⟩ (by kernel_rfl) rfl <|
     .cons (S3 rfl rfl rfl Grd.cond _ (by first | exact Iff.rfl | (simp; done) | (simp; intros; exact Iff.rfl)) (.cond (fun h => h) .nil) (fun hG => (ox_neq .tmp .int))) ⟨(.cons rfl (j1 rfl)), .nil⟩ (by kernel_rfl) rfl <|
     .cons (S3 rfl rfl rfl Grd.plain _ (by first | exact Iff.rfl | (simp; done) | (simp; intros; exact Iff.rfl)) (.cond (fun h => h) (.part (fun h => h) .nil)) (fun hG => ox8)) ⟨(.cons rfl (j2 rfl rfl)), .nil⟩ (by kernel_rfl) rfl <|
     .cons (S5 ox9) ⟨(j2 rfl rfl), .nil⟩ (by kernel_rfl) rfl <|
     .cons (S5 (ox1 .tmp)) ⟨.one rfl, .nil⟩ (by kernel_rfl) rfl <|
     .nil) _ [[], [0], [0, 1], [], [], [4], [3, 4, 5], [0, 1, 2, 3, 4, 5, 6], [0, 1, 2, 3, 4, 5, 6, 7], [0, 1, 2, 3, 4, 5, 6, 7, 8], [0, 1, 2, 3, 4, 5, 6, 7, 8, 9], [0, 1, 2, 3, 4, 5, 6, 7, 8, 9, 10], [0, 1, 2, 3, 4, 5, 6, 7, 8, 9, 10, 11], [0, 1, 2, 3, 4, 5, 6, 7, 8, 9, 10, 11, 12], [0, 1, 2, 3, 4, 5, 6, 7, 8, 9, 10, 11, 12, 13], [0, 1, 2, 3, 4, 5, 6, 7, 8, 9, 10, 11, 12, 13, 14], [0, 1, 2, 3, 4, 5, 6, 7, 8, 9, 10, 11, 12, 13, 14, 15], [0, 1, 2, 3, 4, 5, 6, 7, 8, 9, 10, 11, 12, 13, 14, 15, 16], [0, 1, 2, 3, 4, 5, 6, 7, 8, 9, 10, 11, 12, 13, 14, 15, 16, 17]] rfl (by kernel_rfl) (by kernel_rfl) ?_
   refine Q0 (σ' := ⟨[(1, _), (3, _), (13, .val (((!decide ((!decide (a0.Kind = (5 : Int))) = v3)) || ((decide (a0.Kind = (5 : Int))) && (!decide (a0.Name = (0 : Int)))))))], [(1, _)]⟩) (j3 rfl rfl rfl) (j1 rfl) ?_
   refine Q3 _ rfl (fun hc4 => ?_) (fun hc4 => ?_)
   ·replace hφ := if_then hφ hc4
    refine Q0 (σ' := ⟨[(1, _), (13, _)], [(1, _)]⟩) (j2 rfl rfl) (j1 rfl) ?_
    refine Q4 ?_
    exact PT.meet (((!decide ((!decide (a0.Kind = (5 : Int))) = v3)) || ((decide (a0.Kind = (5 : Int))) && (!decide (a0.Name = (0 : Int))))), a0) hφ (j2 rfl rfl) (j1 rfl)
   ·replace hφ := if_else hφ hc4
    refine Q0 (σ' := ⟨[(1, _), (3, _)], [(1, _)]⟩) (j2 rfl rfl) (j1 rfl) ?_
    obtain ⟨v5, hv5, hφ⟩ := B_some hφ
    refine Q8 hMixed (
      .cons (S5 (ox3 Call_Kind f23_0)) ⟨.one rfl, .nil⟩ (by kernel_rfl) rfl <|
      .cons (S5 (ox2 t3)) ⟨.one rfl, .one rfl⟩ (by kernel_rfl) rfl <|
      .cons (S5 (ox_eql .tmp .int)) ⟨(.app (.one rfl) .nil), .nil⟩ (by kernel_rfl) rfl <|
      .cons (S5 (ox0 .tmp)) ⟨.one rfl, .nil⟩ (by kernel_rfl) rfl <|
      .cons (S5 (ox3 Call_Other f23_2)) ⟨.one rfl, .nil⟩ (by kernel_rfl) rfl <|
      .cons (S5 (ox2 t3)) ⟨.one rfl, .one rfl⟩ (by kernel_rfl) rfl <|
      .cons (S5 (ox_callv (c_model_Wrong_1 hv5) (.cons .tmp .nil))) ⟨(.cons rfl (.app (.one rfl) .nil)), .nil⟩ (by kernel_rfl) rfl <|
      .cons (S5 (ox_neqB e4 .tmp .tmp)) ⟨(.app (.one rfl) (.one rfl)), .nil⟩ (by kernel_rfl) rfl <|
      .cons (S5 (ox0 .tmp)) ⟨.one rfl, .nil⟩ (by kernel_rfl) rfl <|
      .cons (S3 rfl rfl rfl Grd.plain _ (by first | exact Iff.rfl | (simp; done) | (simp; intros; exact Iff.rfl)) (.plain .nil) (fun hG => (ox3 Call_Kind f23_0))) ⟨(.cons rfl (j1 rfl)), .nil⟩ (by kernel_rfl) rfl <|
      .cons (S3 rfl rfl rfl Grd.plain _ (by first | exact Iff.rfl | (simp; done) | (simp; intros; exact Iff.rfl)) (.cond (fun h => h) .nil) (fun hG => (ox2 t3))) ⟨(.cons rfl (j1 rfl)), .one rfl⟩ (by kernel_rfl) rfl <|
      .cons (S3 rfl rfl rfl Grd.plain _ (by first | exact Iff.rfl | (simp; done) | (simp; intros; exact Iff.rfl)) (.cond (fun h => h) .nil) (fun hG => (ox_neq .tmp .int))) ⟨(.cons rfl (j1 rfl)), .nil⟩ (by kernel_rfl) rfl <|
      .cons (S3 rfl rfl rfl Grd.plain _ (by first | exact Iff.rfl | (simp; done) | (simp; intros; exact Iff.rfl)) (.cond (fun h => h) .nil) (fun hG => (ox0 .tmp))) ⟨(.cons rfl (j1 rfl)), .nil⟩ (by kernel_rfl) rfl <|
      .cons (S3 rfl rfl rfl Grd.cond _ (by first | exact Iff.rfl | (simp; done) | (simp; intros; exact Iff.rfl)) (.plain .nil) (fun hG => (ox3 Call_Other f23_2))) ⟨(.cons rfl (j1 rfl)), .nil⟩ (by kernel_rfl) rfl <|
      .cons (S3 rfl rfl rfl Grd.cond _ (by first | exact Iff.rfl | (simp; done) | (simp; intros; exact Iff.rfl)) (.cond (fun h => h) .nil) (fun hG => (ox2 t3))) ⟨(.cons rfl (j1 rfl)), .one rfl⟩ (by kernel_rfl) rfl <|
      .cons (S3 rfl rfl rfl Grd.cond _ (by first | exact Iff.rfl | (simp; done) | (simp; intros; exact Iff.rfl)) (.cond (fun h => h) .nil) (fun hG => (ox_neq .tmp .int))) ⟨(.cons rfl (j1 rfl)), .nil⟩ (by kernel_rfl) rfl <|
      .cons (S3 rfl rfl rfl Grd.plain _ (by first | exact Iff.rfl | (simp; done) | (simp; intros; exact Iff.rfl)) (.cond (fun h => h) (.part (fun h => h) .nil)) (fun hG => ox8)) ⟨(.cons rfl (j2 rfl rfl)), .nil⟩ (by kernel_rfl) rfl <|
      .cons (S5 ox9) ⟨(j2 rfl rfl), .nil⟩ (by kernel_rfl) rfl <|
      .cons (S5 (ox1 .tmp)) ⟨.one rfl, .nil⟩ (by kernel_rfl) rfl <|
      .nil) _ [[], [0], [0, 1], [], [], [4], [3, 4, 5], [0, 1, 2, 3, 4, 5, 6], [0, 1, 2, 3, 4, 5, 6, 7], [0, 1, 2, 3, 4, 5, 6, 7, 8], [0, 1, 2, 3, 4, 5, 6, 7, 8, 9], [0, 1, 2, 3, 4, 5, 6, 7, 8, 9, 10], [0, 1, 2, 3, 4, 5, 6, 7, 8, 9, 10, 11], [0, 1, 2, 3, 4, 5, 6, 7, 8, 9, 10, 11, 12], [0, 1, 2, 3, 4, 5, 6, 7, 8, 9, 10, 11, 12, 13], [0, 1, 2, 3, 4, 5, 6, 7, 8, 9, 10, 11, 12, 13, 14], [0, 1, 2, 3, 4, 5, 6, 7, 8, 9, 10, 11, 12, 13, 14, 15], [0, 1, 2, 3, 4, 5, 6, 7, 8, 9, 10, 11, 12, 13, 14, 15, 16], [0, 1, 2, 3, 4, 5, 6, 7, 8, 9, 10, 11, 12, 13, 14, 15, 16, 17]] rfl (by kernel_rfl) (by kernel_rfl) ?_
    refine Q0 (σ' := ⟨[(1, _), (13, .val (((!decide ((decide (a0.Kind = (6 : Int))) = v5)) || ((!decide (a0.Kind = (6 : Int))) && (!decide (a0.Other = (0 : Int)))))))], [(1, _)]⟩) (j2 rfl rfl) (j1 rfl) ?_
    exact PT.meet (((!decide ((decide (a0.Kind = (6 : Int))) = v5)) || ((!decide (a0.Kind = (6 : Int))) && (!decide (a0.Other = (0 : Int))))), a0) hφ (j2 rfl rfl) (j1 rfl)
  ·rintro ⟨x13_k2, y1_k2⟩ hφ
   subst hk2
   refine Q0 (σ' := ⟨[(1, .ptr 1 (Lens.id (α := Mk.Call))), (13, .val (x13_k2))], [(1, .var (y1_k2) [])]⟩) (j2 rfl rfl) (j1 rfl) ?_
   refine Q3 _ rfl (fun hc6 => ?_) (fun hc6 => ?_)
   ·replace hφ := if_then hφ hc6
    refine Q0 (σ' := ⟨[], []⟩) trivial trivial ?_
    refine Q2 (Q1 ?_)
    refine O5 (ox1 .int) .nil .nil rfl <| O1 <| Q0 (σ' := ⟨[(2, .val (7 : Int))], []⟩) (j1 rfl) trivial ?_
    refine Q5 ?_
    obtain rfl := Option.some.inj hφ
    exact Q6 hw0 rfl (.tmp rfl rfl .nil) rfl
   ·replace hφ := if_else hφ hc6
    refine Q0 (σ' := ⟨[(1, _)], [(1, _)]⟩) (j1 rfl) (j1 rfl) ?_
    refine Q2 (Q1 ?_)
    refine O5 (ox3 Call_N f23_3) (.one rfl) .nil rfl <| O5 (ox2 t3) (.one rfl) (.one rfl) rfl <| O5 (ox_lss .tmp .int) (.app (.one rfl) .nil) .nil rfl <| O5 (ox0 .tmp) (.one rfl) .nil rfl <| O4 rfl rfl rfl rfl (.plain .nil) (fun hG => (ox3 Call_N f23_3)) (j1 rfl) .nil rfl <| O4 rfl rfl rfl rfl (.cond (fun h => h) .nil) (fun hG => (ox2 t3)) (j1 rfl) (.one rfl) rfl ?_
    refine O4 rfl rfl rfl rfl (.cond (fun h => h) .nil) (fun hG => (ox_gtr .tmp .int)) (j1 rfl) .nil rfl <| O5 ox9 (j2 rfl rfl) .nil rfl <| O5 (ox0 .tmp) (.one rfl) .nil rfl <| O4 rfl rfl rfl rfl (.plain .nil) (fun hG => (ox3 Call_Kind f23_0)) (j1 rfl) .nil rfl <| O4 rfl rfl rfl rfl (.cond (fun h => h) .nil) (fun hG => (ox2 t3)) (j1 rfl) (.one rfl) rfl <| O4 rfl rfl rfl rfl (.cond (fun h => h) .nil) (fun hG => (ox_neq .tmp .int)) (j1 rfl) .nil rfl ?_
    refine O4 rfl rfl rfl rfl (.cond (fun h => h) .nil) (fun hG => (ox0 .tmp)) (j1 rfl) .nil rfl ?_
    refine Ops.guard2 rfl rfl rfl rfl (.plain .nil) (fun hG => (ox3 Call_Kind f23_0)) (j1 rfl) .nil rfl ?_
    refine Ops.guard2 rfl rfl rfl rfl (.cond (fun h => h) .nil) (fun hG => (ox2 t3)) (j1 rfl) (.one rfl) rfl ?_
    refine Ops.guard2 rfl rfl rfl rfl (.cond (fun h => h) .nil) (fun hG => (ox_neq .tmp .int)) (j1 rfl) .nil rfl ?_
    refine O4 rfl rfl rfl rfl (.cond (fun h => h) (.part (fun h => h) .nil)) (fun hG => ox8) (j2 rfl rfl) .nil rfl <| O4 rfl rfl rfl rfl (.cond (fun h => h) .nil) (fun hG => (ox0 .tmp)) (j1 rfl) .nil rfl ?_
    refine Ops.guard2 rfl rfl rfl rfl (.plain .nil) (fun hG => (ox3 Call_N f23_3)) (j1 rfl) .nil rfl ?_
    refine Ops.guard2 rfl rfl rfl rfl (.cond (fun h => h) .nil) (fun hG => (ox2 t3)) (j1 rfl) (.one rfl) rfl ?_
    refine Ops.guard2 rfl rfl rfl rfl (.cond (fun h => h) .nil) (fun hG => (ox_neq .tmp .int)) (j1 rfl) .nil rfl ?_
    refine O4 rfl rfl rfl rfl (.cond (fun h => h) (.part (fun h => h) .nil)) (fun hG => ox8) (j2 rfl rfl) .nil rfl <| O5 ox9 (j2 rfl rfl) .nil rfl <| O5 (ox1 .tmp) (.one rfl) .nil rfl <| O1 <| Q0 (σ' := ⟨[(50, .val ((((decide (y1_k2.N < (-1073741824 : Int))) || (decide ((1073741824 : Int) < y1_k2.N))) || (((!decide (y1_k2.Kind = (1 : Int))) && (!decide (y1_k2.Kind = (4 : Int)))) && (!decide (y1_k2.N = (0 : Int)))))))], []⟩) (j1 rfl) trivial ?_
    refine Q3 _ rfl (fun hc7 => ?_) (fun hc7 => ?_)
    ·replace hφ := if_then hφ hc7
     refine Q0 (σ' := ⟨[], []⟩) trivial trivial ?_
     refine Q2 (Q1 ?_)
     refine O5 (ox1 .int) .nil .nil rfl <| O1 <| Q0 (σ' := ⟨[(2, .val (3 : Int))], []⟩) (j1 rfl) trivial ?_
     refine Q5 ?_
     obtain rfl := Option.some.inj hφ
     exact Q6 hw0 rfl (.tmp rfl rfl .nil) rfl
    ·replace hφ := if_else hφ hc7
     refine Q0 (σ' := ⟨[], []⟩) trivial trivial ?_
     refine Q4 ?_
     refine Q2 (Q1 ?_)
     refine O5 (ox1 .int) .nil .nil rfl <| O1 <| Q0 (σ' := ⟨[(2, .val (0 : Int))], []⟩) (j1 rfl) trivial ?_
     refine Q5 ?_
     obtain rfl := Option.some.inj hφ
     exact Q6 hw0 rfl (.tmp rfl rfl .nil) rfl
end Go.Gx
end
section
namespace Go.Gx
open Sp
theorem c_mkref1_SameCalls {a0 : List Mk.Call} {a1 : List Mk.Call} {r : Bool} (hφ : mkref1_SameCalls a0 a1 = some r) : Fn Go.Proofs.Tryd.prog 10 [.val a0, .val a1] (.val r) := by
 unfold mkref1_SameCalls at hφ
 refine Fn.mk' Go.Proofs.Tryd.func10 rfl (by decide) rfl rfl rfl (fun w0 hw0 => ?_)
 refine Q2 (Q1 ?_)
 refine O5 (ox1 .bool) .nil .nil rfl <| O1 <| Q0 (σ' := ⟨[(0, .val (a0)), (1, .val (a1))], []⟩) (j2 rfl rfl) trivial ?_
 refine Q2 ?_
 refine Q2 (Q1 ?_)
 refine O5 (ox0 .tmp) (.one rfl) .nil rfl <| O5 (ox_len s27 .tmp) (.one rfl) .nil rfl <| O5 (ox0 .tmp) (.one rfl) .nil rfl <| O5 (ox_len s27 .tmp) (.one rfl) .nil rfl <| O5 (ox_neq .tmp .tmp) (.app (.one rfl) (.one rfl)) .nil rfl <| O1 <| Q0 (σ' := ⟨[(0, _), (1, _), (10, .val (!decide ((a0.length : Int) = (a1.length : Int))))], []⟩) (j3 rfl rfl rfl) trivial ?_
 refine Q3 _ rfl (fun hc1 => ?_) (fun hc1 => ?_)
 ·replace hφ := if_then hφ hc1
  refine Q0 (σ' := ⟨[], []⟩) trivial trivial ?_
  refine Q2 (Q1 ?_)
  refine O5 (ox1 .bool) .nil .nil rfl <| O1 <| Q0 (σ' := ⟨[(4, .val (false))], []⟩) (j1 rfl) trivial ?_
  refine Q5 ?_
  obtain rfl := Option.some.inj hφ
  exact Q6 hw0 rfl (.tmp rfl rfl .nil) rfl
 ·replace hφ := if_else hφ hc1
  refine Q0 (σ' := ⟨[(0, _), (1, _)], []⟩) (j2 rfl rfl) trivial ?_
  refine Q4 ?_
  obtain ⟨k2, hk2, hφ⟩ := J_some hφ
  refine PT.cut (ι := Unit) (fun p => ⟨[], []⟩) (fun p => k2 () = some r) ?_ ?_
  ·skip
   refine Q2 (Q1 ?_)
   refine O5 (ox0 .tmp) (.one rfl) .nil rfl <| O5 (ox_len s27 .tmp) (.one rfl) .nil rfl <| O5 (ox0 .int) .nil .nil rfl <| O1 <| Q0 (σ' := ⟨[(0, _), (1, _), (12, .val (a0.length : Int)), (13, .val (0 : Int))], []⟩) (j4 rfl rfl rfl rfl) trivial ?_
   refine PT.block ?_
   refine PT.loop (ι := Nat × (List Mk.Call) × (List Mk.Call) × Int × Int) (fun p => ⟨[(0, .val (p.2.1)), (1, .val (p.2.2.1)), (12, .val (p.2.2.2.1)), (13, .val (p.2.2.2.2))], []⟩) (fun p => mkref1_SameCalls_l1 k2 p.1 (p.2.1) (p.2.2.1) (p.2.2.2.1) (p.2.2.2.2) = some r) (fun p => p.1) (((a0.length : Int) - (0 : Int)).toNat + 1, a0, a1, (a0.length : Int), (0 : Int)) hφ (j4 rfl rfl rfl rfl) trivial ?_
   rintro ⟨m3, x0_m3, x1_m3, x12_m3, x13_m3⟩ (hφ : mkref1_SameCalls_l1 k2 m3 x0_m3 x1_m3 x12_m3 x13_m3 = some r)
   obtain _ | m3 := m3
   ·exact (none_no hφ).elim
   rw [mkref1_SameCalls_l1.eq_2] at hφ
   refine Q0 (σ' := ⟨[(0, .val (x0_m3)), (1, .val (x1_m3)), (12, .val (x12_m3)), (13, .val (x13_m3))], []⟩) (j4 rfl rfl rfl rfl) trivial ?_
   refine Q2 (Q1 ?_)
   refine O5 (ox_lss .tmp .tmp) (.app (.one rfl) (.one rfl)) .nil rfl <| O1 <| Q0 (σ' := ⟨[(0, _), (1, _), (12, _), (13, _), (14, .val (decide (x13_m3 < x12_m3)))], []⟩) (j5 rfl rfl rfl rfl rfl) trivial ?_
   refine Q2 ?_
   refine Q3 _ rfl (fun hc4 => ?_) (fun hc4 => ?_)
   ·replace hφ := if_then hφ hc4
    refine Q0 (σ' := ⟨[(0, _), (1, _), (12, _), (13, _)], []⟩) (j4 rfl rfl rfl rfl) trivial ?_
    refine Q4 ?_
    refine Q2 ?_
    refine PT.block ?_
    refine Q2 (Q1 ?_)
    refine O5 (ox0 .tmp) (.one rfl) .nil rfl <| O5 (ox1 .tmp) (.one rfl) .nil rfl <| O1 <| Q0 (σ' := ⟨[(0, _), (1, _), (5, .val (x13_m3)), (12, _), (13, _)], []⟩) (j5 rfl rfl rfl rfl rfl) trivial ?_
    refine Q2 ?_
    obtain ⟨hb5, hφ⟩ := G_some hφ
    obtain ⟨hb6, hφ⟩ := G_some hφ
    refine Q8 hMixed (
      .cons (S5 (ox0 .tmp)) ⟨.one rfl, .nil⟩ (by kernel_rfl) rfl <|
      .cons (S5 (ox0 .tmp)) ⟨.one rfl, .nil⟩ (by kernel_rfl) rfl <|
      .cons (S5 (ox_ix s27 .tmp .tmp hb5.1 hb5.2)) ⟨(.app (.one rfl) (.one rfl)), .nil⟩ (by kernel_rfl) rfl <|
      .cons (S5 (ox_load_elem t23)) ⟨.one rfl, .nil⟩ (by kernel_rfl) rfl <|
      .cons (S5 (ox0 .tmp)) ⟨.one rfl, .nil⟩ (by kernel_rfl) rfl <|
      .cons (S5 (ox0 .tmp)) ⟨.one rfl, .nil⟩ (by kernel_rfl) rfl <|
      .cons (S5 (ox_ix s27 .tmp .tmp hb6.1 hb6.2)) ⟨(.app (.one rfl) (.one rfl)), .nil⟩ (by kernel_rfl) rfl <|
      .cons (S5 (ox_load_elem t23)) ⟨.one rfl, .nil⟩ (by kernel_rfl) rfl <|
      .cons (S5 (ox_neqT e23 .tmp .tmp)) ⟨(.app (.one rfl) (.one rfl)), .nil⟩ (by kernel_rfl) rfl <|
      .nil) _ [[], [], [0, 1], [0, 1, 2], [], [], [4, 5], [4, 5, 6], [0, 1, 2, 3, 4, 5, 6, 7]] rfl (by kernel_rfl) (by kernel_rfl) ?_
    refine Q0 (σ' := ⟨[(0, _), (1, _), (12, _), (13, _), (24, .val (!decide ((ix x0_m3 x13_m3) = (ix x1_m3 x13_m3))))], []⟩) (j5 rfl rfl rfl rfl rfl) trivial ?_
    refine Q3 _ rfl (fun hc7 => ?_) (fun hc7 => ?_)
    ·replace hφ := if_then hφ hc7
     refine Q0 (σ' := ⟨[], []⟩) trivial trivial ?_
     refine Q2 (Q1 ?_)
     refine O5 (ox1 .bool) .nil .nil rfl <| O1 <| Q0 (σ' := ⟨[(4, .val (false))], []⟩) (j1 rfl) trivial ?_
     refine Q5 ?_
     obtain rfl := Option.some.inj hφ
     exact Q6 hw0 rfl (.tmp rfl rfl .nil) rfl
    ·replace hφ := if_else hφ hc7
     refine Q0 (σ' := ⟨[(0, _), (1, _), (12, _), (13, _)], []⟩) (j4 rfl rfl rfl rfl) trivial ?_
     refine Q4 ?_
     obtain ⟨hb8, hφ⟩ := G_some hφ
     refine Q1 ?_
     refine O5 (ox_add .tmp .int hb8) (.app (.one rfl) .nil) .nil rfl <| O5 (ox0 .tmp) (.one rfl) .nil rfl <| O1 <| Q0 (σ' := ⟨[(0, _), (1, _), (12, _), (13, .val (x13_m3 + (1 : Int)))], []⟩) (j4 rfl rfl rfl rfl) trivial ?_
     exact PT.next (m3, x0_m3, x1_m3, x12_m3, (x13_m3 + (1 : Int))) hφ (Nat.lt_succ_self _) (j4 rfl rfl rfl rfl) trivial
   ·replace hφ := if_else hφ hc4
    refine Q0 (σ' := ⟨[], []⟩) trivial trivial ?_
    refine PT.exit ?_
    exact PT.meet () hφ trivial trivial
  ·rintro ⟨⟩ hφ
   subst hk2
   refine Q0 (σ' := ⟨[], []⟩) trivial trivial ?_
   refine Q2 (Q1 ?_)
   refine O5 (ox1 .bool) .nil .nil rfl <| O1 <| Q0 (σ' := ⟨[(4, .val (true))], []⟩) (j1 rfl) trivial ?_
   refine Q5 ?_
   obtain rfl := Option.some.inj hφ
   exact Q6 hw0 rfl (.tmp rfl rfl .nil) rfl
end Go.Gx
end
section
namespace Go.Gx
open Go.RowKit
open Sp (RP)
section
variable {P : Program}
theorem OpX.reads {o : Oper} {rs rs' : List (Nat × Desc)} {ro ro' : List (Nat × ODesc)} {d : Desc} {wo : List (Nat × ODesc)} {fr : List Nat} (h : OpX P o rs ro d wo fr)
  (hi : ∀ (m : M) (w0 : B0) (w : World) (a : Act), (∀ p ∈ rs', p.2.holds m (a.tmps.getD p.1 undef)) → (∀ p ∈ ro', p.2.holds m w0.heap.size w p.1) → (∀ p ∈ rs, p.2.holds m (a.tmps.getD p.1 undef)) ∧ (∀ p ∈ ro, p.2.holds m w0.heap.size w p.1)) :
  OpX P o rs' ro' d wo fr := fun m w0 w a hw hs ho => h m w0 w a hw (hi m w0 w a hs ho).1 (hi m w0 w a hs ho).2
theorem rp_ptr {m : M} {b id : Nat} {x : RP b} {v : Value} (l : Lens Mk.Call Int) (ho : x.o = l.off) (h4 : x.o < 4) (hb : m.blk id = b) (h : Desc.holds m (.val x) v) : Desc.holds m (.ptr id l) v := by
 have := holds_rp h h4
 show v = .pointer (some ⟨m.blk id, l.off, none⟩)
 rw [hb, ← ho]; exact this
theorem ox_load_rp {T s id j b : Nat} {sv : Value} {x : RP b} {c : Mk.Call} {dst ty pos af g} (h : Ty P T Int) (h4 : x.o < 4) :
  OpX P ⟨dst, .load T (.tmp s), ty, pos, af, g⟩ [(s, .val x)] [(id, .var c []), (j, .pin id b sv)] (.val (Sp.cget c x.o)) [] [] := by
 have key : ∀ l : Lens Mk.Call Int, x.o = l.off → OpX P ⟨dst, .load T (.tmp s), ty, pos, af, g⟩ [(s, .val x)] [(id, .var c []), (j, .pin id b sv)] (.val (l.get c)) [] [] := fun l ho =>
  OpX.reads (ox2 (l := l) h) fun m w0 w a hs hob => ⟨fun p hp => by
   obtain rfl := List.mem_singleton.1 hp
   have hpin := hob (j, .pin id b sv) (by simp)
   exact rp_ptr l ho h4 hpin.1 (hs (s, .val x) (by simp)), fun p hp => by
   obtain rfl := List.mem_singleton.1 hp
   exact hob (id, .var c []) (by simp)⟩
 obtain ⟨o⟩ := x
 match o, h4 with
 | 0, _ => exact key Call_Kind rfl
 | 1, _ => exact key Call_Name rfl
 | 2, _ => exact key Call_Other rfl
 | 3, _ => exact key Call_N rfl
theorem ox_store_rp {T s id j b : Nat} {sv : Value} {x : RP b} {c : Mk.Call} {y : Operand} {n : Int} {ly : List (Nat × Desc)} {ty pos af g} (h : Ty P T Int) (hy : OpdOk y (.val n) ly) (h4 : x.o < 4) :
  OpX P ⟨none, .store T (.tmp s) y, ty, pos, af, g⟩ ((s, .val x) :: ly) [(id, .var c []), (j, .pin id b sv)] .any [(id, .var (Sp.cset c x.o n) [])] [] := by
 have key : ∀ l : Lens Mk.Call Int, x.o = l.off → OpX P ⟨none, .store T (.tmp s) y, ty, pos, af, g⟩ ((s, .val x) :: ly) [(id, .var c []), (j, .pin id b sv)] .any [(id, .var (l.set c n) [])] [] := fun l ho =>
  OpX.reads (ox_store_fld (l := l) h hy) fun m w0 w a hs hob => ⟨fun p hp => by
   have hpin := hob (j, .pin id b sv) (by simp)
   rcases List.mem_cons.1 hp with rfl | hp
   ·exact rp_ptr l ho h4 hpin.1 (hs (s, .val x) (by simp))
   ·exact hs p (by simp [hp]), fun p hp => by
   obtain rfl := List.mem_singleton.1 hp
   exact hob (id, .var c []) (by simp)⟩
 obtain ⟨o⟩ := x
 match o, h4 with
 | 0, _ => exact key Call_Kind rfl
 | 1, _ => exact key Call_Name rfl
 | 2, _ => exact key Call_Other rfl
 | 3, _ => exact key Call_N rfl
theorem ox_callRP {f s id j b : Nat} {sv : Value} {c : Mk.Call} {l : List Nat} {ats : Array TypeId} {dst ty pos af g} (hF : ∀ b, FnG P (Gc b 0 c.Kind) f [.val (⟨0⟩ : RP b)] (.val (l.map RP.mk : List (RP b)))) :
  OpX P ⟨dst, .call ⟨.value (.func f), #[.tmp s], ats⟩, ty, pos, af, g⟩ [(s, .ptr id (Lens.id (α := Mk.Call)))] [(id, .var c []), (j, .pin id b sv)] (.val (l.map RP.mk : List (RP b))) [] [] := by
 intro m w0 w a hw hs ho K Q hk
 have hpin := ho (j, .pin id b sv) (by simp)
 have hp : a.eval (.tmp s) = .pointer (some ⟨m.blk id, 0, none⟩) := hs (s, .ptr id (Lens.id (α := Mk.Call))) (by simp)
 rw [hpin.1] at hp
 obtain ⟨vs, h1, h2⟩ := var_range (ho (id, .var c []) (by simp)) Call_Kind rfl
 obtain ⟨h1, h1'⟩ := (show vs = [.int .i64 c.Kind] ∧ I64 c.Kind from h1)
 subst h1
 have hG : Gc b 0 c.Kind w := ⟨by have := h2 0 _ rfl; rw [hpin.1] at this; exact this, h1'⟩
 have h3 : Desc.holdsL (base m.ph) [.val (⟨0⟩ : RP b)] [a.eval (.tmp s)] := ⟨_, [], rfl, by rw [hp]; exact rp_holds _ (by decide), rfl⟩
 have he := run_callK (P := P) (xs := [.tmp s]) (ats := ats) (dst := dst) (ty := ty) (pos := pos) (af := af) (g := g) (hF b).callee a w
 obtain ⟨o, hoo⟩ : ∃ o : Oper, o = ⟨dst, .call ⟨.value (.func f), #[.tmp s], ats⟩, ty, pos, af, g⟩ := ⟨_, rfl⟩
 rw [← hoo] at hk ⊢
 have he' : (execOp a.eval o).run P w = .ok (.enter f [a.eval (.tmp s)].toArray) w := by rw [hoo]; exact he
 show o.upon P a K Q _
 rw [he']
 refine ((hF b).run m.ph w _ hw.on hG h3).mono fun e w' he => ?_
 obtain ⟨v, rfl, hb, hr⟩ := he
 exact hk v w' (m.more w w') (hw.more hb) (Chg.more hw hb _) (Desc.holds_clean (m := base (extPH m.ph w w')) (m' := m.more w w') (PH.le_refl _) _ v (hF b).cleanR hr) (fun id e hu => by cases hu)
theorem ox_lenRP {T E sz b : Nat} {x : Operand} {lx : List (Nat × Desc)} {l : List Nat} {dst ty pos af g} (h : slB P T E sz = true) (hx : OpdOk x (.val (l.map RP.mk : List (RP b))) lx) :
  OpX P ⟨dst, .call ⟨.builtin .len, #[x], #[T]⟩, ty, pos, af, g⟩ lx [] (.val (l.length : Int)) [] [] := by
 have := ox_len (dst := dst) (ty := ty) (pos := pos) (af := af) (g := g) h hx
 rwa [List.length_map] at this
theorem ox_ixRP {T E b : Nat} {x ixo : Operand} {lx li : List (Nat × Desc)} {l : List Nat} {i : Int} {dst ty pos af g} (h : slB P T E (GoTy.sz (RP b)) = true)
  (hx : OpdOk x (.val (l.map RP.mk : List (RP b))) lx) (hi : OpdOk ixo (.val i) li) (h0 : 0 ≤ i) (h1 : i < l.length) :
  OpX P ⟨dst, .indexAddr T x ixo, ty, pos, af, g⟩ (lx ++ li) [] (.elem (⟨Sp.ix l i⟩ : RP b)) [] [] := by
 have := ox_ix (dst := dst) (ty := ty) (pos := pos) (af := af) (g := g) h hx hi h0 (by rw [List.length_map]; exact h1)
 have e : Sp.ix (l.map RP.mk : List (RP b)) i = ⟨Sp.ix l i⟩ := by
  have hk : i.toNat < l.length := by omega
  unfold Sp.ix
  simp [List.getD_eq_getElem?_getD, List.getElem?_eq_getElem hk]
 rwa [e] at this
end
end Go.Gx
end
section
namespace Go.Proofs
open Go.Shelf
def Tryd.laysM171_ren : Go.Shelf.Ren := ⟨fun | 171 => 21 | 243 => 29 | 246 => 40 | 283 => 48 | 284 => 49 | 285 => 50 | 286 => 51 | 129 => 60 | 317 => 59 | 318 => 61 | 319 => 62 | 320 => 63 | 337 => 66 | 338 => 67 | n => n, fun | 3 => 3 | 9 => 9 | 2 => 2 | 4 => 4 | 171 => 81 | 0 => 0 | 53 => 73 | 37 => 62 | 5 => 5 | 173 => 84 | 212 => 94 | 51 => 95 | 20 => 20 | 213 => 96 | 46 => 76 | 232 => 105 | 233 => 106 | n => n, fun | 17 => 3 | 18 => 6 | 19 => 7 | n => n⟩
theorem Tryd.laysM171 : Go.Proofs.LaysM.n171 Tryd.prog Tryd.laysM171_ren := {
  mixed := by kernel_rfl
  f129 := Tryd.func60.trans (congrArg some (by kernel_rfl))
  f171 := Tryd.func21.trans (congrArg some (by kernel_rfl))
  f243 := Tryd.func29.trans (congrArg some (by kernel_rfl))
  f246 := Tryd.func40.trans (congrArg some (by kernel_rfl))
  f283 := Tryd.func48.trans (congrArg some (by kernel_rfl))
  f284 := Tryd.func49.trans (congrArg some (by kernel_rfl))
  f285 := Tryd.func50.trans (congrArg some (by kernel_rfl))
  f286 := Tryd.func51.trans (congrArg some (by kernel_rfl))
  f317 := Tryd.func59.trans (congrArg some (by kernel_rfl))
  f318 := Tryd.func61.trans (congrArg some (by kernel_rfl))
  f319 := Tryd.func62.trans (congrArg some (by kernel_rfl))
  f320 := Tryd.func63.trans (congrArg some (by kernel_rfl))
  f337 := Tryd.func66.trans (congrArg some (by kernel_rfl))
  f338 := Tryd.func67.trans (congrArg some (by kernel_rfl))
  t0 := Tryd.underlying0
  a0 := Tryd.isAgg0
  z0 := Tryd.sizeOf0
  v0 := Tryd.zeroValue0
  t2 := Tryd.underlying2
  a2 := Tryd.isAgg2
  z2 := Tryd.sizeOf2
  v2 := Tryd.zeroValue2
  t3 := Tryd.underlying3
  a3 := Tryd.isAgg3
  z3 := Tryd.sizeOf3
  v3 := Tryd.zeroValue3
  t4 := Tryd.underlying4
  a4 := Tryd.isAgg4
  z4 := Tryd.sizeOf4
  v4 := Tryd.zeroValue4
  t5 := Tryd.underlying5
  a5 := Tryd.isAgg5
  z5 := Tryd.sizeOf5
  v5 := Tryd.zeroValue5
  t9 := Tryd.underlying9
  a9 := Tryd.isAgg9
  z9 := Tryd.sizeOf9
  v9 := Tryd.zeroValue9
  t20 := Tryd.underlying20
  a20 := Tryd.isAgg20
  z20 := Tryd.sizeOf20
  v20 := Tryd.zeroValue20
  t37 := Tryd.underlying62
  a37 := Tryd.isAgg62
  z37 := Tryd.sizeOf62
  v37 := Tryd.zeroValue62
  t46 := Tryd.underlying76
  a46 := Tryd.isAgg76
  z46 := Tryd.sizeOf76
  v46 := Tryd.zeroValue76
  t51 := Tryd.underlying95
  a51 := Tryd.isAgg95
  z51 := Tryd.sizeOf95
  v51 := Tryd.zeroValue95
  t53 := Tryd.underlying73
  a53 := Tryd.isAgg73
  z53 := Tryd.sizeOf73
  v53 := Tryd.zeroValue73
  t171 := Tryd.underlying81
  a171 := Tryd.isAgg81
  z171 := Tryd.sizeOf81
  v171 := Tryd.zeroValue81
  t173 := Tryd.underlying84
  a173 := Tryd.isAgg84
  z173 := Tryd.sizeOf84
  v173 := Tryd.zeroValue84
  t212 := Tryd.underlying94
  a212 := Tryd.isAgg94
  z212 := Tryd.sizeOf94
  v212 := Tryd.zeroValue94
  t213 := Tryd.underlying96
  a213 := Tryd.isAgg96
  z213 := Tryd.sizeOf96
  t232 := Tryd.underlying105
  a232 := Tryd.isAgg105
  z232 := Tryd.sizeOf105
  v232 := Tryd.zeroValue105
  t233 := Tryd.underlying106
  a233 := Tryd.isAgg106
  z233 := Tryd.sizeOf106
  v233 := Tryd.zeroValue106
  g17 := by kernel_rfl
  g18 := by kernel_rfl
  g19 := by kernel_rfl
  i0 := by kernel_rfl
  i2 := by kernel_rfl
  i3 := by kernel_rfl
  i4 := by kernel_rfl
  i5 := by kernel_rfl
  i9 := by kernel_rfl
  i20 := by kernel_rfl
  i37 := by kernel_rfl
  i46 := by kernel_rfl
  i51 := by kernel_rfl
  i53 := by kernel_rfl
  i171 := by kernel_rfl
  i173 := by kernel_rfl
  i212 := by kernel_rfl
  i232 := by kernel_rfl
  i233 := by kernel_rfl
  m17 := by kernel_rfl
  m18 := by kernel_rfl
  m19 := by kernel_rfl }
def Tryd.laysC172_ren : Go.Shelf.Ren := ⟨fun | 172 => 20 | 244 => 27 | 245 => 28 | 247 => 35 | 279 => 36 | 280 => 37 | 281 => 38 | 282 => 39 | 287 => 45 | 316 => 46 | 171 => 21 | 205 => 47 | 321 => 57 | 322 => 58 | 243 => 29 | 246 => 40 | 283 => 48 | 284 => 49 | 285 => 50 | 286 => 51 | 129 => 60 | 317 => 59 | 318 => 61 | 319 => 62 | 320 => 63 | 337 => 66 | 338 => 67 | n => n, fun | 9 => 9 | 3 => 3 | 75 => 46 | 76 => 47 | 4 => 4 | 5 => 5 | 167 => 61 | 37 => 62 | 0 => 0 | 85 => 63 | 2 => 2 | 168 => 65 | 53 => 73 | 175 => 74 | 46 => 76 | 210 => 79 | 127 => 89 | 145 => 92 | 143 => 90 | 21 => 21 | 171 => 81 | 173 => 84 | 212 => 94 | 51 => 95 | 20 => 20 | 213 => 96 | 232 => 105 | 233 => 106 | 80 => 107 | n => n, fun | 15 => 0 | 16 => 1 | 17 => 3 | 18 => 6 | 19 => 7 | n => n⟩
theorem Tryd.laysC172 : Go.Proofs.LaysC.n172 Tryd.prog Tryd.laysC172_ren := {
  mixed := by kernel_rfl
  f129 := Tryd.func60.trans (congrArg some (by kernel_rfl))
  f171 := Tryd.func21.trans (congrArg some (by kernel_rfl))
  f172 := Tryd.func20.trans (congrArg some (by kernel_rfl))
  f205 := Tryd.func47.trans (congrArg some (by kernel_rfl))
  f243 := Tryd.func29.trans (congrArg some (by kernel_rfl))
  f244 := Tryd.func27.trans (congrArg some (by kernel_rfl))
  f245 := Tryd.func28.trans (congrArg some (by kernel_rfl))
  f246 := Tryd.func40.trans (congrArg some (by kernel_rfl))
  f247 := Tryd.func35.trans (congrArg some (by kernel_rfl))
  f279 := Tryd.func36.trans (congrArg some (by kernel_rfl))
  f280 := Tryd.func37.trans (congrArg some (by kernel_rfl))
  f281 := Tryd.func38.trans (congrArg some (by kernel_rfl))
  f282 := Tryd.func39.trans (congrArg some (by kernel_rfl))
  f283 := Tryd.func48.trans (congrArg some (by kernel_rfl))
  f284 := Tryd.func49.trans (congrArg some (by kernel_rfl))
  f285 := Tryd.func50.trans (congrArg some (by kernel_rfl))
  f286 := Tryd.func51.trans (congrArg some (by kernel_rfl))
  f287 := Tryd.func45.trans (congrArg some (by kernel_rfl))
  f316 := Tryd.func46.trans (congrArg some (by kernel_rfl))
  f317 := Tryd.func59.trans (congrArg some (by kernel_rfl))
  f318 := Tryd.func61.trans (congrArg some (by kernel_rfl))
  f319 := Tryd.func62.trans (congrArg some (by kernel_rfl))
  f320 := Tryd.func63.trans (congrArg some (by kernel_rfl))
  f321 := Tryd.func57.trans (congrArg some (by kernel_rfl))
  f322 := Tryd.func58.trans (congrArg some (by kernel_rfl))
  f337 := Tryd.func66.trans (congrArg some (by kernel_rfl))
  f338 := Tryd.func67.trans (congrArg some (by kernel_rfl))
  t0 := Tryd.underlying0
  a0 := Tryd.isAgg0
  z0 := Tryd.sizeOf0
  v0 := Tryd.zeroValue0
  t2 := Tryd.underlying2
  a2 := Tryd.isAgg2
  z2 := Tryd.sizeOf2
  v2 := Tryd.zeroValue2
  t3 := Tryd.underlying3
  a3 := Tryd.isAgg3
  z3 := Tryd.sizeOf3
  v3 := Tryd.zeroValue3
  t4 := Tryd.underlying4
  a4 := Tryd.isAgg4
  z4 := Tryd.sizeOf4
  v4 := Tryd.zeroValue4
  t5 := Tryd.underlying5
  a5 := Tryd.isAgg5
  z5 := Tryd.sizeOf5
  v5 := Tryd.zeroValue5
  t9 := Tryd.underlying9
  a9 := Tryd.isAgg9
  z9 := Tryd.sizeOf9
  v9 := Tryd.zeroValue9
  t20 := Tryd.underlying20
  a20 := Tryd.isAgg20
  z20 := Tryd.sizeOf20
  v20 := Tryd.zeroValue20
  t21 := Tryd.underlying21
  a21 := Tryd.isAgg21
  z21 := Tryd.sizeOf21
  v21 := Tryd.zeroValue21
  t37 := Tryd.underlying62
  a37 := Tryd.isAgg62
  z37 := Tryd.sizeOf62
  v37 := Tryd.zeroValue62
  t46 := Tryd.underlying76
  a46 := Tryd.isAgg76
  z46 := Tryd.sizeOf76
  v46 := Tryd.zeroValue76
  t51 := Tryd.underlying95
  a51 := Tryd.isAgg95
  z51 := Tryd.sizeOf95
  v51 := Tryd.zeroValue95
  t53 := Tryd.underlying73
  a53 := Tryd.isAgg73
  z53 := Tryd.sizeOf73
  v53 := Tryd.zeroValue73
  t75 := Tryd.underlying46
  a75 := Tryd.isAgg46
  z75 := Tryd.sizeOf46
  v75 := Tryd.zeroValue46
  t76 := Tryd.underlying47
  a76 := Tryd.isAgg47
  z76 := Tryd.sizeOf47
  v76 := Tryd.zeroValue47
  t85 := Tryd.underlying63
  a85 := Tryd.isAgg63
  z85 := Tryd.sizeOf63
  v85 := Tryd.zeroValue63
  t127 := Tryd.underlying89
  a127 := Tryd.isAgg89
  z127 := Tryd.sizeOf89
  v127 := Tryd.zeroValue89
  t143 := Tryd.underlying90
  a143 := Tryd.isAgg90
  z143 := Tryd.sizeOf90
  v143 := Tryd.zeroValue90
  t145 := Tryd.underlying92
  a145 := Tryd.isAgg92
  z145 := Tryd.sizeOf92
  v145 := Tryd.zeroValue92
  t167 := Tryd.underlying61
  a167 := Tryd.isAgg61
  z167 := Tryd.sizeOf61
  v167 := Tryd.zeroValue61
  t168 := Tryd.underlying65
  a168 := Tryd.isAgg65
  z168 := Tryd.sizeOf65
  v168 := Tryd.zeroValue65
  t171 := Tryd.underlying81
  a171 := Tryd.isAgg81
  z171 := Tryd.sizeOf81
  v171 := Tryd.zeroValue81
  t173 := Tryd.underlying84
  a173 := Tryd.isAgg84
  z173 := Tryd.sizeOf84
  v173 := Tryd.zeroValue84
  t175 := Tryd.underlying74
  a175 := Tryd.isAgg74
  z175 := Tryd.sizeOf74
  v175 := Tryd.zeroValue74
  t210 := Tryd.underlying79
  a210 := Tryd.isAgg79
  z210 := Tryd.sizeOf79
  v210 := Tryd.zeroValue79
  t212 := Tryd.underlying94
  a212 := Tryd.isAgg94
  z212 := Tryd.sizeOf94
  v212 := Tryd.zeroValue94
  t213 := Tryd.underlying96
  a213 := Tryd.isAgg96
  z213 := Tryd.sizeOf96
  t232 := Tryd.underlying105
  a232 := Tryd.isAgg105
  z232 := Tryd.sizeOf105
  v232 := Tryd.zeroValue105
  t233 := Tryd.underlying106
  a233 := Tryd.isAgg106
  z233 := Tryd.sizeOf106
  v233 := Tryd.zeroValue106
  g15 := by kernel_rfl
  g16 := by kernel_rfl
  g17 := by kernel_rfl
  g18 := by kernel_rfl
  g19 := by kernel_rfl
  t80 := Tryd.underlying107
  a80 := Tryd.isAgg107
  z80 := Tryd.sizeOf107
  v80 := Tryd.zeroValue107
  i0 := by kernel_rfl
  i2 := by kernel_rfl
  i3 := by kernel_rfl
  i4 := by kernel_rfl
  i5 := by kernel_rfl
  i9 := by kernel_rfl
  i20 := by kernel_rfl
  i21 := by kernel_rfl
  i37 := by kernel_rfl
  i46 := by kernel_rfl
  i51 := by kernel_rfl
  i53 := by kernel_rfl
  i75 := by kernel_rfl
  i76 := by kernel_rfl
  i80 := by kernel_rfl
  i85 := by kernel_rfl
  i127 := by kernel_rfl
  i143 := by kernel_rfl
  i145 := by kernel_rfl
  i167 := by kernel_rfl
  i168 := by kernel_rfl
  i171 := by kernel_rfl
  i173 := by kernel_rfl
  i175 := by kernel_rfl
  i210 := by kernel_rfl
  i212 := by kernel_rfl
  i232 := by kernel_rfl
  i233 := by kernel_rfl
  m15 := by kernel_rfl
  m16 := by kernel_rfl
  m17 := by kernel_rfl
  m18 := by kernel_rfl
  m19 := by kernel_rfl
  c0 := by kernel_rfl
  c2 := by kernel_rfl
  c3 := by kernel_rfl
  c4 := by kernel_rfl
  c5 := by kernel_rfl
  c9 := by kernel_rfl
  c20 := by kernel_rfl
  c21 := by kernel_rfl
  c37 := by kernel_rfl
  c46 := by kernel_rfl
  c51 := by kernel_rfl
  c53 := by kernel_rfl
  c75 := by kernel_rfl
  c76 := by kernel_rfl
  c80 := by kernel_rfl
  c85 := by kernel_rfl
  c127 := by kernel_rfl
  c143 := by kernel_rfl
  c145 := by kernel_rfl
  c167 := by kernel_rfl
  c168 := by kernel_rfl
  c171 := by kernel_rfl
  c173 := by kernel_rfl
  c175 := by kernel_rfl
  c210 := by kernel_rfl
  c212 := by kernel_rfl
  c213 := by kernel_rfl
  c232 := by kernel_rfl
  c233 := by kernel_rfl }
def Tryd.laysM145_ren : Go.Shelf.Ren := ⟨fun | 145 => 24 | 220 => 31 | 219 => 41 | 217 => 52 | 225 => 53 | 224 => 54 | 267 => 55 | 266 => 64 | 314 => 65 | n => n, fun | 9 => 9 | 4 => 4 | 59 => 53 | 3 => 3 | 5 => 5 | 46 => 76 | 146 => 98 | 51 => 95 | n => n, fun | 1 => 2 | n => n⟩
theorem Tryd.laysM145 : Go.Proofs.LaysM.n145 Tryd.prog Tryd.laysM145_ren := {
  mixed := by kernel_rfl
  f145 := Tryd.func24.trans (congrArg some (by kernel_rfl))
  f217 := Tryd.func52.trans (congrArg some (by kernel_rfl))
  f219 := Tryd.func41.trans (congrArg some (by kernel_rfl))
  f220 := Tryd.func31.trans (congrArg some (by kernel_rfl))
  f224 := Tryd.func54.trans (congrArg some (by kernel_rfl))
  f225 := Tryd.func53.trans (congrArg some (by kernel_rfl))
  f266 := Tryd.func64.trans (congrArg some (by kernel_rfl))
  f267 := Tryd.func55.trans (congrArg some (by kernel_rfl))
  f314 := Tryd.func65.trans (congrArg some (by kernel_rfl))
  t3 := Tryd.underlying3
  a3 := Tryd.isAgg3
  z3 := Tryd.sizeOf3
  v3 := Tryd.zeroValue3
  t4 := Tryd.underlying4
  a4 := Tryd.isAgg4
  z4 := Tryd.sizeOf4
  v4 := Tryd.zeroValue4
  t5 := Tryd.underlying5
  a5 := Tryd.isAgg5
  z5 := Tryd.sizeOf5
  v5 := Tryd.zeroValue5
  t9 := Tryd.underlying9
  a9 := Tryd.isAgg9
  z9 := Tryd.sizeOf9
  v9 := Tryd.zeroValue9
  t46 := Tryd.underlying76
  a46 := Tryd.isAgg76
  z46 := Tryd.sizeOf76
  v46 := Tryd.zeroValue76
  t51 := Tryd.underlying95
  a51 := Tryd.isAgg95
  z51 := Tryd.sizeOf95
  v51 := Tryd.zeroValue95
  t59 := Tryd.underlying53
  a59 := Tryd.isAgg53
  z59 := Tryd.sizeOf53
  v59 := Tryd.zeroValue53
  t146 := Tryd.underlying98
  a146 := Tryd.isAgg98
  z146 := Tryd.sizeOf98
  v146 := Tryd.zeroValue98
  g1 := by kernel_rfl
  i3 := by kernel_rfl
  i4 := by kernel_rfl
  i5 := by kernel_rfl
  i9 := by kernel_rfl
  i46 := by kernel_rfl
  i51 := by kernel_rfl
  i59 := by kernel_rfl
  i146 := by kernel_rfl
  m1 := by kernel_rfl
  s1_3 := fun w h => Go.Proofs.cell_of_shapedOpen_int (zero := #[.int .i64 0]) (t := 3) h (of_decide_eq_true (by kernel_rfl)) (by kernel_rfl) rfl (by kernel_rfl) (by kernel_rfl) Tryd.underlying3 }
def Tryd.laysM146_ren : Go.Shelf.Ren := ⟨fun | 146 => 17 | 221 => 25 | 268 => 32 | 138 => 33 | 143 => 34 | 195 => 42 | 197 => 43 | 218 => 44 | 219 => 41 | 260 => 56 | 217 => 52 | 225 => 53 | 224 => 54 | 267 => 55 | 266 => 64 | 314 => 65 | n => n, fun | 9 => 9 | 31 => 38 | 3 => 3 | 4 => 4 | 0 => 0 | 105 => 70 | 21 => 21 | 5 => 5 | 46 => 76 | 119 => 100 | 139 => 103 | 138 => 102 | 146 => 98 | 51 => 95 | n => n, fun | 1 => 2 | 3 => 4 | 4 => 5 | n => n⟩
theorem Tryd.laysM146 : Go.Proofs.LaysM.n146 Tryd.prog Tryd.laysM146_ren := {
  mixed := by kernel_rfl
  f138 := Tryd.func33.trans (congrArg some (by kernel_rfl))
  f143 := Tryd.func34.trans (congrArg some (by kernel_rfl))
  f146 := Tryd.func17.trans (congrArg some (by kernel_rfl))
  f195 := Tryd.func42.trans (congrArg some (by kernel_rfl))
  f197 := Tryd.func43.trans (congrArg some (by kernel_rfl))
  f217 := Tryd.func52.trans (congrArg some (by kernel_rfl))
  f218 := Tryd.func44.trans (congrArg some (by kernel_rfl))
  f219 := Tryd.func41.trans (congrArg some (by kernel_rfl))
  f221 := Tryd.func25.trans (congrArg some (by kernel_rfl))
  f224 := Tryd.func54.trans (congrArg some (by kernel_rfl))
  f225 := Tryd.func53.trans (congrArg some (by kernel_rfl))
  f260 := Tryd.func56.trans (congrArg some (by kernel_rfl))
  f266 := Tryd.func64.trans (congrArg some (by kernel_rfl))
  f267 := Tryd.func55.trans (congrArg some (by kernel_rfl))
  f268 := Tryd.func32.trans (congrArg some (by kernel_rfl))
  f314 := Tryd.func65.trans (congrArg some (by kernel_rfl))
  t0 := Tryd.underlying0
  a0 := Tryd.isAgg0
  z0 := Tryd.sizeOf0
  v0 := Tryd.zeroValue0
  t3 := Tryd.underlying3
  a3 := Tryd.isAgg3
  z3 := Tryd.sizeOf3
  v3 := Tryd.zeroValue3
  t4 := Tryd.underlying4
  a4 := Tryd.isAgg4
  z4 := Tryd.sizeOf4
  v4 := Tryd.zeroValue4
  t5 := Tryd.underlying5
  a5 := Tryd.isAgg5
  z5 := Tryd.sizeOf5
  v5 := Tryd.zeroValue5
  t9 := Tryd.underlying9
  a9 := Tryd.isAgg9
  z9 := Tryd.sizeOf9
  v9 := Tryd.zeroValue9
  t21 := Tryd.underlying21
  a21 := Tryd.isAgg21
  z21 := Tryd.sizeOf21
  v21 := Tryd.zeroValue21
  t31 := Tryd.underlying38
  a31 := Tryd.isAgg38
  z31 := Tryd.sizeOf38
  v31 := Tryd.zeroValue38
  t46 := Tryd.underlying76
  a46 := Tryd.isAgg76
  z46 := Tryd.sizeOf76
  v46 := Tryd.zeroValue76
  t51 := Tryd.underlying95
  a51 := Tryd.isAgg95
  z51 := Tryd.sizeOf95
  v51 := Tryd.zeroValue95
  t105 := Tryd.underlying70
  a105 := Tryd.isAgg70
  z105 := Tryd.sizeOf70
  v105 := Tryd.zeroValue70
  t119 := Tryd.underlying100
  a119 := Tryd.isAgg100
  z119 := Tryd.sizeOf100
  t138 := Tryd.underlying102
  a138 := Tryd.isAgg102
  z138 := Tryd.sizeOf102
  v138 := Tryd.zeroValue102
  t139 := Tryd.underlying103
  a139 := Tryd.isAgg103
  z139 := Tryd.sizeOf103
  v139 := Tryd.zeroValue103
  t146 := Tryd.underlying98
  a146 := Tryd.isAgg98
  z146 := Tryd.sizeOf98
  v146 := Tryd.zeroValue98
  g1 := by kernel_rfl
  g3 := by kernel_rfl
  g4 := by kernel_rfl
  i0 := by kernel_rfl
  i3 := by kernel_rfl
  i4 := by kernel_rfl
  i5 := by kernel_rfl
  i9 := by kernel_rfl
  i21 := by kernel_rfl
  i31 := by kernel_rfl
  i46 := by kernel_rfl
  i51 := by kernel_rfl
  i105 := by kernel_rfl
  i138 := by kernel_rfl
  i139 := by kernel_rfl
  i146 := by kernel_rfl
  m1 := by kernel_rfl
  s1_3 := fun w h => Go.Proofs.cell_of_shapedOpen_int (zero := #[.int .i64 0]) (t := 3) h (of_decide_eq_true (by kernel_rfl)) (by kernel_rfl) rfl (by kernel_rfl) (by kernel_rfl) Tryd.underlying3
  m3 := by kernel_rfl
  m4 := by kernel_rfl }
end Go.Proofs
end
section
namespace Go.Gx
open Go.RowKit Go.Proofs Sp
structure GT (w : World) : Prop where
  tab : Lib.TabIs Tryd.prog w "internal/strconv.uint64pow10" .u64 Lib.pow10Tab
  max : ∃ m, w.cell? ⟨Tryd.laysM146_ren.g 1, 0, none⟩ = some (.int .i64 m)
  es : ∃ te pe, w.cell? ⟨Tryd.laysC172_ren.g 15, 0, none⟩ = some (.iface te pe)
  er : ∃ te pe, w.cell? ⟨Tryd.laysC172_ren.g 16, 0, none⟩ = some (.iface te pe)
theorem var_keep {P : Program} {w w' : World} {nm : String} {cs : Array Value} (h : Below w.heap.size w w') (hv : w.var? P nm = some cs) : w'.var? P nm = some cs := by
  unfold World.var? at hv ⊢
  cases hg : P.globalNamed nm with
  | none => rw [hg] at hv; cases hv
  | some g =>
    rw [hg] at hv
    simp only [Option.bind_some] at hv ⊢
    cases he : w.heap[g]? with
    | none => rw [he] at hv; cases hv
    | some o =>
      have hlt : g < w.heap.size := (Array.getElem?_eq_some_iff.1 he).1
      rw [h.block g hlt]; exact hv
theorem cell_keep {w w' : World} (h : Below w.heap.size w w') {g : Nat} {v : Value} (hv : w.cell? ⟨g, 0, none⟩ = some v) : w'.cell? ⟨g, 0, none⟩ = some v := by
  rw [← hv]
  exact World.cell?_of_block (a := ⟨g, 0, none⟩) (h.block g (by have := World.block_lt_of_cell? _ _ hv; simpa using this))
theorem keepG : Keeping GT := fun w w' h g => by
  obtain ⟨m, hm⟩ := g.max
  obtain ⟨te, pe, hs⟩ := g.es
  obtain ⟨tr, pr, hr⟩ := g.er
  exact ⟨var_keep h g.tab, ⟨m, cell_keep h hm⟩, ⟨te, pe, cell_keep h hs⟩, ⟨tr, pr, cell_keep h hr⟩⟩
theorem c_strconv_Itoa {a0 : Int} {r : ByteArray} (hφ : strconv_Itoa a0 = some r) : FnG Tryd.prog GT 21 [.val a0] (.val r) := by
  obtain rfl := Option.some.inj hφ
  refine ⟨⟨_, Tryd.func21, by decide, rfl⟩, rfl, rfl, fun ph w vs hon hG hvs => ?_⟩
  obtain ⟨v, r', rfl, ⟨us, ⟨rfl, h64⟩, rfl⟩, rfl⟩ := hvs
  refine (Any.strconv_Itoa Tryd.laysM171 a0 h64.1 h64.2 w hG.tab).mono ?_
  rintro e w' ⟨rfl, k, os, rfl⟩
  refine ⟨_, rfl, Lib.below_grow _ w (Nat.le_refl _) k os, str_holds _ ?_⟩
  have := Lib.itoa_length_le a0 h64.1 h64.2
  show (Lib.itoa a0).toArray.size ≤ _
  simp only [List.size_toArray]
  omega
theorem er_ok (m : M) : Desc.holds m (.val (⟨false⟩ : Er)) .nilIface := ⟨_, .inr ⟨rfl, rfl⟩, rfl⟩
theorem er_bad (m : M) (te : TypeId) (pe : Value) : Desc.holds m (.val (⟨true⟩ : Er)) (.iface te pe) := ⟨_, .inl ⟨rfl, te, pe, rfl⟩, rfl⟩
theorem int_val (m : M) {x : Int} (h : -9223372036854775808 ≤ x ∧ x ≤ 9223372036854775807) : Desc.holds m (.val x) (.int .i64 x) := ⟨_, ⟨rfl, h⟩, rfl⟩
theorem c_strconv_Atoi {a0 : ByteArray} {r : Int × Er} (hφ : strconv_Atoi a0 = some r) : FnG Tryd.prog GT 20 [.val a0] (.tup [.val r.1, .val r.2]) := by
  obtain ⟨hs, hφ⟩ := G_some hφ
  obtain rfl := Option.some.inj hφ
  refine ⟨⟨_, Tryd.func20, by decide, rfl⟩, rfl, rfl, fun ph w vs hon hG hvs => ?_⟩
  obtain ⟨v, r', rfl, ⟨us, ⟨rfl, h64⟩, rfl⟩, rfl⟩ := hvs
  obtain ⟨te, pe, hes⟩ := hG.es
  obtain ⟨tr, pr, her⟩ := hG.er
  rcases h : Lib.atoiAll a0.data.toList with n | _ | _
  · have e : atoiOf a0.data.toList = (n, ⟨false⟩) := by unfold atoiOf; rw [h]
    rw [e]
    refine (Any.strconv_Atoi_ok Tryd.laysC172 a0 (by omega) n h w).mono ?_
    rintro e w' ⟨rfl, hw⟩
    refine ⟨_, rfl, ?_, [.int .i64 n, .nilIface], rfl, _, _, rfl, int_val _ (Lib.atoiAll_bounds h), _, _, rfl, er_ok _, rfl⟩
    rcases hw with rfl | ⟨t, rfl⟩
    · exact Below.refl _ _
    · exact Lib.bytesWorld_below _ _ _
  · have e : atoiOf a0.data.toList = (0, ⟨true⟩) := by unfold atoiOf; rw [h]
    rw [e]
    refine (Any.strconv_Atoi_syntax Tryd.laysC172 a0 (by omega) h _ w hes (.inr ⟨te, pe, rfl⟩)).mono ?_
    rintro e w' ⟨N, rfl, -, -, hb⟩
    exact ⟨_, rfl, hb, [.int .i64 0, .iface _ _], rfl, _, _, rfl, int_val _ (by decide), _, _, rfl, er_bad _ _ _, rfl⟩
  · have e : atoiOf a0.data.toList = (Lib.atoiSat a0.data.toList, ⟨true⟩) := by unfold atoiOf; rw [h]
    rw [e]
    refine (Any.strconv_Atoi_range Tryd.laysC172 a0 (by omega) h _ w her (.inr ⟨tr, pr, rfl⟩)).mono ?_
    rintro e w' ⟨N, rfl, -, -, hb⟩
    exact ⟨_, rfl, hb, [.int .i64 _, .iface _ _], rfl, _, _, rfl, int_val _ (Lib.atoiSat_bounds _), _, _, rfl, er_bad _ _ _, rfl⟩
theorem c_strings_Cut {a0 a1 : ByteArray} {r : ByteArray × ByteArray × Bool} (hφ : strings_Cut a0 a1 = some r) : FnG Tryd.prog GT 24 [.val a0, .val a1] (.tup [.val r.1, .val r.2.1, .val r.2.2]) := by
  obtain ⟨hs, hφ⟩ := G_some hφ
  obtain rfl := Option.some.inj hφ
  refine ⟨⟨_, Tryd.func24, by decide, rfl⟩, rfl, rfl, fun ph w vs hon hG hvs => ?_⟩
  obtain ⟨v, r', rfl, ⟨us, ⟨rfl, h64⟩, rfl⟩, v1, r1, rfl, ⟨us1, ⟨rfl, h641⟩, rfl⟩, rfl⟩ := hvs
  obtain ⟨m, hm⟩ := hG.max
  have L := Tryd.laysM145
  refine (Any.strings_Cut { L with } a0 a1 m w (by omega) hm).mono ?_
  rintro e w' ⟨rfl, n, rfl⟩
  have hle : (Lib.cut a0.data.toList a1.data.toList).1.length ≤ a0.data.toList.length ∧ (Lib.cut a0.data.toList a1.data.toList).2.1.length ≤ a0.data.toList.length := by
    unfold Lib.cut
    split <;> (first | (simp; done) | (simp; omega))
  have hl : a0.data.toList.length = a0.size := Array.length_toList
  refine ⟨_, rfl, ?_, [.string _, .string _, .bool _], rfl, _, _, rfl, str_holds _ ?_, _, _, rfl, str_holds _ ?_, _, _, rfl, bool_holds _ _, rfl⟩
  · have h0 : ∀ n (w : World), Below w.heap.size w (w.drewN n) := fun n w => ⟨rfl, rfl, rfl, Nat.le_refl _, fun _ _ => rfl⟩
    exact h0 n w
  · show (Lib.cut a0.data.toList a1.data.toList).1.toArray.size ≤ _
    simp only [List.size_toArray]; omega
  · show (Lib.cut a0.data.toList a1.data.toList).2.1.toArray.size ≤ _
    simp only [List.size_toArray]; omega
theorem split_sizes (sep : ByteArray) (save : Nat) : ∀ (n : Nat) (s x : ByteArray), x ∈ Lib.splitB sep save n s → x.size ≤ s.size
  | 0, s, x, h => by simp [Lib.splitB] at h; subst h; exact Nat.le_refl _
  | n + 1, s, x, h => by
    unfold Lib.splitB at h
    split at h
    · simp at h; subst h; exact Nat.le_refl _
    · rcases List.mem_cons.1 h with h | h
      · subst h; simp only [ByteArray.size_extract]; omega
      · have := split_sizes sep save n _ x h
        simp only [ByteArray.size_extract] at this; omega
theorem repL_strs (p : PH) : ∀ (l : List ByteArray), (∀ x ∈ l, x.size ≤ 9223372036854775807) → RepL p l (l.map Value.string)
  | [], _ => rfl
  | x :: l, h => ⟨[.string x], l.map Value.string, rfl, ⟨rfl, h x (by simp)⟩, repL_strs p l (fun y hy => h y (by simp [hy]))⟩
theorem c_strings_Split {a0 a1 : ByteArray} {r : List ByteArray} (hφ : strings_Split a0 a1 = some r) : FnG Tryd.prog GT 17 [.val a0, .val a1] (.val r) := by
  obtain ⟨⟨hs, h1⟩, hφ⟩ := G_some hφ
  obtain rfl := Option.some.inj hφ
  refine ⟨⟨_, Tryd.func17, by decide, rfl⟩, rfl, rfl, fun ph w vs hon hG hvs => ?_⟩
  obtain ⟨v, r', rfl, ⟨us, ⟨rfl, h64⟩, rfl⟩, v1, r1, rfl, ⟨us1, ⟨rfl, h641⟩, rfl⟩, rfl⟩ := hvs
  obtain ⟨m, hm⟩ := hG.max
  have L := Tryd.laysM146
  refine (Any.strings_Split { L with } L.i9 a0 a1 m w (by omega) hm h1).mono ?_
  rintro e w' ⟨rfl, rfl⟩
  have hlen := Lib.splitB_all a1 h1 0 _ a0 rfl
  have hle := Lib.countB_le a1 h1 a0.size a0 (Nat.le_refl _)
  refine ⟨_, rfl, (Below.refl _ w).alloc (Nat.le_refl _) _, list_holds ⟨some ⟨w.heap.size, 0, none⟩, Lib.countB a0 a1 + 1, (Lib.splitB a1 0 (Lib.countB a0 a1) a0).map Value.string, by rw [hlen], by rw [hlen]; exact Nat.le_refl _, by omega,
    repL_strs _ _ (fun x hx => by have := split_sizes a1 0 _ a0 x hx; omega), fun e => (by cases e), .inr ⟨w.heap.size, 0, rfl, fun j u hu => ?_⟩⟩⟩
  show extPH ph w _ w.heap.size (0 + j) = some u
  unfold extPH
  rw [if_neg (by omega)]
  simp only [Nat.zero_add, World.cell?, heap_new]
  simp at hu ⊢
  exact hu
end Go.Gx
end
section
namespace Go.Gx
open Sp
theorem c_text_counts  {r : (List Int)} (hφ : text_counts  = some r) : Fn Go.Proofs.Tryd.prog 26 [] (.val r) := by
 unfold text_counts at hφ
 refine Fn.mk' Go.Proofs.Tryd.func26 rfl (by decide) rfl rfl rfl (fun w0 hw0 => ?_)
 refine Q2 (Q1 ?_)
 refine O5 (ox1 .nilS) .nil .nil rfl <| O1 <| Q0 (σ' := ⟨[], []⟩) trivial trivial ?_
 refine Q2 (Q1 ?_)
 refine O5 (ox_buildSlice_val s50 z3 (.cons .int (.cons .int (.cons .int (.cons .int (.cons .int (.cons .int Parts.nil)))))) rfl (by decide)) ((.app .nil (.app .nil (.app .nil (.app .nil (.app .nil (.app .nil .nil))))))) .nil rfl <| O5 (ox1 .tmp) (.one rfl) .nil rfl <| O1 <| Q0 (σ' := ⟨[(0, .val ([(2 : Int), (1 : Int), (1 : Int), (2 : Int), (0 : Int), (2 : Int)] : List Int))], []⟩) (j1 rfl) trivial ?_
 refine Q5 ?_
 obtain rfl := Option.some.inj hφ
 exact Q6 hw0 rfl (.tmp rfl rfl .nil) rfl
theorem c_text_fieldsB {b : Nat} {a0 : Int} {r : (List (RP b))} (hφ : text_fieldsB b a0 = some r) : FnG Go.Proofs.Tryd.prog (Gc b 0 a0) 19 [.val (⟨0⟩ : RP b)] (.val r) := by
 unfold text_fieldsB at hφ
 refine FnG.mk' Go.Proofs.Tryd.func19 rfl (by decide) rfl rfl rfl (fun w0 hw0 hG0 => ?_)
 refine Q2 (Q1 ?_)
 refine O5 (ox1 .nilS) .nil .nil rfl <| O1 <| Q0 (σ' := ⟨[(0, _)], []⟩) (j1 rfl) trivial ?_
 refine Q2 ?_
 refine Q8 hMixed (
   .cons (S5 (ox0 .tmp)) ⟨.one rfl, .nil⟩ (by kernel_rfl) rfl <|
   .cons (S5 (ox_nilCheck_rp (x := (⟨0⟩ : RP b)) (show 0 < 4 by decide))) ⟨.one rfl, .nil⟩ (by kernel_rfl) rfl <|
   .cons (S5 (ox_fieldAddr_rp f23_1 rfl)) ⟨.one rfl, .nil⟩ (by kernel_rfl) rfl <|
   .cons (S5 (ox0 .tmp)) ⟨.one rfl, .nil⟩ (by kernel_rfl) rfl <|
   .cons (S5 (ox_nilCheck_rp (x := (⟨0⟩ : RP b)) (show 0 < 4 by decide))) ⟨.one rfl, .nil⟩ (by kernel_rfl) rfl <|
   .cons (S5 (ox_fieldAddr_rp f23_3 rfl)) ⟨.one rfl, .nil⟩ (by kernel_rfl) rfl <|
   .cons (S5 (ox_buildSlice_arr (id := 10) s41 z44 (.cons .tmp (.cons .tmp Parts.nil)) rfl (show 2 * 1 ≤ 16777216 by decide))) ⟨(.app (.one rfl) (.app (.one rfl) .nil)), .nil⟩ (by kernel_rfl) rfl <|
   .cons (S5 (ox1 .tmp)) ⟨.one rfl, .nil⟩ (by kernel_rfl) rfl <|
   .nil) _ [[], [0], [0, 1], [], [3], [3, 4], [0, 1, 2, 3, 4, 5], [0, 1, 2, 3, 4, 5, 6]] rfl (by kernel_rfl) (by kernel_rfl) ?_
 refine Q0 (σ' := ⟨[(0, _), (3, _)], [(10, .arr 44 ([(⟨1⟩ : RP b), (⟨3⟩ : RP b)] : List (RP b)))]⟩) (j2 rfl rfl) (j1 rfl) ?_
 obtain ⟨k1, hk1, hφ⟩ := J_some hφ
 refine PT.cut (ι := (List (RP b))) (fun p => ⟨[(0, .val (⟨0⟩ : RP b)), (3, .sl 10)], [(10, .arr 44 (p))]⟩) (fun p => k1 (p) = some r) ?_ ?_
 ·skip
  refine Q2 (Q1 ?_)
  refine O5 (ox0 .tmp) (.one rfl) .nil rfl <| O5 (ox_nilCheck_rp (x := (⟨0⟩ : RP b)) (show 0 < 4 by decide)) (.one rfl) .nil rfl <| O5 (ox_fieldAddr_rp f23_0 rfl) (.one rfl) .nil rfl ?_
  refine Ops.putW rfl rfl (ox_load_gc hw0 hG0 t3 rfl) (.one rfl) .nil rfl ?_
  refine O5 (ox_eql .tmp .int) (.app (.one rfl) .nil) .nil rfl <| O1 <| Q0 (σ' := ⟨[(0, _), (3, _), (15, .val (decide (a0 = (6 : Int))))], [(10, _)]⟩) (j3 rfl rfl rfl) (j1 rfl) ?_
  refine Q3 _ rfl (fun hc2 => ?_) (fun hc2 => ?_)
  ·replace hφ := if_then hφ hc2
   refine Q0 (σ' := ⟨[(0, _), (3, _)], [(10, _)]⟩) (j2 rfl rfl) (j1 rfl) ?_
   obtain ⟨hb3, hφ⟩ := G_some hφ
   refine Q1 ?_
   refine O5 (ox0 .tmp) (.one rfl) .nil rfl <| O5 (ox0 .tmp) (.one rfl) .nil rfl <| O5 (ox_nilCheck_rp (x := (⟨0⟩ : RP b)) (show 0 < 4 by decide)) (.one rfl) .nil rfl <| O5 (ox_fieldAddr_rp f23_2 rfl) (.one rfl) .nil rfl <| O5 (ox_index_arr s41 .tmp .int hb3.1 hb3.2) (.app (.one rfl) .nil) (.one rfl) rfl <| O2 rfl rfl (ox_store_ax t44 .tmp hb3) (.cons rfl (.one rfl)) (.one rfl) <| O1 <| Q0 (σ' := ⟨[(0, _), (3, _)], [(10, .arr 44 (up ([(⟨1⟩ : RP b), (⟨3⟩ : RP b)] : List (RP b)) (1 : Int) (⟨2⟩ : RP b)))]⟩) (j2 rfl rfl) (j1 rfl) ?_
   exact PT.meet (up ([(⟨1⟩ : RP b), (⟨3⟩ : RP b)] : List (RP b)) (1 : Int) (⟨2⟩ : RP b)) hφ (j2 rfl rfl) (j1 rfl)
  ·replace hφ := if_else hφ hc2
   refine Q0 (σ' := ⟨[(0, _), (3, _)], [(10, _)]⟩) (j2 rfl rfl) (j1 rfl) ?_
   refine Q4 ?_
   exact PT.meet ([(⟨1⟩ : RP b), (⟨3⟩ : RP b)] : List (RP b)) hφ (j2 rfl rfl) (j1 rfl)
 ·rintro y10_k1 hφ
  subst hk1
  refine Q0 (σ' := ⟨[(0, .val (⟨0⟩ : RP b)), (3, .sl 10)], [(10, .arr 44 (y10_k1))]⟩) (j2 rfl rfl) (j1 rfl) ?_
  refine Q2 ?_
  refine PT.freeze 10 [3] rfl (j1 rfl) ?_
  obtain ⟨v4, hv4, hφ⟩ := B_some hφ
  obtain ⟨hb5, hφ⟩ := G_some hφ
  obtain ⟨hb6, hφ⟩ := G_some hφ
  obtain ⟨hb7, hφ⟩ := G_some hφ
  refine Q8 hMixed (
    .cons (S5 (ox0 .tmp)) ⟨.one rfl, .nil⟩ (by kernel_rfl) rfl <|
    .cons (S5 (ox_call (c_text_counts hv4) .nil)) ⟨.nil, .nil⟩ (by kernel_rfl) rfl <|
    .cons (S5 (ox0 .tmp)) ⟨.one rfl, .nil⟩ (by kernel_rfl) rfl <|
    .cons (S5 (ox_nilCheck_rp (x := (⟨0⟩ : RP b)) (show 0 < 4 by decide))) ⟨.one rfl, .nil⟩ (by kernel_rfl) rfl <|
    .cons (S5 (ox_fieldAddr_rp f23_0 rfl)) ⟨.one rfl, .nil⟩ (by kernel_rfl) rfl <|
    .consW (StepW.put rfl rfl (ox_load_gc hw0 hG0 t3 rfl)) ⟨.one rfl, .nil⟩ (by kernel_rfl) rfl <|
    .cons (S5 (ox_sub .tmp .int hb5)) ⟨(.app (.one rfl) .nil), .nil⟩ (by kernel_rfl) rfl <|
    .cons (S5 (ox_ix s50 .tmp .tmp hb6.1 hb6.2)) ⟨(.app (.one rfl) (.one rfl)), .nil⟩ (by kernel_rfl) rfl <|
    .cons (S5 (ox_load_elem t3)) ⟨.one rfl, .nil⟩ (by kernel_rfl) rfl <|
    .cons (S5 (ox_slice s41 .tmp .none (.some .tmp) hb7.1 hb7.2.1 hb7.2.2)) ⟨(.app (.one rfl) (.app .nil (.one rfl))), .nil⟩ (by kernel_rfl) rfl <|
    .cons (S5 (ox1 .tmp)) ⟨.one rfl, .nil⟩ (by kernel_rfl) rfl <|
    .nil) _ [[], [], [], [2], [2, 3], [2, 3, 4], [2, 3, 4, 5], [1, 2, 3, 4, 5, 6], [1, 2, 3, 4, 5, 6, 7], [0, 1, 2, 3, 4, 5, 6, 7, 8], [0, 1, 2, 3, 4, 5, 6, 7, 8, 9]] rfl (by kernel_rfl) (by kernel_rfl) ?_
  refine Q0 (σ' := ⟨[(2, .val (sub y10_k1 (0 : Int) (ix v4 (a0 - (1 : Int)))))], []⟩) (j1 rfl) trivial ?_
  refine Q5 ?_
  obtain rfl := Option.some.inj hφ
  exact Q6 hw0 rfl (.tmp rfl rfl .nil) rfl
end Go.Gx
end
section
namespace Go.Gx
open Sp
theorem c_text_fields {k : Int} {r : List Nat} (hφ : text_fields k = some r) (b : Nat) : FnG Go.Proofs.Tryd.prog (Gc b 0 k) 19 [.val (⟨0⟩ : RP b)] (.val (r.map RP.mk : List (RP b))) := by
  refine c_text_fieldsB (b := b) (a0 := k) ?_
  obtain ⟨⟨h1, h2⟩, e⟩ := G_some hφ
  obtain rfl := Option.some.inj e
  have hk : k = 1 ∨ k = 2 ∨ k = 3 ∨ k = 4 ∨ k = 5 ∨ k = 6 := by omega
  rcases hk with rfl | rfl | rfl | rfl | rfl | rfl <;> rfl
end Go.Gx
end
section
namespace Go.Gx
open Sp
theorem c_text_words  {r : (List ByteArray)} (hφ : text_words  = some r) : Fn Go.Proofs.Tryd.prog 18 [] (.val r) := by
 unfold text_words at hφ
 refine Fn.mk' Go.Proofs.Tryd.func18 rfl (by decide) rfl rfl rfl (fun w0 hw0 => ?_)
 refine Q2 (Q1 ?_)
 refine O5 (ox1 .nilS) .nil .nil rfl <| O1 <| Q0 (σ' := ⟨[], []⟩) trivial trivial ?_
 refine Q2 (Q1 ?_)
 refine O5 (ox_buildSlice_val s38 z9 (.cons (.str (by decide)) (.cons (.str (by decide)) (.cons (.str (by decide)) (.cons (.str (by decide)) (.cons (.str (by decide)) (.cons (.str (by decide)) Parts.nil)))))) rfl (by decide)) ((.app .nil (.app .nil (.app .nil (.app .nil (.app .nil (.app .nil .nil))))))) .nil rfl <| O5 (ox1 .tmp) (.one rfl) .nil rfl <| O1 <| Q0 (σ' := ⟨[(0, .val ([(⟨#[112, 117, 116]⟩ : ByteArray), (⟨#[103, 101, 116]⟩ : ByteArray), (⟨#[100, 114, 111, 112]⟩ : ByteArray), (⟨#[97, 100, 100]⟩ : ByteArray), (⟨#[99, 111, 117, 110, 116]⟩ : ByteArray), (⟨#[115, 119, 97, 112]⟩ : ByteArray)] : List ByteArray))], []⟩) (j1 rfl) trivial ?_
 refine Q5 ?_
 obtain rfl := Option.some.inj hφ
 exact Q6 hw0 rfl (.tmp rfl rfl .nil) rfl
theorem c_mkref1_Words  {r : ((List ByteArray) × (List Int))} (hφ : mkref1_Words  = some r) : Fn Go.Proofs.Tryd.prog 23 [] (.tup [.val r.1, .val r.2]) := by
 unfold mkref1_Words at hφ
 refine Fn.mk' Go.Proofs.Tryd.func23 rfl (by decide) rfl rfl rfl (fun w0 hw0 => ?_)
 refine Q2 (Q1 ?_)
 refine O5 (ox1 .nilS) .nil .nil rfl <| O5 (ox1 .nilS) .nil .nil rfl <| O1 <| Q0 (σ' := ⟨[], []⟩) trivial trivial ?_
 refine Q2 (Q1 ?_)
 refine O5 (ox_buildSlice_val s38 z9 (.cons (.str (by decide)) (.cons (.str (by decide)) (.cons (.str (by decide)) (.cons (.str (by decide)) (.cons (.str (by decide)) (.cons (.str (by decide)) (.cons (.str (by decide)) Parts.nil))))))) rfl (by decide)) ((.app .nil (.app .nil (.app .nil (.app .nil (.app .nil (.app .nil (.app .nil .nil)))))))) .nil rfl <| O5 (ox_buildSlice_val s50 z3 (.cons .int (.cons .int (.cons .int (.cons .int (.cons .int (.cons .int (.cons .int Parts.nil))))))) rfl (by decide)) ((.app .nil (.app .nil (.app .nil (.app .nil (.app .nil (.app .nil (.app .nil .nil)))))))) .nil rfl <| O5 (ox1 .tmp) (.one rfl) .nil rfl <| O5 (ox1 .tmp) (.one rfl) .nil rfl <| O1 <| Q0 (σ' := ⟨[(0, .val ([(⟨#[]⟩ : ByteArray), (⟨#[112, 117, 116]⟩ : ByteArray), (⟨#[103, 101, 116]⟩ : ByteArray), (⟨#[100, 114, 111, 112]⟩ : ByteArray), (⟨#[97, 100, 100]⟩ : ByteArray), (⟨#[99, 111, 117, 110, 116]⟩ : ByteArray), (⟨#[115, 119, 97, 112]⟩ : ByteArray)] : List ByteArray)), (1, .val ([(0 : Int), (2 : Int), (1 : Int), (1 : Int), (2 : Int), (0 : Int), (2 : Int)] : List Int))], []⟩) (j2 rfl rfl) trivial ?_
 refine Q5 ?_
 obtain rfl := Option.some.inj hφ
 exact Q6 hw0 rfl (.tmp rfl rfl (.tmp rfl rfl .nil)) rfl
theorem c_text_Call {a0 : Mk.Call} {r : ByteArray} (hφ : text_Call a0 = some r) : FnG Go.Proofs.Tryd.prog GT 12 [.val a0] (.val r) := by
 unfold text_Call at hφ
 refine FnG.mk' Go.Proofs.Tryd.func12 rfl (by decide) rfl rfl rfl (fun w0 hw0 hG0 => ?_)
 refine Q2 (Q1 ?_)
 refine O3 rfl rfl (ox_box (id := 1) .tmp) (.one rfl) .nil rfl (by kernel_rfl) <| O5 (ox1 (.str (by decide))) .nil .nil rfl <| O1 <| Q0 (σ' := ⟨[(1, _)], [(1, .var (a0) [])]⟩) (j1 rfl) (j1 rfl) ?_
 refine Q2 ?_
 obtain ⟨v1, hv1, hφ⟩ := B_some hφ
 obtain ⟨hb2, hφ⟩ := G_some hφ
 obtain ⟨hb3, hφ⟩ := G_some hφ
 refine Q8 hMixed (
   .cons (S5 (ox_call (c_text_words hv1) .nil)) ⟨.nil, .nil⟩ (by kernel_rfl) rfl <|
   .cons (S5 (ox3 Call_Kind f23_0)) ⟨.one rfl, .nil⟩ (by kernel_rfl) rfl <|
   .cons (S5 (ox2 t3)) ⟨.one rfl, .one rfl⟩ (by kernel_rfl) rfl <|
   .cons (S5 (ox_sub .tmp .int hb2)) ⟨(.app (.one rfl) .nil), .nil⟩ (by kernel_rfl) rfl <|
   .cons (S5 (ox_ix s38 .tmp .tmp hb3.1 hb3.2)) ⟨(.app (.one rfl) (.one rfl)), .nil⟩ (by kernel_rfl) rfl <|
   .cons (S5 (ox_load_elem t9)) ⟨.one rfl, .nil⟩ (by kernel_rfl) rfl <|
   .cons (S5 (ox1 .tmp)) ⟨.one rfl, .nil⟩ (by kernel_rfl) rfl <|
   .nil) _ [[], [], [1], [1, 2], [0, 1, 2, 3], [0, 1, 2, 3, 4], [0, 1, 2, 3, 4, 5]] rfl (by kernel_rfl) (by kernel_rfl) ?_
 refine Q0 (σ' := ⟨[(1, _), (3, .val (ix v1 (a0.Kind - (1 : Int))))], [(1, _)]⟩) (j2 rfl rfl) (j1 rfl) ?_
 obtain ⟨k4, hk4, hφ⟩ := J_some hφ
 refine PT.cut (ι := ByteArray) (fun p => ⟨[(3, .val (p))], []⟩) (fun p => k4 (p) = some r) ?_ ?_
 ·skip
  refine Q2 ?_
  refine PT.pinB 1 80001 (fun b sv => ?_)
  obtain ⟨v5, hv5, hφ⟩ := B_some hφ
  refine Q1 ?_
  refine O5 (ox_callRP (id := 1) (j := 80001) (c_text_fields hv5)) (.one rfl) (.cons rfl (.one rfl)) rfl <| O5 (ox_lenRP (s41 (b := b)) .tmp) (.one rfl) .nil rfl <| O5 (ox0 .int) .nil .nil rfl <| O1 <| Q0 (σ' := ⟨[(3, _), (12, _), (13, .val (v5.length : Int)), (14, .val (0 : Int))], [(1, _), (80001, .pin 1 b sv)]⟩) (j4 rfl rfl rfl rfl) (j2 rfl rfl) ?_
  refine PT.block ?_
  refine PT.loop (ι := Nat × ByteArray × (List Nat) × Int × Int × Mk.Call) (fun p => ⟨[(3, .val (p.2.1)), (12, .val ((p.2.2.1).map RP.mk : List (RP b))), (13, .val (p.2.2.2.1)), (14, .val (p.2.2.2.2.1))], [(1, .var (p.2.2.2.2.2) []), (80001, .pin 1 b sv)]⟩) (fun p => text_Call_l1 k4 p.1 (p.2.1) (p.2.2.1) (p.2.2.2.1) (p.2.2.2.2.1) (p.2.2.2.2.2) = some r) (fun p => p.1) (((v5.length : Int) - (0 : Int)).toNat + 1, (ix v1 (a0.Kind - (1 : Int))), v5, (v5.length : Int), (0 : Int), a0) hφ (j4 rfl rfl rfl rfl) (j2 rfl rfl) ?_
  rintro ⟨m6, x3_m6, x12_m6, x13_m6, x14_m6, y1_m6⟩ (hφ : text_Call_l1 k4 m6 x3_m6 x12_m6 x13_m6 x14_m6 y1_m6 = some r)
  obtain _ | m6 := m6
  ·exact (none_no hφ).elim
  rw [text_Call_l1.eq_2] at hφ
  refine Q0 (σ' := ⟨[(3, .val (x3_m6)), (12, .val ((x12_m6).map RP.mk : List (RP b))), (13, .val (x13_m6)), (14, .val (x14_m6))], [(1, .var (y1_m6) []), (80001, _)]⟩) (j4 rfl rfl rfl rfl) (j2 rfl rfl) ?_
  refine Q2 (Q1 ?_)
  refine O5 (ox_lss .tmp .tmp) (.app (.one rfl) (.one rfl)) .nil rfl <| O1 <| Q0 (σ' := ⟨[(3, _), (12, _), (13, _), (14, _), (15, .val (decide (x14_m6 < x13_m6)))], [(1, _), (80001, _)]⟩) (j5 rfl rfl rfl rfl rfl) (j2 rfl rfl) ?_
  refine Q2 ?_
  refine Q3 _ rfl (fun hc7 => ?_) (fun hc7 => ?_)
  ·replace hφ := if_then hφ hc7
   refine Q0 (σ' := ⟨[(3, _), (12, _), (13, _), (14, _)], [(1, _), (80001, _)]⟩) (j4 rfl rfl rfl rfl) (j2 rfl rfl) ?_
   refine Q4 ?_
   refine Q2 ?_
   refine PT.block ?_
   refine Q2 ?_
   obtain ⟨hb8, hφ⟩ := G_some hφ
   refine Q1 ?_
   refine O5 (ox_ixRP (s41 (b := b)) .tmp .tmp hb8.1 hb8.2) (.app (.one rfl) (.one rfl)) .nil rfl <| O5 (ox_load_elem t44) (.one rfl) .nil rfl <| O5 (ox1 .tmp) (.one rfl) .nil rfl <| O1 <| Q0 (σ' := ⟨[(3, _), (5, _), (12, _), (13, _), (14, _)], [(1, _), (80001, _)]⟩) (j5 rfl rfl rfl rfl rfl) (j2 rfl rfl) ?_
   obtain ⟨hb9, hφ⟩ := G_some hφ
   obtain ⟨hb10, hφ⟩ := G_some hφ
   obtain ⟨v11, hv11, hφ⟩ := B_some hφ
   obtain ⟨hb12, hφ⟩ := G_some hφ
   obtain ⟨hb13, hφ⟩ := G_some hφ
   refine Q1 ?_
   refine O5 (ox0 .tmp) (.one rfl) .nil rfl <| O5 (ox0 .tmp) (.one rfl) .nil rfl <| O5 (ox_nilCheck_rp (x := (⟨(ix x12_m6 x14_m6)⟩ : RP b)) hb9) (.one rfl) .nil rfl <| O5 (ox_load_rp (id := 1) (j := 80001) (x := ⟨(ix x12_m6 x14_m6)⟩) t3 hb10) (.one rfl) (.cons rfl (.one rfl)) rfl ?_
   refine Ops.putW rfl rfl (ox_callW keepG hw0 hG0 (c_strconv_Itoa hv11) (.cons .tmp .nil)) (.app (.one rfl) .nil) .nil rfl ?_
   refine O5 (ox_addStr (.str (by decide)) .tmp hb12) (.app .nil (.one rfl)) .nil rfl <| O5 (ox_addStr .tmp .tmp hb13) (.app (.one rfl) (.one rfl)) .nil rfl <| O5 (ox1 .tmp) (.one rfl) .nil rfl <| O1 <| Q0 (σ' := ⟨[(3, .val (x3_m6 ++ ((⟨#[32]⟩ : ByteArray) ++ v11))), (12, _), (13, _), (14, _)], [(1, _), (80001, _)]⟩) (j4 rfl rfl rfl rfl) (j2 rfl rfl) ?_
   obtain ⟨hb14, hφ⟩ := G_some hφ
   refine Q1 ?_
   refine O5 (ox_add .tmp .int hb14) (.app (.one rfl) .nil) .nil rfl <| O5 (ox0 .tmp) (.one rfl) .nil rfl <| O1 <| Q0 (σ' := ⟨[(3, _), (12, _), (13, _), (14, .val (x14_m6 + (1 : Int)))], [(1, _), (80001, _)]⟩) (j4 rfl rfl rfl rfl) (j2 rfl rfl) ?_
   exact PT.next (m6, (x3_m6 ++ ((⟨#[32]⟩ : ByteArray) ++ v11)), x12_m6, x13_m6, (x14_m6 + (1 : Int)), y1_m6) hφ (Nat.lt_succ_self _) (j4 rfl rfl rfl rfl) (j2 rfl rfl)
  ·replace hφ := if_else hφ hc7
   refine Q0 (σ' := ⟨[(3, _)], []⟩) (j1 rfl) trivial ?_
   refine PT.exit ?_
   exact PT.meet (x3_m6) hφ (j1 rfl) trivial
 ·rintro x3_k4 hφ
  subst hk4
  refine Q0 (σ' := ⟨[(3, .val (x3_k4))], []⟩) (j1 rfl) trivial ?_
  refine Q2 (Q1 ?_)
  refine O5 (ox0 .tmp) (.one rfl) .nil rfl <| O5 (ox1 .tmp) (.one rfl) .nil rfl <| O1 <| Q0 (σ' := ⟨[(2, .val (x3_k4))], []⟩) (j1 rfl) trivial ?_
  refine Q5 ?_
  obtain rfl := Option.some.inj hφ
  exact Q6 hw0 rfl (.tmp rfl rfl .nil) rfl
theorem c_mkref1_CallText {a0 : Mk.Call} {r : ByteArray} (hφ : mkref1_CallText a0 = some r) : FnG Go.Proofs.Tryd.prog GT 13 [.val a0] (.val r) := by
 unfold mkref1_CallText at hφ
 refine FnG.mk' Go.Proofs.Tryd.func13 rfl (by decide) rfl rfl rfl (fun w0 hw0 hG0 => ?_)
 refine Q2 (Q1 ?_)
 refine O3 rfl rfl (ox_box (id := 1) .tmp) (.one rfl) .nil rfl (by kernel_rfl) <| O5 (ox1 (.str (by decide))) .nil .nil rfl <| O1 <| Q0 (σ' := ⟨[(1, _)], [(1, .var (a0) [])]⟩) (j1 rfl) (j1 rfl) ?_
 refine Q2 ?_
 obtain ⟨v1, hv1, hφ⟩ := B_some hφ
 refine Q1 ?_
 refine O5 (ox_call (c_mkref1_Words hv1) .nil) .nil .nil rfl <| O5 (ox0 .tmp) (.one rfl) .nil rfl <| O5 (ox7 rfl) (.one rfl) .nil rfl <| O5 (ox7 rfl) (.one rfl) .nil rfl <| O5 (ox1 .tmp) (.one rfl) .nil rfl <| O5 (ox1 .tmp) (.one rfl) .nil rfl <| O1 <| Q0 (σ' := ⟨[(1, _), (3, .val (v1.1)), (4, .val (v1.2))], [(1, _)]⟩) (j3 rfl rfl rfl) (j1 rfl) ?_
 refine Q2 ?_
 obtain ⟨hb2, hφ⟩ := G_some hφ
 refine Q1 ?_
 refine O5 (ox0 .tmp) (.one rfl) .nil rfl <| O5 (ox3 Call_Kind f23_0) (.one rfl) .nil rfl <| O5 (ox2 t3) (.one rfl) (.one rfl) rfl <| O5 (ox_ix s38 .tmp .tmp hb2.1 hb2.2) (.app (.one rfl) (.one rfl)) .nil rfl <| O5 (ox_load_elem t9) (.one rfl) .nil rfl <| O5 (ox1 .tmp) (.one rfl) .nil rfl <| O1 <| Q0 (σ' := ⟨[(1, _), (4, _), (5, .val (ix v1.1 a0.Kind))], [(1, _)]⟩) (j3 rfl rfl rfl) (j1 rfl) ?_
 obtain ⟨k3, hk3, hφ⟩ := J_some hφ
 refine PT.cut (ι := (List Int) × ByteArray × Mk.Call) (fun p => ⟨[(1, .ptr 1 (Lens.id (α := Mk.Call))), (4, .val (p.1)), (5, .val (p.2.1))], [(1, .var (p.2.2) [])]⟩) (fun p => k3 (p.1) (p.2.1) (p.2.2) = some r) ?_ ?_
 ·skip
  refine Q2 ?_
  obtain ⟨hb4, hφ⟩ := G_some hφ
  refine Q1 ?_
  refine O5 (ox0 .tmp) (.one rfl) .nil rfl <| O5 (ox3 Call_Kind f23_0) (.one rfl) .nil rfl <| O5 (ox2 t3) (.one rfl) (.one rfl) rfl <| O5 (ox_ix s50 .tmp .tmp hb4.1 hb4.2) (.app (.one rfl) (.one rfl)) .nil rfl <| O5 (ox_load_elem t3) (.one rfl) .nil rfl <| O5 (ox_gtr .tmp .int) (.app (.one rfl) .nil) .nil rfl <| O1 <| Q0 (σ' := ⟨[(1, _), (4, _), (5, _), (20, .val (decide ((0 : Int) < (ix v1.2 a0.Kind))))], [(1, _)]⟩) (j4 rfl rfl rfl rfl) (j1 rfl) ?_
  refine Q3 _ rfl (fun hc5 => ?_) (fun hc5 => ?_)
  ·replace hφ := if_then hφ hc5
   refine Q0 (σ' := ⟨[(1, _), (4, _), (5, _)], [(1, _)]⟩) (j3 rfl rfl rfl) (j1 rfl) ?_
   obtain ⟨hb6, hφ⟩ := G_some hφ
   obtain ⟨v7, hv7, hφ⟩ := B_some hφ
   obtain ⟨hb8, hφ⟩ := G_some hφ
   refine Q1 ?_
   refine O5 (ox0 .tmp) (.one rfl) .nil rfl <| O5 (ox_addStr .tmp (.str (by decide)) hb6) (.app (.one rfl) .nil) .nil rfl <| O5 (ox3 Call_Name f23_1) (.one rfl) .nil rfl <| O5 (ox2 t3) (.one rfl) (.one rfl) rfl ?_
   refine Ops.putW rfl rfl (ox_callW keepG hw0 hG0 (c_strconv_Itoa hv7) (.cons .tmp .nil)) (.app (.one rfl) .nil) .nil rfl ?_
   refine O5 (ox_addStr .tmp .tmp hb8) (.app (.one rfl) (.one rfl)) .nil rfl <| O5 (ox1 .tmp) (.one rfl) .nil rfl <| O1 <| Q0 (σ' := ⟨[(1, _), (4, _), (5, .val (((ix v1.1 a0.Kind) ++ (⟨#[32]⟩ : ByteArray)) ++ v7))], [(1, _)]⟩) (j3 rfl rfl rfl) (j1 rfl) ?_
   exact PT.meet (v1.2, (((ix v1.1 a0.Kind) ++ (⟨#[32]⟩ : ByteArray)) ++ v7), a0) hφ (j3 rfl rfl rfl) (j1 rfl)
  ·replace hφ := if_else hφ hc5
   refine Q0 (σ' := ⟨[(1, _), (4, _), (5, _)], [(1, _)]⟩) (j3 rfl rfl rfl) (j1 rfl) ?_
   refine Q4 ?_
   exact PT.meet (v1.2, (ix v1.1 a0.Kind), a0) hφ (j3 rfl rfl rfl) (j1 rfl)
 ·rintro ⟨x4_k3, x5_k3, y1_k3⟩ hφ
  subst hk3
  refine Q0 (σ' := ⟨[(1, .ptr 1 (Lens.id (α := Mk.Call))), (4, .val (x4_k3)), (5, .val (x5_k3))], [(1, .var (y1_k3) [])]⟩) (j3 rfl rfl rfl) (j1 rfl) ?_
  obtain ⟨k9, hk9, hφ⟩ := J_some hφ
  refine PT.cut (ι := (List Int) × ByteArray × Mk.Call) (fun p => ⟨[(1, .ptr 1 (Lens.id (α := Mk.Call))), (4, .val (p.1)), (5, .val (p.2.1))], [(1, .var (p.2.2) [])]⟩) (fun p => k9 (p.1) (p.2.1) (p.2.2) = some r) ?_ ?_
  ·skip
   refine Q2 ?_
   obtain ⟨hb10, hφ⟩ := G_some hφ
   refine Q1 ?_
   refine O5 (ox0 .tmp) (.one rfl) .nil rfl <| O5 (ox3 Call_Kind f23_0) (.one rfl) .nil rfl <| O5 (ox2 t3) (.one rfl) (.one rfl) rfl <| O5 (ox_ix s50 .tmp .tmp hb10.1 hb10.2) (.app (.one rfl) (.one rfl)) .nil rfl <| O5 (ox_load_elem t3) (.one rfl) .nil rfl <| O5 (ox_gtr .tmp .int) (.app (.one rfl) .nil) .nil rfl ?_
   refine O5 (ox0 .tmp) (.one rfl) .nil rfl <| O4 rfl rfl rfl rfl (.plain .nil) (fun hG => (ox3 Call_Kind f23_0)) (j1 rfl) .nil rfl <| O4 rfl rfl rfl rfl (.cond (fun h => h) .nil) (fun hG => (ox2 t3)) (j1 rfl) (.one rfl) rfl <| O4 rfl rfl rfl rfl (.cond (fun h => h) .nil) (fun hG => (ox_eql .tmp .int)) (j1 rfl) .nil rfl <| O5 ox8 (j2 rfl rfl) .nil rfl <| O1 <| Q0 (σ' := ⟨[(1, _), (4, _), (5, _), (37, .val ((decide ((1 : Int) < (ix x4_k3 y1_k3.Kind))) && (decide (y1_k3.Kind = (6 : Int)))))], [(1, _)]⟩) (j4 rfl rfl rfl rfl) (j1 rfl) ?_
   refine Q3 _ rfl (fun hc11 => ?_) (fun hc11 => ?_)
   ·replace hφ := if_then hφ hc11
    refine Q0 (σ' := ⟨[(1, _), (4, _), (5, _)], [(1, _)]⟩) (j3 rfl rfl rfl) (j1 rfl) ?_
    obtain ⟨hb12, hφ⟩ := G_some hφ
    obtain ⟨v13, hv13, hφ⟩ := B_some hφ
    obtain ⟨hb14, hφ⟩ := G_some hφ
    refine Q1 ?_
    refine O5 (ox0 .tmp) (.one rfl) .nil rfl <| O5 (ox_addStr .tmp (.str (by decide)) hb12) (.app (.one rfl) .nil) .nil rfl <| O5 (ox3 Call_Other f23_2) (.one rfl) .nil rfl <| O5 (ox2 t3) (.one rfl) (.one rfl) rfl ?_
    refine Ops.putW rfl rfl (ox_callW keepG hw0 hG0 (c_strconv_Itoa hv13) (.cons .tmp .nil)) (.app (.one rfl) .nil) .nil rfl ?_
    refine O5 (ox_addStr .tmp .tmp hb14) (.app (.one rfl) (.one rfl)) .nil rfl <| O5 (ox1 .tmp) (.one rfl) .nil rfl <| O1 <| Q0 (σ' := ⟨[(1, _), (4, _), (5, .val ((x5_k3 ++ (⟨#[32]⟩ : ByteArray)) ++ v13))], [(1, _)]⟩) (j3 rfl rfl rfl) (j1 rfl) ?_
    exact PT.meet (x4_k3, ((x5_k3 ++ (⟨#[32]⟩ : ByteArray)) ++ v13), y1_k3) hφ (j3 rfl rfl rfl) (j1 rfl)
   ·replace hφ := if_else hφ hc11
    refine Q0 (σ' := ⟨[(1, _), (4, _), (5, _)], [(1, _)]⟩) (j3 rfl rfl rfl) (j1 rfl) ?_
    refine Q4 ?_
    exact PT.meet (x4_k3, x5_k3, y1_k3) hφ (j3 rfl rfl rfl) (j1 rfl)
  ·rintro ⟨x4_k9, x5_k9, y1_k9⟩ hφ
   subst hk9
   refine Q0 (σ' := ⟨[(1, _), (4, .val (x4_k9)), (5, .val (x5_k9))], [(1, .var (y1_k9) [])]⟩) (j3 rfl rfl rfl) (j1 rfl) ?_
   obtain ⟨k15, hk15, hφ⟩ := J_some hφ
   refine PT.cut (ι := ByteArray) (fun p => ⟨[(5, .val (p))], []⟩) (fun p => k15 (p) = some r) ?_ ?_
   ·skip
    refine Q2 ?_
    obtain ⟨hb16, hφ⟩ := G_some hφ
    refine Q1 ?_
    refine O5 (ox0 .tmp) (.one rfl) .nil rfl <| O5 (ox3 Call_Kind f23_0) (.one rfl) .nil rfl <| O5 (ox2 t3) (.one rfl) (.one rfl) rfl <| O5 (ox_ix s50 .tmp .tmp hb16.1 hb16.2) (.app (.one rfl) (.one rfl)) .nil rfl <| O5 (ox_load_elem t3) (.one rfl) .nil rfl <| O5 (ox_gtr .tmp .int) (.app (.one rfl) .nil) .nil rfl ?_
    refine O5 (ox0 .tmp) (.one rfl) .nil rfl <| O4 rfl rfl rfl rfl (.plain .nil) (fun hG => (ox3 Call_Kind f23_0)) (j1 rfl) .nil rfl <| O4 rfl rfl rfl rfl (.cond (fun h => h) .nil) (fun hG => (ox2 t3)) (j1 rfl) (.one rfl) rfl <| O4 rfl rfl rfl rfl (.cond (fun h => h) .nil) (fun hG => (ox_neq .tmp .int)) (j1 rfl) .nil rfl <| O5 ox8 (j2 rfl rfl) .nil rfl <| O1 <| Q0 (σ' := ⟨[(1, _), (5, _), (54, .val ((decide ((1 : Int) < (ix x4_k9 y1_k9.Kind))) && (!decide (y1_k9.Kind = (6 : Int)))))], [(1, _)]⟩) (j3 rfl rfl rfl) (j1 rfl) ?_
    refine Q3 _ rfl (fun hc17 => ?_) (fun hc17 => ?_)
    ·replace hφ := if_then hφ hc17
     refine Q0 (σ' := ⟨[(1, _), (5, _)], [(1, _)]⟩) (j2 rfl rfl) (j1 rfl) ?_
     obtain ⟨hb18, hφ⟩ := G_some hφ
     obtain ⟨v19, hv19, hφ⟩ := B_some hφ
     obtain ⟨hb20, hφ⟩ := G_some hφ
     refine Q1 ?_
     refine O5 (ox0 .tmp) (.one rfl) .nil rfl <| O5 (ox_addStr .tmp (.str (by decide)) hb18) (.app (.one rfl) .nil) .nil rfl <| O5 (ox3 Call_N f23_3) (.one rfl) .nil rfl <| O5 (ox2 t3) (.one rfl) (.one rfl) rfl ?_
     refine Ops.putW rfl rfl (ox_callW keepG hw0 hG0 (c_strconv_Itoa hv19) (.cons .tmp .nil)) (.app (.one rfl) .nil) .nil rfl ?_
     refine O5 (ox_addStr .tmp .tmp hb20) (.app (.one rfl) (.one rfl)) .nil rfl <| O5 (ox1 .tmp) (.one rfl) .nil rfl <| O1 <| Q0 (σ' := ⟨[(5, .val ((x5_k9 ++ (⟨#[32]⟩ : ByteArray)) ++ v19))], []⟩) (j1 rfl) trivial ?_
     exact PT.meet ((x5_k9 ++ (⟨#[32]⟩ : ByteArray)) ++ v19) hφ (j1 rfl) trivial
    ·replace hφ := if_else hφ hc17
     refine Q0 (σ' := ⟨[(5, _)], []⟩) (j1 rfl) trivial ?_
     refine Q4 ?_
     exact PT.meet (x5_k9) hφ (j1 rfl) trivial
   ·rintro x5_k15 hφ
    subst hk15
    refine Q0 (σ' := ⟨[(5, .val (x5_k15))], []⟩) (j1 rfl) trivial ?_
    refine Q2 (Q1 ?_)
    refine O5 (ox0 .tmp) (.one rfl) .nil rfl <| O5 (ox1 .tmp) (.one rfl) .nil rfl <| O1 <| Q0 (σ' := ⟨[(2, .val (x5_k15))], []⟩) (j1 rfl) trivial ?_
    refine Q5 ?_
    obtain rfl := Option.some.inj hφ
    exact Q6 hw0 rfl (.tmp rfl rfl .nil) rfl
theorem c_text_ReadCall {a0 : ByteArray} {r : (Mk.Call × Int)} (hφ : text_ReadCall a0 = some r) : FnG Go.Proofs.Tryd.prog GT 6 [.val a0] (.tup [.val r.1, .val r.2]) := by
 unfold text_ReadCall at hφ
 refine FnG.mk' Go.Proofs.Tryd.func6 rfl (by decide) rfl rfl rfl (fun w0 hw0 hG0 => ?_)
 refine Q2 (Q1 ?_)
 refine O3 rfl rfl (ox_alloc (id := 2) z23) .nil .nil rfl (by kernel_rfl) <| O5 (ox1 .int) .nil .nil rfl <| O1 <| Q0 (σ' := ⟨[(0, .val (a0)), (2, _)], [(2, .var zCa [])]⟩) (j2 rfl rfl) (j1 rfl) ?_
 refine Q2 ?_
 obtain ⟨v1, hv1, hφ⟩ := B_some hφ
 refine Q1 ?_
 refine O5 (ox0 .tmp) (.one rfl) .nil rfl ?_
 refine Ops.putW rfl rfl (ox_callW keepG hw0 hG0 (c_strings_Split hv1) (.cons .tmp (.cons (.str (by decide)) .nil))) (.app (.one rfl) (.app .nil .nil)) .nil rfl ?_
 refine O5 (ox1 .tmp) (.one rfl) .nil rfl <| O1 <| Q0 (σ' := ⟨[(2, _), (4, .val (v1))], [(2, _)]⟩) (j2 rfl rfl) (j1 rfl) ?_
 refine Q2 (Q1 ?_)
 refine O3 rfl rfl (ox_alloc (id := 5) z23) .nil .nil rfl (by kernel_rfl) <| O1 <| Q0 (σ' := ⟨[(2, _), (4, _), (5, _)], [(2, _), (5, .var zCa [])]⟩) (j3 rfl rfl rfl) (j2 rfl rfl) ?_
 obtain ⟨k2, hk2, hφ⟩ := J_some hφ
 refine PT.cut (ι := (List ByteArray) × Mk.Call × Mk.Call) (fun p => ⟨[(2, .ptr 2 (Lens.id (α := Mk.Call))), (4, .val (p.1)), (5, .ptr 5 (Lens.id (α := Mk.Call)))], [(2, .var (p.2.1) []), (5, .var (p.2.2) [])]⟩) (fun p => k2 (p.1) (p.2.1) (p.2.2) = some r) ?_ ?_
 ·skip
  refine Q2 ?_
  obtain ⟨v3, hv3, hφ⟩ := B_some hφ
  refine Q1 ?_
  refine O5 (ox_call (c_text_words hv3) .nil) .nil .nil rfl <| O5 (ox_len s38 .tmp) (.one rfl) .nil rfl <| O5 (ox0 .int) .nil .nil rfl <| O1 <| Q0 (σ' := ⟨[(2, _), (4, _), (5, _), (16, .val (v3)), (17, .val (v3.length : Int)), (18, .val (0 : Int))], [(2, _), (5, _)]⟩) (j6 rfl rfl rfl rfl rfl rfl) (j2 rfl rfl) ?_
  refine PT.block ?_
  refine PT.loop (ι := Nat × (List ByteArray) × (List ByteArray) × Int × Int × Mk.Call × Mk.Call) (fun p => ⟨[(2, .ptr 2 (Lens.id (α := Mk.Call))), (4, .val (p.2.1)), (5, .ptr 5 (Lens.id (α := Mk.Call))), (16, .val (p.2.2.1)), (17, .val (p.2.2.2.1)), (18, .val (p.2.2.2.2.1))], [(2, .var (p.2.2.2.2.2.1) []), (5, .var (p.2.2.2.2.2.2) [])]⟩) (fun p => text_ReadCall_l1 k2 p.1 (p.2.1) (p.2.2.1) (p.2.2.2.1) (p.2.2.2.2.1) (p.2.2.2.2.2.1) (p.2.2.2.2.2.2) = some r) (fun p => p.1) (((v3.length : Int) - (0 : Int)).toNat + 1, v1, v3, (v3.length : Int), (0 : Int), zCa, zCa) hφ (j6 rfl rfl rfl rfl rfl rfl) (j2 rfl rfl) ?_
  rintro ⟨m4, x4_m4, x16_m4, x17_m4, x18_m4, y2_m4, y5_m4⟩ (hφ : text_ReadCall_l1 k2 m4 x4_m4 x16_m4 x17_m4 x18_m4 y2_m4 y5_m4 = some r)
  obtain _ | m4 := m4
  ·exact (none_no hφ).elim
  rw [text_ReadCall_l1.eq_2] at hφ
  refine Q0 (σ' := ⟨[(2, .ptr 2 (Lens.id (α := Mk.Call))), (4, .val (x4_m4)), (5, .ptr 5 (Lens.id (α := Mk.Call))), (16, .val (x16_m4)), (17, .val (x17_m4)), (18, .val (x18_m4))], [(2, .var (y2_m4) []), (5, .var (y5_m4) [])]⟩) (j6 rfl rfl rfl rfl rfl rfl) (j2 rfl rfl) ?_
  refine Q2 (Q1 ?_)
  refine O5 (ox_lss .tmp .tmp) (.app (.one rfl) (.one rfl)) .nil rfl <| O1 <| Q0 (σ' := ⟨[(2, _), (4, _), (5, _), (16, _), (17, _), (18, _), (19, .val (decide (x18_m4 < x17_m4)))], [(2, _), (5, _)]⟩) (j7 rfl rfl rfl rfl rfl rfl rfl) (j2 rfl rfl) ?_
  refine Q2 ?_
  refine Q3 _ rfl (fun hc5 => ?_) (fun hc5 => ?_)
  ·replace hφ := if_then hφ hc5
   refine Q0 (σ' := ⟨[(2, _), (4, _), (5, _), (16, _), (17, _), (18, _)], [(2, _), (5, _)]⟩) (j6 rfl rfl rfl rfl rfl rfl) (j2 rfl rfl) ?_
   refine Q4 ?_
   obtain ⟨k6, hk6, hφ⟩ := J_some hφ
   refine PT.cut (ι := (List ByteArray) × (List ByteArray) × Int × Int × Mk.Call × Mk.Call) (fun p => ⟨[(2, .ptr 2 (Lens.id (α := Mk.Call))), (4, .val (p.1)), (5, .ptr 5 (Lens.id (α := Mk.Call))), (16, .val (p.2.1)), (17, .val (p.2.2.1)), (18, .val (p.2.2.2.1))], [(2, .var (p.2.2.2.2.1) []), (5, .var (p.2.2.2.2.2) [])]⟩) (fun p => k6 (p.1) (p.2.1) (p.2.2.1) (p.2.2.2.1) (p.2.2.2.2.1) (p.2.2.2.2.2) = some r) ?_ ?_
   ·skip
    refine PT.block ?_
    refine Q2 ?_
    obtain ⟨hb7, hφ⟩ := G_some hφ
    refine Q1 ?_
    refine O5 (ox0 .tmp) (.one rfl) .nil rfl <| O5 (ox_ix s38 .tmp .tmp hb7.1 hb7.2) (.app (.one rfl) (.one rfl)) .nil rfl <| O5 (ox_load_elem t9) (.one rfl) .nil rfl <| O5 (ox1 .tmp) (.one rfl) .nil rfl <| O5 (ox1 .tmp) (.one rfl) .nil rfl <| O1 <| Q0 (σ' := ⟨[(2, _), (4, _), (5, _), (6, .val (x18_m4)), (7, .val (ix x16_m4 x18_m4)), (16, _), (17, _), (18, _)], [(2, _), (5, _)]⟩) (j8 rfl rfl rfl rfl rfl rfl rfl rfl) (j2 rfl rfl) ?_
    refine Q2 ?_
    obtain ⟨hb8, hφ⟩ := G_some hφ
    refine Q1 ?_
    refine O5 (ox0 .tmp) (.one rfl) .nil rfl <| O5 (ox0 .tmp) (.one rfl) .nil rfl <| O5 (ox_ix s38 .tmp .int hb8.1 hb8.2) (.app (.one rfl) .nil) .nil rfl <| O5 (ox_load_elem t9) (.one rfl) .nil rfl <| O5 (ox_eqlStr .tmp .tmp) (.app (.one rfl) (.one rfl)) .nil rfl <| O1 <| Q0 (σ' := ⟨[(2, _), (4, _), (5, _), (6, _), (16, _), (17, _), (18, _), (27, .val (decide ((ix x16_m4 x18_m4) = (ix x4_m4 (0 : Int)))))], [(2, _), (5, _)]⟩) (j8 rfl rfl rfl rfl rfl rfl rfl rfl) (j2 rfl rfl) ?_
    refine Q3 _ rfl (fun hc9 => ?_) (fun hc9 => ?_)
    ·replace hφ := if_then hφ hc9
     refine Q0 (σ' := ⟨[(2, _), (4, _), (5, _), (6, _), (16, _), (17, _), (18, _)], [(2, _), (5, _)]⟩) (j7 rfl rfl rfl rfl rfl rfl rfl) (j2 rfl rfl) ?_
     obtain ⟨hb10, hφ⟩ := G_some hφ
     refine Q1 ?_
     refine O5 (ox0 .tmp) (.one rfl) .nil rfl <| O5 (ox_add .tmp .int hb10) (.app (.one rfl) .nil) .nil rfl <| O5 (ox3 Call_Kind f23_0) (.one rfl) .nil rfl <| O2 rfl rfl (ox_store_fld t3 .tmp) (.cons rfl (.one rfl)) (.one rfl) <| O1 <| Q0 (σ' := ⟨[(2, _), (4, _), (5, _), (16, _), (17, _), (18, _)], [(2, _), (5, .var ({ y5_m4 with Kind := (x18_m4 + (1 : Int)) }) [])]⟩) (j6 rfl rfl rfl rfl rfl rfl) (j2 rfl rfl) ?_
     exact PT.meet (x4_m4, x16_m4, x17_m4, x18_m4, y2_m4, { y5_m4 with Kind := (x18_m4 + (1 : Int)) }) hφ (j6 rfl rfl rfl rfl rfl rfl) (j2 rfl rfl)
    ·replace hφ := if_else hφ hc9
     refine Q0 (σ' := ⟨[(2, _), (4, _), (5, _), (16, _), (17, _), (18, _)], [(2, _), (5, _)]⟩) (j6 rfl rfl rfl rfl rfl rfl) (j2 rfl rfl) ?_
     refine Q4 ?_
     exact PT.meet (x4_m4, x16_m4, x17_m4, x18_m4, y2_m4, y5_m4) hφ (j6 rfl rfl rfl rfl rfl rfl) (j2 rfl rfl)
   ·rintro ⟨x4_k6, x16_k6, x17_k6, x18_k6, y2_k6, y5_k6⟩ hφ
    subst hk6
    refine Q0 (σ' := ⟨[(2, _), (4, .val (x4_k6)), (5, _), (16, .val (x16_k6)), (17, .val (x17_k6)), (18, .val (x18_k6))], [(2, .var (y2_k6) []), (5, .var (y5_k6) [])]⟩) (j6 rfl rfl rfl rfl rfl rfl) (j2 rfl rfl) ?_
    obtain ⟨hb11, hφ⟩ := G_some hφ
    refine Q1 ?_
    refine O5 (ox_add .tmp .int hb11) (.app (.one rfl) .nil) .nil rfl <| O5 (ox0 .tmp) (.one rfl) .nil rfl <| O1 <| Q0 (σ' := ⟨[(2, _), (4, _), (5, _), (16, _), (17, _), (18, .val (x18_k6 + (1 : Int)))], [(2, _), (5, _)]⟩) (j6 rfl rfl rfl rfl rfl rfl) (j2 rfl rfl) ?_
    exact PT.next (m4, x4_k6, x16_k6, x17_k6, (x18_k6 + (1 : Int)), y2_k6, y5_k6) hφ (Nat.lt_succ_self _) (j6 rfl rfl rfl rfl rfl rfl) (j2 rfl rfl)
  ·replace hφ := if_else hφ hc5
   refine Q0 (σ' := ⟨[(2, _), (4, _), (5, _)], [(2, _), (5, _)]⟩) (j3 rfl rfl rfl) (j2 rfl rfl) ?_
   refine PT.exit ?_
   exact PT.meet (x4_m4, y2_m4, y5_m4) hφ (j3 rfl rfl rfl) (j2 rfl rfl)
 ·rintro ⟨x4_k2, y2_k2, y5_k2⟩ hφ
  subst hk2
  refine Q0 (σ' := ⟨[(2, .ptr 2 (Lens.id (α := Mk.Call))), (4, .val (x4_k2)), (5, .ptr 5 (Lens.id (α := Mk.Call)))], [(2, .var (y2_k2) []), (5, .var (y5_k2) [])]⟩) (j3 rfl rfl rfl) (j2 rfl rfl) ?_
  refine Q2 ?_
  refine Q2 (Q1 ?_)
  refine O5 (ox3 Call_Kind f23_0) (.one rfl) .nil rfl <| O5 (ox2 t3) (.one rfl) (.one rfl) rfl <| O5 (ox_eql .tmp .int) (.app (.one rfl) .nil) .nil rfl <| O1 <| Q0 (σ' := ⟨[(2, _), (4, _), (5, _), (34, .val (decide (y5_k2.Kind = (0 : Int))))], [(2, _), (5, _)]⟩) (j4 rfl rfl rfl rfl) (j2 rfl rfl) ?_
  refine Q3 _ rfl (fun hc12 => ?_) (fun hc12 => ?_)
  ·replace hφ := if_then hφ hc12
   refine Q0 (σ' := ⟨[(2, _)], [(2, _)]⟩) (j1 rfl) (j1 rfl) ?_
   refine Q2 (Q1 ?_)
   refine O5 (oxa z23 u23 rfl Bld.nil) .nil .nil rfl <| O2 rfl rfl (ox5 t23 .tmp) (.cons rfl (.one rfl)) (.one rfl) <| O5 (ox1 .int) .nil .nil rfl <| O1 <| Q0 (σ' := ⟨[(2, _), (3, .val (1 : Int))], [(2, .var zCa [])]⟩) (j2 rfl rfl) (j1 rfl) ?_
   refine Q5 ?_
   obtain rfl := Option.some.inj hφ
   exact Q6 hw0 rfl (.cell t23 rfl rfl (.tmp rfl rfl .nil)) rfl
  ·replace hφ := if_else hφ hc12
   refine Q0 (σ' := ⟨[(2, _), (4, _), (5, _)], [(2, _), (5, _)]⟩) (j3 rfl rfl rfl) (j2 rfl rfl) ?_
   refine Q4 ?_
   refine Q2 ?_
   refine PT.pinB 5 80005 (fun b sv => ?_)
   obtain ⟨v13, hv13, hφ⟩ := B_some hφ
   refine Q1 ?_
   refine O5 (ox_callRP (id := 5) (j := 80005) (c_text_fields hv13)) (.one rfl) (.cons rfl (.one rfl)) rfl <| O5 (ox1 .tmp) (.one rfl) .nil rfl <| O1 <| Q0 (σ' := ⟨[(2, _), (4, _), (5, _), (8, _)], [(2, _), (5, _), (80005, .pin 5 b sv)]⟩) (j4 rfl rfl rfl rfl) (j3 rfl rfl rfl) ?_
   refine Q2 (Q2 ?_)
   obtain ⟨hb14, hφ⟩ := G_some hφ
   refine Q1 ?_
   refine O5 (ox0 .tmp) (.one rfl) .nil rfl <| O5 (ox_len s38 .tmp) (.one rfl) .nil rfl <| O5 (ox0 .tmp) (.one rfl) .nil rfl <| O5 (ox_lenRP (s41 (b := b)) .tmp) (.one rfl) .nil rfl <| O5 (ox_add .int .tmp hb14) (.app .nil (.one rfl)) .nil rfl <| O5 (ox_neq .tmp .tmp) (.app (.one rfl) (.one rfl)) .nil rfl <| O1 <| Q0 (σ' := ⟨[(2, _), (4, _), (5, _), (8, _), (42, .val (!decide ((x4_k2.length : Int) = ((1 : Int) + (v13.length : Int)))))], [(2, _), (5, _), (80005, _)]⟩) (j5 rfl rfl rfl rfl rfl) (j3 rfl rfl rfl) ?_
   refine Q3 _ rfl (fun hc15 => ?_) (fun hc15 => ?_)
   ·replace hφ := if_then hφ hc15
    refine Q0 (σ' := ⟨[(2, _)], [(2, _)]⟩) (j1 rfl) (j1 rfl) ?_
    refine Q2 (Q1 ?_)
    refine O5 (oxa z23 u23 rfl Bld.nil) .nil .nil rfl <| O2 rfl rfl (ox5 t23 .tmp) (.cons rfl (.one rfl)) (.one rfl) <| O5 (ox1 .int) .nil .nil rfl <| O1 <| Q0 (σ' := ⟨[(2, _), (3, .val (2 : Int))], [(2, .var zCa [])]⟩) (j2 rfl rfl) (j1 rfl) ?_
    refine Q5 ?_
    obtain rfl := Option.some.inj hφ
    exact Q6 hw0 rfl (.cell t23 rfl rfl (.tmp rfl rfl .nil)) rfl
   ·replace hφ := if_else hφ hc15
    refine Q0 (σ' := ⟨[(2, _), (4, _), (5, _), (8, _)], [(2, _), (5, _), (80005, _)]⟩) (j4 rfl rfl rfl rfl) (j3 rfl rfl rfl) ?_
    refine Q4 ?_
    obtain ⟨k16, hk16, hφ⟩ := J_some hφ
    refine PT.cut (ι := Mk.Call × Mk.Call) (fun p => ⟨[(2, .ptr 2 (Lens.id (α := Mk.Call))), (5, .ptr 5 (Lens.id (α := Mk.Call)))], [(2, .var (p.1) []), (5, .var (p.2) [])]⟩) (fun p => k16 (p.1) (p.2) = some r) ?_ ?_
    ·skip
     refine Q2 (Q1 ?_)
     refine O5 (ox0 .tmp) (.one rfl) .nil rfl <| O5 (ox_lenRP (s41 (b := b)) .tmp) (.one rfl) .nil rfl <| O5 (ox0 .int) .nil .nil rfl <| O1 <| Q0 (σ' := ⟨[(2, _), (4, _), (5, _), (44, _), (45, .val (v13.length : Int)), (46, .val (0 : Int))], [(2, _), (5, _), (80005, _)]⟩) (j6 rfl rfl rfl rfl rfl rfl) (j3 rfl rfl rfl) ?_
     refine PT.block ?_
     refine PT.loop (ι := Nat × (List ByteArray) × (List Nat) × Int × Int × Mk.Call × Mk.Call) (fun p => ⟨[(2, .ptr 2 (Lens.id (α := Mk.Call))), (4, .val (p.2.1)), (5, .ptr 5 (Lens.id (α := Mk.Call))), (44, .val ((p.2.2.1).map RP.mk : List (RP b))), (45, .val (p.2.2.2.1)), (46, .val (p.2.2.2.2.1))], [(2, .var (p.2.2.2.2.2.1) []), (5, .var (p.2.2.2.2.2.2) []), (80005, .pin 5 b sv)]⟩) (fun p => text_ReadCall_l2 k16 p.1 (p.2.1) (p.2.2.1) (p.2.2.2.1) (p.2.2.2.2.1) (p.2.2.2.2.2.1) (p.2.2.2.2.2.2) = some r) (fun p => p.1) (((v13.length : Int) - (0 : Int)).toNat + 1, x4_k2, v13, (v13.length : Int), (0 : Int), y2_k2, y5_k2) hφ (j6 rfl rfl rfl rfl rfl rfl) (j3 rfl rfl rfl) ?_
     rintro ⟨m17, x4_m17, x44_m17, x45_m17, x46_m17, y2_m17, y5_m17⟩ (hφ : text_ReadCall_l2 k16 m17 x4_m17 x44_m17 x45_m17 x46_m17 y2_m17 y5_m17 = some r)
     obtain _ | m17 := m17
     ·exact (none_no hφ).elim
     rw [text_ReadCall_l2.eq_2] at hφ
     refine Q0 (σ' := ⟨[(2, _), (4, .val (x4_m17)), (5, _), (44, .val ((x44_m17).map RP.mk : List (RP b))), (45, .val (x45_m17)), (46, .val (x46_m17))], [(2, .var (y2_m17) []), (5, .var (y5_m17) []), (80005, _)]⟩) (j6 rfl rfl rfl rfl rfl rfl) (j3 rfl rfl rfl) ?_
     refine Q2 (Q1 ?_)
     refine O5 (ox_lss .tmp .tmp) (.app (.one rfl) (.one rfl)) .nil rfl <| O1 <| Q0 (σ' := ⟨[(2, _), (4, _), (5, _), (44, _), (45, _), (46, _), (47, .val (decide (x46_m17 < x45_m17)))], [(2, _), (5, _), (80005, _)]⟩) (j7 rfl rfl rfl rfl rfl rfl rfl) (j3 rfl rfl rfl) ?_
     refine Q2 ?_
     refine Q3 _ rfl (fun hc18 => ?_) (fun hc18 => ?_)
     ·replace hφ := if_then hφ hc18
      refine Q0 (σ' := ⟨[(2, _), (4, _), (5, _), (44, _), (45, _), (46, _)], [(2, _), (5, _), (80005, _)]⟩) (j6 rfl rfl rfl rfl rfl rfl) (j3 rfl rfl rfl) ?_
      refine Q4 ?_
      refine Q2 ?_
      refine PT.block ?_
      refine Q2 ?_
      obtain ⟨hb19, hφ⟩ := G_some hφ
      refine Q1 ?_
      refine O5 (ox0 .tmp) (.one rfl) .nil rfl <| O5 (ox_ixRP (s41 (b := b)) .tmp .tmp hb19.1 hb19.2) (.app (.one rfl) (.one rfl)) .nil rfl <| O5 (ox_load_elem t44) (.one rfl) .nil rfl <| O5 (ox1 .tmp) (.one rfl) .nil rfl <| O5 (ox1 .tmp) (.one rfl) .nil rfl <| O1 <| Q0 (σ' := ⟨[(2, _), (4, _), (5, _), (9, .val (x46_m17)), (10, _), (44, _), (45, _), (46, _)], [(2, _), (5, _), (80005, _)]⟩) (j8 rfl rfl rfl rfl rfl rfl rfl rfl) (j3 rfl rfl rfl) ?_
      refine Q2 ?_
      obtain ⟨hb20, hφ⟩ := G_some hφ
      obtain ⟨hb21, hφ⟩ := G_some hφ
      obtain ⟨v22, hv22, hφ⟩ := B_some hφ
      refine Q1 ?_
      refine O5 (ox0 .tmp) (.one rfl) .nil rfl <| O5 (ox0 .tmp) (.one rfl) .nil rfl <| O5 (ox_add .int .tmp hb20) (.app .nil (.one rfl)) .nil rfl <| O5 (ox_ix s38 .tmp .tmp hb21.1 hb21.2) (.app (.one rfl) (.one rfl)) .nil rfl <| O5 (ox_load_elem t9) (.one rfl) .nil rfl ?_
      refine Ops.putW rfl rfl (ox_callW keepG hw0 hG0 (c_strconv_Atoi hv22) (.cons .tmp .nil)) (.app (.one rfl) .nil) .nil rfl ?_
      refine O5 (ox0 .tmp) (.one rfl) .nil rfl <| O5 (ox7 rfl) (.one rfl) .nil rfl <| O5 (ox7 rfl) (.one rfl) .nil rfl <| O5 (ox1 .tmp) (.one rfl) .nil rfl <| O5 (ox1 .tmp) (.one rfl) .nil rfl <| O1 <| Q0 (σ' := ⟨[(2, _), (4, _), (5, _), (9, _), (10, _), (11, .val (v22.1)), (12, .val (v22.2)), (44, _), (45, _), (46, _)], [(2, _), (5, _), (80005, _)]⟩) (j10 rfl rfl rfl rfl rfl rfl rfl rfl rfl rfl) (j3 rfl rfl rfl) ?_
      refine Q2 (Q2 ?_)
      obtain ⟨v23, hv23, hφ⟩ := B_some hφ
      obtain ⟨hb24, hφ⟩ := G_some hφ
      obtain ⟨hb25, hφ⟩ := G_some hφ
      refine Q8 hMixed (
        .cons (S5 (ox0 .tmp)) ⟨.one rfl, .nil⟩ (by kernel_rfl) rfl <|
        .cons (S5 (ox_neqEr i46 .tmp)) ⟨.one rfl, .nil⟩ (by kernel_rfl) rfl <|
        .cons (S5 (ox0 .tmp)) ⟨.one rfl, .nil⟩ (by kernel_rfl) rfl <|
        .cons (S3 rfl rfl rfl Grd.plain _ (by first | exact Iff.rfl | (simp; done) | (simp; intros; exact Iff.rfl)) (.plain .nil) (fun hG => (ox0 .tmp))) ⟨(.cons rfl (j1 rfl)), .nil⟩ (by kernel_rfl) rfl <|
        .consW (StepW.guard rfl rfl rfl Grd.plain _ (by first | exact Iff.rfl | (simp; done) | (simp; intros; exact Iff.rfl)) (.cond (fun h => h) .nil) (fun hG => (ox_callW keepG hw0 hG0 (c_strconv_Itoa (Cn_on hv23 hG)) (.cons .tmp .nil)))) ⟨(.cons rfl (j1 rfl)), .nil⟩ (by kernel_rfl) rfl <|
        .cons (S3 rfl rfl rfl Grd.plain _ (by first | exact Iff.rfl | (simp; done) | (simp; intros; exact Iff.rfl)) (.plain .nil) (fun hG => (ox0 .tmp))) ⟨(.cons rfl (j1 rfl)), .nil⟩ (by kernel_rfl) rfl <|
        .cons (S3 rfl rfl rfl Grd.plain _ (by first | exact Iff.rfl | (simp; done) | (simp; intros; exact Iff.rfl)) (.plain .nil) (fun hG => (ox0 .tmp))) ⟨(.cons rfl (j1 rfl)), .nil⟩ (by kernel_rfl) rfl <|
        .cons (S3 rfl rfl rfl Grd.plain _ (by first | exact Iff.rfl | (simp; done) | (simp; intros; exact Iff.rfl)) (.cond (fun h => h) .nil) (fun hG => (ox_add .int .tmp (hb24 hG)))) ⟨(.cons rfl (j1 rfl)), .nil⟩ (by kernel_rfl) rfl <|
        .cons (S3 rfl rfl rfl Grd.plain _ (by first | exact Iff.rfl | (simp; done) | (simp; intros; exact Iff.rfl)) (.cond (fun h => h) (.cond (fun h => h) .nil)) (fun hG => (ox_ix s38 .tmp .tmp (hb25 hG).1 (hb25 hG).2))) ⟨(.cons rfl (j2 rfl rfl)), .nil⟩ (by kernel_rfl) rfl <|
        .cons (S3 rfl rfl rfl Grd.plain _ (by first | exact Iff.rfl | (simp; done) | (simp; intros; exact Iff.rfl)) (.cond (fun h => h) .nil) (fun hG => (ox_load_elem t9))) ⟨(.cons rfl (j1 rfl)), .nil⟩ (by kernel_rfl) rfl <|
        .cons (S3 rfl rfl rfl Grd.plain _ (by first | exact Iff.rfl | (simp; done) | (simp; intros; exact Iff.rfl)) (.cond (fun h => h) (.cond (fun h => h) .nil)) (fun hG => (ox_neqStr .tmp .tmp))) ⟨(.cons rfl (j2 rfl rfl)), .nil⟩ (by kernel_rfl) rfl <|
        .cons (S5 ox9) ⟨(j2 rfl rfl), .nil⟩ (by kernel_rfl) rfl <|
        .nil) _ [[], [0], [0, 1], [0, 1, 2], [0, 1, 2, 3], [0, 1, 2], [0, 1, 2], [0, 1, 2, 6], [0, 1, 2, 5, 6, 7], [0, 1, 2, 5, 6, 7, 8], [0, 1, 2, 3, 4, 5, 6, 7, 8, 9], [0, 1, 2, 3, 4, 5, 6, 7, 8, 9, 10]] rfl (by kernel_rfl) (by kernel_rfl) ?_
      refine Q0 (σ' := ⟨[(2, _), (4, _), (5, _), (10, _), (11, _), (44, _), (45, _), (46, _), (71, .val ((v22.2.bad || (!decide (v23 = (ix x4_m17 ((1 : Int) + x46_m17)))))))], [(2, _), (5, _), (80005, _)]⟩) (j9 rfl rfl rfl rfl rfl rfl rfl rfl rfl) (j3 rfl rfl rfl) ?_
      refine Q3 _ rfl (fun hc26 => ?_) (fun hc26 => ?_)
      ·replace hφ := if_then hφ hc26
       refine Q0 (σ' := ⟨[(2, _)], [(2, _)]⟩) (j1 rfl) (j1 rfl) ?_
       refine Q2 (Q1 ?_)
       refine O5 (oxa z23 u23 rfl Bld.nil) .nil .nil rfl <| O2 rfl rfl (ox5 t23 .tmp) (.cons rfl (.one rfl)) (.one rfl) <| O5 (ox1 .int) .nil .nil rfl <| O1 <| Q0 (σ' := ⟨[(2, _), (3, .val (2 : Int))], [(2, .var zCa [])]⟩) (j2 rfl rfl) (j1 rfl) ?_
       refine Q5 ?_
       obtain rfl := Option.some.inj hφ
       exact Q6 hw0 rfl (.cell t23 rfl rfl (.tmp rfl rfl .nil)) rfl
      ·replace hφ := if_else hφ hc26
       refine Q0 (σ' := ⟨[(2, _), (4, _), (5, _), (10, _), (11, _), (44, _), (45, _), (46, _)], [(2, _), (5, _), (80005, _)]⟩) (j8 rfl rfl rfl rfl rfl rfl rfl rfl) (j3 rfl rfl rfl) ?_
       refine Q4 ?_
       obtain ⟨hb27, hφ⟩ := G_some hφ
       obtain ⟨hb28, hφ⟩ := G_some hφ
       refine Q1 ?_
       refine O5 (ox0 .tmp) (.one rfl) .nil rfl <| O5 (ox0 .tmp) (.one rfl) .nil rfl <| O5 (ox_nilCheck_rp (x := (⟨(ix x44_m17 x46_m17)⟩ : RP b)) hb27) (.one rfl) .nil rfl <| O2 rfl rfl (ox_store_rp (id := 5) (j := 80005) (x := ⟨(ix x44_m17 x46_m17)⟩) t3 .tmp hb28) (.cons rfl (.one rfl)) (.cons rfl (.one rfl)) <| O1 <| Q0 (σ' := ⟨[(2, _), (4, _), (5, _), (44, _), (45, _), (46, _)], [(2, _), (5, .var (cset y5_m17 (ix x44_m17 x46_m17) v22.1) []), (80005, _)]⟩) (j6 rfl rfl rfl rfl rfl rfl) (j3 rfl rfl rfl) ?_
       obtain ⟨hb29, hφ⟩ := G_some hφ
       refine Q1 ?_
       refine O5 (ox_add .tmp .int hb29) (.app (.one rfl) .nil) .nil rfl <| O5 (ox0 .tmp) (.one rfl) .nil rfl <| O1 <| Q0 (σ' := ⟨[(2, _), (4, _), (5, _), (44, _), (45, _), (46, .val (x46_m17 + (1 : Int)))], [(2, _), (5, _), (80005, _)]⟩) (j6 rfl rfl rfl rfl rfl rfl) (j3 rfl rfl rfl) ?_
       exact PT.next (m17, x4_m17, x44_m17, x45_m17, (x46_m17 + (1 : Int)), y2_m17, (cset y5_m17 (ix x44_m17 x46_m17) v22.1)) hφ (Nat.lt_succ_self _) (j6 rfl rfl rfl rfl rfl rfl) (j3 rfl rfl rfl)
     ·replace hφ := if_else hφ hc18
      refine Q0 (σ' := ⟨[(2, _), (5, _)], [(2, _), (5, _)]⟩) (j2 rfl rfl) (j2 rfl rfl) ?_
      refine PT.exit ?_
      exact PT.meet (y2_m17, y5_m17) hφ (j2 rfl rfl) (j2 rfl rfl)
    ·rintro ⟨y2_k16, y5_k16⟩ hφ
     subst hk16
     refine Q0 (σ' := ⟨[(2, _), (5, _)], [(2, .var (y2_k16) []), (5, .var (y5_k16) [])]⟩) (j2 rfl rfl) (j2 rfl rfl) ?_
     refine Q2 (Q2 ?_)
     obtain ⟨v30, hv30, hφ⟩ := B_some hφ
     refine Q1 ?_
     refine O5 (ox4 t23) (.one rfl) (.one rfl) rfl <| O5 (ox_call (c_model_Wrong hv30) (.cons .tmp .nil)) (.app (.one rfl) .nil) .nil rfl <| O5 (ox1 .tmp) (.one rfl) .nil rfl <| O1 <| Q0 (σ' := ⟨[(2, _), (5, _), (13, .val (v30))], [(2, _), (5, _)]⟩) (j3 rfl rfl rfl) (j2 rfl rfl) ?_
     refine Q2 (Q1 ?_)
     refine O5 (ox0 .tmp) (.one rfl) .nil rfl <| O5 (ox_neq .tmp .int) (.app (.one rfl) .nil) .nil rfl <| O1 <| Q0 (σ' := ⟨[(2, _), (5, _), (13, _), (80, .val (!decide (v30 = (0 : Int))))], [(2, _), (5, _)]⟩) (j4 rfl rfl rfl rfl) (j2 rfl rfl) ?_
     refine Q3 _ rfl (fun hc31 => ?_) (fun hc31 => ?_)
     ·replace hφ := if_then hφ hc31
      refine Q0 (σ' := ⟨[(2, _), (13, _)], [(2, _)]⟩) (j2 rfl rfl) (j1 rfl) ?_
      refine Q2 (Q1 ?_)
      refine O5 (oxa z23 u23 rfl Bld.nil) .nil .nil rfl <| O5 (ox0 .tmp) (.one rfl) .nil rfl <| O2 rfl rfl (ox5 t23 .tmp) (.cons rfl (.one rfl)) (.one rfl) <| O5 (ox1 .tmp) (.one rfl) .nil rfl <| O1 <| Q0 (σ' := ⟨[(2, _), (3, .val (v30))], [(2, .var zCa [])]⟩) (j2 rfl rfl) (j1 rfl) ?_
      refine Q5 ?_
      obtain rfl := Option.some.inj hφ
      exact Q6 hw0 rfl (.cell t23 rfl rfl (.tmp rfl rfl .nil)) rfl
     ·replace hφ := if_else hφ hc31
      refine Q0 (σ' := ⟨[(2, _), (5, _)], [(2, _), (5, _)]⟩) (j2 rfl rfl) (j2 rfl rfl) ?_
      refine Q4 ?_
      refine Q2 (Q1 ?_)
      refine O5 (ox4 t23) (.one rfl) (.one rfl) rfl <| O2 rfl rfl (ox5 t23 .tmp) (.cons rfl (.one rfl)) (.one rfl) <| O5 (ox1 .int) .nil .nil rfl <| O1 <| Q0 (σ' := ⟨[(2, _), (3, .val (0 : Int))], [(2, .var (y5_k16) [])]⟩) (j2 rfl rfl) (j1 rfl) ?_
      refine Q5 ?_
      obtain rfl := Option.some.inj hφ
      exact Q6 hw0 rfl (.cell t23 rfl rfl (.tmp rfl rfl .nil)) rfl
theorem c_mkref1_ReadCall {a0 : ByteArray} {r : (Mk.Call × Int)} (hφ : mkref1_ReadCall a0 = some r) : FnG Go.Proofs.Tryd.prog GT 7 [.val a0] (.tup [.val r.1, .val r.2]) := by
 unfold mkref1_ReadCall at hφ
 refine FnG.mk' Go.Proofs.Tryd.func7 rfl (by decide) rfl rfl rfl (fun w0 hw0 hG0 => ?_)
 refine Q2 (Q1 ?_)
 refine O3 rfl rfl (ox_alloc (id := 2) z23) .nil .nil rfl (by kernel_rfl) <| O5 (ox1 .int) .nil .nil rfl <| O1 <| Q0 (σ' := ⟨[(0, .val (a0)), (2, _)], [(2, .var zCa [])]⟩) (j2 rfl rfl) (j1 rfl) ?_
 refine Q2 (Q1 ?_)
 refine O5 (ox1 .nilS) .nil .nil rfl <| O1 <| Q0 (σ' := ⟨[(0, _), (2, _), (4, .nilS)], [(2, _)]⟩) (j3 rfl rfl rfl) (j1 rfl) ?_
 refine Q2 (Q1 ?_)
 refine O5 (ox1 .int) .nil .nil rfl <| O1 <| Q0 (σ' := ⟨[(0, _), (2, _), (4, _), (5, .val (0 : Int))], [(2, _)]⟩) (j4 rfl rfl rfl rfl) (j1 rfl) ?_
 obtain ⟨k1, hk1, hφ⟩ := J_some hφ
 refine PT.cut (ι := Mk.Call × (List ByteArray)) (fun p => ⟨[(2, .ptr 2 (Lens.id (α := Mk.Call))), (4, .sl 1004)], [(2, .var (p.1) []), (1004, .arr 9 (p.2))]⟩) (fun p => k1 (p.1) (p.2) = some r) ?_ ?_
 ·skip
  refine Q2 ?_
  obtain ⟨hb2, hφ⟩ := G_some hφ
  refine Q1 ?_
  refine O5 (ox0 .tmp) (.one rfl) .nil rfl <| O5 (ox_len_str str9 .tmp) (.one rfl) .nil rfl <| O5 (ox_add .tmp .int hb2) (.app (.one rfl) .nil) .nil rfl <| O5 (ox0 .int) .nil .nil rfl <| O1 <| Q0 (σ' := ⟨[(0, _), (2, _), (4, _), (5, _), (19, .val ((a0.size : Int) + (1 : Int))), (20, .val (0 : Int))], [(2, _)]⟩) (j6 rfl rfl rfl rfl rfl rfl) (j1 rfl) ?_
  refine PT.block ?_
  refine PT.nilArr 1004 4 9 (ByteArray) rfl (by kernel_rfl) ?_
  refine PT.loop (ι := Nat × ByteArray × Int × Int × Int × Mk.Call × (List ByteArray)) (fun p => ⟨[(0, .val (p.2.1)), (2, .ptr 2 (Lens.id (α := Mk.Call))), (4, .sl 1004), (5, .val (p.2.2.1)), (19, .val (p.2.2.2.1)), (20, .val (p.2.2.2.2.1))], [(2, .var (p.2.2.2.2.2.1) []), (1004, .arr 9 (p.2.2.2.2.2.2))]⟩) (fun p => mkref1_ReadCall_l1 k1 p.1 (p.2.1) (p.2.2.1) (p.2.2.2.1) (p.2.2.2.2.1) (p.2.2.2.2.2.1) (p.2.2.2.2.2.2) = some r) (fun p => p.1) ((((a0.size : Int) + (1 : Int)) - (0 : Int)).toNat + 1, a0, (0 : Int), ((a0.size : Int) + (1 : Int)), (0 : Int), zCa, ([] : List ByteArray)) hφ (j6 rfl rfl rfl rfl rfl rfl) (j2 rfl rfl) ?_
  rintro ⟨m3, x0_m3, x5_m3, x19_m3, x20_m3, y2_m3, y1004_m3⟩ (hφ : mkref1_ReadCall_l1 k1 m3 x0_m3 x5_m3 x19_m3 x20_m3 y2_m3 y1004_m3 = some r)
  obtain _ | m3 := m3
  ·exact (none_no hφ).elim
  rw [mkref1_ReadCall_l1.eq_2] at hφ
  refine Q0 (σ' := ⟨[(0, .val (x0_m3)), (2, .ptr 2 (Lens.id (α := Mk.Call))), (4, .sl 1004), (5, .val (x5_m3)), (19, .val (x19_m3)), (20, .val (x20_m3))], [(2, .var (y2_m3) []), (1004, .arr 9 (y1004_m3))]⟩) (j6 rfl rfl rfl rfl rfl rfl) (j2 rfl rfl) ?_
  refine Q2 (Q1 ?_)
  refine O5 (ox_lss .tmp .tmp) (.app (.one rfl) (.one rfl)) .nil rfl <| O1 <| Q0 (σ' := ⟨[(0, _), (2, _), (4, _), (5, _), (19, _), (20, _), (21, .val (decide (x20_m3 < x19_m3)))], [(2, _), (1004, _)]⟩) (j7 rfl rfl rfl rfl rfl rfl rfl) (j2 rfl rfl) ?_
  refine Q2 ?_
  refine Q3 _ rfl (fun hc4 => ?_) (fun hc4 => ?_)
  ·replace hφ := if_then hφ hc4
   refine Q0 (σ' := ⟨[(0, _), (2, _), (4, _), (5, _), (19, _), (20, _)], [(2, _), (1004, _)]⟩) (j6 rfl rfl rfl rfl rfl rfl) (j2 rfl rfl) ?_
   refine Q4 ?_
   obtain ⟨k5, hk5, hφ⟩ := J_some hφ
   refine PT.cut (ι := ByteArray × Int × Int × Int × Mk.Call × (List ByteArray)) (fun p => ⟨[(0, .val (p.1)), (2, .ptr 2 (Lens.id (α := Mk.Call))), (4, .sl 1004), (5, .val (p.2.1)), (19, .val (p.2.2.1)), (20, .val (p.2.2.2.1))], [(2, .var (p.2.2.2.2.1) []), (1004, .arr 9 (p.2.2.2.2.2))]⟩) (fun p => k5 (p.1) (p.2.1) (p.2.2.1) (p.2.2.2.1) (p.2.2.2.2.1) (p.2.2.2.2.2) = some r) ?_ ?_
   ·skip
    refine PT.block ?_
    refine Q2 (Q1 ?_)
    refine O5 (ox0 .tmp) (.one rfl) .nil rfl <| O5 (ox1 .tmp) (.one rfl) .nil rfl <| O1 <| Q0 (σ' := ⟨[(0, _), (2, _), (4, _), (5, _), (6, .val (x20_m3)), (19, _), (20, _)], [(2, _), (1004, _)]⟩) (j7 rfl rfl rfl rfl rfl rfl rfl) (j2 rfl rfl) ?_
    refine Q2 ?_
    obtain ⟨hb6, hφ⟩ := G_some hφ
    refine Q1 ?_
    refine O5 (ox0 .tmp) (.one rfl) .nil rfl <| O5 (ox0 .tmp) (.one rfl) .nil rfl <| O5 (ox_len_str str9 .tmp) (.one rfl) .nil rfl <| O5 (ox_eql .tmp .tmp) (.app (.one rfl) (.one rfl)) .nil rfl <| O5 (ox0 .tmp) (.one rfl) .nil rfl <| O4 rfl rfl rfl rfl (.plain .nil) (fun hG => (ox0 .tmp)) (j1 rfl) .nil rfl ?_
    refine O4 rfl rfl rfl rfl (.plain .nil) (fun hG => (ox0 .tmp)) (j1 rfl) .nil rfl <| O4 rfl rfl rfl rfl (.cond (fun h => h) (.cond (fun h => h) .nil)) (fun hG => (ox_strIx str9 .tmp .tmp (hb6 hG).1 (hb6 hG).2)) (j2 rfl rfl) .nil rfl <| O4 rfl rfl rfl rfl (.cond (fun h => h) .nil) (fun hG => (ox_eqlU8 .tmp (.u8 (n := 32)))) (j1 rfl) .nil rfl <| O5 ox9 (j2 rfl rfl) .nil rfl <| O1 <| Q0 (σ' := ⟨[(0, _), (2, _), (4, _), (5, _), (6, _), (19, _), (20, _), (32, .val ((decide (x20_m3 = (x0_m3.size : Int))) || (decide ((bix x0_m3 x20_m3) = (UInt8.ofNat 32)))))], [(2, _), (1004, _)]⟩) (j8 rfl rfl rfl rfl rfl rfl rfl rfl) (j2 rfl rfl) ?_
    refine Q3 _ rfl (fun hc7 => ?_) (fun hc7 => ?_)
    ·replace hφ := if_then hφ hc7
     refine Q0 (σ' := ⟨[(0, _), (2, _), (4, _), (5, _), (6, _), (19, _), (20, _)], [(2, _), (1004, _)]⟩) (j7 rfl rfl rfl rfl rfl rfl rfl) (j2 rfl rfl) ?_
     refine Q2 ?_
     obtain ⟨hb8, hφ⟩ := G_some hφ
     obtain ⟨hb9, hφ⟩ := G_some hφ
     refine Q1 ?_
     refine O5 (ox0 .tmp) (.one rfl) .nil rfl <| O5 (ox0 .tmp) (.one rfl) .nil rfl <| O5 (ox0 .tmp) (.one rfl) .nil rfl <| O5 (ox0 .tmp) (.one rfl) .nil rfl <| O5 (ox_strSl str9 .tmp .tmp .tmp hb8.1 hb8.2.1 hb8.2.2) (.app (.one rfl) (.app (.one rfl) (.one rfl))) .nil rfl <| O5 (ox_buildSlice_val s38 z9 (.cons .tmp Parts.nil) rfl (by decide)) (.app (.one rfl) .nil) .nil rfl ?_
     refine Ops.putK [4, 33] rfl rfl (ox_append a38 .tmp .tmp hb9.1 hb9.2) (.app (.one rfl) (.one rfl)) (.one rfl) rfl (by kernel_rfl) ?_
     refine O5 (ox1 .tmp) (.one rfl) .nil rfl <| O1 <| Q0 (σ' := ⟨[(0, _), (2, _), (4, _), (6, _), (19, _), (20, _)], [(2, _), (1004, .arr 9 (y1004_m3 ++ ([(bsub x0_m3 x5_m3 x20_m3)] : List ByteArray)))]⟩) (j6 rfl rfl rfl rfl rfl rfl) (j2 rfl rfl) ?_
     obtain ⟨hb10, hφ⟩ := G_some hφ
     refine Q1 ?_
     refine O5 (ox0 .tmp) (.one rfl) .nil rfl <| O5 (ox_add .tmp .int hb10) (.app (.one rfl) .nil) .nil rfl <| O5 (ox1 .tmp) (.one rfl) .nil rfl <| O1 <| Q0 (σ' := ⟨[(0, _), (2, _), (4, _), (5, .val (x20_m3 + (1 : Int))), (19, _), (20, _)], [(2, _), (1004, _)]⟩) (j6 rfl rfl rfl rfl rfl rfl) (j2 rfl rfl) ?_
     exact PT.meet (x0_m3, (x20_m3 + (1 : Int)), x19_m3, x20_m3, y2_m3, (y1004_m3 ++ ([(bsub x0_m3 x5_m3 x20_m3)] : List ByteArray))) hφ (j6 rfl rfl rfl rfl rfl rfl) (j2 rfl rfl)
    ·replace hφ := if_else hφ hc7
     refine Q0 (σ' := ⟨[(0, _), (2, _), (4, _), (5, _), (19, _), (20, _)], [(2, _), (1004, _)]⟩) (j6 rfl rfl rfl rfl rfl rfl) (j2 rfl rfl) ?_
     refine Q4 ?_
     exact PT.meet (x0_m3, x5_m3, x19_m3, x20_m3, y2_m3, y1004_m3) hφ (j6 rfl rfl rfl rfl rfl rfl) (j2 rfl rfl)
   ·rintro ⟨x0_k5, x5_k5, x19_k5, x20_k5, y2_k5, y1004_k5⟩ hφ
    subst hk5
    refine Q0 (σ' := ⟨[(0, .val (x0_k5)), (2, _), (4, _), (5, .val (x5_k5)), (19, .val (x19_k5)), (20, .val (x20_k5))], [(2, .var (y2_k5) []), (1004, .arr 9 (y1004_k5))]⟩) (j6 rfl rfl rfl rfl rfl rfl) (j2 rfl rfl) ?_
    obtain ⟨hb11, hφ⟩ := G_some hφ
    refine Q1 ?_
    refine O5 (ox_add .tmp .int hb11) (.app (.one rfl) .nil) .nil rfl <| O5 (ox0 .tmp) (.one rfl) .nil rfl <| O1 <| Q0 (σ' := ⟨[(0, _), (2, _), (4, _), (5, _), (19, _), (20, .val (x20_k5 + (1 : Int)))], [(2, _), (1004, _)]⟩) (j6 rfl rfl rfl rfl rfl rfl) (j2 rfl rfl) ?_
    exact PT.next (m3, x0_k5, x5_k5, x19_k5, (x20_k5 + (1 : Int)), y2_k5, y1004_k5) hφ (Nat.lt_succ_self _) (j6 rfl rfl rfl rfl rfl rfl) (j2 rfl rfl)
  ·replace hφ := if_else hφ hc4
   refine Q0 (σ' := ⟨[(2, _), (4, _)], [(2, _), (1004, _)]⟩) (j2 rfl rfl) (j2 rfl rfl) ?_
   refine PT.exit ?_
   exact PT.meet (y2_m3, y1004_m3) hφ (j2 rfl rfl) (j2 rfl rfl)
 ·rintro ⟨y2_k1, y1004_k1⟩ hφ
  subst hk1
  refine Q0 (σ' := ⟨[(2, .ptr 2 (Lens.id (α := Mk.Call))), (4, .sl 1004)], [(2, .var (y2_k1) []), (1004, .arr 9 (y1004_k1))]⟩) (j2 rfl rfl) (j2 rfl rfl) ?_
  refine Q2 ?_
  obtain ⟨v12, hv12, hφ⟩ := B_some hφ
  refine Q1 ?_
  refine O5 (ox_call (c_mkref1_Words hv12) .nil) .nil .nil rfl <| O5 (ox0 .tmp) (.one rfl) .nil rfl <| O5 (ox7 rfl) (.one rfl) .nil rfl <| O5 (ox7 rfl) (.one rfl) .nil rfl <| O5 (ox1 .tmp) (.one rfl) .nil rfl <| O5 (ox1 .tmp) (.one rfl) .nil rfl <| O1 <| Q0 (σ' := ⟨[(2, _), (4, _), (7, .val (v12.1)), (8, .val (v12.2))], [(2, _), (1004, _)]⟩) (j4 rfl rfl rfl rfl) (j2 rfl rfl) ?_
  refine Q2 (Q1 ?_)
  refine O5 (oxa z23 u23 rfl Bld.nil) .nil .nil rfl <| O3 rfl rfl (ox_alloc (id := 9) z23) .nil .nil rfl (by kernel_rfl) <| O2 rfl rfl (ox5 t23 .tmp) (.cons rfl (.one rfl)) (.one rfl) <| O1 <| Q0 (σ' := ⟨[(2, _), (4, _), (7, _), (8, _), (9, _)], [(2, _), (9, .var zCa []), (1004, _)]⟩) (j5 rfl rfl rfl rfl rfl) (j3 rfl rfl rfl) ?_
  obtain ⟨k13, hk13, hφ⟩ := J_some hφ
  refine PT.cut (ι := (List Int) × Mk.Call × Mk.Call × (List ByteArray)) (fun p => ⟨[(2, .ptr 2 (Lens.id (α := Mk.Call))), (4, .sl 1004), (8, .val (p.1)), (9, .ptr 9 (Lens.id (α := Mk.Call)))], [(2, .var (p.2.1) []), (9, .var (p.2.2.1) []), (1004, .arr 9 (p.2.2.2))]⟩) (fun p => k13 (p.1) (p.2.1) (p.2.2.1) (p.2.2.2) = some r) ?_ ?_
  ·skip
   refine Q2 (Q1 ?_)
   refine O5 (ox0 .tmp) (.one rfl) .nil rfl <| O5 (ox_len s38 .tmp) (.one rfl) .nil rfl <| O5 (ox0 .int) .nil .nil rfl <| O1 <| Q0 (σ' := ⟨[(2, _), (4, _), (8, _), (9, _), (48, .val (v12.1)), (49, .val (v12.1.length : Int)), (50, .val (0 : Int))], [(2, _), (9, _), (1004, _)]⟩) (j7 rfl rfl rfl rfl rfl rfl rfl) (j3 rfl rfl rfl) ?_
   refine PT.block ?_
   refine PT.loop (ι := Nat × (List Int) × (List ByteArray) × Int × Int × Mk.Call × Mk.Call × (List ByteArray)) (fun p => ⟨[(2, .ptr 2 (Lens.id (α := Mk.Call))), (4, .sl 1004), (8, .val (p.2.1)), (9, .ptr 9 (Lens.id (α := Mk.Call))), (48, .val (p.2.2.1)), (49, .val (p.2.2.2.1)), (50, .val (p.2.2.2.2.1))], [(2, .var (p.2.2.2.2.2.1) []), (9, .var (p.2.2.2.2.2.2.1) []), (1004, .arr 9 (p.2.2.2.2.2.2.2))]⟩) (fun p => mkref1_ReadCall_l2 k13 p.1 (p.2.1) (p.2.2.1) (p.2.2.2.1) (p.2.2.2.2.1) (p.2.2.2.2.2.1) (p.2.2.2.2.2.2.1) (p.2.2.2.2.2.2.2) = some r) (fun p => p.1) (((v12.1.length : Int) - (0 : Int)).toNat + 1, v12.2, v12.1, (v12.1.length : Int), (0 : Int), y2_k1, zCa, y1004_k1) hφ (j7 rfl rfl rfl rfl rfl rfl rfl) (j3 rfl rfl rfl) ?_
   rintro ⟨m14, x8_m14, x48_m14, x49_m14, x50_m14, y2_m14, y9_m14, y1004_m14⟩ (hφ : mkref1_ReadCall_l2 k13 m14 x8_m14 x48_m14 x49_m14 x50_m14 y2_m14 y9_m14 y1004_m14 = some r)
   obtain _ | m14 := m14
   ·exact (none_no hφ).elim
   rw [mkref1_ReadCall_l2.eq_2] at hφ
   refine Q0 (σ' := ⟨[(2, _), (4, _), (8, .val (x8_m14)), (9, .ptr 9 (Lens.id (α := Mk.Call))), (48, .val (x48_m14)), (49, .val (x49_m14)), (50, .val (x50_m14))], [(2, .var (y2_m14) []), (9, .var (y9_m14) []), (1004, .arr 9 (y1004_m14))]⟩) (j7 rfl rfl rfl rfl rfl rfl rfl) (j3 rfl rfl rfl) ?_
   refine Q2 (Q1 ?_)
   refine O5 (ox_lss .tmp .tmp) (.app (.one rfl) (.one rfl)) .nil rfl <| O1 <| Q0 (σ' := ⟨[(2, _), (4, _), (8, _), (9, _), (48, _), (49, _), (50, _), (51, .val (decide (x50_m14 < x49_m14)))], [(2, _), (9, _), (1004, _)]⟩) (j8 rfl rfl rfl rfl rfl rfl rfl rfl) (j3 rfl rfl rfl) ?_
   refine Q2 ?_
   refine Q3 _ rfl (fun hc15 => ?_) (fun hc15 => ?_)
   ·replace hφ := if_then hφ hc15
    refine Q0 (σ' := ⟨[(2, _), (4, _), (8, _), (9, _), (48, _), (49, _), (50, _)], [(2, _), (9, _), (1004, _)]⟩) (j7 rfl rfl rfl rfl rfl rfl rfl) (j3 rfl rfl rfl) ?_
    refine Q4 ?_
    obtain ⟨k16, hk16, hφ⟩ := J_some hφ
    refine PT.cut (ι := (List Int) × (List ByteArray) × Int × Int × Mk.Call × Mk.Call × (List ByteArray)) (fun p => ⟨[(2, .ptr 2 (Lens.id (α := Mk.Call))), (4, .sl 1004), (8, .val (p.1)), (9, .ptr 9 (Lens.id (α := Mk.Call))), (48, .val (p.2.1)), (49, .val (p.2.2.1)), (50, .val (p.2.2.2.1))], [(2, .var (p.2.2.2.2.1) []), (9, .var (p.2.2.2.2.2.1) []), (1004, .arr 9 (p.2.2.2.2.2.2))]⟩) (fun p => k16 (p.1) (p.2.1) (p.2.2.1) (p.2.2.2.1) (p.2.2.2.2.1) (p.2.2.2.2.2.1) (p.2.2.2.2.2.2) = some r) ?_ ?_
    ·skip
     refine PT.block ?_
     refine Q2 ?_
     obtain ⟨hb17, hφ⟩ := G_some hφ
     refine Q1 ?_
     refine O5 (ox0 .tmp) (.one rfl) .nil rfl <| O5 (ox_ix s38 .tmp .tmp hb17.1 hb17.2) (.app (.one rfl) (.one rfl)) .nil rfl <| O5 (ox_load_elem t9) (.one rfl) .nil rfl <| O5 (ox1 .tmp) (.one rfl) .nil rfl <| O5 (ox1 .tmp) (.one rfl) .nil rfl <| O1 <| Q0 (σ' := ⟨[(2, _), (4, _), (8, _), (9, _), (10, .val (x50_m14)), (11, .val (ix x48_m14 x50_m14)), (48, _), (49, _), (50, _)], [(2, _), (9, _), (1004, _)]⟩) (j9 rfl rfl rfl rfl rfl rfl rfl rfl rfl) (j3 rfl rfl rfl) ?_
     refine Q2 ?_
     obtain ⟨hb18, hφ⟩ := G_some hφ
     refine Q1 ?_
     refine O5 (ox0 .tmp) (.one rfl) .nil rfl <| O5 (ox_gtr .tmp .int) (.app (.one rfl) .nil) .nil rfl <| O5 (ox0 .tmp) (.one rfl) .nil rfl <| O4 rfl rfl rfl rfl (.plain .nil) (fun hG => (ox0 .tmp)) (j1 rfl) .nil rfl <| O4 rfl rfl rfl rfl (.plain .nil) (fun hG => (ox0 .tmp)) (j1 rfl) .nil rfl <| O4 rfl rfl rfl rfl (.cond (fun h => h) .nil) (fun hG => (ox_index_arr s38 .tmp .int (hb18 hG).1 (hb18 hG).2)) (j1 rfl) (.one rfl) rfl ?_
     refine O4 rfl rfl rfl rfl (.cond (fun h => h) .nil) (fun hG => (ox_load_ax t9 (hb18 hG))) (j1 rfl) (.one rfl) rfl <| O4 rfl rfl rfl rfl (.cond (fun h => h) (.cond (fun h => h) .nil)) (fun hG => (ox_eqlStr .tmp .tmp)) (j2 rfl rfl) .nil rfl <| O5 ox8 (j2 rfl rfl) .nil rfl <| O1 <| Q0 (σ' := ⟨[(2, _), (4, _), (8, _), (9, _), (10, _), (48, _), (49, _), (50, _), (63, .val (((decide ((0 : Int) < x50_m14)) && (decide ((ix x48_m14 x50_m14) = (ix y1004_m14 (0 : Int)))))))], [(2, _), (9, _), (1004, _)]⟩) (j9 rfl rfl rfl rfl rfl rfl rfl rfl rfl) (j3 rfl rfl rfl) ?_
     refine Q3 _ rfl (fun hc19 => ?_) (fun hc19 => ?_)
     ·replace hφ := if_then hφ hc19
      refine Q0 (σ' := ⟨[(2, _), (4, _), (8, _), (9, _), (10, _), (48, _), (49, _), (50, _)], [(2, _), (9, _), (1004, _)]⟩) (j8 rfl rfl rfl rfl rfl rfl rfl rfl) (j3 rfl rfl rfl) ?_
      refine Q1 ?_
      refine O5 (ox0 .tmp) (.one rfl) .nil rfl <| O5 (ox3 Call_Kind f23_0) (.one rfl) .nil rfl <| O2 rfl rfl (ox_store_fld t3 .tmp) (.cons rfl (.one rfl)) (.one rfl) <| O1 <| Q0 (σ' := ⟨[(2, _), (4, _), (8, _), (9, _), (48, _), (49, _), (50, _)], [(2, _), (9, .var ({ y9_m14 with Kind := x50_m14 }) []), (1004, _)]⟩) (j7 rfl rfl rfl rfl rfl rfl rfl) (j3 rfl rfl rfl) ?_
      exact PT.meet (x8_m14, x48_m14, x49_m14, x50_m14, y2_m14, { y9_m14 with Kind := x50_m14 }, y1004_m14) hφ (j7 rfl rfl rfl rfl rfl rfl rfl) (j3 rfl rfl rfl)
     ·replace hφ := if_else hφ hc19
      refine Q0 (σ' := ⟨[(2, _), (4, _), (8, _), (9, _), (48, _), (49, _), (50, _)], [(2, _), (9, _), (1004, _)]⟩) (j7 rfl rfl rfl rfl rfl rfl rfl) (j3 rfl rfl rfl) ?_
      refine Q4 ?_
      exact PT.meet (x8_m14, x48_m14, x49_m14, x50_m14, y2_m14, y9_m14, y1004_m14) hφ (j7 rfl rfl rfl rfl rfl rfl rfl) (j3 rfl rfl rfl)
    ·rintro ⟨x8_k16, x48_k16, x49_k16, x50_k16, y2_k16, y9_k16, y1004_k16⟩ hφ
     subst hk16
     refine Q0 (σ' := ⟨[(2, _), (4, _), (8, .val (x8_k16)), (9, _), (48, .val (x48_k16)), (49, .val (x49_k16)), (50, .val (x50_k16))], [(2, .var (y2_k16) []), (9, .var (y9_k16) []), (1004, .arr 9 (y1004_k16))]⟩) (j7 rfl rfl rfl rfl rfl rfl rfl) (j3 rfl rfl rfl) ?_
     obtain ⟨hb20, hφ⟩ := G_some hφ
     refine Q1 ?_
     refine O5 (ox_add .tmp .int hb20) (.app (.one rfl) .nil) .nil rfl <| O5 (ox0 .tmp) (.one rfl) .nil rfl <| O1 <| Q0 (σ' := ⟨[(2, _), (4, _), (8, _), (9, _), (48, _), (49, _), (50, .val (x50_k16 + (1 : Int)))], [(2, _), (9, _), (1004, _)]⟩) (j7 rfl rfl rfl rfl rfl rfl rfl) (j3 rfl rfl rfl) ?_
     exact PT.next (m14, x8_k16, x48_k16, x49_k16, (x50_k16 + (1 : Int)), y2_k16, y9_k16, y1004_k16) hφ (Nat.lt_succ_self _) (j7 rfl rfl rfl rfl rfl rfl rfl) (j3 rfl rfl rfl)
   ·replace hφ := if_else hφ hc15
    refine Q0 (σ' := ⟨[(2, _), (4, _), (8, _), (9, _)], [(2, _), (9, _), (1004, _)]⟩) (j4 rfl rfl rfl rfl) (j3 rfl rfl rfl) ?_
    refine PT.exit ?_
    exact PT.meet (x8_m14, y2_m14, y9_m14, y1004_m14) hφ (j4 rfl rfl rfl rfl) (j3 rfl rfl rfl)
  ·rintro ⟨x8_k13, y2_k13, y9_k13, y1004_k13⟩ hφ
   subst hk13
   refine Q0 (σ' := ⟨[(2, _), (4, _), (8, .val (x8_k13)), (9, .ptr 9 (Lens.id (α := Mk.Call)))], [(2, .var (y2_k13) []), (9, .var (y9_k13) []), (1004, .arr 9 (y1004_k13))]⟩) (j4 rfl rfl rfl rfl) (j3 rfl rfl rfl) ?_
   refine Q2 ?_
   refine Q2 (Q1 ?_)
   refine O5 (ox3 Call_Kind f23_0) (.one rfl) .nil rfl <| O5 (ox2 t3) (.one rfl) (.one rfl) rfl <| O5 (ox_eql .tmp .int) (.app (.one rfl) .nil) .nil rfl <| O1 <| Q0 (σ' := ⟨[(2, _), (4, _), (8, _), (9, _), (69, .val (decide (y9_k13.Kind = (0 : Int))))], [(2, _), (9, _), (1004, _)]⟩) (j5 rfl rfl rfl rfl rfl) (j3 rfl rfl rfl) ?_
   refine Q3 _ rfl (fun hc21 => ?_) (fun hc21 => ?_)
   ·replace hφ := if_then hφ hc21
    refine Q0 (σ' := ⟨[(2, _)], [(2, _)]⟩) (j1 rfl) (j1 rfl) ?_
    refine Q2 (Q1 ?_)
    refine O5 (oxa z23 u23 rfl Bld.nil) .nil .nil rfl <| O2 rfl rfl (ox5 t23 .tmp) (.cons rfl (.one rfl)) (.one rfl) <| O5 (ox1 .int) .nil .nil rfl <| O1 <| Q0 (σ' := ⟨[(2, _), (3, .val (1 : Int))], [(2, .var zCa [])]⟩) (j2 rfl rfl) (j1 rfl) ?_
    refine Q5 ?_
    obtain rfl := Option.some.inj hφ
    exact Q6 hw0 rfl (.cell t23 rfl rfl (.tmp rfl rfl .nil)) rfl
   ·replace hφ := if_else hφ hc21
    refine Q0 (σ' := ⟨[(2, _), (4, _), (8, _), (9, _)], [(2, _), (9, _), (1004, _)]⟩) (j4 rfl rfl rfl rfl) (j3 rfl rfl rfl) ?_
    refine Q4 ?_
    refine Q2 (Q2 ?_)
    obtain ⟨hb22, hφ⟩ := G_some hφ
    obtain ⟨hb23, hφ⟩ := G_some hφ
    refine Q1 ?_
    refine O5 (ox0 .tmp) (.one rfl) .nil rfl <| O5 (ox_len_arr s38 .tmp) (.one rfl) (.one rfl) rfl <| O5 (ox0 .tmp) (.one rfl) .nil rfl <| O5 (ox3 Call_Kind f23_0) (.one rfl) .nil rfl <| O5 (ox2 t3) (.one rfl) (.one rfl) rfl <| O5 (ox_ix s50 .tmp .tmp hb22.1 hb22.2) (.app (.one rfl) (.one rfl)) .nil rfl ?_
    refine O5 (ox_load_elem t3) (.one rfl) .nil rfl <| O5 (ox_add .tmp .int hb23) (.app (.one rfl) .nil) .nil rfl <| O5 (ox_neq .tmp .tmp) (.app (.one rfl) (.one rfl)) .nil rfl <| O1 <| Q0 (σ' := ⟨[(2, _), (4, _), (9, _), (79, .val (!decide ((y1004_k13.length : Int) = ((ix x8_k13 y9_k13.Kind) + (1 : Int)))))], [(2, _), (9, _), (1004, _)]⟩) (j4 rfl rfl rfl rfl) (j3 rfl rfl rfl) ?_
    refine Q3 _ rfl (fun hc24 => ?_) (fun hc24 => ?_)
    ·replace hφ := if_then hφ hc24
     refine Q0 (σ' := ⟨[(2, _)], [(2, _)]⟩) (j1 rfl) (j1 rfl) ?_
     refine Q2 (Q1 ?_)
     refine O5 (oxa z23 u23 rfl Bld.nil) .nil .nil rfl <| O2 rfl rfl (ox5 t23 .tmp) (.cons rfl (.one rfl)) (.one rfl) <| O5 (ox1 .int) .nil .nil rfl <| O1 <| Q0 (σ' := ⟨[(2, _), (3, .val (2 : Int))], [(2, .var zCa [])]⟩) (j2 rfl rfl) (j1 rfl) ?_
     refine Q5 ?_
     obtain rfl := Option.some.inj hφ
     exact Q6 hw0 rfl (.cell t23 rfl rfl (.tmp rfl rfl .nil)) rfl
    ·replace hφ := if_else hφ hc24
     refine Q0 (σ' := ⟨[(2, _), (4, _), (9, _)], [(2, _), (9, _), (1004, _)]⟩) (j3 rfl rfl rfl) (j3 rfl rfl rfl) ?_
     refine Q4 ?_
     obtain ⟨k25, hk25, hφ⟩ := J_some hφ
     refine PT.cut (ι := Mk.Call × Mk.Call) (fun p => ⟨[(2, .ptr 2 (Lens.id (α := Mk.Call))), (9, .ptr 9 (Lens.id (α := Mk.Call)))], [(2, .var (p.1) []), (9, .var (p.2) [])]⟩) (fun p => k25 (p.1) (p.2) = some r) ?_ ?_
     ·skip
      refine Q2 ?_
      refine PT.freeze 1004 [4] rfl (j1 rfl) ?_
      obtain ⟨hb26, hφ⟩ := G_some hφ
      refine Q1 ?_
      refine O5 (ox0 .tmp) (.one rfl) .nil rfl <| O5 (ox_slice s38 .tmp (.some .int) .none hb26.1 hb26.2.1 hb26.2.2) (.app (.one rfl) (.app .nil .nil)) .nil rfl <| O5 (ox_len s38 .tmp) (.one rfl) .nil rfl <| O5 (ox0 .int) .nil .nil rfl <| O1 <| Q0 (σ' := ⟨[(2, _), (9, _), (82, .val (sub y1004_k13 (1 : Int) (y1004_k13.length : Int))), (83, .val ((sub y1004_k13 (1 : Int) (y1004_k13.length : Int)).length : Int)), (84, .val (0 : Int))], [(2, _), (9, _)]⟩) (j5 rfl rfl rfl rfl rfl) (j2 rfl rfl) ?_
      refine PT.block ?_
      refine PT.loop (ι := Nat × (List ByteArray) × Int × Int × Mk.Call × Mk.Call) (fun p => ⟨[(2, .ptr 2 (Lens.id (α := Mk.Call))), (9, .ptr 9 (Lens.id (α := Mk.Call))), (82, .val (p.2.1)), (83, .val (p.2.2.1)), (84, .val (p.2.2.2.1))], [(2, .var (p.2.2.2.2.1) []), (9, .var (p.2.2.2.2.2) [])]⟩) (fun p => mkref1_ReadCall_l3 k25 p.1 (p.2.1) (p.2.2.1) (p.2.2.2.1) (p.2.2.2.2.1) (p.2.2.2.2.2) = some r) (fun p => p.1) ((((sub y1004_k13 (1 : Int) (y1004_k13.length : Int)).length : Int) - (0 : Int)).toNat + 1, (sub y1004_k13 (1 : Int) (y1004_k13.length : Int)), ((sub y1004_k13 (1 : Int) (y1004_k13.length : Int)).length : Int), (0 : Int), y2_k13, y9_k13) hφ (j5 rfl rfl rfl rfl rfl) (j2 rfl rfl) ?_
      rintro ⟨m27, x82_m27, x83_m27, x84_m27, y2_m27, y9_m27⟩ (hφ : mkref1_ReadCall_l3 k25 m27 x82_m27 x83_m27 x84_m27 y2_m27 y9_m27 = some r)
      obtain _ | m27 := m27
      ·exact (none_no hφ).elim
      rw [mkref1_ReadCall_l3.eq_2] at hφ
      refine Q0 (σ' := ⟨[(2, _), (9, _), (82, .val (x82_m27)), (83, .val (x83_m27)), (84, .val (x84_m27))], [(2, .var (y2_m27) []), (9, .var (y9_m27) [])]⟩) (j5 rfl rfl rfl rfl rfl) (j2 rfl rfl) ?_
      refine Q2 (Q1 ?_)
      refine O5 (ox_lss .tmp .tmp) (.app (.one rfl) (.one rfl)) .nil rfl <| O1 <| Q0 (σ' := ⟨[(2, _), (9, _), (82, _), (83, _), (84, _), (85, .val (decide (x84_m27 < x83_m27)))], [(2, _), (9, _)]⟩) (j6 rfl rfl rfl rfl rfl rfl) (j2 rfl rfl) ?_
      refine Q2 ?_
      refine Q3 _ rfl (fun hc28 => ?_) (fun hc28 => ?_)
      ·replace hφ := if_then hφ hc28
       refine Q0 (σ' := ⟨[(2, _), (9, _), (82, _), (83, _), (84, _)], [(2, _), (9, _)]⟩) (j5 rfl rfl rfl rfl rfl) (j2 rfl rfl) ?_
       refine Q4 ?_
       obtain ⟨k29, hk29, hφ⟩ := J_some hφ
       refine PT.cut (ι := (List ByteArray) × Int × Int × Mk.Call × Mk.Call) (fun p => ⟨[(2, .ptr 2 (Lens.id (α := Mk.Call))), (9, .ptr 9 (Lens.id (α := Mk.Call))), (82, .val (p.1)), (83, .val (p.2.1)), (84, .val (p.2.2.1))], [(2, .var (p.2.2.2.1) []), (9, .var (p.2.2.2.2) [])]⟩) (fun p => k29 (p.1) (p.2.1) (p.2.2.1) (p.2.2.2.1) (p.2.2.2.2) = some r) ?_ ?_
       ·skip
        refine PT.block ?_
        refine Q2 ?_
        obtain ⟨hb30, hφ⟩ := G_some hφ
        refine Q1 ?_
        refine O5 (ox0 .tmp) (.one rfl) .nil rfl <| O5 (ox_ix s38 .tmp .tmp hb30.1 hb30.2) (.app (.one rfl) (.one rfl)) .nil rfl <| O5 (ox_load_elem t9) (.one rfl) .nil rfl <| O5 (ox1 .tmp) (.one rfl) .nil rfl <| O5 (ox1 .tmp) (.one rfl) .nil rfl <| O1 <| Q0 (σ' := ⟨[(2, _), (9, _), (12, .val (x84_m27)), (13, .val (ix x82_m27 x84_m27)), (82, _), (83, _), (84, _)], [(2, _), (9, _)]⟩) (j7 rfl rfl rfl rfl rfl rfl rfl) (j2 rfl rfl) ?_
        refine Q2 ?_
        obtain ⟨v31, hv31, hφ⟩ := B_some hφ
        refine Q1 ?_
        refine O5 (ox0 .tmp) (.one rfl) .nil rfl ?_
        refine Ops.putW rfl rfl (ox_callW keepG hw0 hG0 (c_strconv_Atoi hv31) (.cons .tmp .nil)) (.app (.one rfl) .nil) .nil rfl ?_
        refine O5 (ox0 .tmp) (.one rfl) .nil rfl <| O5 (ox7 rfl) (.one rfl) .nil rfl <| O5 (ox7 rfl) (.one rfl) .nil rfl <| O5 (ox1 .tmp) (.one rfl) .nil rfl <| O5 (ox1 .tmp) (.one rfl) .nil rfl <| O1 <| Q0 (σ' := ⟨[(2, _), (9, _), (12, _), (13, _), (14, .val (v31.1)), (15, .val (v31.2)), (82, _), (83, _), (84, _)], [(2, _), (9, _)]⟩) (j9 rfl rfl rfl rfl rfl rfl rfl rfl rfl) (j2 rfl rfl) ?_
        refine Q2 (Q2 ?_)
        obtain ⟨v32, hv32, hφ⟩ := B_some hφ
        refine Q1 ?_
        refine O5 (ox0 .tmp) (.one rfl) .nil rfl <| O5 (ox_neqEr i46 .tmp) (.one rfl) .nil rfl <| O5 (ox0 .tmp) (.one rfl) .nil rfl <| O4 rfl rfl rfl rfl (.plain .nil) (fun hG => (ox0 .tmp)) (j1 rfl) .nil rfl ?_
        refine Ops.guardW rfl rfl rfl rfl (.cond (fun h => h) .nil) (fun hG => (ox_callW keepG hw0 hG0 (c_strconv_Itoa (Cn_on hv32 hG)) (.cons .tmp .nil))) (j1 rfl) .nil rfl ?_
        refine O4 rfl rfl rfl rfl (.plain .nil) (fun hG => (ox0 .tmp)) (j1 rfl) .nil rfl <| O4 rfl rfl rfl rfl (.cond (fun h => h) (.cond (fun h => h) .nil)) (fun hG => (ox_neqStr .tmp .tmp)) (j2 rfl rfl) .nil rfl <| O5 ox9 (j2 rfl rfl) .nil rfl <| O1 <| Q0 (σ' := ⟨[(2, _), (9, _), (12, _), (14, _), (82, _), (83, _), (84, _), (101, .val (v31.2.bad || (!decide (v32 = (ix x82_m27 x84_m27)))))], [(2, _), (9, _)]⟩) (j8 rfl rfl rfl rfl rfl rfl rfl rfl) (j2 rfl rfl) ?_
        refine Q3 _ rfl (fun hc33 => ?_) (fun hc33 => ?_)
        ·replace hφ := if_then hφ hc33
         refine Q0 (σ' := ⟨[(2, _)], [(2, _)]⟩) (j1 rfl) (j1 rfl) ?_
         refine Q2 (Q1 ?_)
         refine O5 (oxa z23 u23 rfl Bld.nil) .nil .nil rfl <| O2 rfl rfl (ox5 t23 .tmp) (.cons rfl (.one rfl)) (.one rfl) <| O5 (ox1 .int) .nil .nil rfl <| O1 <| Q0 (σ' := ⟨[(2, _), (3, .val (2 : Int))], [(2, .var zCa [])]⟩) (j2 rfl rfl) (j1 rfl) ?_
         refine Q5 ?_
         obtain rfl := Option.some.inj hφ
         exact Q6 hw0 rfl (.cell t23 rfl rfl (.tmp rfl rfl .nil)) rfl
        ·replace hφ := if_else hφ hc33
         refine Q0 (σ' := ⟨[(2, _), (9, _), (12, _), (14, _), (82, _), (83, _), (84, _)], [(2, _), (9, _)]⟩) (j7 rfl rfl rfl rfl rfl rfl rfl) (j2 rfl rfl) ?_
         refine Q4 ?_
         refine PT.block ?_
         refine Q2 (Q1 ?_)
         refine O5 (ox0 .tmp) (.one rfl) .nil rfl <| O5 (ox_eql .tmp .int) (.app (.one rfl) .nil) .nil rfl <| O5 (ox1 .tmp) (.one rfl) .nil rfl <| O1 <| Q0 (σ' := ⟨[(2, _), (9, _), (14, _), (82, _), (83, _), (84, _), (105, .val (decide (x84_m27 = (0 : Int))))], [(2, _), (9, _)]⟩) (j7 rfl rfl rfl rfl rfl rfl rfl) (j2 rfl rfl) ?_
         refine Q3 _ rfl (fun hc34 => ?_) (fun hc34 => ?_)
         ·replace hφ := if_then hφ hc34
          refine Q0 (σ' := ⟨[(2, _), (9, _), (14, _), (82, _), (83, _), (84, _)], [(2, _), (9, _)]⟩) (j6 rfl rfl rfl rfl rfl rfl) (j2 rfl rfl) ?_
          refine Q1 ?_
          refine O5 (ox0 .tmp) (.one rfl) .nil rfl <| O5 (ox3 Call_Name f23_1) (.one rfl) .nil rfl <| O2 rfl rfl (ox_store_fld t3 .tmp) (.cons rfl (.one rfl)) (.one rfl) <| O1 <| Q0 (σ' := ⟨[(2, _), (9, _), (82, _), (83, _), (84, _)], [(2, _), (9, .var ({ y9_m27 with Name := v31.1 }) [])]⟩) (j5 rfl rfl rfl rfl rfl) (j2 rfl rfl) ?_
          exact PT.meet (x82_m27, x83_m27, x84_m27, y2_m27, { y9_m27 with Name := v31.1 }) hφ (j5 rfl rfl rfl rfl rfl) (j2 rfl rfl)
         ·replace hφ := if_else hφ hc34
          refine Q0 (σ' := ⟨[(2, _), (9, _), (14, _), (82, _), (83, _), (84, _)], [(2, _), (9, _)]⟩) (j6 rfl rfl rfl rfl rfl rfl) (j2 rfl rfl) ?_
          refine Q2 (Q1 ?_)
          refine O5 (ox3 Call_Kind f23_0) (.one rfl) .nil rfl <| O5 (ox2 t3) (.one rfl) (.one rfl) rfl <| O5 (ox_eql .tmp .int) (.app (.one rfl) .nil) .nil rfl <| O5 (ox1 .tmp) (.one rfl) .nil rfl <| O1 <| Q0 (σ' := ⟨[(2, _), (9, _), (14, _), (82, _), (83, _), (84, _), (110, .val (decide (y9_m27.Kind = (6 : Int))))], [(2, _), (9, _)]⟩) (j7 rfl rfl rfl rfl rfl rfl rfl) (j2 rfl rfl) ?_
          refine Q3 _ rfl (fun hc35 => ?_) (fun hc35 => ?_)
          ·replace hφ := if_then hφ hc35
           refine Q0 (σ' := ⟨[(2, _), (9, _), (14, _), (82, _), (83, _), (84, _)], [(2, _), (9, _)]⟩) (j6 rfl rfl rfl rfl rfl rfl) (j2 rfl rfl) ?_
           refine Q1 ?_
           refine O5 (ox0 .tmp) (.one rfl) .nil rfl <| O5 (ox3 Call_Other f23_2) (.one rfl) .nil rfl <| O2 rfl rfl (ox_store_fld t3 .tmp) (.cons rfl (.one rfl)) (.one rfl) <| O1 <| Q0 (σ' := ⟨[(2, _), (9, _), (82, _), (83, _), (84, _)], [(2, _), (9, .var ({ y9_m27 with Other := v31.1 }) [])]⟩) (j5 rfl rfl rfl rfl rfl) (j2 rfl rfl) ?_
           exact PT.meet (x82_m27, x83_m27, x84_m27, y2_m27, { y9_m27 with Other := v31.1 }) hφ (j5 rfl rfl rfl rfl rfl) (j2 rfl rfl)
          ·replace hφ := if_else hφ hc35
           refine Q0 (σ' := ⟨[(2, _), (9, _), (14, _), (82, _), (83, _), (84, _)], [(2, _), (9, _)]⟩) (j6 rfl rfl rfl rfl rfl rfl) (j2 rfl rfl) ?_
           refine Q1 ?_
           refine O5 (ox0 .tmp) (.one rfl) .nil rfl <| O5 (ox3 Call_N f23_3) (.one rfl) .nil rfl <| O2 rfl rfl (ox_store_fld t3 .tmp) (.cons rfl (.one rfl)) (.one rfl) <| O1 <| Q0 (σ' := ⟨[(2, _), (9, _), (82, _), (83, _), (84, _)], [(2, _), (9, .var ({ y9_m27 with N := v31.1 }) [])]⟩) (j5 rfl rfl rfl rfl rfl) (j2 rfl rfl) ?_
           exact PT.meet (x82_m27, x83_m27, x84_m27, y2_m27, { y9_m27 with N := v31.1 }) hφ (j5 rfl rfl rfl rfl rfl) (j2 rfl rfl)
       ·rintro ⟨x82_k29, x83_k29, x84_k29, y2_k29, y9_k29⟩ hφ
        subst hk29
        refine Q0 (σ' := ⟨[(2, _), (9, _), (82, .val (x82_k29)), (83, .val (x83_k29)), (84, .val (x84_k29))], [(2, .var (y2_k29) []), (9, .var (y9_k29) [])]⟩) (j5 rfl rfl rfl rfl rfl) (j2 rfl rfl) ?_
        obtain ⟨hb36, hφ⟩ := G_some hφ
        refine Q1 ?_
        refine O5 (ox_add .tmp .int hb36) (.app (.one rfl) .nil) .nil rfl <| O5 (ox0 .tmp) (.one rfl) .nil rfl <| O1 <| Q0 (σ' := ⟨[(2, _), (9, _), (82, _), (83, _), (84, .val (x84_k29 + (1 : Int)))], [(2, _), (9, _)]⟩) (j5 rfl rfl rfl rfl rfl) (j2 rfl rfl) ?_
        exact PT.next (m27, x82_k29, x83_k29, (x84_k29 + (1 : Int)), y2_k29, y9_k29) hφ (Nat.lt_succ_self _) (j5 rfl rfl rfl rfl rfl) (j2 rfl rfl)
      ·replace hφ := if_else hφ hc28
       refine Q0 (σ' := ⟨[(2, _), (9, _)], [(2, _), (9, _)]⟩) (j2 rfl rfl) (j2 rfl rfl) ?_
       refine PT.exit ?_
       exact PT.meet (y2_m27, y9_m27) hφ (j2 rfl rfl) (j2 rfl rfl)
     ·rintro ⟨y2_k25, y9_k25⟩ hφ
      subst hk25
      refine Q0 (σ' := ⟨[(2, _), (9, _)], [(2, .var (y2_k25) []), (9, .var (y9_k25) [])]⟩) (j2 rfl rfl) (j2 rfl rfl) ?_
      refine Q2 (Q2 ?_)
      obtain ⟨v37, hv37, hφ⟩ := B_some hφ
      refine Q1 ?_
      refine O5 (ox4 t23) (.one rfl) (.one rfl) rfl <| O5 (ox_call (c_mkref1_WrongCall hv37) (.cons .tmp .nil)) (.app (.one rfl) .nil) .nil rfl <| O5 (ox1 .tmp) (.one rfl) .nil rfl <| O1 <| Q0 (σ' := ⟨[(2, _), (9, _), (16, .val (v37))], [(2, _), (9, _)]⟩) (j3 rfl rfl rfl) (j2 rfl rfl) ?_
      refine Q2 (Q1 ?_)
      refine O5 (ox0 .tmp) (.one rfl) .nil rfl <| O5 (ox_neq .tmp .int) (.app (.one rfl) .nil) .nil rfl <| O1 <| Q0 (σ' := ⟨[(2, _), (9, _), (16, _), (120, .val (!decide (v37 = (0 : Int))))], [(2, _), (9, _)]⟩) (j4 rfl rfl rfl rfl) (j2 rfl rfl) ?_
      refine Q3 _ rfl (fun hc38 => ?_) (fun hc38 => ?_)
      ·replace hφ := if_then hφ hc38
       refine Q0 (σ' := ⟨[(2, _), (16, _)], [(2, _)]⟩) (j2 rfl rfl) (j1 rfl) ?_
       refine Q2 (Q1 ?_)
       refine O5 (oxa z23 u23 rfl Bld.nil) .nil .nil rfl <| O5 (ox0 .tmp) (.one rfl) .nil rfl <| O2 rfl rfl (ox5 t23 .tmp) (.cons rfl (.one rfl)) (.one rfl) <| O5 (ox1 .tmp) (.one rfl) .nil rfl <| O1 <| Q0 (σ' := ⟨[(2, _), (3, .val (v37))], [(2, .var zCa [])]⟩) (j2 rfl rfl) (j1 rfl) ?_
       refine Q5 ?_
       obtain rfl := Option.some.inj hφ
       exact Q6 hw0 rfl (.cell t23 rfl rfl (.tmp rfl rfl .nil)) rfl
      ·replace hφ := if_else hφ hc38
       refine Q0 (σ' := ⟨[(2, _), (9, _)], [(2, _), (9, _)]⟩) (j2 rfl rfl) (j2 rfl rfl) ?_
       refine Q4 ?_
       refine Q2 (Q1 ?_)
       refine O5 (ox4 t23) (.one rfl) (.one rfl) rfl <| O2 rfl rfl (ox5 t23 .tmp) (.cons rfl (.one rfl)) (.one rfl) <| O5 (ox1 .int) .nil .nil rfl <| O1 <| Q0 (σ' := ⟨[(2, _), (3, .val (0 : Int))], [(2, .var (y9_k25) [])]⟩) (j2 rfl rfl) (j1 rfl) ?_
       refine Q5 ?_
       obtain rfl := Option.some.inj hφ
       exact Q6 hw0 rfl (.cell t23 rfl rfl (.tmp rfl rfl .nil)) rfl
theorem c_text_Print {a0 : List Mk.Call} {r : ByteArray} (hφ : text_Print a0 = some r) : FnG Go.Proofs.Tryd.prog GT 14 [.val a0] (.val r) := by
 unfold text_Print at hφ
 refine FnG.mk' Go.Proofs.Tryd.func14 rfl (by decide) rfl rfl rfl (fun w0 hw0 hG0 => ?_)
 refine Q2 (Q1 ?_)
 refine O5 (ox1 (.str (by decide))) .nil .nil rfl <| O1 <| Q0 (σ' := ⟨[(0, .val (a0))], []⟩) (j1 rfl) trivial ?_
 refine Q2 (Q1 ?_)
 refine O5 (ox1 (.str (by decide))) .nil .nil rfl <| O1 <| Q0 (σ' := ⟨[(0, _), (3, .val (⟨#[]⟩ : ByteArray))], []⟩) (j2 rfl rfl) trivial ?_
 obtain ⟨k1, hk1, hφ⟩ := J_some hφ
 refine PT.cut (ι := ByteArray) (fun p => ⟨[(3, .val (p))], []⟩) (fun p => k1 (p) = some r) ?_ ?_
 ·skip
  refine Q2 (Q1 ?_)
  refine O5 (ox0 .tmp) (.one rfl) .nil rfl <| O5 (ox_len s27 .tmp) (.one rfl) .nil rfl <| O5 (ox0 .int) .nil .nil rfl <| O1 <| Q0 (σ' := ⟨[(3, _), (6, .val (a0)), (7, .val (a0.length : Int)), (8, .val (0 : Int))], []⟩) (j4 rfl rfl rfl rfl) trivial ?_
  refine PT.block ?_
  refine PT.loop (ι := Nat × ByteArray × (List Mk.Call) × Int × Int) (fun p => ⟨[(3, .val (p.2.1)), (6, .val (p.2.2.1)), (7, .val (p.2.2.2.1)), (8, .val (p.2.2.2.2))], []⟩) (fun p => text_Print_l1 k1 p.1 (p.2.1) (p.2.2.1) (p.2.2.2.1) (p.2.2.2.2) = some r) (fun p => p.1) (((a0.length : Int) - (0 : Int)).toNat + 1, (⟨#[]⟩ : ByteArray), a0, (a0.length : Int), (0 : Int)) hφ (j4 rfl rfl rfl rfl) trivial ?_
  rintro ⟨m2, x3_m2, x6_m2, x7_m2, x8_m2⟩ (hφ : text_Print_l1 k1 m2 x3_m2 x6_m2 x7_m2 x8_m2 = some r)
  obtain _ | m2 := m2
  ·exact (none_no hφ).elim
  rw [text_Print_l1.eq_2] at hφ
  refine Q0 (σ' := ⟨[(3, .val (x3_m2)), (6, .val (x6_m2)), (7, .val (x7_m2)), (8, .val (x8_m2))], []⟩) (j4 rfl rfl rfl rfl) trivial ?_
  refine Q2 (Q1 ?_)
  refine O5 (ox_lss .tmp .tmp) (.app (.one rfl) (.one rfl)) .nil rfl <| O1 <| Q0 (σ' := ⟨[(3, _), (6, _), (7, _), (8, _), (9, .val (decide (x8_m2 < x7_m2)))], []⟩) (j5 rfl rfl rfl rfl rfl) trivial ?_
  refine Q2 ?_
  refine Q3 _ rfl (fun hc3 => ?_) (fun hc3 => ?_)
  ·replace hφ := if_then hφ hc3
   refine Q0 (σ' := ⟨[(3, _), (6, _), (7, _), (8, _)], []⟩) (j4 rfl rfl rfl rfl) trivial ?_
   refine Q4 ?_
   refine Q2 ?_
   refine PT.block ?_
   refine Q2 ?_
   obtain ⟨hb4, hφ⟩ := G_some hφ
   refine Q1 ?_
   refine O5 (ox_ix s27 .tmp .tmp hb4.1 hb4.2) (.app (.one rfl) (.one rfl)) .nil rfl <| O5 (ox_load_elem t23) (.one rfl) .nil rfl <| O3 rfl rfl (ox_alloc (id := 5) z23) .nil .nil rfl (by kernel_rfl) <| O2 rfl rfl (ox5 t23 .tmp) (.cons rfl (.one rfl)) (.one rfl) <| O1 <| Q0 (σ' := ⟨[(3, _), (5, _), (6, _), (7, _), (8, _)], [(5, .var (ix x6_m2 x8_m2) [])]⟩) (j5 rfl rfl rfl rfl rfl) (j1 rfl) ?_
   obtain ⟨v5, hv5, hφ⟩ := B_some hφ
   obtain ⟨hb6, hφ⟩ := G_some hφ
   obtain ⟨hb7, hφ⟩ := G_some hφ
   refine Q1 ?_
   refine O5 (ox0 .tmp) (.one rfl) .nil rfl <| O5 (ox4 t23) (.one rfl) (.one rfl) rfl ?_
   refine Ops.putW rfl rfl (ox_callW keepG hw0 hG0 (c_text_Call hv5) (.cons .tmp .nil)) (.app (.one rfl) .nil) .nil rfl ?_
   refine O5 (ox_addStr .tmp (.str (by decide)) hb6) (.app (.one rfl) .nil) .nil rfl <| O5 (ox_addStr .tmp .tmp hb7) (.app (.one rfl) (.one rfl)) .nil rfl <| O5 (ox1 .tmp) (.one rfl) .nil rfl <| O1 <| Q0 (σ' := ⟨[(3, .val (x3_m2 ++ (v5 ++ (⟨#[10]⟩ : ByteArray)))), (6, _), (7, _), (8, _)], []⟩) (j4 rfl rfl rfl rfl) trivial ?_
   obtain ⟨hb8, hφ⟩ := G_some hφ
   refine Q1 ?_
   refine O5 (ox_add .tmp .int hb8) (.app (.one rfl) .nil) .nil rfl <| O5 (ox0 .tmp) (.one rfl) .nil rfl <| O1 <| Q0 (σ' := ⟨[(3, _), (6, _), (7, _), (8, .val (x8_m2 + (1 : Int)))], []⟩) (j4 rfl rfl rfl rfl) trivial ?_
   exact PT.next (m2, (x3_m2 ++ (v5 ++ (⟨#[10]⟩ : ByteArray))), x6_m2, x7_m2, (x8_m2 + (1 : Int))) hφ (Nat.lt_succ_self _) (j4 rfl rfl rfl rfl) trivial
  ·replace hφ := if_else hφ hc3
   refine Q0 (σ' := ⟨[(3, _)], []⟩) (j1 rfl) trivial ?_
   refine PT.exit ?_
   exact PT.meet (x3_m2) hφ (j1 rfl) trivial
 ·rintro x3_k1 hφ
  subst hk1
  refine Q0 (σ' := ⟨[(3, .val (x3_k1))], []⟩) (j1 rfl) trivial ?_
  refine Q2 (Q1 ?_)
  refine O5 (ox0 .tmp) (.one rfl) .nil rfl <| O5 (ox1 .tmp) (.one rfl) .nil rfl <| O1 <| Q0 (σ' := ⟨[(2, .val (x3_k1))], []⟩) (j1 rfl) trivial ?_
  refine Q5 ?_
  obtain rfl := Option.some.inj hφ
  exact Q6 hw0 rfl (.tmp rfl rfl .nil) rfl
theorem c_mkref1_Print {a0 : List Mk.Call} {r : ByteArray} (hφ : mkref1_Print a0 = some r) : FnG Go.Proofs.Tryd.prog GT 15 [.val a0] (.val r) := by
 unfold mkref1_Print at hφ
 refine FnG.mk' Go.Proofs.Tryd.func15 rfl (by decide) rfl rfl rfl (fun w0 hw0 hG0 => ?_)
 refine Q2 (Q1 ?_)
 refine O5 (ox1 (.str (by decide))) .nil .nil rfl <| O1 <| Q0 (σ' := ⟨[(0, .val (a0))], []⟩) (j1 rfl) trivial ?_
 refine Q2 (Q1 ?_)
 refine O5 (ox1 (.str (by decide))) .nil .nil rfl <| O1 <| Q0 (σ' := ⟨[(0, _), (3, .val (⟨#[]⟩ : ByteArray))], []⟩) (j2 rfl rfl) trivial ?_
 obtain ⟨k1, hk1, hφ⟩ := J_some hφ
 refine PT.cut (ι := ByteArray) (fun p => ⟨[(3, .val (p))], []⟩) (fun p => k1 (p) = some r) ?_ ?_
 ·skip
  refine Q2 (Q1 ?_)
  refine O5 (ox0 .tmp) (.one rfl) .nil rfl <| O5 (ox_len s27 .tmp) (.one rfl) .nil rfl <| O5 (ox0 .int) .nil .nil rfl <| O1 <| Q0 (σ' := ⟨[(0, _), (3, _), (6, .val (a0.length : Int)), (7, .val (0 : Int))], []⟩) (j4 rfl rfl rfl rfl) trivial ?_
  refine PT.block ?_
  refine PT.loop (ι := Nat × (List Mk.Call) × ByteArray × Int × Int) (fun p => ⟨[(0, .val (p.2.1)), (3, .val (p.2.2.1)), (6, .val (p.2.2.2.1)), (7, .val (p.2.2.2.2))], []⟩) (fun p => mkref1_Print_l1 k1 p.1 (p.2.1) (p.2.2.1) (p.2.2.2.1) (p.2.2.2.2) = some r) (fun p => p.1) (((a0.length : Int) - (0 : Int)).toNat + 1, a0, (⟨#[]⟩ : ByteArray), (a0.length : Int), (0 : Int)) hφ (j4 rfl rfl rfl rfl) trivial ?_
  rintro ⟨m2, x0_m2, x3_m2, x6_m2, x7_m2⟩ (hφ : mkref1_Print_l1 k1 m2 x0_m2 x3_m2 x6_m2 x7_m2 = some r)
  obtain _ | m2 := m2
  ·exact (none_no hφ).elim
  rw [mkref1_Print_l1.eq_2] at hφ
  refine Q0 (σ' := ⟨[(0, .val (x0_m2)), (3, .val (x3_m2)), (6, .val (x6_m2)), (7, .val (x7_m2))], []⟩) (j4 rfl rfl rfl rfl) trivial ?_
  refine Q2 (Q1 ?_)
  refine O5 (ox_lss .tmp .tmp) (.app (.one rfl) (.one rfl)) .nil rfl <| O1 <| Q0 (σ' := ⟨[(0, _), (3, _), (6, _), (7, _), (8, .val (decide (x7_m2 < x6_m2)))], []⟩) (j5 rfl rfl rfl rfl rfl) trivial ?_
  refine Q2 ?_
  refine Q3 _ rfl (fun hc3 => ?_) (fun hc3 => ?_)
  ·replace hφ := if_then hφ hc3
   refine Q0 (σ' := ⟨[(0, _), (3, _), (6, _), (7, _)], []⟩) (j4 rfl rfl rfl rfl) trivial ?_
   refine Q4 ?_
   refine Q2 ?_
   refine PT.block ?_
   refine Q2 (Q1 ?_)
   refine O5 (ox0 .tmp) (.one rfl) .nil rfl <| O5 (ox1 .tmp) (.one rfl) .nil rfl <| O1 <| Q0 (σ' := ⟨[(0, _), (3, _), (4, .val (x7_m2)), (6, _), (7, _)], []⟩) (j5 rfl rfl rfl rfl rfl) trivial ?_
   obtain ⟨hb4, hφ⟩ := G_some hφ
   obtain ⟨v5, hv5, hφ⟩ := B_some hφ
   obtain ⟨hb6, hφ⟩ := G_some hφ
   obtain ⟨hb7, hφ⟩ := G_some hφ
   refine Q1 ?_
   refine O5 (ox0 .tmp) (.one rfl) .nil rfl <| O5 (ox0 .tmp) (.one rfl) .nil rfl <| O5 (ox0 .tmp) (.one rfl) .nil rfl <| O5 (ox_ix s27 .tmp .tmp hb4.1 hb4.2) (.app (.one rfl) (.one rfl)) .nil rfl <| O5 (ox_load_elem t23) (.one rfl) .nil rfl ?_
   refine Ops.putW rfl rfl (ox_callW keepG hw0 hG0 (c_mkref1_CallText hv5) (.cons .tmp .nil)) (.app (.one rfl) .nil) .nil rfl ?_
   refine O5 (ox_addStr .tmp .tmp hb6) (.app (.one rfl) (.one rfl)) .nil rfl <| O5 (ox_addStr .tmp (.str (by decide)) hb7) (.app (.one rfl) .nil) .nil rfl <| O5 (ox1 .tmp) (.one rfl) .nil rfl <| O1 <| Q0 (σ' := ⟨[(0, _), (3, .val ((x3_m2 ++ v5) ++ (⟨#[10]⟩ : ByteArray))), (6, _), (7, _)], []⟩) (j4 rfl rfl rfl rfl) trivial ?_
   obtain ⟨hb8, hφ⟩ := G_some hφ
   refine Q1 ?_
   refine O5 (ox_add .tmp .int hb8) (.app (.one rfl) .nil) .nil rfl <| O5 (ox0 .tmp) (.one rfl) .nil rfl <| O1 <| Q0 (σ' := ⟨[(0, _), (3, _), (6, _), (7, .val (x7_m2 + (1 : Int)))], []⟩) (j4 rfl rfl rfl rfl) trivial ?_
   exact PT.next (m2, x0_m2, ((x3_m2 ++ v5) ++ (⟨#[10]⟩ : ByteArray)), x6_m2, (x7_m2 + (1 : Int))) hφ (Nat.lt_succ_self _) (j4 rfl rfl rfl rfl) trivial
  ·replace hφ := if_else hφ hc3
   refine Q0 (σ' := ⟨[(3, _)], []⟩) (j1 rfl) trivial ?_
   refine PT.exit ?_
   exact PT.meet (x3_m2) hφ (j1 rfl) trivial
 ·rintro x3_k1 hφ
  subst hk1
  refine Q0 (σ' := ⟨[(3, .val (x3_k1))], []⟩) (j1 rfl) trivial ?_
  refine Q2 (Q1 ?_)
  refine O5 (ox0 .tmp) (.one rfl) .nil rfl <| O5 (ox1 .tmp) (.one rfl) .nil rfl <| O1 <| Q0 (σ' := ⟨[(2, .val (x3_k1))], []⟩) (j1 rfl) trivial ?_
  refine Q5 ?_
  obtain rfl := Option.some.inj hφ
  exact Q6 hw0 rfl (.tmp rfl rfl .nil) rfl
theorem c_text_Parse {a0 : ByteArray} {r : ((List Mk.Call) × Int)} (hφ : text_Parse a0 = some r) : FnG Go.Proofs.Tryd.prog GT 8 [.val a0] (.tup [.val r.1, .val r.2]) := by
 unfold text_Parse at hφ
 refine FnG.mk' Go.Proofs.Tryd.func8 rfl (by decide) rfl rfl rfl (fun w0 hw0 hG0 => ?_)
 refine Q2 (Q1 ?_)
 refine O5 (ox1 .nilS) .nil .nil rfl <| O5 (ox1 .int) .nil .nil rfl <| O1 <| Q0 (σ' := ⟨[(0, .val (a0))], []⟩) (j1 rfl) trivial ?_
 refine Q2 (Q1 ?_)
 refine O5 (ox1 .nilS) .nil .nil rfl <| O1 <| Q0 (σ' := ⟨[(0, _), (4, .nilS)], []⟩) (j2 rfl rfl) trivial ?_
 obtain ⟨k1, hk1, hφ⟩ := J_some hφ
 refine PT.cut (ι := (List Mk.Call)) (fun p => ⟨[(4, .sl 1004)], [(1004, .arr 23 (p))]⟩) (fun p => k1 (p) = some r) ?_ ?_
 ·skip
  refine PT.block ?_
  refine PT.nilArr 1004 4 23 (Mk.Call) rfl (by kernel_rfl) ?_
  refine PT.loop (ι := Nat × ByteArray × (List Mk.Call)) (fun p => ⟨[(0, .val (p.2.1)), (4, .sl 1004)], [(1004, .arr 23 (p.2.2))]⟩) (fun p => text_Parse_l1 k1 p.1 (p.2.1) (p.2.2) = some r) (fun p => p.1) (a0.size + 1, a0, ([] : List Mk.Call)) hφ (j2 rfl rfl) (j1 rfl) ?_
  rintro ⟨m2, x0_m2, y1004_m2⟩ (hφ : text_Parse_l1 k1 m2 x0_m2 y1004_m2 = some r)
  obtain _ | m2 := m2
  ·exact (none_no hφ).elim
  rw [text_Parse_l1.eq_2] at hφ
  refine Q0 (σ' := ⟨[(0, .val (x0_m2)), (4, .sl 1004)], [(1004, .arr 23 (y1004_m2))]⟩) (j2 rfl rfl) (j1 rfl) ?_
  refine Q2 ?_
  refine Q2 (Q1 ?_)
  refine O5 (ox0 .tmp) (.one rfl) .nil rfl <| O5 (ox_neqStr .tmp (.str (by decide))) (.app (.one rfl) .nil) .nil rfl <| O1 <| Q0 (σ' := ⟨[(0, _), (4, _), (11, .val (!decide (x0_m2 = (⟨#[]⟩ : ByteArray))))], [(1004, _)]⟩) (j3 rfl rfl rfl) (j1 rfl) ?_
  refine Q3 _ rfl (fun hc3 => ?_) (fun hc3 => ?_)
  ·replace hφ := if_then hφ hc3
   refine Q0 (σ' := ⟨[(0, _), (4, _)], [(1004, _)]⟩) (j2 rfl rfl) (j1 rfl) ?_
   refine Q4 ?_
   refine PT.block ?_
   refine Q2 ?_
   obtain ⟨v4, hv4, hφ⟩ := B_some hφ
   refine Q1 ?_
   refine O5 (ox0 .tmp) (.one rfl) .nil rfl ?_
   refine Ops.putW rfl rfl (ox_callW keepG hw0 hG0 (c_strings_Cut hv4) (.cons .tmp (.cons (.str (by decide)) .nil))) (.app (.one rfl) (.app .nil .nil)) .nil rfl ?_
   refine O5 (ox0 .tmp) (.one rfl) .nil rfl <| O5 (ox7 rfl) (.one rfl) .nil rfl <| O5 (ox7 rfl) (.one rfl) .nil rfl <| O5 (ox7 rfl) (.one rfl) .nil rfl <| O5 (ox1 .tmp) (.one rfl) .nil rfl <| O5 (ox1 .tmp) (.one rfl) .nil rfl ?_
   refine O5 (ox1 .tmp) (.one rfl) .nil rfl <| O1 <| Q0 (σ' := ⟨[(4, _), (5, .val (v4.1)), (6, .val (v4.2.1)), (7, .val (v4.2.2))], [(1004, _)]⟩) (j4 rfl rfl rfl rfl) (j1 rfl) ?_
   refine Q2 ?_
   refine Q2 (Q1 ?_)
   refine O5 (ox0 .tmp) (.one rfl) .nil rfl <| O5 (ox_not .tmp) (.one rfl) .nil rfl <| O1 <| Q0 (σ' := ⟨[(4, _), (5, _), (6, _), (19, .val (!v4.2.2))], [(1004, _)]⟩) (j4 rfl rfl rfl rfl) (j1 rfl) ?_
   refine Q3 _ rfl (fun hc5 => ?_) (fun hc5 => ?_)
   ·replace hφ := if_then hφ hc5
    refine Q0 (σ' := ⟨[], []⟩) trivial trivial ?_
    refine Q2 (Q1 ?_)
    refine O5 (ox1 .nilS) .nil .nil rfl <| O5 (ox1 .int) .nil .nil rfl <| O1 <| Q0 (σ' := ⟨[(2, .nilS), (3, .val (8 : Int))], []⟩) (j2 rfl rfl) trivial ?_
    refine Q5 ?_
    refine PT.asNil 2 (Mk.Call) rfl ?_
    obtain rfl := Option.some.inj hφ
    exact Q6 hw0 rfl (.tmp rfl rfl (.tmp rfl rfl .nil)) rfl
   ·replace hφ := if_else hφ hc5
    refine Q0 (σ' := ⟨[(4, _), (5, _), (6, _)], [(1004, _)]⟩) (j3 rfl rfl rfl) (j1 rfl) ?_
    refine Q4 ?_
    refine Q2 ?_
    obtain ⟨v6, hv6, hφ⟩ := B_some hφ
    refine Q1 ?_
    refine O5 (ox0 .tmp) (.one rfl) .nil rfl ?_
    refine Ops.putW rfl rfl (ox_callW keepG hw0 hG0 (c_text_ReadCall hv6) (.cons .tmp .nil)) (.app (.one rfl) .nil) .nil rfl ?_
    refine O5 (ox0 .tmp) (.one rfl) .nil rfl <| O5 (ox7 rfl) (.one rfl) .nil rfl <| O5 (ox7 rfl) (.one rfl) .nil rfl <| O3 rfl rfl (ox_alloc (id := 8) z23) .nil .nil rfl (by kernel_rfl) <| O2 rfl rfl (ox5 t23 .tmp) (.cons rfl (.one rfl)) (.one rfl) <| O5 (ox1 .tmp) (.one rfl) .nil rfl <| O1 <| Q0 (σ' := ⟨[(4, _), (6, _), (8, _), (9, .val (v6.2))], [(8, .var (v6.1) []), (1004, _)]⟩) (j4 rfl rfl rfl rfl) (j2 rfl rfl) ?_
    refine Q2 ?_
    refine Q2 (Q1 ?_)
    refine O5 (ox0 .tmp) (.one rfl) .nil rfl <| O5 (ox_neq .tmp .int) (.app (.one rfl) .nil) .nil rfl <| O1 <| Q0 (σ' := ⟨[(4, _), (6, _), (8, _), (9, _), (26, .val (!decide (v6.2 = (0 : Int))))], [(8, _), (1004, _)]⟩) (j5 rfl rfl rfl rfl rfl) (j2 rfl rfl) ?_
    refine Q3 _ rfl (fun hc7 => ?_) (fun hc7 => ?_)
    ·replace hφ := if_then hφ hc7
     refine Q0 (σ' := ⟨[(9, _)], []⟩) (j1 rfl) trivial ?_
     refine Q2 (Q1 ?_)
     refine O5 (ox0 .tmp) (.one rfl) .nil rfl <| O5 (ox1 .nilS) .nil .nil rfl <| O5 (ox1 .tmp) (.one rfl) .nil rfl <| O1 <| Q0 (σ' := ⟨[(2, .nilS), (3, .val (v6.2))], []⟩) (j2 rfl rfl) trivial ?_
     refine Q5 ?_
     refine PT.asNil 2 (Mk.Call) rfl ?_
     obtain rfl := Option.some.inj hφ
     exact Q6 hw0 rfl (.tmp rfl rfl (.tmp rfl rfl .nil)) rfl
    ·replace hφ := if_else hφ hc7
     refine Q0 (σ' := ⟨[(4, _), (6, _), (8, _)], [(8, _), (1004, _)]⟩) (j3 rfl rfl rfl) (j2 rfl rfl) ?_
     refine Q4 ?_
     obtain ⟨hb8, hφ⟩ := G_some hφ
     refine Q1 ?_
     refine O5 (ox0 .tmp) (.one rfl) .nil rfl <| O5 (ox4 t23) (.one rfl) (.one rfl) rfl <| O5 (ox_buildSlice_val s27 z23 (.cons .tmp Parts.nil) rfl (by decide)) (.app (.one rfl) .nil) .nil rfl ?_
     refine Ops.putK [4, 28] rfl rfl (ox_append a27 .tmp .tmp hb8.1 hb8.2) (.app (.one rfl) (.one rfl)) (.one rfl) rfl (by kernel_rfl) ?_
     refine O5 (ox0 .tmp) (.one rfl) .nil rfl <| O5 (ox1 .tmp) (.one rfl) .nil rfl <| O5 (ox1 .tmp) (.one rfl) .nil rfl <| O1 <| Q0 (σ' := ⟨[(0, .val (v4.2.1)), (4, _)], [(1004, .arr 23 (y1004_m2 ++ ([v6.1] : List Mk.Call)))]⟩) (j2 rfl rfl) (j1 rfl) ?_
     exact PT.next (m2, v4.2.1, (y1004_m2 ++ ([v6.1] : List Mk.Call))) hφ (Nat.lt_succ_self _) (j2 rfl rfl) (j1 rfl)
  ·replace hφ := if_else hφ hc3
   refine Q0 (σ' := ⟨[(4, _)], [(1004, _)]⟩) (j1 rfl) (j1 rfl) ?_
   refine PT.exit ?_
   exact PT.meet (y1004_m2) hφ (j1 rfl) (j1 rfl)
 ·rintro y1004_k1 hφ
  subst hk1
  refine Q0 (σ' := ⟨[(4, .sl 1004)], [(1004, .arr 23 (y1004_k1))]⟩) (j1 rfl) (j1 rfl) ?_
  refine Q2 ?_
  refine Q2 (Q1 ?_)
  refine O5 (ox0 .tmp) (.one rfl) .nil rfl <| O5 (ox_len_arr s27 .tmp) (.one rfl) (.one rfl) rfl <| O5 (ox_gtr .tmp .int) (.app (.one rfl) .nil) .nil rfl <| O1 <| Q0 (σ' := ⟨[(4, _), (35, .val (decide ((8 : Int) < (y1004_k1.length : Int))))], [(1004, _)]⟩) (j2 rfl rfl) (j1 rfl) ?_
  refine Q3 _ rfl (fun hc9 => ?_) (fun hc9 => ?_)
  ·replace hφ := if_then hφ hc9
   refine Q0 (σ' := ⟨[], []⟩) trivial trivial ?_
   refine Q2 (Q1 ?_)
   refine O5 (ox1 .nilS) .nil .nil rfl <| O5 (ox1 .int) .nil .nil rfl <| O1 <| Q0 (σ' := ⟨[(2, .nilS), (3, .val (5 : Int))], []⟩) (j2 rfl rfl) trivial ?_
   refine Q5 ?_
   refine PT.asNil 2 (Mk.Call) rfl ?_
   obtain rfl := Option.some.inj hφ
   exact Q6 hw0 rfl (.tmp rfl rfl (.tmp rfl rfl .nil)) rfl
  ·replace hφ := if_else hφ hc9
   refine Q0 (σ' := ⟨[(4, _)], [(1004, _)]⟩) (j1 rfl) (j1 rfl) ?_
   refine Q4 ?_
   refine Q2 (Q1 ?_)
   refine O5 (ox0 .tmp) (.one rfl) .nil rfl <| O5 (ox1 .tmp) (.one rfl) .nil rfl <| O5 (ox1 .int) .nil .nil rfl <| O1 <| Q0 (σ' := ⟨[(2, _), (3, .val (0 : Int))], [(1004, _)]⟩) (j2 rfl rfl) (j1 rfl) ?_
   refine Q5 ?_
   refine PT.freeze 1004 [2] rfl (j1 rfl) ?_
   obtain rfl := Option.some.inj hφ
   exact Q6 hw0 rfl (.tmp rfl rfl (.tmp rfl rfl .nil)) rfl
theorem c_mkref1_Parse {a0 : ByteArray} {r : ((List Mk.Call) × Int)} (hφ : mkref1_Parse a0 = some r) : FnG Go.Proofs.Tryd.prog GT 9 [.val a0] (.tup [.val r.1, .val r.2]) := by
 unfold mkref1_Parse at hφ
 refine FnG.mk' Go.Proofs.Tryd.func9 rfl (by decide) rfl rfl rfl (fun w0 hw0 hG0 => ?_)
 refine Q2 (Q1 ?_)
 refine O5 (ox1 .nilS) .nil .nil rfl <| O5 (ox1 .int) .nil .nil rfl <| O1 <| Q0 (σ' := ⟨[(0, .val (a0))], []⟩) (j1 rfl) trivial ?_
 refine Q2 (Q1 ?_)
 refine O5 (ox1 .nilS) .nil .nil rfl <| O1 <| Q0 (σ' := ⟨[(0, _), (4, .nilS)], []⟩) (j2 rfl rfl) trivial ?_
 refine Q2 (Q1 ?_)
 refine O5 (ox1 .int) .nil .nil rfl <| O1 <| Q0 (σ' := ⟨[(0, _), (4, _), (5, .val (0 : Int))], []⟩) (j3 rfl rfl rfl) trivial ?_
 obtain ⟨k1, hk1, hφ⟩ := J_some hφ
 refine PT.cut (ι := ByteArray × Int × (List Mk.Call)) (fun p => ⟨[(0, .val (p.1)), (4, .sl 1004), (5, .val (p.2.1))], [(1004, .arr 23 (p.2.2))]⟩) (fun p => k1 (p.1) (p.2.1) (p.2.2) = some r) ?_ ?_
 ·skip
  refine Q2 (Q1 ?_)
  refine O5 (ox0 .tmp) (.one rfl) .nil rfl <| O5 (ox_len_str str9 .tmp) (.one rfl) .nil rfl <| O5 (ox0 .int) .nil .nil rfl <| O1 <| Q0 (σ' := ⟨[(0, _), (4, _), (5, _), (10, .val (a0.size : Int)), (11, .val (0 : Int))], []⟩) (j5 rfl rfl rfl rfl rfl) trivial ?_
  refine PT.block ?_
  refine PT.nilArr 1004 4 23 (Mk.Call) rfl (by kernel_rfl) ?_
  refine PT.loop (ι := Nat × ByteArray × Int × Int × Int × (List Mk.Call)) (fun p => ⟨[(0, .val (p.2.1)), (4, .sl 1004), (5, .val (p.2.2.1)), (10, .val (p.2.2.2.1)), (11, .val (p.2.2.2.2.1))], [(1004, .arr 23 (p.2.2.2.2.2))]⟩) (fun p => mkref1_Parse_l1 k1 p.1 (p.2.1) (p.2.2.1) (p.2.2.2.1) (p.2.2.2.2.1) (p.2.2.2.2.2) = some r) (fun p => p.1) (((a0.size : Int) - (0 : Int)).toNat + 1, a0, (0 : Int), (a0.size : Int), (0 : Int), ([] : List Mk.Call)) hφ (j5 rfl rfl rfl rfl rfl) (j1 rfl) ?_
  rintro ⟨m2, x0_m2, x5_m2, x10_m2, x11_m2, y1004_m2⟩ (hφ : mkref1_Parse_l1 k1 m2 x0_m2 x5_m2 x10_m2 x11_m2 y1004_m2 = some r)
  obtain _ | m2 := m2
  ·exact (none_no hφ).elim
  rw [mkref1_Parse_l1.eq_2] at hφ
  refine Q0 (σ' := ⟨[(0, .val (x0_m2)), (4, .sl 1004), (5, .val (x5_m2)), (10, .val (x10_m2)), (11, .val (x11_m2))], [(1004, .arr 23 (y1004_m2))]⟩) (j5 rfl rfl rfl rfl rfl) (j1 rfl) ?_
  refine Q2 (Q1 ?_)
  refine O5 (ox_lss .tmp .tmp) (.app (.one rfl) (.one rfl)) .nil rfl <| O1 <| Q0 (σ' := ⟨[(0, _), (4, _), (5, _), (10, _), (11, _), (12, .val (decide (x11_m2 < x10_m2)))], [(1004, _)]⟩) (j6 rfl rfl rfl rfl rfl rfl) (j1 rfl) ?_
  refine Q2 ?_
  refine Q3 _ rfl (fun hc3 => ?_) (fun hc3 => ?_)
  ·replace hφ := if_then hφ hc3
   refine Q0 (σ' := ⟨[(0, _), (4, _), (5, _), (10, _), (11, _)], [(1004, _)]⟩) (j5 rfl rfl rfl rfl rfl) (j1 rfl) ?_
   refine Q4 ?_
   obtain ⟨k4, hk4, hφ⟩ := J_some hφ
   refine PT.cut (ι := ByteArray × Int × Int × Int × (List Mk.Call)) (fun p => ⟨[(0, .val (p.1)), (4, .sl 1004), (5, .val (p.2.1)), (10, .val (p.2.2.1)), (11, .val (p.2.2.2.1))], [(1004, .arr 23 (p.2.2.2.2))]⟩) (fun p => k4 (p.1) (p.2.1) (p.2.2.1) (p.2.2.2.1) (p.2.2.2.2) = some r) ?_ ?_
   ·skip
    refine PT.block ?_
    refine Q2 (Q1 ?_)
    refine O5 (ox0 .tmp) (.one rfl) .nil rfl <| O5 (ox1 .tmp) (.one rfl) .nil rfl <| O1 <| Q0 (σ' := ⟨[(0, _), (4, _), (5, _), (6, .val (x11_m2)), (10, _), (11, _)], [(1004, _)]⟩) (j6 rfl rfl rfl rfl rfl rfl) (j1 rfl) ?_
    refine Q2 (Q2 ?_)
    obtain ⟨hb5, hφ⟩ := G_some hφ
    refine Q1 ?_
    refine O5 (ox0 .tmp) (.one rfl) .nil rfl <| O5 (ox0 .tmp) (.one rfl) .nil rfl <| O5 (ox_strIx str9 .tmp .tmp hb5.1 hb5.2) (.app (.one rfl) (.one rfl)) .nil rfl <| O5 (ox_neqU8 .tmp (.u8 (n := 10))) (.app (.one rfl) .nil) .nil rfl <| O1 <| Q0 (σ' := ⟨[(0, _), (4, _), (5, _), (6, _), (10, _), (11, _), (17, .val (!decide ((bix x0_m2 x11_m2) = (UInt8.ofNat 10))))], [(1004, _)]⟩) (j7 rfl rfl rfl rfl rfl rfl rfl) (j1 rfl) ?_
    refine Q3 _ rfl (fun hc6 => ?_) (fun hc6 => ?_)
    ·replace hφ := if_then hφ hc6
     refine Q0 (σ' := ⟨[(0, _), (4, _), (5, _), (10, _), (11, _)], [(1004, _)]⟩) (j5 rfl rfl rfl rfl rfl) (j1 rfl) ?_
     refine PT.exit ?_
     exact PT.meet (x0_m2, x5_m2, x10_m2, x11_m2, y1004_m2) hφ (j5 rfl rfl rfl rfl rfl) (j1 rfl)
    ·replace hφ := if_else hφ hc6
     refine Q0 (σ' := ⟨[(0, _), (4, _), (5, _), (6, _), (10, _), (11, _)], [(1004, _)]⟩) (j6 rfl rfl rfl rfl rfl rfl) (j1 rfl) ?_
     refine Q4 ?_
     refine Q2 ?_
     obtain ⟨hb7, hφ⟩ := G_some hφ
     obtain ⟨v8, hv8, hφ⟩ := B_some hφ
     refine Q1 ?_
     refine O5 (ox0 .tmp) (.one rfl) .nil rfl <| O5 (ox0 .tmp) (.one rfl) .nil rfl <| O5 (ox0 .tmp) (.one rfl) .nil rfl <| O5 (ox_strSl str9 .tmp .tmp .tmp hb7.1 hb7.2.1 hb7.2.2) (.app (.one rfl) (.app (.one rfl) (.one rfl))) .nil rfl ?_
     refine Ops.putW rfl rfl (ox_callW keepG hw0 hG0 (c_mkref1_ReadCall hv8) (.cons .tmp .nil)) (.app (.one rfl) .nil) .nil rfl ?_
     refine O5 (ox0 .tmp) (.one rfl) .nil rfl <| O5 (ox7 rfl) (.one rfl) .nil rfl <| O5 (ox7 rfl) (.one rfl) .nil rfl <| O3 rfl rfl (ox_alloc (id := 7) z23) .nil .nil rfl (by kernel_rfl) <| O2 rfl rfl (ox5 t23 .tmp) (.cons rfl (.one rfl)) (.one rfl) <| O5 (ox1 .tmp) (.one rfl) .nil rfl <| O1 <| Q0 (σ' := ⟨[(0, _), (4, _), (6, _), (7, _), (8, .val (v8.2)), (10, _), (11, _)], [(7, .var (v8.1) []), (1004, _)]⟩) (j7 rfl rfl rfl rfl rfl rfl rfl) (j2 rfl rfl) ?_
     refine Q2 ?_
     refine Q2 (Q1 ?_)
     refine O5 (ox0 .tmp) (.one rfl) .nil rfl <| O5 (ox_neq .tmp .int) (.app (.one rfl) .nil) .nil rfl <| O1 <| Q0 (σ' := ⟨[(0, _), (4, _), (6, _), (7, _), (8, _), (10, _), (11, _), (27, .val (!decide (v8.2 = (0 : Int))))], [(7, _), (1004, _)]⟩) (j8 rfl rfl rfl rfl rfl rfl rfl rfl) (j2 rfl rfl) ?_
     refine Q3 _ rfl (fun hc9 => ?_) (fun hc9 => ?_)
     ·replace hφ := if_then hφ hc9
      refine Q0 (σ' := ⟨[(8, _)], []⟩) (j1 rfl) trivial ?_
      refine Q2 (Q1 ?_)
      refine O5 (ox0 .tmp) (.one rfl) .nil rfl <| O5 (ox1 .nilS) .nil .nil rfl <| O5 (ox1 .tmp) (.one rfl) .nil rfl <| O1 <| Q0 (σ' := ⟨[(2, .nilS), (3, .val (v8.2))], []⟩) (j2 rfl rfl) trivial ?_
      refine Q5 ?_
      refine PT.asNil 2 (Mk.Call) rfl ?_
      obtain rfl := Option.some.inj hφ
      exact Q6 hw0 rfl (.tmp rfl rfl (.tmp rfl rfl .nil)) rfl
     ·replace hφ := if_else hφ hc9
      refine Q0 (σ' := ⟨[(0, _), (4, _), (6, _), (7, _), (10, _), (11, _)], [(7, _), (1004, _)]⟩) (j6 rfl rfl rfl rfl rfl rfl) (j2 rfl rfl) ?_
      refine Q4 ?_
      refine Q2 ?_
      obtain ⟨hb10, hφ⟩ := G_some hφ
      refine Q1 ?_
      refine O5 (ox0 .tmp) (.one rfl) .nil rfl <| O5 (ox4 t23) (.one rfl) (.one rfl) rfl <| O5 (ox_buildSlice_val s27 z23 (.cons .tmp Parts.nil) rfl (by decide)) (.app (.one rfl) .nil) .nil rfl ?_
      refine Ops.putK [4, 29] rfl rfl (ox_append a27 .tmp .tmp hb10.1 hb10.2) (.app (.one rfl) (.one rfl)) (.one rfl) rfl (by kernel_rfl) ?_
      refine O5 (ox1 .tmp) (.one rfl) .nil rfl <| O1 <| Q0 (σ' := ⟨[(0, _), (4, _), (6, _), (10, _), (11, _)], [(1004, .arr 23 (y1004_m2 ++ ([v8.1] : List Mk.Call)))]⟩) (j5 rfl rfl rfl rfl rfl) (j1 rfl) ?_
      obtain ⟨hb11, hφ⟩ := G_some hφ
      refine Q1 ?_
      refine O5 (ox0 .tmp) (.one rfl) .nil rfl <| O5 (ox_add .tmp .int hb11) (.app (.one rfl) .nil) .nil rfl <| O5 (ox1 .tmp) (.one rfl) .nil rfl <| O1 <| Q0 (σ' := ⟨[(0, _), (4, _), (5, .val (x11_m2 + (1 : Int))), (10, _), (11, _)], [(1004, _)]⟩) (j5 rfl rfl rfl rfl rfl) (j1 rfl) ?_
      exact PT.meet (x0_m2, (x11_m2 + (1 : Int)), x10_m2, x11_m2, (y1004_m2 ++ ([v8.1] : List Mk.Call))) hφ (j5 rfl rfl rfl rfl rfl) (j1 rfl)
   ·rintro ⟨x0_k4, x5_k4, x10_k4, x11_k4, y1004_k4⟩ hφ
    subst hk4
    refine Q0 (σ' := ⟨[(0, .val (x0_k4)), (4, _), (5, .val (x5_k4)), (10, .val (x10_k4)), (11, .val (x11_k4))], [(1004, .arr 23 (y1004_k4))]⟩) (j5 rfl rfl rfl rfl rfl) (j1 rfl) ?_
    obtain ⟨hb12, hφ⟩ := G_some hφ
    refine Q1 ?_
    refine O5 (ox_add .tmp .int hb12) (.app (.one rfl) .nil) .nil rfl <| O5 (ox0 .tmp) (.one rfl) .nil rfl <| O1 <| Q0 (σ' := ⟨[(0, _), (4, _), (5, _), (10, _), (11, .val (x11_k4 + (1 : Int)))], [(1004, _)]⟩) (j5 rfl rfl rfl rfl rfl) (j1 rfl) ?_
    exact PT.next (m2, x0_k4, x5_k4, x10_k4, (x11_k4 + (1 : Int)), y1004_k4) hφ (Nat.lt_succ_self _) (j5 rfl rfl rfl rfl rfl) (j1 rfl)
  ·replace hφ := if_else hφ hc3
   refine Q0 (σ' := ⟨[(0, _), (4, _), (5, _)], [(1004, _)]⟩) (j3 rfl rfl rfl) (j1 rfl) ?_
   refine PT.exit ?_
   exact PT.meet (x0_m2, x5_m2, y1004_m2) hφ (j3 rfl rfl rfl) (j1 rfl)
 ·rintro ⟨x0_k1, x5_k1, y1004_k1⟩ hφ
  subst hk1
  refine Q0 (σ' := ⟨[(0, .val (x0_k1)), (4, .sl 1004), (5, .val (x5_k1))], [(1004, .arr 23 (y1004_k1))]⟩) (j3 rfl rfl rfl) (j1 rfl) ?_
  refine Q2 ?_
  refine Q2 (Q1 ?_)
  refine O5 (ox0 .tmp) (.one rfl) .nil rfl <| O5 (ox0 .tmp) (.one rfl) .nil rfl <| O5 (ox_len_str str9 .tmp) (.one rfl) .nil rfl <| O5 (ox_lss .tmp .tmp) (.app (.one rfl) (.one rfl)) .nil rfl <| O1 <| Q0 (σ' := ⟨[(4, _), (39, .val (decide (x5_k1 < (x0_k1.size : Int))))], [(1004, _)]⟩) (j2 rfl rfl) (j1 rfl) ?_
  refine Q3 _ rfl (fun hc13 => ?_) (fun hc13 => ?_)
  ·replace hφ := if_then hφ hc13
   refine Q0 (σ' := ⟨[], []⟩) trivial trivial ?_
   refine Q2 (Q1 ?_)
   refine O5 (ox1 .nilS) .nil .nil rfl <| O5 (ox1 .int) .nil .nil rfl <| O1 <| Q0 (σ' := ⟨[(2, .nilS), (3, .val (8 : Int))], []⟩) (j2 rfl rfl) trivial ?_
   refine Q5 ?_
   refine PT.asNil 2 (Mk.Call) rfl ?_
   obtain rfl := Option.some.inj hφ
   exact Q6 hw0 rfl (.tmp rfl rfl (.tmp rfl rfl .nil)) rfl
  ·replace hφ := if_else hφ hc13
   refine Q0 (σ' := ⟨[(4, _)], [(1004, _)]⟩) (j1 rfl) (j1 rfl) ?_
   refine Q4 ?_
   refine Q2 ?_
   refine Q2 (Q1 ?_)
   refine O5 (ox0 .tmp) (.one rfl) .nil rfl <| O5 (ox_len_arr s27 .tmp) (.one rfl) (.one rfl) rfl <| O5 (ox_gtr .tmp .int) (.app (.one rfl) .nil) .nil rfl <| O1 <| Q0 (σ' := ⟨[(4, _), (42, .val (decide ((8 : Int) < (y1004_k1.length : Int))))], [(1004, _)]⟩) (j2 rfl rfl) (j1 rfl) ?_
   refine Q3 _ rfl (fun hc14 => ?_) (fun hc14 => ?_)
   ·replace hφ := if_then hφ hc14
    refine Q0 (σ' := ⟨[], []⟩) trivial trivial ?_
    refine Q2 (Q1 ?_)
    refine O5 (ox1 .nilS) .nil .nil rfl <| O5 (ox1 .int) .nil .nil rfl <| O1 <| Q0 (σ' := ⟨[(2, .nilS), (3, .val (5 : Int))], []⟩) (j2 rfl rfl) trivial ?_
    refine Q5 ?_
    refine PT.asNil 2 (Mk.Call) rfl ?_
    obtain rfl := Option.some.inj hφ
    exact Q6 hw0 rfl (.tmp rfl rfl (.tmp rfl rfl .nil)) rfl
   ·replace hφ := if_else hφ hc14
    refine Q0 (σ' := ⟨[(4, _)], [(1004, _)]⟩) (j1 rfl) (j1 rfl) ?_
    refine Q4 ?_
    refine Q2 (Q1 ?_)
    refine O5 (ox0 .tmp) (.one rfl) .nil rfl <| O5 (ox1 .tmp) (.one rfl) .nil rfl <| O5 (ox1 .int) .nil .nil rfl <| O1 <| Q0 (σ' := ⟨[(2, _), (3, .val (0 : Int))], [(1004, _)]⟩) (j2 rfl rfl) (j1 rfl) ?_
    refine Q5 ?_
    refine PT.freeze 1004 [2] rfl (j1 rfl) ?_
    obtain rfl := Option.some.inj hφ
    exact Q6 hw0 rfl (.tmp rfl rfl (.tmp rfl rfl .nil)) rfl
end Go.Gx
end
section
namespace Go.Gx
open Sp
theorem c_mklaw3_alive  {r : Bool} (hφ : mklaw3_alive  = some r) : FnG Go.Proofs.Tryd.prog GT 16 [] (.val r) := by
 unfold mklaw3_alive at hφ
 refine FnG.mk' Go.Proofs.Tryd.func16 rfl (by decide) rfl rfl rfl (fun w0 hw0 hG0 => ?_)
 refine Q2 (Q1 ?_)
 refine O5 (ox1 .bool) .nil .nil rfl <| O1 <| Q0 (σ' := ⟨[], []⟩) trivial trivial ?_
 refine Q2 ?_
 obtain ⟨v1, hv1, hφ⟩ := B_some hφ
 refine Q1 ?_
 refine Ops.putW rfl rfl (ox_callW keepG hw0 hG0 (c_text_ReadCall hv1) (.cons (.str (by decide)) .nil)) (.app .nil .nil) .nil rfl ?_
 refine O5 (ox0 .tmp) (.one rfl) .nil rfl <| O5 (ox7 rfl) (.one rfl) .nil rfl <| O5 (ox7 rfl) (.one rfl) .nil rfl <| O3 rfl rfl (ox_alloc (id := 1) z23) .nil .nil rfl (by kernel_rfl) <| O2 rfl rfl (ox5 t23 .tmp) (.cons rfl (.one rfl)) (.one rfl) <| O5 (ox1 .tmp) (.one rfl) .nil rfl <| O1 <| Q0 (σ' := ⟨[(1, _), (2, .val (v1.2))], [(1, .var (v1.1) [])]⟩) (j2 rfl rfl) (j1 rfl) ?_
 refine Q2 ?_
 obtain ⟨v2, hv2, hφ⟩ := B_some hφ
 refine Q1 ?_
 refine Ops.putW rfl rfl (ox_callW keepG hw0 hG0 (c_text_Parse hv2) (.cons (.str (by decide)) .nil)) (.app .nil .nil) .nil rfl ?_
 refine O5 (ox0 .tmp) (.one rfl) .nil rfl <| O5 (ox7 rfl) (.one rfl) .nil rfl <| O5 (ox7 rfl) (.one rfl) .nil rfl <| O5 (ox1 .tmp) (.one rfl) .nil rfl <| O5 (ox1 .tmp) (.one rfl) .nil rfl <| O1 <| Q0 (σ' := ⟨[(1, _), (2, _), (3, .val (v2.1)), (4, .val (v2.2))], [(1, _)]⟩) (j4 rfl rfl rfl rfl) (j1 rfl) ?_
 refine Q2 ?_
 obtain ⟨v3, hv3, hφ⟩ := B_some hφ
 obtain ⟨v4, hv4, hφ⟩ := B_some hφ
 refine Q1 ?_
 refine O5 (ox0 .tmp) (.one rfl) .nil rfl <| O5 (ox_eql .tmp .int) (.app (.one rfl) .nil) .nil rfl <| O5 (ox0 .tmp) (.one rfl) .nil rfl <| O4 rfl rfl rfl rfl (.plain .nil) (fun hG => (ox0 .tmp)) (j1 rfl) .nil rfl <| O4 rfl rfl rfl rfl (.cond (fun h => h) .nil) (fun hG => (ox_eql .tmp .int)) (j1 rfl) .nil rfl <| O5 ox8 (j2 rfl rfl) .nil rfl ?_
 refine O5 (ox0 .tmp) (.one rfl) .nil rfl <| O4 rfl rfl rfl rfl (.plain .nil) (fun hG => (ox3 Call_Other f23_2)) (j1 rfl) .nil rfl <| O4 rfl rfl rfl rfl (.cond (fun h => h) .nil) (fun hG => (ox2 t3)) (j1 rfl) (.one rfl) rfl <| O4 rfl rfl rfl rfl (.cond (fun h => h) .nil) (fun hG => (ox_eql .tmp .int)) (j1 rfl) .nil rfl <| O5 ox8 (j2 rfl rfl) .nil rfl <| O5 (ox0 .tmp) (.one rfl) .nil rfl ?_
 refine O4 rfl rfl rfl rfl (.plain .nil) (fun hG => (ox4 t23)) (j1 rfl) (.one rfl) rfl ?_
 refine Ops.guardW rfl rfl rfl rfl (.cond (fun h => h) .nil) (fun hG => (ox_callW keepG hw0 hG0 (c_text_Call (Cn_on hv3 hG)) (.cons .tmp .nil))) (j1 rfl) .nil rfl ?_
 refine O4 rfl rfl rfl rfl (.cond (fun h => h) .nil) (fun hG => (ox_eqlStr .tmp (.str (by decide)))) (j1 rfl) .nil rfl <| O5 ox8 (j2 rfl rfl) .nil rfl <| O5 (ox0 .tmp) (.one rfl) .nil rfl <| O4 rfl rfl rfl rfl (.plain .nil) (fun hG => (ox0 .tmp)) (j1 rfl) .nil rfl <| O4 rfl rfl rfl rfl (.cond (fun h => h) .nil) (fun hG => (ox_len s27 .tmp)) (j1 rfl) .nil rfl <| O4 rfl rfl rfl rfl (.cond (fun h => h) .nil) (fun hG => (ox_eql .tmp .int)) (j1 rfl) .nil rfl ?_
 refine O5 ox8 (j2 rfl rfl) .nil rfl <| O5 (ox0 .tmp) (.one rfl) .nil rfl <| O4 rfl rfl rfl rfl (.plain .nil) (fun hG => (ox0 .tmp)) (j1 rfl) .nil rfl ?_
 refine Ops.guardW rfl rfl rfl rfl (.cond (fun h => h) .nil) (fun hG => (ox_callW keepG hw0 hG0 (c_text_Print (Cn_on hv4 hG)) (.cons .tmp .nil))) (j1 rfl) .nil rfl ?_
 refine O4 rfl rfl rfl rfl (.cond (fun h => h) .nil) (fun hG => (ox_eqlStr .tmp (.str (by decide)))) (j1 rfl) .nil rfl <| O5 ox8 (j2 rfl rfl) .nil rfl <| O5 (ox1 .tmp) (.one rfl) .nil rfl <| O1 <| Q0 (σ' := ⟨[(0, .val (((((((decide (v1.2 = (0 : Int))) && (decide (v2.2 = (0 : Int)))) && (decide (v1.1.Other = (4 : Int)))) && (decide (v3 = (⟨#[115, 119, 97, 112, 32, 51, 32, 52]⟩ : ByteArray)))) && (decide ((v2.1.length : Int) = (2 : Int)))) && (decide (v4 = (⟨#[99, 111, 117, 110, 116, 10, 112, 117, 116, 32, 55, 32, 45, 53, 10]⟩ : ByteArray))))))], []⟩) (j1 rfl) trivial ?_
 refine Q5 ?_
 obtain rfl := Option.some.inj hφ
 exact Q6 hw0 rfl (.tmp rfl rfl .nil) rfl
theorem c_mklaw3_TextTells {a0 : ByteArray} {a1 : Mk.Call} {r : Bool} (hφ : mklaw3_TextTells a0 a1 = some r) : FnG Go.Proofs.Tryd.prog GT 3 [.val a0, .val a1] (.val r) := by
 unfold mklaw3_TextTells at hφ
 refine FnG.mk' Go.Proofs.Tryd.func3 rfl (by decide) rfl rfl rfl (fun w0 hw0 hG0 => ?_)
 refine Q2 (Q1 ?_)
 refine O3 rfl rfl (ox_box (id := 3) .tmp) (.one rfl) .nil rfl (by kernel_rfl) <| O5 (ox1 .bool) .nil .nil rfl <| O1 <| Q0 (σ' := ⟨[(0, .val (a0)), (3, _)], [(3, .var (a1) [])]⟩) (j2 rfl rfl) (j1 rfl) ?_
 refine Q2 ?_
 obtain ⟨v1, hv1, hφ⟩ := B_some hφ
 refine Q1 ?_
 refine O5 (ox0 .tmp) (.one rfl) .nil rfl ?_
 refine Ops.putW rfl rfl (ox_callW keepG hw0 hG0 (c_text_ReadCall hv1) (.cons .tmp .nil)) (.app (.one rfl) .nil) .nil rfl ?_
 refine O5 (ox0 .tmp) (.one rfl) .nil rfl <| O5 (ox7 rfl) (.one rfl) .nil rfl <| O5 (ox7 rfl) (.one rfl) .nil rfl <| O3 rfl rfl (ox_alloc (id := 5) z23) .nil .nil rfl (by kernel_rfl) <| O2 rfl rfl (ox5 t23 .tmp) (.cons rfl (.one rfl)) (.one rfl) <| O5 (ox1 .tmp) (.one rfl) .nil rfl <| O1 <| Q0 (σ' := ⟨[(0, _), (3, _), (5, _), (6, .val (v1.2))], [(3, _), (5, .var (v1.1) [])]⟩) (j4 rfl rfl rfl rfl) (j2 rfl rfl) ?_
 refine Q2 ?_
 obtain ⟨v2, hv2, hφ⟩ := B_some hφ
 refine Q1 ?_
 refine O5 (ox0 .tmp) (.one rfl) .nil rfl ?_
 refine Ops.putW rfl rfl (ox_callW keepG hw0 hG0 (c_mkref1_ReadCall hv2) (.cons .tmp .nil)) (.app (.one rfl) .nil) .nil rfl ?_
 refine O5 (ox0 .tmp) (.one rfl) .nil rfl <| O5 (ox7 rfl) (.one rfl) .nil rfl <| O5 (ox7 rfl) (.one rfl) .nil rfl <| O3 rfl rfl (ox_alloc (id := 7) z23) .nil .nil rfl (by kernel_rfl) <| O2 rfl rfl (ox5 t23 .tmp) (.cons rfl (.one rfl)) (.one rfl) <| O5 (ox1 .tmp) (.one rfl) .nil rfl <| O1 <| Q0 (σ' := ⟨[(0, _), (3, _), (5, _), (6, _), (7, _), (8, .val (v2.2))], [(3, _), (5, _), (7, .var (v2.1) [])]⟩) (j6 rfl rfl rfl rfl rfl rfl) (j3 rfl rfl rfl) ?_
 refine Q2 ?_
 refine Q2 (Q1 ?_)
 refine O5 (ox0 .tmp) (.one rfl) .nil rfl <| O5 (ox0 .tmp) (.one rfl) .nil rfl <| O5 (ox_neq .tmp .tmp) (.app (.one rfl) (.one rfl)) .nil rfl <| O5 (ox0 .tmp) (.one rfl) .nil rfl <| O4 rfl rfl rfl rfl (.plain .nil) (fun hG => (ox4 t23)) (j1 rfl) (.one rfl) rfl <| O4 rfl rfl rfl rfl (.plain .nil) (fun hG => (ox4 t23)) (j1 rfl) (.one rfl) rfl ?_
 refine O4 rfl rfl rfl rfl (.cond (fun h => h) (.cond (fun h => h) .nil)) (fun hG => (ox_neqT e23 .tmp .tmp)) (j2 rfl rfl) .nil rfl <| O5 ox9 (j2 rfl rfl) .nil rfl <| O1 <| Q0 (σ' := ⟨[(0, _), (3, _), (28, .val ((!decide (v1.2 = v2.2)) || (!decide (v1.1 = v2.1))))], [(3, _)]⟩) (j3 rfl rfl rfl) (j1 rfl) ?_
 refine Q3 _ rfl (fun hc3 => ?_) (fun hc3 => ?_)
 ·replace hφ := if_then hφ hc3
  refine Q0 (σ' := ⟨[], []⟩) trivial trivial ?_
  refine Q2 (Q1 ?_)
  refine O5 (ox1 .bool) .nil .nil rfl <| O1 <| Q0 (σ' := ⟨[(4, .val (false))], []⟩) (j1 rfl) trivial ?_
  refine Q5 ?_
  obtain rfl := Option.some.inj hφ
  exact Q6 hw0 rfl (.tmp rfl rfl .nil) rfl
 ·replace hφ := if_else hφ hc3
  refine Q0 (σ' := ⟨[(0, _), (3, _)], [(3, _)]⟩) (j2 rfl rfl) (j1 rfl) ?_
  refine Q4 ?_
  refine Q2 ?_
  obtain ⟨v4, hv4, hφ⟩ := B_some hφ
  refine Q1 ?_
  refine O5 (ox0 .tmp) (.one rfl) .nil rfl ?_
  refine Ops.putW rfl rfl (ox_callW keepG hw0 hG0 (c_text_Parse hv4) (.cons .tmp .nil)) (.app (.one rfl) .nil) .nil rfl ?_
  refine O5 (ox0 .tmp) (.one rfl) .nil rfl <| O5 (ox7 rfl) (.one rfl) .nil rfl <| O5 (ox7 rfl) (.one rfl) .nil rfl <| O5 (ox1 .tmp) (.one rfl) .nil rfl <| O5 (ox1 .tmp) (.one rfl) .nil rfl <| O1 <| Q0 (σ' := ⟨[(0, _), (3, _), (6, .val (v4.2)), (9, .val (v4.1))], [(3, _)]⟩) (j4 rfl rfl rfl rfl) (j1 rfl) ?_
  refine Q2 ?_
  obtain ⟨v5, hv5, hφ⟩ := B_some hφ
  refine Q1 ?_
  refine O5 (ox0 .tmp) (.one rfl) .nil rfl ?_
  refine Ops.putW rfl rfl (ox_callW keepG hw0 hG0 (c_mkref1_Parse hv5) (.cons .tmp .nil)) (.app (.one rfl) .nil) .nil rfl ?_
  refine O5 (ox0 .tmp) (.one rfl) .nil rfl <| O5 (ox7 rfl) (.one rfl) .nil rfl <| O5 (ox7 rfl) (.one rfl) .nil rfl <| O5 (ox1 .tmp) (.one rfl) .nil rfl <| O5 (ox1 .tmp) (.one rfl) .nil rfl <| O1 <| Q0 (σ' := ⟨[(3, _), (6, _), (8, .val (v5.2)), (9, _), (10, .val (v5.1))], [(3, _)]⟩) (j5 rfl rfl rfl rfl rfl) (j1 rfl) ?_
  refine Q2 (Q2 ?_)
  obtain ⟨v6, hv6, hφ⟩ := B_some hφ
  refine Q1 ?_
  refine O5 (ox0 .tmp) (.one rfl) .nil rfl <| O5 (ox0 .tmp) (.one rfl) .nil rfl <| O5 (ox_neq .tmp .tmp) (.app (.one rfl) (.one rfl)) .nil rfl <| O5 (ox0 .tmp) (.one rfl) .nil rfl <| O4 rfl rfl rfl rfl (.plain .nil) (fun hG => (ox0 .tmp)) (j1 rfl) .nil rfl <| O4 rfl rfl rfl rfl (.plain .nil) (fun hG => (ox0 .tmp)) (j1 rfl) .nil rfl ?_
  refine O4 rfl rfl rfl rfl (.cond (fun h => h) (.cond (fun h => h) .nil)) (fun hG => (ox_call (c_mkref1_SameCalls (Cn_on hv6 hG)) (.cons .tmp (.cons .tmp .nil)))) (j2 rfl rfl) .nil rfl <| O4 rfl rfl rfl rfl (.cond (fun h => h) .nil) (fun hG => (ox_not .tmp)) (j1 rfl) .nil rfl <| O5 ox9 (j2 rfl rfl) .nil rfl <| O1 <| Q0 (σ' := ⟨[(3, _), (47, .val ((!decide (v4.2 = v5.2)) || (!v6)))], [(3, _)]⟩) (j2 rfl rfl) (j1 rfl) ?_
  refine Q3 _ rfl (fun hc7 => ?_) (fun hc7 => ?_)
  ·replace hφ := if_then hφ hc7
   refine Q0 (σ' := ⟨[], []⟩) trivial trivial ?_
   refine Q2 (Q1 ?_)
   refine O5 (ox1 .bool) .nil .nil rfl <| O1 <| Q0 (σ' := ⟨[(4, .val (false))], []⟩) (j1 rfl) trivial ?_
   refine Q5 ?_
   obtain rfl := Option.some.inj hφ
   exact Q6 hw0 rfl (.tmp rfl rfl .nil) rfl
  ·replace hφ := if_else hφ hc7
   refine Q0 (σ' := ⟨[(3, _)], [(3, _)]⟩) (j1 rfl) (j1 rfl) ?_
   refine Q4 ?_
   refine Q2 ?_
   obtain ⟨v8, hv8, hφ⟩ := B_some hφ
   obtain ⟨v9, hv9, hφ⟩ := B_some hφ
   obtain ⟨v10, hv10, hφ⟩ := B_some hφ
   obtain ⟨v11, hv11, hφ⟩ := B_some hφ
   obtain ⟨v12, hv12, hφ⟩ := B_some hφ
   refine Q8 hMixed (
     .cons (S5 (ox4 t23)) ⟨.one rfl, .one rfl⟩ (by kernel_rfl) rfl <|
     .cons (S5 (ox_call (c_mkref1_WrongCall hv8) (.cons .tmp .nil))) ⟨(.app (.one rfl) .nil), .nil⟩ (by kernel_rfl) rfl <|
     .cons (S5 (ox_neq .tmp .int)) ⟨(.app (.one rfl) .nil), .nil⟩ (by kernel_rfl) rfl <|
     .cons (S5 (ox0 .tmp)) ⟨.one rfl, .nil⟩ (by kernel_rfl) rfl <|
     .cons (S3 rfl rfl rfl Grd.plain _ (by first | exact Iff.rfl | (simp; done) | (simp; intros; exact Iff.rfl)) (.plain .nil) (fun hG => (ox4 t23))) ⟨(.cons rfl (j1 rfl)), .one rfl⟩ (by kernel_rfl) rfl <|
     .consW (StepW.guard rfl rfl rfl Grd.plain _ (by first | exact Iff.rfl | (simp; done) | (simp; intros; exact Iff.rfl)) (.cond (fun h => h) .nil) (fun hG => (ox_callW keepG hw0 hG0 (c_text_Call (Cn_on hv9 hG)) (.cons .tmp .nil)))) ⟨(.cons rfl (j1 rfl)), .nil⟩ (by kernel_rfl) rfl <|
     .cons (S3 rfl rfl rfl Grd.plain _ (by first | exact Iff.rfl | (simp; done) | (simp; intros; exact Iff.rfl)) (.plain .nil) (fun hG => (ox4 t23))) ⟨(.cons rfl (j1 rfl)), .one rfl⟩ (by kernel_rfl) rfl <|
     .consW (StepW.guard rfl rfl rfl Grd.plain _ (by first | exact Iff.rfl | (simp; done) | (simp; intros; exact Iff.rfl)) (.cond (fun h => h) .nil) (fun hG => (ox_callW keepG hw0 hG0 (c_mkref1_CallText (Cn_on hv10 hG)) (.cons .tmp .nil)))) ⟨(.cons rfl (j1 rfl)), .nil⟩ (by kernel_rfl) rfl <|
     .cons (S3 rfl rfl rfl Grd.plain _ (by first | exact Iff.rfl | (simp; done) | (simp; intros; exact Iff.rfl)) (.cond (fun h => h) (.cond (fun h => h) .nil)) (fun hG => (ox_eqlStr .tmp .tmp))) ⟨(.cons rfl (j2 rfl rfl)), .nil⟩ (by kernel_rfl) rfl <|
     .cons (S3 rfl rfl rfl Grd.plain _ (by first | exact Iff.rfl | (simp; done) | (simp; intros; exact Iff.rfl)) (.cond (fun h => h) .nil) (fun hG => (ox0 .tmp))) ⟨(.cons rfl (j1 rfl)), .nil⟩ (by kernel_rfl) rfl <|
     .cons (S3 rfl rfl rfl Grd.cond _ (by first | exact Iff.rfl | (simp; done) | (simp; intros; exact Iff.rfl)) (.plain .nil) (fun hG => (ox4 t23))) ⟨(.cons rfl (j1 rfl)), .one rfl⟩ (by kernel_rfl) rfl <|
     .cons (S3 rfl rfl rfl Grd.cond _ (by first | exact Iff.rfl | (simp; done) | (simp; intros; exact Iff.rfl)) (.plain .nil) (fun hG => (ox4 t23))) ⟨(.cons rfl (j1 rfl)), .one rfl⟩ (by kernel_rfl) rfl <|
     .cons (S3 rfl rfl rfl Grd.cond _ (by first | exact Iff.rfl | (simp; done) | (simp; intros; exact Iff.rfl)) (.cond (fun h => h) (.cond (fun h => h) .nil)) (fun hG => (ox_buildSlice_val s27 z23 (.cons .tmp (.cons .tmp Parts.nil)) rfl (by decide)))) ⟨(.cons rfl (j2 rfl rfl)), .nil⟩ (by kernel_rfl) rfl <|
     .consW (StepW.guard rfl rfl rfl Grd.cond _ (by first | exact Iff.rfl | (simp; done) | (simp; intros; exact Iff.rfl)) (.cond (fun h => h) .nil) (fun hG => (ox_callW keepG hw0 hG0 (c_text_Print (Cn_on hv11 hG)) (.cons .tmp .nil)))) ⟨(.cons rfl (j1 rfl)), .nil⟩ (by kernel_rfl) rfl <|
     .cons (S3 rfl rfl rfl Grd.cond _ (by first | exact Iff.rfl | (simp; done) | (simp; intros; exact Iff.rfl)) (.plain .nil) (fun hG => (ox4 t23))) ⟨(.cons rfl (j1 rfl)), .one rfl⟩ (by kernel_rfl) rfl <|
     .cons (S3 rfl rfl rfl Grd.cond _ (by first | exact Iff.rfl | (simp; done) | (simp; intros; exact Iff.rfl)) (.plain .nil) (fun hG => (ox4 t23))) ⟨(.cons rfl (j1 rfl)), .one rfl⟩ (by kernel_rfl) rfl <|
     .cons (S3 rfl rfl rfl Grd.cond _ (by first | exact Iff.rfl | (simp; done) | (simp; intros; exact Iff.rfl)) (.cond (fun h => h) (.cond (fun h => h) .nil)) (fun hG => (ox_buildSlice_val s27 z23 (.cons .tmp (.cons .tmp Parts.nil)) rfl (by decide)))) ⟨(.cons rfl (j2 rfl rfl)), .nil⟩ (by kernel_rfl) rfl <|
     .consW (StepW.guard rfl rfl rfl Grd.cond _ (by first | exact Iff.rfl | (simp; done) | (simp; intros; exact Iff.rfl)) (.cond (fun h => h) .nil) (fun hG => (ox_callW keepG hw0 hG0 (c_mkref1_Print (Cn_on hv12 hG)) (.cons .tmp .nil)))) ⟨(.cons rfl (j1 rfl)), .nil⟩ (by kernel_rfl) rfl <|
     .cons (S3 rfl rfl rfl Grd.cond _ (by first | exact Iff.rfl | (simp; done) | (simp; intros; exact Iff.rfl)) (.cond (fun h => h) (.cond (fun h => h) .nil)) (fun hG => (ox_eqlStr .tmp .tmp))) ⟨(.cons rfl (j2 rfl rfl)), .nil⟩ (by kernel_rfl) rfl <|
     .cons (S3 rfl rfl rfl Grd.plain _ (by first | exact Iff.rfl | (simp; done) | (simp; intros; exact Iff.rfl)) (.cond (fun h => h) (.part (fun h => h) .nil)) (fun hG => ox8)) ⟨(.cons rfl (j2 rfl rfl)), .nil⟩ (by kernel_rfl) rfl <|
     .cons (S5 ox9) ⟨(j2 rfl rfl), .nil⟩ (by kernel_rfl) rfl <|
     .cons (S5 (ox1 .tmp)) ⟨.one rfl, .nil⟩ (by kernel_rfl) rfl <|
     .nil) _ [[], [0], [0, 1], [0, 1, 2], [0, 1, 2, 3], [0, 1, 2, 3, 4], [0, 1, 2, 3], [0, 1, 2, 3, 4, 5, 6], [0, 1, 2, 3, 4, 5, 6, 7], [0, 1, 2, 3, 4, 5, 6, 7, 8], [0, 1, 2, 3, 4, 5, 6, 7, 8, 9], [0, 1, 2, 3, 4, 5, 6, 7, 8, 9], [0, 1, 2, 3, 4, 5, 6, 7, 8, 9, 10, 11], [0, 1, 2, 3, 4, 5, 6, 7, 8, 9, 10, 11, 12], [0, 1, 2, 3, 4, 5, 6, 7, 8, 9], [0, 1, 2, 3, 4, 5, 6, 7, 8, 9], [0, 1, 2, 3, 4, 5, 6, 7, 8, 9, 14, 15], [0, 1, 2, 3, 4, 5, 6, 7, 8, 9, 10, 11, 12, 13, 14, 15, 16], [0, 1, 2, 3, 4, 5, 6, 7, 8, 9, 10, 11, 12, 13, 14, 15, 16, 17], [0, 1, 2, 3, 4, 5, 6, 7, 8, 9, 10, 11, 12, 13, 14, 15, 16, 17, 18], [0, 1, 2, 3, 4, 5, 6, 7, 8, 9, 10, 11, 12, 13, 14, 15, 16, 17, 18, 19], [0, 1, 2, 3, 4, 5, 6, 7, 8, 9, 10, 11, 12, 13, 14, 15, 16, 17, 18, 19, 20]] rfl (by kernel_rfl) (by kernel_rfl) ?_
   refine Q0 (σ' := ⟨[(4, .val ((!decide (v8 = (0 : Int))) || ((decide (v9 = v10)) && (decide (v11 = v12)))))], []⟩) (j1 rfl) trivial ?_
   refine Q5 ?_
   obtain rfl := Option.some.inj hφ
   exact Q6 hw0 rfl (.tmp rfl rfl .nil) rfl
theorem c_mklaw3_TextBehind {a0 : ByteArray} {a1 : ByteArray} {r : Bool} (hφ : mklaw3_TextBehind a0 a1 = some r) : FnG Go.Proofs.Tryd.prog GT 4 [.val a0, .val a1] (.val r) := by
 unfold mklaw3_TextBehind at hφ
 refine FnG.mk' Go.Proofs.Tryd.func4 rfl (by decide) rfl rfl rfl (fun w0 hw0 hG0 => ?_)
 refine Q2 (Q1 ?_)
 refine O5 (ox1 .bool) .nil .nil rfl <| O1 <| Q0 (σ' := ⟨[(0, .val (a0)), (1, .val (a1))], []⟩) (j2 rfl rfl) trivial ?_
 refine Q2 (Q2 ?_)
 obtain ⟨v1, hv1, hφ⟩ := B_some hφ
 refine Q1 ?_
 refine Ops.putW rfl rfl (ox_callW keepG hw0 hG0 (c_mklaw3_alive hv1) .nil) .nil .nil rfl ?_
 refine O5 (ox_not .tmp) (.one rfl) .nil rfl <| O1 <| Q0 (σ' := ⟨[(0, _), (1, _), (12, .val (!v1))], []⟩) (j3 rfl rfl rfl) trivial ?_
 refine Q3 _ rfl (fun hc2 => ?_) (fun hc2 => ?_)
 ·replace hφ := if_then hφ hc2
  refine Q0 (σ' := ⟨[], []⟩) trivial trivial ?_
  refine Q2 (Q1 ?_)
  refine O5 (ox1 .bool) .nil .nil rfl <| O1 <| Q0 (σ' := ⟨[(4, .val (false))], []⟩) (j1 rfl) trivial ?_
  refine Q5 ?_
  obtain rfl := Option.some.inj hφ
  exact Q6 hw0 rfl (.tmp rfl rfl .nil) rfl
 ·replace hφ := if_else hφ hc2
  refine Q0 (σ' := ⟨[(0, _), (1, _)], []⟩) (j2 rfl rfl) trivial ?_
  refine Q4 ?_
  refine Q2 ?_
  obtain ⟨v3, hv3, hφ⟩ := B_some hφ
  refine Q1 ?_
  refine O5 (ox0 .tmp) (.one rfl) .nil rfl ?_
  refine Ops.putW rfl rfl (ox_callW keepG hw0 hG0 (c_text_Parse hv3) (.cons .tmp .nil)) (.app (.one rfl) .nil) .nil rfl ?_
  refine O5 (ox0 .tmp) (.one rfl) .nil rfl <| O5 (ox7 rfl) (.one rfl) .nil rfl <| O5 (ox7 rfl) (.one rfl) .nil rfl <| O5 (ox1 .tmp) (.one rfl) .nil rfl <| O5 (ox1 .tmp) (.one rfl) .nil rfl <| O1 <| Q0 (σ' := ⟨[(0, _), (1, _), (5, .val (v3.1)), (6, .val (v3.2))], []⟩) (j4 rfl rfl rfl rfl) trivial ?_
  refine Q2 ?_
  obtain ⟨v4, hv4, hφ⟩ := B_some hφ
  refine Q1 ?_
  refine O5 (ox0 .tmp) (.one rfl) .nil rfl ?_
  refine Ops.putW rfl rfl (ox_callW keepG hw0 hG0 (c_text_Parse hv4) (.cons .tmp .nil)) (.app (.one rfl) .nil) .nil rfl ?_
  refine O5 (ox0 .tmp) (.one rfl) .nil rfl <| O5 (ox7 rfl) (.one rfl) .nil rfl <| O5 (ox7 rfl) (.one rfl) .nil rfl <| O5 (ox1 .tmp) (.one rfl) .nil rfl <| O5 (ox1 .tmp) (.one rfl) .nil rfl <| O1 <| Q0 (σ' := ⟨[(0, _), (1, _), (5, _), (6, _), (7, .val (v4.1)), (8, .val (v4.2))], []⟩) (j6 rfl rfl rfl rfl rfl rfl) trivial ?_
  refine Q2 ?_
  refine Q2 (Q1 ?_)
  refine O5 (ox0 .tmp) (.one rfl) .nil rfl <| O5 (ox_neq .tmp .int) (.app (.one rfl) .nil) .nil rfl <| O5 (ox0 .tmp) (.one rfl) .nil rfl <| O4 rfl rfl rfl rfl (.plain .nil) (fun hG => (ox0 .tmp)) (j1 rfl) .nil rfl <| O4 rfl rfl rfl rfl (.cond (fun h => h) .nil) (fun hG => (ox_neq .tmp .int)) (j1 rfl) .nil rfl <| O5 ox9 (j2 rfl rfl) .nil rfl <| O1 <| Q0 (σ' := ⟨[(0, _), (1, _), (5, _), (7, _), (28, .val ((!decide (v3.2 = (0 : Int))) || (!decide (v4.2 = (0 : Int)))))], []⟩) (j5 rfl rfl rfl rfl rfl) trivial ?_
  refine Q3 _ rfl (fun hc5 => ?_) (fun hc5 => ?_)
  ·replace hφ := if_then hφ hc5
   refine Q0 (σ' := ⟨[], []⟩) trivial trivial ?_
   refine Q2 (Q1 ?_)
   refine O5 (ox1 .bool) .nil .nil rfl <| O1 <| Q0 (σ' := ⟨[(4, .val (true))], []⟩) (j1 rfl) trivial ?_
   refine Q5 ?_
   obtain rfl := Option.some.inj hφ
   exact Q6 hw0 rfl (.tmp rfl rfl .nil) rfl
  ·replace hφ := if_else hφ hc5
   refine Q0 (σ' := ⟨[(0, _), (1, _), (5, _), (7, _)], []⟩) (j4 rfl rfl rfl rfl) trivial ?_
   refine Q4 ?_
   refine Q2 ?_
   obtain ⟨hb6, hφ⟩ := G_some hφ
   obtain ⟨v7, hv7, hφ⟩ := B_some hφ
   refine Q1 ?_
   refine O5 (ox0 .tmp) (.one rfl) .nil rfl <| O5 (ox0 .tmp) (.one rfl) .nil rfl <| O5 (ox_addStr .tmp .tmp hb6) (.app (.one rfl) (.one rfl)) .nil rfl ?_
   refine Ops.putW rfl rfl (ox_callW keepG hw0 hG0 (c_text_Parse hv7) (.cons .tmp .nil)) (.app (.one rfl) .nil) .nil rfl ?_
   refine O5 (ox0 .tmp) (.one rfl) .nil rfl <| O5 (ox7 rfl) (.one rfl) .nil rfl <| O5 (ox7 rfl) (.one rfl) .nil rfl <| O5 (ox1 .tmp) (.one rfl) .nil rfl <| O5 (ox1 .tmp) (.one rfl) .nil rfl <| O1 <| Q0 (σ' := ⟨[(5, _), (7, _), (9, .val (v7.1)), (10, .val (v7.2))], []⟩) (j4 rfl rfl rfl rfl) trivial ?_
   refine Q2 (Q2 ?_)
   obtain ⟨hb8, hφ⟩ := G_some hφ
   refine Q1 ?_
   refine O5 (ox0 .tmp) (.one rfl) .nil rfl <| O5 (ox_len s27 .tmp) (.one rfl) .nil rfl <| O5 (ox0 .tmp) (.one rfl) .nil rfl <| O5 (ox_len s27 .tmp) (.one rfl) .nil rfl <| O5 (ox_add .tmp .tmp hb8) (.app (.one rfl) (.one rfl)) .nil rfl <| O5 (ox_gtr .tmp .int) (.app (.one rfl) .nil) .nil rfl <| O1 <| Q0 (σ' := ⟨[(5, _), (7, _), (9, _), (10, _), (41, .val (decide ((8 : Int) < ((v3.1.length : Int) + (v4.1.length : Int)))))], []⟩) (j5 rfl rfl rfl rfl rfl) trivial ?_
   refine Q3 _ rfl (fun hc9 => ?_) (fun hc9 => ?_)
   ·replace hφ := if_then hφ hc9
    refine Q0 (σ' := ⟨[(9, _), (10, _)], []⟩) (j2 rfl rfl) trivial ?_
    refine Q2 (Q1 ?_)
    refine O5 (ox0 .tmp) (.one rfl) .nil rfl <| O5 (ox_eql .tmp .int) (.app (.one rfl) .nil) .nil rfl <| O5 (ox0 .tmp) (.one rfl) .nil rfl <| O4 rfl rfl rfl rfl (.plain .nil) (fun hG => (ox0 .tmp)) (j1 rfl) .nil rfl <| O4 rfl rfl rfl rfl (.cond (fun h => h) .nil) (fun hG => (ox_len s27 .tmp)) (j1 rfl) .nil rfl <| O4 rfl rfl rfl rfl (.cond (fun h => h) .nil) (fun hG => (ox_eql .tmp .int)) (j1 rfl) .nil rfl ?_
    refine O5 ox8 (j2 rfl rfl) .nil rfl <| O5 (ox1 .tmp) (.one rfl) .nil rfl <| O1 <| Q0 (σ' := ⟨[(4, .val ((decide (v7.2 = (5 : Int))) && (decide ((v7.1.length : Int) = (0 : Int)))))], []⟩) (j1 rfl) trivial ?_
    refine Q5 ?_
    obtain rfl := Option.some.inj hφ
    exact Q6 hw0 rfl (.tmp rfl rfl .nil) rfl
   ·replace hφ := if_else hφ hc9
    refine Q0 (σ' := ⟨[(5, _), (7, _), (9, _), (10, _)], []⟩) (j4 rfl rfl rfl rfl) trivial ?_
    refine Q4 ?_
    refine Q2 ?_
    cases hg10 : (decide (v7.2 = (0 : Int)))
    case true =>
     replace hφ := if_then hφ hg10
     obtain ⟨hb11, hφ⟩ := G_some hφ
     obtain ⟨hb12, hφ⟩ := G_some hφ
     obtain ⟨v13, hv13, hφ⟩ := B_some hφ
     refine Q1 ?_
     refine O5 (ox0 .tmp) (.one rfl) .nil rfl <| O5 (ox_eql .tmp .int) (.app (.one rfl) .nil) .nil rfl <| O5 (ox0 .tmp) (.one rfl) .nil rfl ?_
     refine Ops.cons (Step.wanted (tj := 51) rfl hg10 (S5 (ox0 .tmp))) ⟨.cons rfl (.one rfl), .nil⟩ (by kernel_rfl) rfl ?_
     refine Ops.cons (Step.wanted (tj := 51) rfl hg10 (S5 (ox_buildSlice_arr (id := 53) s27 z23 Parts.nil rfl (by decide)))) ⟨.cons rfl .nil, .nil⟩ (by kernel_rfl) rfl ?_
     refine Ops.cons (Step.wanted (tj := 51) rfl hg10 (S5 (ox0 .tmp))) ⟨.cons rfl (.one rfl), .nil⟩ (by kernel_rfl) rfl ?_
     refine Ops.cons (Step.wanted (tj := 51) rfl hg10 (Step.putK [53] rfl rfl (ox_append a27 .tmp .tmp hb11.1 hb11.2))) ⟨.cons rfl (.app (.one rfl) (.one rfl)), .one rfl⟩ (by kernel_rfl) rfl ?_
     refine Ops.cons (Step.wanted (tj := 51) rfl hg10 (S5 (ox0 .tmp))) ⟨.cons rfl (.one rfl), .nil⟩ (by kernel_rfl) rfl ?_
     refine Ops.cons (Step.wanted (tj := 51) rfl hg10 (Step.putK [53, 55] rfl rfl (ox_appendV a27 .tmp .tmp hb12.1 hb12.2))) ⟨.cons rfl (.app (.one rfl) (.one rfl)), .one rfl⟩ (by kernel_rfl) rfl ?_
     refine Ops.cons (Step.wanted (tj := 51) rfl hg10 (S5 (ox_call (c_mkref1_SameCalls hv13) (.cons .tmp (.cons .tmp .nil))))) ⟨.cons rfl (.app (.one rfl) (.app (.one rfl) .nil)), .nil⟩ (by kernel_rfl) rfl ?_
     refine O5 (ox_pick_andT hg10) (.cons rfl (.one rfl)) .nil rfl <| O5 (ox1 .tmp) (.one rfl) .nil rfl <| O1 <| Q0 (σ' := ⟨[(4, .val (v13))], []⟩) (j1 rfl) trivial ?_
     refine Q5 ?_
     obtain rfl := Option.some.inj hφ
     exact Q6 hw0 rfl (.tmp rfl rfl .nil) rfl
    case false =>
     replace hφ := if_else hφ hg10
     refine Q1 ?_
     refine O5 (ox0 .tmp) (.one rfl) .nil rfl <| O5 (ox_eql .tmp .int) (.app (.one rfl) .nil) .nil rfl <| O5 (ox0 .tmp) (.one rfl) .nil rfl ?_
     refine Ops.cons (Step.unwanted rfl (by rw [hg10]; decide)) ⟨.one rfl, .nil⟩ (by kernel_rfl) rfl ?_
     refine Ops.cons (Step.unwanted rfl (by rw [hg10]; decide)) ⟨.one rfl, .nil⟩ (by kernel_rfl) rfl ?_
     refine Ops.cons (Step.unwanted rfl (by rw [hg10]; decide)) ⟨.one rfl, .nil⟩ (by kernel_rfl) rfl ?_
     refine Ops.cons (Step.unwanted rfl (by rw [hg10]; decide)) ⟨.one rfl, .nil⟩ (by kernel_rfl) rfl ?_
     refine Ops.cons (Step.unwanted rfl (by rw [hg10]; decide)) ⟨.one rfl, .nil⟩ (by kernel_rfl) rfl ?_
     refine Ops.cons (Step.unwanted rfl (by rw [hg10]; decide)) ⟨.one rfl, .nil⟩ (by kernel_rfl) rfl ?_
     refine Ops.cons (Step.unwanted rfl (by rw [hg10]; decide)) ⟨.one rfl, .nil⟩ (by kernel_rfl) rfl ?_
     refine O5 (ox_pick_andF hg10) (.one rfl) .nil rfl <| O5 (ox1 .tmp) (.one rfl) .nil rfl <| O1 <| Q0 (σ' := ⟨[(4, .val (false))], []⟩) (j1 rfl) trivial ?_
     refine Q5 ?_
     obtain rfl := Option.some.inj hφ
     exact Q6 hw0 rfl (.tmp rfl rfl .nil) rfl
theorem c_mklaw3_TextTurns {a0 : ByteArray} {a1 : List Mk.Call} {r : Bool} (hφ : mklaw3_TextTurns a0 a1 = some r) : FnG Go.Proofs.Tryd.prog GT 5 [.val a0, .val a1] (.val r) := by
 unfold mklaw3_TextTurns at hφ
 refine FnG.mk' Go.Proofs.Tryd.func5 rfl (by decide) rfl rfl rfl (fun w0 hw0 hG0 => ?_)
 refine Q2 (Q1 ?_)
 refine O5 (ox1 .bool) .nil .nil rfl <| O1 <| Q0 (σ' := ⟨[(0, .val (a0)), (1, .val (a1))], []⟩) (j2 rfl rfl) trivial ?_
 refine Q2 (Q2 ?_)
 obtain ⟨v1, hv1, hφ⟩ := B_some hφ
 refine Q1 ?_
 refine Ops.putW rfl rfl (ox_callW keepG hw0 hG0 (c_mklaw3_alive hv1) .nil) .nil .nil rfl ?_
 refine O5 (ox_not .tmp) (.one rfl) .nil rfl <| O1 <| Q0 (σ' := ⟨[(0, _), (1, _), (13, .val (!v1))], []⟩) (j3 rfl rfl rfl) trivial ?_
 refine Q3 _ rfl (fun hc2 => ?_) (fun hc2 => ?_)
 ·replace hφ := if_then hφ hc2
  refine Q0 (σ' := ⟨[], []⟩) trivial trivial ?_
  refine Q2 (Q1 ?_)
  refine O5 (ox1 .bool) .nil .nil rfl <| O1 <| Q0 (σ' := ⟨[(4, .val (false))], []⟩) (j1 rfl) trivial ?_
  refine Q5 ?_
  obtain rfl := Option.some.inj hφ
  exact Q6 hw0 rfl (.tmp rfl rfl .nil) rfl
 ·replace hφ := if_else hφ hc2
  refine Q0 (σ' := ⟨[(0, _), (1, _)], []⟩) (j2 rfl rfl) trivial ?_
  refine Q4 ?_
  refine Q2 (Q1 ?_)
  refine O5 (ox0 .tmp) (.one rfl) .nil rfl <| O5 (ox_len s27 .tmp) (.one rfl) .nil rfl <| O5 (ox_leq .tmp .int) (.app (.one rfl) .nil) .nil rfl <| O5 (ox1 .tmp) (.one rfl) .nil rfl <| O1 <| Q0 (σ' := ⟨[(0, _), (1, _), (5, .val (decide ((a1.length : Int) ≤ (8 : Int))))], []⟩) (j3 rfl rfl rfl) trivial ?_
  obtain ⟨k3, hk3, hφ⟩ := J_some hφ
  refine PT.cut (ι := ByteArray × (List Mk.Call) × Bool) (fun p => ⟨[(0, .val (p.1)), (1, .val (p.2.1)), (5, .val (p.2.2))], []⟩) (fun p => k3 (p.1) (p.2.1) (p.2.2) = some r) ?_ ?_
  ·skip
   refine Q2 (Q1 ?_)
   refine O5 (ox0 .tmp) (.one rfl) .nil rfl <| O5 (ox_len s27 .tmp) (.one rfl) .nil rfl <| O5 (ox0 .int) .nil .nil rfl <| O1 <| Q0 (σ' := ⟨[(0, _), (1, _), (5, _), (17, .val (a1)), (18, .val (a1.length : Int)), (19, .val (0 : Int))], []⟩) (j6 rfl rfl rfl rfl rfl rfl) trivial ?_
   refine PT.block ?_
   refine PT.loop (ι := Nat × ByteArray × (List Mk.Call) × Bool × (List Mk.Call) × Int × Int) (fun p => ⟨[(0, .val (p.2.1)), (1, .val (p.2.2.1)), (5, .val (p.2.2.2.1)), (17, .val (p.2.2.2.2.1)), (18, .val (p.2.2.2.2.2.1)), (19, .val (p.2.2.2.2.2.2))], []⟩) (fun p => mklaw3_TextTurns_l1 k3 p.1 (p.2.1) (p.2.2.1) (p.2.2.2.1) (p.2.2.2.2.1) (p.2.2.2.2.2.1) (p.2.2.2.2.2.2) = some r) (fun p => p.1) (((a1.length : Int) - (0 : Int)).toNat + 1, a0, a1, (decide ((a1.length : Int) ≤ (8 : Int))), a1, (a1.length : Int), (0 : Int)) hφ (j6 rfl rfl rfl rfl rfl rfl) trivial ?_
   rintro ⟨m4, x0_m4, x1_m4, x5_m4, x17_m4, x18_m4, x19_m4⟩ (hφ : mklaw3_TextTurns_l1 k3 m4 x0_m4 x1_m4 x5_m4 x17_m4 x18_m4 x19_m4 = some r)
   obtain _ | m4 := m4
   ·exact (none_no hφ).elim
   rw [mklaw3_TextTurns_l1.eq_2] at hφ
   refine Q0 (σ' := ⟨[(0, .val (x0_m4)), (1, .val (x1_m4)), (5, .val (x5_m4)), (17, .val (x17_m4)), (18, .val (x18_m4)), (19, .val (x19_m4))], []⟩) (j6 rfl rfl rfl rfl rfl rfl) trivial ?_
   refine Q2 (Q1 ?_)
   refine O5 (ox_lss .tmp .tmp) (.app (.one rfl) (.one rfl)) .nil rfl <| O1 <| Q0 (σ' := ⟨[(0, _), (1, _), (5, _), (17, _), (18, _), (19, _), (20, .val (decide (x19_m4 < x18_m4)))], []⟩) (j7 rfl rfl rfl rfl rfl rfl rfl) trivial ?_
   refine Q2 ?_
   refine Q3 _ rfl (fun hc5 => ?_) (fun hc5 => ?_)
   ·replace hφ := if_then hφ hc5
    refine Q0 (σ' := ⟨[(0, _), (1, _), (5, _), (17, _), (18, _), (19, _)], []⟩) (j6 rfl rfl rfl rfl rfl rfl) trivial ?_
    refine Q4 ?_
    refine Q2 ?_
    refine PT.block ?_
    refine Q2 ?_
    obtain ⟨hb6, hφ⟩ := G_some hφ
    refine Q1 ?_
    refine O5 (ox_ix s27 .tmp .tmp hb6.1 hb6.2) (.app (.one rfl) (.one rfl)) .nil rfl <| O5 (ox_load_elem t23) (.one rfl) .nil rfl <| O3 rfl rfl (ox_alloc (id := 7) z23) .nil .nil rfl (by kernel_rfl) <| O2 rfl rfl (ox5 t23 .tmp) (.cons rfl (.one rfl)) (.one rfl) <| O1 <| Q0 (σ' := ⟨[(0, _), (1, _), (5, _), (7, _), (17, _), (18, _), (19, _)], [(7, .var (ix x17_m4 x19_m4) [])]⟩) (j7 rfl rfl rfl rfl rfl rfl rfl) (j1 rfl) ?_
    obtain ⟨v7, hv7, hφ⟩ := B_some hφ
    refine Q1 ?_
    refine O5 (ox0 .tmp) (.one rfl) .nil rfl <| O5 (ox0 .tmp) (.one rfl) .nil rfl <| O4 rfl rfl rfl rfl (.plain .nil) (fun hG => (ox4 t23)) (j1 rfl) (.one rfl) rfl <| O4 rfl rfl rfl rfl (.cond (fun h => h) .nil) (fun hG => (ox_call (c_mkref1_WrongCall (Cn_on hv7 hG)) (.cons .tmp .nil))) (j1 rfl) .nil rfl <| O4 rfl rfl rfl rfl (.cond (fun h => h) .nil) (fun hG => (ox_eql .tmp .int)) (j1 rfl) .nil rfl <| O5 ox8 (j2 rfl rfl) .nil rfl ?_
    refine O5 (ox1 .tmp) (.one rfl) .nil rfl <| O1 <| Q0 (σ' := ⟨[(0, _), (1, _), (5, .val (x5_m4 && (decide (v7 = (0 : Int))))), (17, _), (18, _), (19, _)], []⟩) (j6 rfl rfl rfl rfl rfl rfl) trivial ?_
    obtain ⟨hb8, hφ⟩ := G_some hφ
    refine Q1 ?_
    refine O5 (ox_add .tmp .int hb8) (.app (.one rfl) .nil) .nil rfl <| O5 (ox0 .tmp) (.one rfl) .nil rfl <| O1 <| Q0 (σ' := ⟨[(0, _), (1, _), (5, _), (17, _), (18, _), (19, .val (x19_m4 + (1 : Int)))], []⟩) (j6 rfl rfl rfl rfl rfl rfl) trivial ?_
    exact PT.next (m4, x0_m4, x1_m4, (x5_m4 && (decide (v7 = (0 : Int)))), x17_m4, x18_m4, (x19_m4 + (1 : Int))) hφ (Nat.lt_succ_self _) (j6 rfl rfl rfl rfl rfl rfl) trivial
   ·replace hφ := if_else hφ hc5
    refine Q0 (σ' := ⟨[(0, _), (1, _), (5, _)], []⟩) (j3 rfl rfl rfl) trivial ?_
    refine PT.exit ?_
    exact PT.meet (x0_m4, x1_m4, x5_m4) hφ (j3 rfl rfl rfl) trivial
  ·rintro ⟨x0_k3, x1_k3, x5_k3⟩ hφ
   subst hk3
   refine Q0 (σ' := ⟨[(0, .val (x0_k3)), (1, .val (x1_k3)), (5, .val (x5_k3))], []⟩) (j3 rfl rfl rfl) trivial ?_
   obtain ⟨k9, hk9, hφ⟩ := J_some hφ
   refine PT.cut (ι := ByteArray) (fun p => ⟨[(0, .val (p))], []⟩) (fun p => k9 (p) = some r) ?_ ?_
   ·skip
    refine Q2 (Q1 ?_)
    refine O5 (ox0 .tmp) (.one rfl) .nil rfl <| O1 <| Q0 (σ' := ⟨[(0, _), (1, _), (30, .val (x5_k3))], []⟩) (j3 rfl rfl rfl) trivial ?_
    refine Q3 _ rfl (fun hc10 => ?_) (fun hc10 => ?_)
    ·replace hφ := if_then hφ hc10
     refine Q0 (σ' := ⟨[(0, _), (1, _)], []⟩) (j2 rfl rfl) trivial ?_
     refine Q2 ?_
     obtain ⟨v11, hv11, hφ⟩ := B_some hφ
     obtain ⟨v12, hv12, hφ⟩ := B_some hφ
     refine Q1 ?_
     refine O5 (ox0 .tmp) (.one rfl) .nil rfl ?_
     refine Ops.putW rfl rfl (ox_callW keepG hw0 hG0 (c_text_Print hv11) (.cons .tmp .nil)) (.app (.one rfl) .nil) .nil rfl ?_
     refine Ops.putW rfl rfl (ox_callW keepG hw0 hG0 (c_text_Parse hv12) (.cons .tmp .nil)) (.app (.one rfl) .nil) .nil rfl ?_
     refine O5 (ox0 .tmp) (.one rfl) .nil rfl <| O5 (ox7 rfl) (.one rfl) .nil rfl <| O5 (ox7 rfl) (.one rfl) .nil rfl <| O5 (ox1 .tmp) (.one rfl) .nil rfl <| O5 (ox1 .tmp) (.one rfl) .nil rfl <| O1 <| Q0 (σ' := ⟨[(0, _), (1, _), (8, .val (v12.1)), (9, .val (v12.2))], []⟩) (j4 rfl rfl rfl rfl) trivial ?_
     refine Q2 ?_
     obtain ⟨v13, hv13, hφ⟩ := B_some hφ
     refine Q1 ?_
     refine O5 (ox0 .tmp) (.one rfl) .nil rfl <| O5 (ox_neq .tmp .int) (.app (.one rfl) .nil) .nil rfl <| O5 (ox0 .tmp) (.one rfl) .nil rfl <| O4 rfl rfl rfl rfl (.plain .nil) (fun hG => (ox0 .tmp)) (j1 rfl) .nil rfl <| O4 rfl rfl rfl rfl (.plain .nil) (fun hG => (ox0 .tmp)) (j1 rfl) .nil rfl <| O4 rfl rfl rfl rfl (.cond (fun h => h) (.cond (fun h => h) .nil)) (fun hG => (ox_call (c_mkref1_SameCalls (Cn_on hv13 hG)) (.cons .tmp (.cons .tmp .nil)))) (j2 rfl rfl) .nil rfl ?_
     refine O4 rfl rfl rfl rfl (.cond (fun h => h) .nil) (fun hG => (ox_not .tmp)) (j1 rfl) .nil rfl <| O5 ox9 (j2 rfl rfl) .nil rfl <| O1 <| Q0 (σ' := ⟨[(0, _), (44, .val ((!decide (v12.2 = (0 : Int))) || (!v13)))], []⟩) (j2 rfl rfl) trivial ?_
     refine Q3 _ rfl (fun hc14 => ?_) (fun hc14 => ?_)
     ·replace hφ := if_then hφ hc14
      refine Q0 (σ' := ⟨[], []⟩) trivial trivial ?_
      refine Q2 (Q1 ?_)
      refine O5 (ox1 .bool) .nil .nil rfl <| O1 <| Q0 (σ' := ⟨[(4, .val (false))], []⟩) (j1 rfl) trivial ?_
      refine Q5 ?_
      obtain rfl := Option.some.inj hφ
      exact Q6 hw0 rfl (.tmp rfl rfl .nil) rfl
     ·replace hφ := if_else hφ hc14
      refine Q0 (σ' := ⟨[(0, _)], []⟩) (j1 rfl) trivial ?_
      refine Q4 ?_
      exact PT.meet (x0_k3) hφ (j1 rfl) trivial
    ·replace hφ := if_else hφ hc10
     refine Q0 (σ' := ⟨[(0, _)], []⟩) (j1 rfl) trivial ?_
     refine Q4 ?_
     exact PT.meet (x0_k3) hφ (j1 rfl) trivial
   ·rintro x0_k9 hφ
    subst hk9
    refine Q0 (σ' := ⟨[(0, .val (x0_k9))], []⟩) (j1 rfl) trivial ?_
    refine Q2 ?_
    obtain ⟨v15, hv15, hφ⟩ := B_some hφ
    refine Q1 ?_
    refine O5 (ox0 .tmp) (.one rfl) .nil rfl ?_
    refine Ops.putW rfl rfl (ox_callW keepG hw0 hG0 (c_text_Parse hv15) (.cons .tmp .nil)) (.app (.one rfl) .nil) .nil rfl ?_
    refine O5 (ox0 .tmp) (.one rfl) .nil rfl <| O5 (ox7 rfl) (.one rfl) .nil rfl <| O5 (ox7 rfl) (.one rfl) .nil rfl <| O5 (ox1 .tmp) (.one rfl) .nil rfl <| O5 (ox1 .tmp) (.one rfl) .nil rfl <| O1 <| Q0 (σ' := ⟨[(0, _), (10, .val (v15.1)), (11, .val (v15.2))], []⟩) (j3 rfl rfl rfl) trivial ?_
    refine Q2 ?_
    obtain ⟨v16, hv16, hφ⟩ := B_some hφ
    refine Q1 ?_
    refine O5 (ox0 .tmp) (.one rfl) .nil rfl <| O5 (ox_neq .tmp .int) (.app (.one rfl) .nil) .nil rfl <| O5 (ox0 .tmp) (.one rfl) .nil rfl <| O4 rfl rfl rfl rfl (.plain .nil) (fun hG => (ox0 .tmp)) (j1 rfl) .nil rfl ?_
    refine Ops.guardW rfl rfl rfl rfl (.cond (fun h => h) .nil) (fun hG => (ox_callW keepG hw0 hG0 (c_text_Print (Cn_on hv16 hG)) (.cons .tmp .nil))) (j1 rfl) .nil rfl ?_
    refine O4 rfl rfl rfl rfl (.plain .nil) (fun hG => (ox0 .tmp)) (j1 rfl) .nil rfl <| O4 rfl rfl rfl rfl (.cond (fun h => h) (.cond (fun h => h) .nil)) (fun hG => (ox_eqlStr .tmp .tmp)) (j2 rfl rfl) .nil rfl <| O4 rfl rfl rfl rfl (.cond (fun h => h) .nil) (fun hG => (ox0 .tmp)) (j1 rfl) .nil rfl ?_
    refine Ops.guard2 rfl rfl rfl rfl (.plain .nil) (fun hG => (ox0 .tmp)) (j1 rfl) .nil rfl ?_
    refine Ops.guard2 rfl rfl rfl rfl (.cond (fun h => h) .nil) (fun hG => (ox_len s27 .tmp)) (j1 rfl) .nil rfl ?_
    refine Ops.guard2 rfl rfl rfl rfl (.cond (fun h => h) .nil) (fun hG => (ox_leq .tmp .int)) (j1 rfl) .nil rfl ?_
    refine O4 rfl rfl rfl rfl (.cond (fun h => h) (.part (fun h => h) .nil)) (fun hG => ox8) (j2 rfl rfl) .nil rfl <| O5 ox9 (j2 rfl rfl) .nil rfl <| O5 (ox1 .tmp) (.one rfl) .nil rfl <| O1 <| Q0 (σ' := ⟨[(4, .val (((!decide (v15.2 = (0 : Int))) || ((decide (v16 = x0_k9)) && (decide ((v15.1.length : Int) ≤ (8 : Int)))))))], []⟩) (j1 rfl) trivial ?_
    refine Q5 ?_
    obtain rfl := Option.some.inj hφ
    exact Q6 hw0 rfl (.tmp rfl rfl .nil) rfl
end Go.Gx
end
section
namespace Go.Gx
open Go.RowKit Go.ChangeShapes Go.WideShapes Sp
def full (w : World) : PH := fun b o => w.cell? ⟨b, o, none⟩
theorem full_on (w : World) : (full w).on w := fun b o v h => h
structure Opn (P : Program) (T : TypeId) (α : Type) [GoTy α] : Prop where
 sz : P.cellsOf T = GoTy.sz α
 run : ∀ {H : Type} (enc : TypeId × Value → H) (w : World) (spare : Nat → Bool) (fuel : Nat) (cs : List Value) (d : DataW H × List MemPlace),
  DataW.trod enc P w 0 spare true fuel T cs = some d → ∃ y : α, GoTy.rep (full w) y cs
section
variable {P : Program}
theorem Opn.int {T : TypeId} (hu : P.underlying T = some (.int .i64)) (hs : P.cellsOf T = 1) : Opn P T Int :=
 ⟨hs, fun enc w spare fuel cs d h => by
  obtain ⟨n, rfl, _, hw⟩ := DataW.trod_int hu h
  refine ⟨n, rfl, ?_⟩
  simpa [Lit.wf, IntKind.min, IntKind.max, IntKind.signed, IntKind.bits, I64] using hw⟩
theorem Opn.u8 {T : TypeId} (hu : P.underlying T = some (.int .u8)) (hs : P.cellsOf T = 1) : Opn P T UInt8 :=
 ⟨hs, fun enc w spare fuel cs d h => by
  obtain ⟨n, rfl, _, hw⟩ := DataW.trod_int hu h
  have h2 : 0 ≤ n ∧ n ≤ 255 := by simpa [Lit.wf, IntKind.min, IntKind.max, IntKind.signed, IntKind.bits] using hw
  refine ⟨UInt8.ofNat n.toNat, ?_⟩
  show [Value.int .u8 n] = [Value.int .u8 ((UInt8.ofNat n.toNat).toNat : Int)]
  have e : (UInt8.ofNat n.toNat).toNat = n.toNat := Nat.mod_eq_of_lt (by omega)
  rw [e, Int.toNat_of_nonneg h2.1]⟩
theorem Opn.bool {T : TypeId} (hu : P.underlying T = some .bool) (hs : P.cellsOf T = 1) : Opn P T Bool :=
 ⟨hs, fun enc w spare fuel cs d h => by
  obtain ⟨b, rfl, _⟩ := DataW.trod_bool hu h
  exact ⟨b, rfl⟩⟩
def OpnRow (P : Program) (fs : List Field) (off : Nat) (α : Type) [GoTy α] : Prop :=
 ∀ {H : Type} (enc : TypeId × Value → H) (w : World) (spare : Nat → Bool) (n : Nat) (cs : List Value),
  (∀ f ∈ fs, ∃ d, DataW.trod enc P w 0 spare true n f.type ((cs.drop f.offset).take (P.cellsOf f.type)) = some d) → ∃ y : α, GoTy.rep (full w) y ((cs.drop off).take (GoTy.sz α))
theorem OpnRow.one {off : Nat} {f : Field} {α : Type} [GoTy α] (ho : f.offset = off) (h : Opn P f.type α) : OpnRow P [f] off α := fun enc w spare n cs hd => by
 obtain ⟨d, hd⟩ := hd f (by simp)
 rw [ho, h.sz] at hd
 exact h.run enc w spare n _ d hd
theorem OpnRow.cons {off : Nat} {f : Field} {fs : List Field} {α β : Type} [GoTy α] [GoTy β] (ho : f.offset = off) (h : Opn P f.type α) (hr : OpnRow P fs (off + GoTy.sz α) β) : OpnRow P (f :: fs) off (α × β) := fun enc w spare n cs hd => by
 obtain ⟨d, h1⟩ := hd f (by simp)
 rw [ho, h.sz] at h1
 obtain ⟨y, hy⟩ := h.run enc w spare n _ d h1
 obtain ⟨z, hz⟩ := hr enc w spare n cs (fun g hg => hd g (by simp [hg]))
 refine ⟨(y, z), _, _, ?_, hy, hz⟩
 show (cs.drop off).take (GoTy.sz α + GoTy.sz β) = _
 rw [List.take_add, List.drop_drop]
theorem Opn.struct {T : TypeId} {α β : Type} [GoTy α] [GoTy β] {fs : Array Field} (g : β → α) (hrep : ∀ ph y vs, GoTy.rep (α := β) ph y vs → GoTy.rep ph (g y) vs) (hsz : P.cellsOf T = GoTy.sz α) (hszb : GoTy.sz α = GoTy.sz β)
  (hu : P.underlying T = some (.struct fs)) (hr : OpnRow P fs.toList 0 β) : Opn P T α :=
 ⟨hsz, fun enc w spare fuel cs d h => by
  obtain ⟨xs, n, rfl, _, hl, hx, hi⟩ := DataW.trod_struct hu h
  obtain ⟨y, hy⟩ := hr enc w spare n cs (fun f hf => by
   obtain ⟨i, hi', hfi⟩ := List.getElem_of_mem hf
   have h2 := hi i f (by simpa using List.getElem?_eq_some_iff.2 ⟨hi', hfi⟩)
   have hlt : i < xs.length := by rw [hx]; simpa using hi'
   exact ⟨xs[i], by rw [h2]; simp [hlt]⟩)
  refine ⟨g y, hrep _ _ _ ?_⟩
  have : (cs.drop 0).take (GoTy.sz β) = cs := by rw [List.drop_zero, List.take_of_length_le (by omega)]
  rwa [this] at hy⟩
theorem cell_spot {w : World} {a : Addr} {u : Value} (h : w.cell? a = some u) : a.spot = none := by
 unfold World.cell? at h
 split at h
 ·split at h
  ·cases h
  ·rename_i hs; simpa using hs
 ·cases h
theorem add_add_cell {w : World} {a : Addr} {k j : Nat} {u : Value} (h : w.cell? ((a.add k).add j) = some u) : full w a.block (a.off + k + j) = some u := by
 have hs := cell_spot h
 have e : (a.add k).add j = ⟨a.block, a.off + k + j, none⟩ := by
  revert hs
  unfold Addr.add
  by_cases hk : k = 0 <;> by_cases hj : j = 0 <;> simp [hk, hj] <;> (try (cases a; simp))
 rw [e] at h; exact h
theorem cells_get {w : World} {a : Addr} {k n : Nat} {cs : List Value} (h : w.cells? 0 (a.add k) n = some cs) : ∀ j u, cs[j]? = some u → full w a.block (a.off + k + j) = some u := fun j u hu => by
 unfold World.cells? at h
 rw [if_pos (Nat.zero_le _)] at h
 have hl := mapM_some_length h
 have hj : j < n := by
  have := (List.getElem?_eq_some_iff.1 hu).1
  rw [hl] at this; simpa using this
 have := mapM_some_get h j j (by simp [hj])
 rw [hu] at this
 exact add_add_cell this
theorem spot_of_cells {w : World} {a : Addr} {n : Nat} {cs : List Value} (hn : 0 < n) (h : w.cells? 0 (a.add 0) n = some cs) : a.spot = none := by
 unfold World.cells? at h
 rw [if_pos (Nat.zero_le _)] at h
 have hl := mapM_some_length h
 have := mapM_some_get h 0 0 (by simp [hn])
 have hc : (cs[0]?) = some (cs[0]'(by rw [hl]; simpa using hn)) := by simp
 rw [hc] at this
 have := cell_spot this
 simpa [Addr.add] using this
theorem Opn.slice_run {T E : TypeId} {α : Type} [GoTy α] (hE : Opn P E α) (hu : P.underlying T = some (.slice E)) {H : Type} (enc : TypeId × Value → H) (w : World) (spare : Nat → Bool) (fuel : Nat) (cs : List Value) (d : DataW H × List MemPlace)
  (h : DataW.trod enc P w 0 spare true fuel T cs = some d) : ∃ y : List α, GoTy.rep (full w) y cs ∧ ∀ n, (∀ m ∈ d.1.weights P T, m ≤ n) → y.length * P.bytesOf E ≤ n := by
  rcases DataW.trod_slice hu h with ⟨rfl, _⟩ | ⟨a, len, cap, elems, rest, n, rfl, rfl, hdx, _, h1, h2, h3, h4, _, _⟩
  ·exact ⟨[], ⟨_, rfl, repS_nil _⟩, fun n _ => by rw [List.length_nil, Nat.zero_mul]; exact Nat.zero_le _⟩
  ·have hpos := GoTy.pos (α := α)
   rw [hE.sz] at h4
   have one : ∀ i, i < len → ∃ c d, w.cells? 0 (a.add (i * GoTy.sz α)) (GoTy.sz α) = some c ∧ DataW.trod enc P w 0 spare true n E c = some d := by
    intro i hi
    have := h4 i hi
    rw [show elems[i]? = some (elems[i]'(by omega)) from by simp [h3, hi]] at this
    simp only [Option.bind_eq_some_iff] at this
    obtain ⟨c, e1, e2⟩ := this
    exact ⟨c, _, e1, e2⟩
   have all : ∀ m i, i + m = len → ∃ (ys : List α) (r : List Value), ys.length = m ∧ RepL (full w) ys r ∧ ∀ j u, r[j]? = some u → full w a.block (a.off + i * GoTy.sz α + j) = some u := by
    intro m
    induction m with
    | zero => intro i _; exact ⟨[], [], rfl, rfl, fun j u hu => by simp at hu⟩
    | succ m ih =>
     intro i hi
     obtain ⟨c, d, e1, e2⟩ := one i (by omega)
     obtain ⟨y, hy⟩ := hE.run enc w spare n c d e2
     obtain ⟨ys, r, f1, f2, f3⟩ := ih (i + 1) (by omega)
     have hcl := GoTy.len hy
     refine ⟨y :: ys, c ++ r, by simp [f1], ⟨c, r, rfl, hy, f2⟩, fun j u hu => ?_⟩
     by_cases hj : j < c.length
     ·rw [List.getElem?_append_left hj] at hu
      exact cells_get e1 j u hu
     ·rw [List.getElem?_append_right (by omega)] at hu
      have := f3 _ u hu
      rw [hcl, Nat.add_mul, Nat.one_mul] at this
      rw [show a.off + i * GoTy.sz α + j = a.off + (i * GoTy.sz α + GoTy.sz α) + (j - GoTy.sz α) from by omega]
      exact this
   obtain ⟨ys, r, f1, f2, f3⟩ := all len 0 (by omega)
   refine ⟨ys, ?_, fun n hn => ?_⟩
   rotate_left
   ·have := hn ((elems.length + rest.length) * P.bytesOf E) (by
     rw [hdx]
     show _ ∈ DataW.weights P T (DataW.slice (elems.map (·.1)) (rest.map (·.1)))
     rw [DataW.weights, hu]
     simp)
    rw [f1, ← h3]
    exact Nat.le_trans (Nat.mul_le_mul_right _ (by omega)) this
   refine ⟨_, rfl, some a, cap, r, by rw [f1], by omega, by unfold maxLen at h2; omega, f2, fun e => (by cases e), ?_⟩
   by_cases h0 : len = 0
   ·left
    have := f2.len
    rw [f1, h0, Nat.zero_mul] at this
    exact List.eq_nil_of_length_eq_zero this
   ·right
    obtain ⟨c, d, e1, e2⟩ := one 0 (by omega)
    rw [Nat.zero_mul] at e1
    have hsp := spot_of_cells hpos e1
    refine ⟨a.block, a.off, by cases a; simp_all, fun j u hu => ?_⟩
    have := f3 j u hu
    simpa using this
theorem Opn.slice {T E : TypeId} {α : Type} [GoTy α] (hE : Opn P E α) (hu : P.underlying T = some (.slice E)) (hs : P.cellsOf T = 1) : Opn P T (List α) :=
 ⟨hs, fun {H} enc w spare fuel cs d h => by
  obtain ⟨y, hy, _⟩ := hE.slice_run hu enc w spare fuel cs d h
  exact ⟨y, hy⟩⟩
theorem Opn.top_struct {T : TypeId} {α : Type} [GoTy α] (h : Opn P T α) (hagg : GoTy.agg α = true) {fs : Array Field} (hu : P.underlying T = some (.struct fs)) {W : World} {b : Nat} {v : Value} (hok : Value.okWide P W .any b T v)
  {H : Type} {enc : TypeId × Value → H} {d : DataW H} {p : List MemPlace} (ht : DataW.Trod enc P W 0 (fun _ => true) true T v d p) : ∃ y : α, (Desc.val y).holds (base (full W)) v := by
 obtain ⟨fuel, ht⟩ := ht
 obtain ⟨y, hy⟩ := h.run enc W _ fuel _ _ ht
 unfold Value.okWide at hok
 rw [hu] at hok
 obtain ⟨cs, rfl, _⟩ := hok
 exact ⟨y, _, hy, by simp [mkVal, hagg, Value.cells]⟩
theorem Opn.top_slice {T E : TypeId} {α : Type} [GoTy α] (h : Opn P E α) (hu : P.underlying T = some (.slice E)) {W : World} {b : Nat} {v : Value}
  (hok : Value.okWide P W .any b T v) {H : Type} {enc : TypeId × Value → H} {d : DataW H} {p : List MemPlace} (ht : DataW.Trod enc P W 0 (fun _ => true) true T v d p) {ts : List TypeId} {ds : List (DataW H)} (hsz : (DataW.weightsEach P ts ds).all (· ≤ reachBytes) = true) {j : Nat} (h1 : ts[j]? = some T) (h2 : ds[j]? = some d) :
  ∃ y : List α, (Desc.val y).holds (base (full W)) v ∧ y.length * P.bytesOf E ≤ reachBytes := by
 obtain ⟨fuel, ht⟩ := ht
 obtain ⟨y, hy, hl⟩ := h.slice_run hu enc W _ fuel _ _ ht
 have hv : v.cells = #[v] := by
  cases v with
  | agg cs => exfalso; simp [Value.okWide, Cell.okWide, Cell.ok, hu] at hok
  | _ => rfl
 rw [hv] at hy
 exact ⟨y, ⟨_, hy, by simp [mkVal, GoTy.agg]⟩, hl _ fun m hm => by simpa using List.all_eq_true.1 hsz _ (DataW.weights_mem_each h1 h2 m hm)⟩
end
end Go.Gx
end
section
namespace Go.Gx
theorem o3 : Opn Go.Proofs.Tryd.prog 3 Int := Opn.int (by kernel_rfl) (by kernel_rfl)
theorem o23 : Opn Go.Proofs.Tryd.prog 23 Mk.Call := Opn.struct (β := Int × Int × Int × Int) (fun y : Int × Int × Int × Int => (⟨y.1, y.2.1, y.2.2.1, y.2.2.2⟩ : Mk.Call)) (fun _ _ _ h => h) (by kernel_rfl) rfl Go.Proofs.Tryd.underlying23 (OpnRow.cons rfl o3 (OpnRow.cons rfl o3 (OpnRow.cons rfl o3 (OpnRow.one rfl o3))))
end Go.Gx
end
section
namespace Sp
open Go
def segs (c : UInt8) : List UInt8 → List (List UInt8)
 | [] => [[]]
 | x :: l => if x = c then [] :: segs c l else match segs c l with
  | [] => [[x]]
  | s :: ss => (x :: s) :: ss
theorem segs_ne (c : UInt8) (l : List UInt8) : segs c l ≠ [] := by
 cases l with
 | nil => simp [segs]
 | cons x l =>
  unfold segs
  split
  ·simp
  ·split <;> simp
theorem segs_none {c : UInt8} {l : List UInt8} (h : c ∉ l) : segs c l = [l] := by
 induction l with
 | nil => rfl
 | cons x l ih =>
  simp only [List.mem_cons, not_or] at h
  rw [segs, if_neg (fun e => h.1 e.symm), ih h.2]
theorem segs_some {c : UInt8} (a b : List UInt8) (h : c ∉ a) : segs c (a ++ c :: b) = a :: segs c b := by
 induction a with
 | nil => rw [List.nil_append, segs, if_pos rfl]
 | cons x a ih =>
  simp only [List.mem_cons, not_or] at h
  rw [List.cons_append, segs, if_neg (fun e => h.1 e.symm), ih h.2]
theorem index_cases (c : UInt8) (l : List UInt8) : (Lib.index l [c] = -1 ∧ c ∉ l) ∨ ∃ a b, l = a ++ c :: b ∧ c ∉ a ∧ Lib.index l [c] = (a.length : Int) := by
 induction l with
 | nil => exact .inl ⟨rfl, by simp⟩
 | cons x l ih =>
  by_cases hx : x = c
  ·refine .inr ⟨[], l, by rw [hx]; rfl, by simp, ?_⟩
   unfold Lib.index
   rw [if_pos (by simp [hx])]; rfl
  ·have hp : ([c].isPrefixOf (x :: l)) = false := by simp [List.isPrefixOf]; exact fun e => hx e.symm
   rcases ih with ⟨h1, h2⟩ | ⟨a, b, h1, h2, h3⟩
   ·refine .inl ⟨?_, by simp only [List.mem_cons, not_or]; exact ⟨fun e => hx e.symm, h2⟩⟩
    unfold Lib.index
    rw [hp, h1]; rfl
   ·refine .inr ⟨x :: a, b, by rw [h1]; rfl, by simp only [List.mem_cons, not_or]; exact ⟨fun e => hx e.symm, h2⟩, ?_⟩
    unfold Lib.index
    rw [hp, h3]
    have : ((a.length : Int) == -1) = false := by
     simp only [beq_eq_false_iff_ne, ne_eq]; omega
    rw [this]
    simp only [Bool.false_eq_true, if_false, List.length_cons]
    omega
theorem splitK_segs (c : UInt8) : ∀ (f : Nat) (s : List UInt8), s.length < f → Lib.splitK [c] 0 (Lib.countFrom [c] f s) s = segs c s := by
 intro f
 induction f with
 | zero => intro s h; omega
 | succ f ih =>
  intro s h
  rcases index_cases c s with ⟨h1, h2⟩ | ⟨a, b, h1, h2, h3⟩
  ·rw [Lib.countFrom, h1]
   show Lib.splitK [c] 0 0 s = _
   rw [segs_none h2]; rfl
  ·have hne : ((a.length : Int) == -1) = false := by simp only [beq_eq_false_iff_ne, ne_eq]; omega
   have hd : s.drop ((a.length : Int).toNat + [c].length) = b := by
    rw [h1]; simp
   have ht : s.take ((a.length : Int).toNat + 0) = a := by rw [h1]; simp
   have hl : b.length < f := by rw [h1] at h; simp at h; omega
   rw [Lib.countFrom, h3, hne]
   simp only [Bool.false_eq_true, if_false]
   rw [hd, Nat.add_comm 1, Lib.splitK, h3, hne]
   simp only [Bool.false_eq_true, if_false]
   rw [hd, ht, ih b hl, h1, segs_some a b h2]
theorem split_segs (s : List UInt8) (c : UInt8) : Lib.split s [c] = segs c s := splitK_segs c (s.length + 1) s (by omega)
theorem cut_segs (s : List UInt8) (c : UInt8) : (c ∉ s ∧ Lib.cut s [c] = (s, [], false)) ∨ ∃ a b, s = a ++ c :: b ∧ c ∉ a ∧ Lib.cut s [c] = (a, b, true) := by
 rcases index_cases c s with ⟨h1, h2⟩ | ⟨a, b, h1, h2, h3⟩
 ·refine .inl ⟨h2, ?_⟩
  unfold Lib.cut
  rw [h1]; rfl
 ·refine .inr ⟨a, b, h1, h2, ?_⟩
  unfold Lib.cut
  rw [h3, if_pos (by omega), h1]; simp
theorem parse_append (a : Nat) (l : List UInt8) (c : UInt8) : Lib.parseUint10 a (l ++ [c]) = match Lib.parseUint10 a l with
  | .ok v => Lib.parseUint10 v [c]
  | e => e := by
 induction l generalizing a with
 | nil => simp [Lib.parseUint10]
 | cons x l ih =>
  rw [List.cons_append, Lib.parseUint10]
  by_cases h1 : 48 ≤ x.toNat ∧ x.toNat ≤ 57
  ·by_cases h2 : 1844674407370955162 ≤ a
   ·simp [Lib.parseUint10, h1, h2]
   ·by_cases h3 : 18446744073709551616 ≤ a * 10 + (x.toNat - 48)
    ·simp [Lib.parseUint10, h1, h2, h3]
    ·rw [if_pos h1, if_neg h2, if_neg h3, ih]
     rw [Lib.parseUint10, if_pos h1, if_neg h2, if_neg h3]
  ·simp [Lib.parseUint10, h1]
theorem digit_nat (d : Nat) (h : d < 10) : (UInt8.ofNat (48 + d)).toNat = 48 + d := by
 simp only [UInt8.toNat_ofNat']; omega
theorem parse_digits (u : Nat) (h : u < 18446744073709551616) : Lib.parseUint10 0 (Lib.decDigits u) = .ok u ∧ ∀ b ∈ Lib.decDigits u, 48 ≤ b.toNat ∧ b.toNat ≤ 57 := by
 induction u using Nat.strongRecOn with
 | ind u ih =>
  rw [Lib.decDigits]
  by_cases h10 : u < 10
  ·rw [dif_pos h10]
   have e := digit_nat u h10
   refine ⟨?_, fun b hb => ?_⟩
   ·rw [Lib.parseUint10, e, if_pos (by omega), if_neg (by omega), if_neg (by omega), Lib.parseUint10]
    congr 1; omega
   ·simp only [List.mem_singleton] at hb; subst hb; rw [e]; omega
  ·rw [dif_neg h10]
   obtain ⟨i1, i2⟩ := ih (u / 10) (by omega) (by omega)
   have e := digit_nat (u % 10) (by omega)
   refine ⟨?_, fun b hb => ?_⟩
   ·rw [parse_append, i1]
    show Lib.parseUint10 (u / 10) [_] = _
    rw [Lib.parseUint10, e, if_pos (by omega), if_neg (by omega), if_neg (by omega), Lib.parseUint10]
    congr 1; omega
   ·rcases List.mem_append.1 hb with hb | hb
    ·exact i2 b hb
    ·simp only [List.mem_singleton] at hb; subst hb; rw [e]; omega
theorem digits_ne (u : Nat) : Lib.decDigits u ≠ [] := by
 rw [Lib.decDigits]; split <;> simp
theorem atoi_itoa (n : Int) (h : -1000000000000 ≤ n ∧ n ≤ 1000000000000) : Lib.atoiAll (Lib.itoa n) = .ok n := by
 unfold Lib.itoa
 split
 ·obtain ⟨p1, p2⟩ := parse_digits n.natAbs (by omega)
  unfold Lib.atoiAll
  simp only [show (45 : UInt8).toNat = 45 from rfl, or_true, if_true]
  unfold Lib.parseMag
  rw [if_neg (digits_ne _), p1]
  simp only [not_true, false_and, if_false, true_and, if_true]
  rw [if_neg (by omega)]
  congr 1; omega
 ·obtain ⟨p1, p2⟩ := parse_digits n.toNat (by omega)
  cases hd : Lib.decDigits n.toNat with
  | nil => exact absurd hd (digits_ne _)
  | cons c r =>
   have hc := p2 c (by rw [hd]; simp)
   unfold Lib.atoiAll
   simp only
   rw [if_neg (show ¬ (c.toNat = 43 ∨ c.toNat = 45) by omega), ← hd]
   unfold Lib.parseMag
   rw [if_neg (digits_ne _), p1]
   simp only [show (c.toNat = 45) = False from by simp; omega, not_false_eq_true, true_and, false_and, if_false]
   rw [if_neg (by omega)]
   congr 1; omega
theorem itoa_signs (n : Int) (h : -1000000000000 ≤ n ∧ n ≤ 1000000000000) : ∀ b ∈ Lib.itoa n, b = 45 ∨ (48 ≤ b.toNat ∧ b.toNat ≤ 57) := by
 unfold Lib.itoa
 split
 ·intro b hb
  rcases List.mem_cons.1 hb with hb | hb
  ·exact .inl hb
  ·exact .inr ((parse_digits n.natAbs (by omega)).2 b hb)
 ·intro b hb
  exact .inr ((parse_digits n.toNat (by omega)).2 b hb)
end Sp
end
section
namespace Sp
theorem G_on {α : Type} {p : Prop} [Decidable p] {k : Option α} (h : p) : G p k = k := by unfold G; rw [if_pos h]
def pos : List Mk.Write → Int → Int
 | [], _ => -1
 | w :: l, x => if w.At = x then 0 else (if pos l x < 0 then -1 else pos l x + 1)
theorem pos_range (l : List Mk.Write) (x : Int) : -1 ≤ pos l x ∧ pos l x < l.length := by
 induction l with
 | nil => simp [pos]
 | cons w l ih =>
  simp only [pos, List.length_cons]
  split
  ·omega
  ·split <;> omega
theorem ix_drop {α : Type} [Inhabited α] (l : List α) (i : Nat) (h : i < l.length) : l.drop i = ix l i :: l.drop (i + 1) := by
 rw [List.drop_eq_getElem_cons h]
 simp [ix, h]
end Sp
end
section
namespace Sp
structure Nm (l : List Mk.Write) : Prop where
 le : l.length ≤ 5
 at1 : ∀ w ∈ l, 1 ≤ w.At ∧ w.At ≤ 255 ∧ -1073741824 ≤ w.N ∧ w.N ≤ 1073741824
 nodup : (l.map (·.At)).Nodup
structure CallOk (c : Mk.Call) : Prop where
 kind : 1 ≤ c.Kind ∧ c.Kind ≤ 6
 name : (c.Kind = 5 → c.Name = 0) ∧ (c.Kind ≠ 5 → 1 ≤ c.Name ∧ c.Name ≤ 255)
 other : (c.Kind = 6 → 1 ≤ c.Other ∧ c.Other ≤ 255) ∧ (c.Kind ≠ 6 → c.Other = 0)
 num : -1073741824 ≤ c.N ∧ c.N ≤ 1073741824 ∧ (c.Kind ≠ 1 → c.Kind ≠ 4 → c.N = 0)
theorem ix_mem {α : Type} [Inhabited α] (l : List α) (i : Int) (h : 0 ≤ i ∧ i < l.length) : ix l i ∈ l := by
 have : i.toNat < l.length := by omega
 simp [ix, this]
theorem Nm.call {l : List Mk.Write} (h : Nm l) {x : Int} (hk : 0 ≤ pos l x) : -1073741824 ≤ (ix l (pos l x)).N ∧ (ix l (pos l x)).N ≤ 1073741824 := by
 have hr := pos_range l x
 have := h.at1 _ (ix_mem l (pos l x) ⟨hk, hr.2⟩)
 omega
def wcall (c : Mk.Call) : Int :=
 if c.Kind < 1 ∨ 6 < c.Kind then 1
 else if (c.Kind = 5 ∧ c.Name ≠ 0) ∨ (c.Kind ≠ 5 ∧ (c.Name < 1 ∨ 255 < c.Name)) ∨ (c.Kind = 6 ∧ (c.Other < 1 ∨ 255 < c.Other)) ∨ (c.Kind ≠ 6 ∧ c.Other ≠ 0) then 7
 else if c.N < -1073741824 ∨ 1073741824 < c.N ∨ (c.Kind ≠ 1 ∧ c.Kind ≠ 4 ∧ c.N ≠ 0) then 3 else 0
theorem wrongCall_eq (c : Mk.Call) : mkref1_WrongCall c = some (wcall c) := by
 unfold mkref1_WrongCall wcall
 simp only [J, G, I, Bool.cond_eq_ite, Bool.or_eq_true, decide_eq_true_eq]
 repeat' split
 all_goals first | rfl | omega
theorem wcall_ok (c : Mk.Call) : wcall c = 0 ↔ CallOk c := by
 unfold wcall
 constructor
 ·intro h
  repeat' split at h
  all_goals first | (exfalso; omega) | (constructor <;> omega)
 ·intro h
  have h1 := h.kind
  have h2 := h.name
  have h3 := h.other
  have h4 := h.num
  repeat' split
  all_goals first | rfl | omega
end Sp
end
section
namespace Sp
theorem model_Wrong_eq (c : Mk.Call) : model_Wrong c = some (wcall c) := by
 unfold model_Wrong wcall model_Wrong_1
 simp only [J, obs, Bool.cond_eq_ite, Bool.or_eq_true, Bool.and_eq_true, Bool.not_eq_true', decide_eq_true_eq, decide_eq_false_iff_not, Bool.not_eq_eq_eq_not, Bool.decide_eq_true, nT]
 by_cases k : c.Kind < 1 ∨ 6 < c.Kind
 ·simp [k]
 simp only [k, if_false]
 by_cases k5 : c.Kind = 5
 ·by_cases hn : c.Name = 0
  ·by_cases ho : c.Other = 0
   ·simp [k5, hn, ho]; try grind
   ·simp [k5, hn, ho]; try grind
  ·simp [k5, hn]; try grind
 ·by_cases k6 : c.Kind = 6
  ·simp [k6]; grind
  ·simp [k5, k6]; grind
def nb (n : Int) : List UInt8 := [u8 (n / 16777216), u8 (n / 65536), u8 (n / 256), u8 n]
theorem stb_append (a b : ByteArray) : stb (a ++ b) = stb a ++ stb b := by unfold stb; simp
theorem stb_bts (l : List UInt8) : stb (bts l) = l := by simp [stb, bts]
theorem bts_inj {a b : List UInt8} : bts a = bts b ↔ a = b := by
 constructor
 ·intro h; rw [← stb_bts a, h, stb_bts]
 ·intro h; rw [h]
theorem bts_size (l : List UInt8) : (bts l).size = l.length := by simp [bts, ByteArray.size]
end Sp
end
section
namespace Sp
open Go
theorem bts_stb (s : ByteArray) : bts (stb s) = s := by simp [stb, bts]
theorem stb_len (s : ByteArray) : (stb s).length = s.size := Array.length_toList
abbrev z4 : Mk.Call := { Kind := (0 : Int), Name := (0 : Int), Other := (0 : Int), N := (0 : Int) }
abbrev wPut : ByteArray := ⟨#[112, 117, 116]⟩
abbrev wGet : ByteArray := ⟨#[103, 101, 116]⟩
abbrev wDrop : ByteArray := ⟨#[100, 114, 111, 112]⟩
abbrev wAdd : ByteArray := ⟨#[97, 100, 100]⟩
abbrev wCount : ByteArray := ⟨#[99, 111, 117, 110, 116]⟩
abbrev wSwap : ByteArray := ⟨#[115, 119, 97, 112]⟩
def kindB (w : ByteArray) : Int := if wSwap = w then 6 else if wCount = w then 5 else if wAdd = w then 4 else if wDrop = w then 3 else if wGet = w then 2 else if wPut = w then 1 else 0
def wordB (k : Int) : ByteArray := if k = 1 then wPut else if k = 2 then wGet else if k = 3 then wDrop else if k = 4 then wAdd else if k = 5 then wCount else wSwap
theorem kindB_cases (w : ByteArray) : (kindB w = 0) ∨ ((1 ≤ kindB w ∧ kindB w ≤ 6) ∧ wordB (kindB w) = w) := by
 unfold kindB
 repeat' split
 all_goals first | exact .inl rfl | (refine .inr ⟨by decide, ?_⟩; first | (rename_i h; subst h; rfl))
theorem kindB_word (k : Int) (h : 1 ≤ k ∧ k ≤ 6) : kindB (wordB k) = k := by
 have hk : k = 1 ∨ k = 2 ∨ k = 3 ∨ k = 4 ∨ k = 5 ∨ k = 6 := by omega
 rcases hk with rfl | rfl | rfl | rfl | rfl | rfl <;> rfl
def num (w : ByteArray) : Option Int := if (atoiOf (stb w)).2.bad = true ∨ bts (Lib.itoa (atoiOf (stb w)).1) ≠ w then none else some (atoiOf (stb w)).1
def fin (c : Mk.Call) : Mk.Call × Int := if wcall c ≠ 0 then (z4, wcall c) else (c, 0)
def parts (s : ByteArray) : List ByteArray := (segs 32 (stb s)).map bts
def nums : List ByteArray → Option (List Int)
 | [] => some []
 | w :: l => match num w with
  | none => none
  | some n => (nums l).map (n :: ·)
def cnt (k : Int) : Nat := if k = 5 then 0 else if k = 2 ∨ k = 3 then 1 else 2
def made (k : Int) : List Int → Mk.Call
 | [] => { z4 with Kind := k }
 | [a] => { z4 with Kind := k, Name := a }
 | a :: b :: _ => if k = 6 then { z4 with Kind := k, Name := a, Other := b } else { z4 with Kind := k, Name := a, N := b }
def readP (l : List ByteArray) : Mk.Call × Int :=
 let k := kindB (ix l 0)
 if k = 0 then (z4, 1) else if l.length ≠ 1 + cnt k then (z4, 2) else
 match nums l.tail with
 | none => (z4, 2)
 | some ns => fin (made k ns)
def readB (s : ByteArray) : Mk.Call × Int := readP (parts s)
theorem tl1_step {k2 : List ByteArray → Mk.Call → Mk.Call → Option (Mk.Call × Int)} {m : Nat} {x4 x16 : List ByteArray} {n i : Int} {y2 y5 : Mk.Call} (h0 : 0 ≤ i) (h1 : i < n) (hn : n = (x16.length : Int)) (h4 : 0 < x4.length) (hb : n ≤ 100) :
  text_ReadCall_l1 k2 (m + 1) x4 x16 n i y2 y5 = text_ReadCall_l1 k2 m x4 x16 n (i + 1) y2 (if ix x16 i = ix x4 0 then { y5 with Kind := i + 1 } else y5) := by
 rw [text_ReadCall_l1, dT h1, cT]
 simp only [J]
 rw [G_on (by omega), G_on (by omega)]
 by_cases h : ix x16 i = ix x4 0
 ·rw [dT h, cT, G_on (by unfold I; omega), G_on (by unfold I; omega), if_pos h]
 ·rw [dF h, cF, G_on (by unfold I; omega), if_neg h]
theorem tl1_at {k2 : List ByteArray → Mk.Call → Mk.Call → Option (Mk.Call × Int)} {m : Nat} {x4 x16 : List ByteArray} {n i : Int} {y2 : Mk.Call} {q : Int} (wd : ByteArray) (i' : Int) (h0 : 0 ≤ i) (h1 : i < n) (hn : n = (x16.length : Int)) (h4 : 0 < x4.length) (hb : n ≤ 100) (hw : ix x16 i = wd) (hi : i + 1 = i') :
  text_ReadCall_l1 k2 (m + 1) x4 x16 n i y2 { z4 with Kind := q } = text_ReadCall_l1 k2 m x4 x16 n i' y2 { z4 with Kind := if wd = ix x4 0 then i' else q } := by
 rw [tl1_step h0 h1 hn h4 hb, hw, hi]
 split <;> rfl
theorem tl1 (k2 : List ByteArray → Mk.Call → Mk.Call → Option (Mk.Call × Int)) (x4 : List ByteArray) (h4 : 0 < x4.length) :
  text_ReadCall_l1 k2 7 x4 [wPut, wGet, wDrop, wAdd, wCount, wSwap] 6 0 z4 z4 = k2 x4 z4 { z4 with Kind := kindB (ix x4 0) } := by
 refine (tl1_at (q := 0) wPut 1 (by decide) (by decide) rfl h4 (by decide) rfl rfl).trans ?_
 refine (tl1_at wGet 2 (by decide) (by decide) rfl h4 (by decide) rfl rfl).trans ?_
 refine (tl1_at wDrop 3 (by decide) (by decide) rfl h4 (by decide) rfl rfl).trans ?_
 refine (tl1_at wAdd 4 (by decide) (by decide) rfl h4 (by decide) rfl rfl).trans ?_
 refine (tl1_at wCount 5 (by decide) (by decide) rfl h4 (by decide) rfl rfl).trans ?_
 refine (tl1_at wSwap 6 (by decide) (by decide) rfl h4 (by decide) rfl rfl).trans ?_
 rw [text_ReadCall_l1, dF (by decide), cF]
 rfl
theorem rl2_step {k2 : List Int → Mk.Call → Mk.Call → List ByteArray → Option (Mk.Call × Int)} {m : Nat} {x8 : List Int} {x48 : List ByteArray} {n i : Int} {y2 y9 : Mk.Call} {x4 : List ByteArray} (h0 : 0 ≤ i) (h1 : i < n) (hn : n = (x48.length : Int)) (h4 : 0 < x4.length) (hb : n ≤ 100) :
  mkref1_ReadCall_l2 k2 (m + 1) x8 x48 n i y2 y9 x4 = mkref1_ReadCall_l2 k2 m x8 x48 n (i + 1) y2 (if 0 < i ∧ ix x48 i = ix x4 0 then { y9 with Kind := i } else y9) x4 := by
 rw [mkref1_ReadCall_l2, dT h1, cT]
 simp only [J]
 rw [G_on (by omega), G_on (by omega)]
 by_cases h : 0 < i ∧ ix x48 i = ix x4 0
 ·rw [dT h.1, dT h.2, Bool.true_and, cT, G_on (by unfold I; omega), if_pos h]
 ·have : (decide (0 < i) && decide (ix x48 i = ix x4 0)) = false := by
   simp only [Bool.and_eq_false_iff, decide_eq_false_iff_not]
   by_cases hi : 0 < i
   ·exact .inr fun e => h ⟨hi, e⟩
   ·exact .inl hi
  rw [this, cF, G_on (by unfold I; omega), if_neg h]
theorem rl2_at {k2 : List Int → Mk.Call → Mk.Call → List ByteArray → Option (Mk.Call × Int)} {m : Nat} {x8 : List Int} {x48 : List ByteArray} {n i : Int} {y2 : Mk.Call} {q : Int} {x4 : List ByteArray} (wd : ByteArray) (i' : Int) (h0 : 0 < i) (h1 : i < n) (hn : n = (x48.length : Int)) (h4 : 0 < x4.length) (hb : n ≤ 100) (hw : ix x48 i = wd) (hi : i + 1 = i') :
  mkref1_ReadCall_l2 k2 (m + 1) x8 x48 n i y2 { z4 with Kind := q } x4 = mkref1_ReadCall_l2 k2 m x8 x48 n i' y2 { z4 with Kind := if wd = ix x4 0 then i else q } x4 := by
 rw [rl2_step (by omega) h1 hn h4 hb, hw, hi]
 simp only [h0, true_and]
 split <;> rfl
theorem rl2 (k2 : List Int → Mk.Call → Mk.Call → List ByteArray → Option (Mk.Call × Int)) (x8 : List Int) (x4 : List ByteArray) (h4 : 0 < x4.length) :
  mkref1_ReadCall_l2 k2 8 x8 [(⟨#[]⟩ : ByteArray), wPut, wGet, wDrop, wAdd, wCount, wSwap] 7 0 z4 z4 x4 = k2 x8 z4 { z4 with Kind := kindB (ix x4 0) } x4 := by
 refine (rl2_step (n := 7) (by decide) (by decide) rfl h4 (by decide)).trans ?_
 rw [if_neg (fun e => absurd e.1 (by decide))]
 refine (rl2_at (q := 0) wPut 2 (by decide) (by decide) rfl h4 (by decide) rfl rfl).trans ?_
 refine (rl2_at wGet 3 (by decide) (by decide) rfl h4 (by decide) rfl rfl).trans ?_
 refine (rl2_at wDrop 4 (by decide) (by decide) rfl h4 (by decide) rfl rfl).trans ?_
 refine (rl2_at wAdd 5 (by decide) (by decide) rfl h4 (by decide) rfl rfl).trans ?_
 refine (rl2_at wCount 6 (by decide) (by decide) rfl h4 (by decide) rfl rfl).trans ?_
 refine (rl2_at wSwap 7 (by decide) (by decide) rfl h4 (by decide) rfl rfl).trans ?_
 rw [mkref1_ReadCall_l2, dF (by decide), cF]
 rfl
end Sp
end
section
namespace Sp
open Go
theorem atoi_on (w : ByteArray) (h : w.size ≤ 4294967280) : strconv_Atoi w = some (atoiOf (stb w)) := by
 unfold strconv_Atoi
 rw [G_on h]; rfl
theorem num_none {w : ByteArray} (h : num w = none) : ∃ v, Cn ((atoiOf (stb w)).2.bad = false) (strconv_Itoa (atoiOf (stb w)).1) = some v ∧ ((atoiOf (stb w)).2.bad || (!decide (v = w))) = true := by
 unfold num at h
 split at h
 ·rename_i hc
  cases hb : (atoiOf (stb w)).2.bad with
  | true => exact ⟨default, by unfold Cn; rw [if_neg (by simp)], by simp⟩
  | false =>
   rw [hb] at hc
   have hc' : bts (Lib.itoa (atoiOf (stb w)).1) ≠ w := by simpa using hc
   refine ⟨bts (Lib.itoa (atoiOf (stb w)).1), by unfold Cn; rw [if_pos rfl]; rfl, ?_⟩
   rw [dF hc']; rfl
 ·cases h
theorem num_some {w : ByteArray} {n : Int} (h : num w = some n) : (atoiOf (stb w)).1 = n ∧ bts (Lib.itoa n) = w ∧ ∃ v, Cn ((atoiOf (stb w)).2.bad = false) (strconv_Itoa (atoiOf (stb w)).1) = some v ∧ ((atoiOf (stb w)).2.bad || (!decide (v = w))) = false ∧ (atoiOf (stb w)).2.bad = false := by
 unfold num at h
 split at h
 ·cases h
 ·rename_i hc
  obtain rfl := Option.some.inj h
  simp only [not_or, Bool.not_eq_true, Decidable.not_not] at hc
  refine ⟨rfl, hc.2, bts (Lib.itoa (atoiOf (stb w)).1), by unfold Cn; rw [if_pos hc.1]; rfl, ?_, hc.1⟩
  rw [dT hc.2, hc.1]; rfl
theorem tl2_none {k : Mk.Call → Mk.Call → Option (Mk.Call × Int)} {m : Nat} {x4 : List ByteArray} {x44 : List Nat} {n i : Int} {y2 y5 : Mk.Call} (h0 : 0 ≤ i) (h1 : i < n) (hn : n = (x44.length : Int)) (h4 : 1 + i < (x4.length : Int)) (hb : n ≤ 100) {w : ByteArray} (hw : ix x4 (1 + i) = w) (hs : w.size ≤ 4294967280) (hnum : num w = none) :
  text_ReadCall_l2 k (m + 1) x4 x44 n i y2 y5 = some (z4, 2) := by
 obtain ⟨v, e1, e2⟩ := num_none hnum
 rw [text_ReadCall_l2, dT h1, cT, G_on (by omega), G_on (by unfold I; omega), G_on (by omega), hw, atoi_on w hs, obs, e1, obs, G_on (fun _ => by unfold I; omega), G_on (fun _ => by omega), e2, cT]
theorem tl2_some {k : Mk.Call → Mk.Call → Option (Mk.Call × Int)} {m : Nat} {x4 : List ByteArray} {x44 : List Nat} {n i : Int} {y2 y5 : Mk.Call} (h0 : 0 ≤ i) (h1 : i < n) (hn : n = (x44.length : Int)) (h4 : 1 + i < (x4.length : Int)) (hb : n ≤ 100) {w : ByteArray} (hw : ix x4 (1 + i) = w) (hs : w.size ≤ 4294967280) {v : Int} (hnum : num w = some v) {o : Nat} (ho : ix x44 i = o) (ho4 : o < 4) {i' : Int} (hi : i + 1 = i') :
  text_ReadCall_l2 k (m + 1) x4 x44 n i y2 y5 = text_ReadCall_l2 k m x4 x44 n i' y2 (cset y5 o v) := by
 obtain ⟨e0, -, u, e1, e2, e3⟩ := num_some hnum
 rw [text_ReadCall_l2, dT h1, cT, G_on (by omega), G_on (by unfold I; omega), G_on (by omega), hw, atoi_on w hs, obs, e1, obs, G_on (fun _ => by unfold I; omega), G_on (fun _ => by omega), e2, cF, ho, G_on ho4, G_on ho4, G_on (by unfold I; omega), e0, hi]
theorem tl2_end {k : Mk.Call → Mk.Call → Option (Mk.Call × Int)} {m : Nat} {x4 : List ByteArray} {x44 : List Nat} {n i : Int} {y2 y5 : Mk.Call} (h1 : ¬ i < n) : text_ReadCall_l2 k (m + 1) x4 x44 n i y2 y5 = k y2 y5 := by
 rw [text_ReadCall_l2, dF h1, cF]
theorem rl3_none {k : Mk.Call → Mk.Call → Option (Mk.Call × Int)} {m : Nat} {x : List ByteArray} {n i : Int} {y2 y9 : Mk.Call} (h0 : 0 ≤ i) (h1 : i < n) (hn : n = (x.length : Int)) (hb : n ≤ 100) {w : ByteArray} (hw : ix x i = w) (hs : w.size ≤ 4294967280) (hnum : num w = none) :
  mkref1_ReadCall_l3 k (m + 1) x n i y2 y9 = some (z4, 2) := by
 obtain ⟨v, e1, e2⟩ := num_none hnum
 rw [mkref1_ReadCall_l3, dT h1, cT]
 simp only [J]
 rw [G_on (by omega), hw, atoi_on w hs, obs, e1, obs, e2, cT]
theorem rl3_some {k : Mk.Call → Mk.Call → Option (Mk.Call × Int)} {m : Nat} {x : List ByteArray} {n i : Int} {y2 y9 : Mk.Call} (h0 : 0 ≤ i) (h1 : i < n) (hn : n = (x.length : Int)) (hb : n ≤ 100) {w : ByteArray} (hw : ix x i = w) (hs : w.size ≤ 4294967280) {v : Int} (hnum : num w = some v) {i' : Int} (hi : i + 1 = i') :
  mkref1_ReadCall_l3 k (m + 1) x n i y2 y9 = mkref1_ReadCall_l3 k m x n i' y2 (if i = 0 then { y9 with Name := v } else if y9.Kind = 6 then { y9 with Other := v } else { y9 with N := v }) := by
 obtain ⟨e0, -, u, e1, e2, e3⟩ := num_some hnum
 rw [mkref1_ReadCall_l3, dT h1, cT]
 simp only [J]
 rw [G_on (by omega), hw, atoi_on w hs, obs, e1, obs, e2, cF, e0]
 by_cases hi0 : i = 0
 ·rw [dT hi0, cT, G_on (by unfold I; omega), if_pos hi0, hi]
 ·rw [dF hi0, cF, if_neg hi0]
  by_cases hk : y9.Kind = 6
  ·rw [dT hk, cT, G_on (by unfold I; omega), if_pos hk, hi]
  ·rw [dF hk, cF, G_on (by unfold I; omega), if_neg hk, hi]
theorem rl3_end {k : Mk.Call → Mk.Call → Option (Mk.Call × Int)} {m : Nat} {x : List ByteArray} {n i : Int} {y2 y5 : Mk.Call} (h1 : ¬ i < n) : mkref1_ReadCall_l3 k (m + 1) x n i y2 y5 = k y2 y5 := by
 rw [mkref1_ReadCall_l3, dF h1, cF]
def flds (k : Int) : List Nat := if k = 6 then [1, 2] else if k = 5 then [] else if k = 2 ∨ k = 3 then [1] else [1, 3]
theorem flds_len (k : Int) (h : 1 ≤ k ∧ k ≤ 6) : (flds k).length = cnt k := by
 have hk : k = 1 ∨ k = 2 ∨ k = 3 ∨ k = 4 ∨ k = 5 ∨ k = 6 := by omega
 rcases hk with rfl | rfl | rfl | rfl | rfl | rfl <;> rfl
theorem tl2_run (kk : Mk.Call → Mk.Call → Option (Mk.Call × Int)) (x4 : List ByteArray) (k : Int) (hk : 1 ≤ k ∧ k ≤ 6) (hl : x4.length = 1 + cnt k) (hs : ∀ x ∈ x4, x.size ≤ 4294967280) :
  text_ReadCall_l2 kk ((((flds k).length : Int) - (0 : Int)).toNat + 1) x4 (flds k) ((flds k).length : Int) 0 z4 { z4 with Kind := k } = match nums x4.tail with
   | none => some (z4, 2)
   | some ns => kk z4 (made k ns) := by
 have hk' : k = 1 ∨ k = 2 ∨ k = 3 ∨ k = 4 ∨ k = 5 ∨ k = 6 := by omega
 have two : ∀ (k : Int) (o : Nat), flds k = [1, o] → o < 4 → cnt k = 2 → x4.length = 1 + cnt k → (∀ a b, cset (cset { z4 with Kind := k } 1 a) o b = made k [a, b]) →
   text_ReadCall_l2 kk ((((flds k).length : Int) - (0 : Int)).toNat + 1) x4 (flds k) ((flds k).length : Int) 0 z4 { z4 with Kind := k } = match nums x4.tail with
   | none => some (z4, 2)
   | some ns => kk z4 (made k ns) := by
  intro k o hf ho hc hl hm
  rw [hc] at hl
  rw [hf]
  match x4, hl with
  | [w, a, b], _ =>
   have ha := hs a (by simp)
   have hb := hs b (by simp)
   show text_ReadCall_l2 kk 3 _ _ 2 0 _ _ = _
   cases na : num a with
   | none =>
    refine (tl2_none (n := 2) (i := 0) (by decide) (by decide) rfl (by simp only [List.length_cons, List.length_nil]; decide) (by decide) (w := a) rfl ha na).trans ?_
    simp [nums, na]
   | some v =>
    refine (tl2_some (n := 2) (i := 0) (by decide) (by decide) rfl (by simp only [List.length_cons, List.length_nil]; decide) (by decide) (w := a) rfl ha na (o := 1) rfl (by decide) (i' := 1) rfl).trans ?_
    cases nb : num b with
    | none =>
     refine (tl2_none (n := 2) (i := 1) (by decide) (by decide) rfl (by simp only [List.length_cons, List.length_nil]; decide) (by decide) (w := b) rfl hb nb).trans ?_
     simp [nums, na, nb]
    | some u =>
     refine (tl2_some (n := 2) (i := 1) (by decide) (by decide) rfl (by simp only [List.length_cons, List.length_nil]; decide) (by decide) (w := b) rfl hb nb (o := o) rfl ho (i' := 2) rfl).trans ?_
     rw [tl2_end (by decide)]
     rw [hm]
     simp [nums, na, nb]
 have one : ∀ (k : Int), flds k = [1] → cnt k = 1 → x4.length = 1 + cnt k → (∀ a, cset { z4 with Kind := k } 1 a = made k [a]) →
   text_ReadCall_l2 kk ((((flds k).length : Int) - (0 : Int)).toNat + 1) x4 (flds k) ((flds k).length : Int) 0 z4 { z4 with Kind := k } = match nums x4.tail with
   | none => some (z4, 2)
   | some ns => kk z4 (made k ns) := by
  intro k hf hc hl hm
  rw [hc] at hl
  rw [hf]
  match x4, hl with
  | [w, a], _ =>
   have ha := hs a (by simp)
   show text_ReadCall_l2 kk 2 _ _ 1 0 _ _ = _
   cases na : num a with
   | none =>
    refine (tl2_none (n := 1) (i := 0) (by decide) (by decide) rfl (by simp only [List.length_cons, List.length_nil]; decide) (by decide) (w := a) rfl ha na).trans ?_
    simp [nums, na]
   | some v =>
    refine (tl2_some (n := 1) (i := 0) (by decide) (by decide) rfl (by simp only [List.length_cons, List.length_nil]; decide) (by decide) (w := a) rfl ha na (o := 1) rfl (by decide) (i' := 1) rfl).trans ?_
    rw [tl2_end (by decide)]
    rw [hm]
    simp [nums, na]
 rcases hk' with rfl | rfl | rfl | rfl | rfl | rfl
 ·exact two 1 3 rfl (by decide) rfl hl (fun a b => rfl)
 ·exact one 2 rfl rfl hl (fun a => rfl)
 ·exact one 3 rfl rfl hl (fun a => rfl)
 ·exact two 4 3 rfl (by decide) rfl hl (fun a b => rfl)
 ·match x4, hl with
  | [w], _ =>
   show text_ReadCall_l2 kk 1 _ _ 0 0 _ _ = _
   rw [tl2_end (by decide)]; rfl
 ·exact two 6 2 rfl (by decide) rfl hl (fun a b => rfl)
theorem rl3_run (kk : Mk.Call → Mk.Call → Option (Mk.Call × Int)) (x4 : List ByteArray) (k : Int) (hk : 1 ≤ k ∧ k ≤ 6) (hl : x4.length = 1 + cnt k) (hs : ∀ x ∈ x4, x.size ≤ 4294967280) :
  mkref1_ReadCall_l3 kk (((x4.tail.length : Int) - (0 : Int)).toNat + 1) x4.tail (x4.tail.length : Int) 0 z4 { z4 with Kind := k } = match nums x4.tail with
   | none => some (z4, 2)
   | some ns => kk z4 (made k ns) := by
 have hc : cnt k = 0 ∨ cnt k = 1 ∨ cnt k = 2 := by unfold cnt; split <;> (try split) <;> simp
 rcases hc with hc | hc | hc
 ·rw [hc] at hl
  match x4, hl with
  | [w], _ =>
   show mkref1_ReadCall_l3 kk 1 _ 0 0 _ _ = _
   rw [rl3_end (by decide)]; rfl
 ·rw [hc] at hl
  match x4, hl with
  | [w, a], _ =>
   have ha := hs a (by simp)
   show mkref1_ReadCall_l3 kk 2 [a] 1 0 _ _ = _
   cases na : num a with
   | none =>
    refine (rl3_none (n := 1) (i := 0) (by decide) (by decide) rfl (by decide) (w := a) rfl ha na).trans ?_
    simp [nums, na]
   | some v =>
    refine (rl3_some (n := 1) (i := 0) (by decide) (by decide) rfl (by decide) (w := a) rfl ha na (i' := 1) rfl).trans ?_
    rw [rl3_end (by decide)]
    simp [nums, na, made]
 ·rw [hc] at hl
  match x4, hl with
  | [w, a, b], _ =>
   have ha := hs a (by simp)
   have hb := hs b (by simp)
   show mkref1_ReadCall_l3 kk 3 [a, b] 2 0 _ _ = _
   cases na : num a with
   | none =>
    refine (rl3_none (n := 2) (i := 0) (by decide) (by decide) rfl (by decide) (w := a) rfl ha na).trans ?_
    simp [nums, na]
   | some v =>
    refine (rl3_some (n := 2) (i := 0) (by decide) (by decide) rfl (by decide) (w := a) rfl ha na (i' := 1) rfl).trans ?_
    cases nb : num b with
    | none =>
     refine (rl3_none (n := 2) (i := 1) (by decide) (by decide) rfl (by decide) (w := b) rfl hb nb).trans ?_
     simp [nums, na, nb]
    | some u =>
     refine (rl3_some (n := 2) (i := 1) (by decide) (by decide) rfl (by decide) (w := b) rfl hb nb (i' := 2) rfl).trans ?_
     rw [rl3_end (by decide)]
     simp only [nums, List.tail_cons, na, nb, Option.map_some, made, if_neg (show ¬ (1 : Int) = 0 by decide), if_true]
theorem segs_len (c : UInt8) : ∀ (l : List UInt8), (∀ p ∈ segs c l, p.length ≤ l.length) ∧ (segs c l).length ≤ l.length + 1
 | [] => by simp [segs]
 | x :: l => by
  obtain ⟨h1, h2⟩ := segs_len c l
  unfold segs
  split
  ·refine ⟨fun p hp => ?_, by simp only [List.length_cons]; omega⟩
   rcases List.mem_cons.1 hp with rfl | hp
   ·simp
   ·have := h1 p hp; simp only [List.length_cons]; omega
  ·cases hs : segs c l with
   | nil => exact absurd hs (segs_ne c l)
   | cons s ss =>
    rw [hs] at h1 h2
    refine ⟨fun p hp => ?_, by simp only [List.length_cons] at h2 ⊢; omega⟩
    rcases List.mem_cons.1 hp with rfl | hp
    ·have := h1 s (by simp); simp only [List.length_cons]; omega
    ·have := h1 p (by simp [hp]); simp only [List.length_cons]; omega
theorem parts_ne (s : ByteArray) : 0 < (parts s).length := by
 unfold parts
 rw [List.length_map]
 exact List.length_pos_iff.2 (segs_ne 32 (stb s))
theorem parts_size {s : ByteArray} (h : s.size ≤ 4294967280) : ∀ x ∈ parts s, x.size ≤ 4294967280 := by
 intro x hx
 unfold parts at hx
 obtain ⟨p, hp, rfl⟩ := List.mem_map.1 hx
 have := (segs_len 32 (stb s)).1 p hp
 rw [stb_len] at this
 rw [bts_size]; omega
theorem split_parts (s : ByteArray) (h : s.size ≤ 4294967280) : strings_Split s ⟨#[32]⟩ = some (parts s) := by
 unfold strings_Split
 rw [G_on ⟨h, by decide⟩]
 congr 1
 have h1 := Lib.splitB_data ⟨#[32]⟩ 0 (Lib.countB s ⟨#[32]⟩) s
 have h2 := split_segs (stb s) 32
 have e : (Lib.splitB ⟨#[32]⟩ 0 (Lib.countB s ⟨#[32]⟩) s).map stb = segs 32 (stb s) := by
  rw [← h2]
  exact h1
 unfold parts
 rw [← e, List.map_map]
 conv => lhs; rw [← List.map_id (Lib.splitB _ _ _ _)]
 apply List.map_congr_left
 intro x _
 exact (bts_stb x).symm
theorem text_ReadCall_eq (s : ByteArray) (h : s.size ≤ 4294967280) : text_ReadCall s = some (readB s) := by
 unfold text_ReadCall
 rw [split_parts s h, obs]
 simp only [J, text_words, obs]
 have hp := parts_ne s
 have hz := parts_size h
 show text_ReadCall_l1 _ 7 _ _ 6 0 z4 z4 = _
 rw [tl1 _ _ hp]
 unfold readB readP
 simp only
 rcases kindB_cases (ix (parts s) 0) with hk | ⟨hk, -⟩
 ·rw [hk, dT rfl, cT, if_pos rfl]
 ·generalize hkk : kindB (ix (parts s) 0) = k at hk ⊢
  have hk0 : ¬ k = 0 := by omega
  rw [dF hk0, cF, if_neg hk0]
  have hf : text_fields k = some (flds k) := by unfold text_fields; rw [G_on hk]; rfl
  have hl := flds_len k hk
  have hc : cnt k ≤ 2 := by unfold cnt; split <;> (try split) <;> simp
  rw [hf, obs, G_on (by unfold I; omega)]
  by_cases hlen : (parts s).length = 1 + cnt k
  ·rw [dT (by omega), nT, cF, if_neg (by omega), tl2_run _ _ k hk hlen hz]
   cases nums (parts s).tail with
   | none => rfl
   | some ns =>
    simp only [model_Wrong_eq, obs]
    unfold fin
    by_cases hw : wcall (made k ns) = 0
    ·rw [dT hw, nT, cF, if_neg (by simp [hw])]
    ·rw [dF hw, nF, cT, if_pos hw]
  ·rw [dF (by omega), nF, cT, if_pos hlen]
end Sp
end
section
namespace Sp
open Go
theorem bsub_eq (s : ByteArray) (i j : Nat) : bsub s (i : Int) (j : Int) = bts (((stb s).drop i).take (j - i)) := by
 rw [← bts_stb (bsub s i j)]
 congr 1
 unfold bsub stb
 simp
theorem bix_eq (s : ByteArray) (i : Nat) (h : i < (stb s).length) : bix s (i : Int) = (stb s)[i] := by
 unfold bix
 rw [Int.toNat_natCast]
 show (stb s).getD i 0 = _
 rw [List.getD_eq_getElem?_getD, List.getElem?_eq_getElem h]; rfl
abbrev mid (l : List UInt8) (a i : Nat) : List UInt8 := (l.drop a).take (i - a)
theorem mid_succ {l : List UInt8} {a i : Nat} (h : a ≤ i) (hi : i < l.length) : mid l a (i + 1) = mid l a i ++ [l[i]] := by
 unfold mid
 rw [show i + 1 - a = (i - a) + 1 from by omega, List.take_add_one]
 congr 1
 rw [List.getElem?_drop, show a + (i - a) = i from by omega, List.getElem?_eq_getElem hi]; rfl
theorem drop_mid {l : List UInt8} {a i : Nat} (h : a ≤ i) (hi : i < l.length) : l.drop a = mid l a i ++ l[i] :: l.drop (i + 1) := by
 unfold mid
 conv => lhs; rw [← List.take_append_drop (i - a) (l.drop a)]
 rw [List.drop_drop, show a + (i - a) = i from by omega, List.drop_eq_getElem_cons hi]
theorem mid_all (l : List UInt8) (a i : Nat) (hi : l.length ≤ i) : mid l a i = l.drop a := by
 unfold mid
 exact List.take_of_length_le (by rw [List.length_drop]; omega)
theorem rl1_run (k : Mk.Call → List ByteArray → Option (Mk.Call × Int)) (s : ByteArray) (hs : s.size ≤ 4294967280) (y2 : Mk.Call) : ∀ (n i a : Nat) (acc : List ByteArray) (f : Nat), i + n = s.size → a ≤ i → 32 ∉ mid (stb s) a i → acc.length ≤ i → n + 1 < f →
  mkref1_ReadCall_l1 k f s (a : Int) ((s.size : Int) + 1) (i : Int) y2 acc = k y2 (acc ++ (segs 32 ((stb s).drop a)).map bts) := by
 have hl := stb_len s
 intro n
 induction n with
 | zero =>
  intro i a acc f hi ha hno hacc hf
  obtain ⟨f, rfl⟩ : ∃ g, f = g + 2 := ⟨f - 2, by omega⟩
  rw [mkref1_ReadCall_l1, dT (by omega), cT]
  simp only [J]
  have e : decide ((i : Int) = (s.size : Int)) = true := dT (by omega)
  rw [e, G_on (fun h => by cases h), Bool.true_or, cT, G_on (by omega), G_on (by simp only [List.length_cons, List.length_nil]; omega), G_on (by unfold I; omega), G_on (by unfold I; omega)]
  rw [mkref1_ReadCall_l1, dF (by omega), cF, bsub_eq]
  have em : ((stb s).drop a).take (i - a) = (stb s).drop a := mid_all _ _ _ (by omega)
  rw [show mid (stb s) a i = (stb s).drop a from em] at hno
  rw [segs_none hno, em]
  rfl
 | succ n ih =>
  intro i a acc f hi ha hno hacc hf
  obtain ⟨f, rfl⟩ : ∃ g, f = g + 1 := ⟨f - 1, by omega⟩
  rw [mkref1_ReadCall_l1, dT (by omega), cT]
  simp only [J]
  have e : decide ((i : Int) = (s.size : Int)) = false := dF (by omega)
  have hil : i < (stb s).length := by omega
  rw [e, G_on (fun h => by omega), Bool.false_or, bix_eq s i hil]
  by_cases hc : (stb s)[i] = UInt8.ofNat 32
  ·rw [dT hc, cT, G_on (by omega), G_on (by simp only [List.length_cons, List.length_nil]; omega), G_on (by unfold I; omega), G_on (by unfold I; omega)]
   rw [show ((i : Int) + 1) = ((i + 1 : Nat) : Int) from by omega]
   have hm : mid (stb s) (i + 1) (i + 1) = [] := by unfold mid; rw [Nat.sub_self]; rfl
   have es : segs 32 ((stb s).drop a) = mid (stb s) a i :: segs 32 ((stb s).drop (i + 1)) := by rw [drop_mid ha hil, show (stb s)[i] = 32 from hc, segs_some _ _ hno]
   rw [ih (i + 1) (i + 1) _ f (by omega) (Nat.le_refl _) (by rw [hm]; simp) (by simp only [List.length_append, List.length_cons, List.length_nil]; omega) (by omega)]
   rw [es, List.map_cons, bsub_eq, List.append_assoc]
   rfl
  ·rw [dF hc, cF, G_on (by unfold I; omega), show ((i : Int) + 1) = ((i + 1 : Nat) : Int) from by omega]
   refine ih (i + 1) a acc f (by omega) (by omega) ?_ (by omega) (by omega)
   rw [mid_succ ha hil, List.mem_append]
   rintro (h | h)
   ·exact hno h
   ·exact hc (List.mem_singleton.1 h).symm
theorem rl1_top (k : Mk.Call → List ByteArray → Option (Mk.Call × Int)) (s : ByteArray) (hs : s.size ≤ 4294967280) (y2 : Mk.Call) :
  mkref1_ReadCall_l1 k ((((s.size : Int) + (1 : Int)) - (0 : Int)).toNat + 1) s (0 : Int) ((s.size : Int) + (1 : Int)) (0 : Int) y2 [] = k y2 (parts s) := by
 have := rl1_run k s hs y2 s.size 0 0 [] ((((s.size : Int) + (1 : Int)) - (0 : Int)).toNat + 1) (by omega) (Nat.le_refl _) (by simp [mid]) (by simp) (by omega)
 rw [List.drop_zero, List.nil_append] at this
 exact this
theorem J_def {κ β : Type} (k : κ) (f : κ → Option β) : J k f = f k := rfl
theorem mkref1_Words_eq : mkref1_Words = some ([(⟨#[]⟩ : ByteArray), wPut, wGet, wDrop, wAdd, wCount, wSwap], [(0 : Int), 2, 1, 1, 2, 0, 2]) := rfl
theorem mkref1_ReadCall_eq (s : ByteArray) (h : s.size ≤ 4294967280) : mkref1_ReadCall s = some (readB s) := by
 unfold mkref1_ReadCall
 have hp := parts_ne s
 have hz := parts_size h
 rw [J_def, G_on (by unfold I; omega), rl1_top _ s h, mkref1_Words_eq, obs, J_def]
 refine (rl2 _ _ _ hp).trans ?_
 unfold readB readP
 simp only
 rcases kindB_cases (ix (parts s) 0) with hk | ⟨hk, -⟩
 ·rw [hk, dT rfl, cT, if_pos rfl]
 ·generalize hkk : kindB (ix (parts s) 0) = k at hk ⊢
  have hk0 : ¬ k = 0 := by omega
  have hk' : k = 1 ∨ k = 2 ∨ k = 3 ∨ k = 4 ∨ k = 5 ∨ k = 6 := by omega
  have hi : ix [(0 : Int), 2, 1, 1, 2, 0, 2] k = (cnt k : Int) := by rcases hk' with rfl | rfl | rfl | rfl | rfl | rfl <;> rfl
  have hc : cnt k ≤ 2 := by unfold cnt; split <;> (try split) <;> simp
  rw [dF hk0, cF, if_neg hk0, G_on (by simp only [List.length_cons, List.length_nil]; omega), hi, G_on (by unfold I; omega)]
  by_cases hlen : (parts s).length = 1 + cnt k
  ·have ht : sub (parts s) 1 ((parts s).length : Int) = (parts s).tail := by
    unfold sub
    rw [show ((1 : Int)).toNat = 1 from rfl, List.drop_one]
    exact List.take_of_length_le (by rw [List.length_tail]; omega)
   rw [dT (by omega), nT, cF, if_neg (by omega), J_def, G_on (by omega), ht, rl3_run _ _ k hk hlen hz]
   cases nums (parts s).tail with
   | none => rfl
   | some ns =>
    simp only [wrongCall_eq, obs]
    unfold fin
    by_cases hw : wcall (made k ns) = 0
    ·rw [dT hw, nT, cF, if_neg (by simp [hw])]
    ·rw [dF hw, nF, cT, if_pos hw]
  ·rw [dF (by omega), nF, cT, if_pos hlen]
def finP (acc : List Mk.Call) : List Mk.Call × Int := if 8 < acc.length then ([], 5) else (acc, 0)
def parseQ : List Mk.Call → List (List UInt8) → List Mk.Call × Int
 | acc, [] => finP acc
 | acc, [p] => if p = [] then finP acc else ([], 8)
 | acc, p :: q :: ps => if (readB (bts p)).2 ≠ 0 then ([], (readB (bts p)).2) else parseQ (acc ++ [(readB (bts p)).1]) (q :: ps)
def parseB (s : ByteArray) : List Mk.Call × Int := parseQ [] (segs 10 (stb s))
theorem parseQ_cons (acc : List Mk.Call) (p : List UInt8) (qs : List (List UInt8)) (h : qs ≠ []) : parseQ acc (p :: qs) = if (readB (bts p)).2 ≠ 0 then ([], (readB (bts p)).2) else parseQ (acc ++ [(readB (bts p)).1]) qs := by
 cases qs with
 | nil => exact absurd rfl h
 | cons q qs => rfl
theorem bts_nil (l : List UInt8) : bts l = (⟨#[]⟩ : ByteArray) ↔ l = [] := by
 rw [show (⟨#[]⟩ : ByteArray) = bts [] from rfl]
 exact bts_inj
theorem finP_eq (acc : List Mk.Call) : (bif decide ((8 : Int) < (acc.length : Int)) then some (([] : List Mk.Call), (5 : Int)) else some (acc, (0 : Int))) = some (finP acc) := by
 unfold finP
 by_cases h : 8 < acc.length
 ·rw [dT (by omega), cT, if_pos h]
 ·rw [dF (by omega), cF, if_neg h]
theorem text_Parse_run : ∀ (f : Nat) (l : List UInt8) (acc : List Mk.Call), l.length < f → acc.length + l.length ≤ 4294967280 →
  text_Parse_l1 (fun y => bif decide ((8 : Int) < (y.length : Int)) then some (([] : List Mk.Call), (5 : Int)) else some (y, (0 : Int))) f (bts l) acc = some (parseQ acc (segs 10 l)) := by
 intro f
 induction f with
 | zero => intro l acc h; omega
 | succ f ih =>
  intro l acc hf hb
  rw [text_Parse_l1]
  by_cases hl : l = []
  ·subst hl
   have e0 : decide (bts [] = (⟨#[]⟩ : ByteArray)) = true := rfl
   rw [e0, nT, cF, finP_eq]; rfl
  ·rw [dF (fun e => hl ((bts_nil l).1 e)), nF, cT]
   unfold strings_Cut
   rw [G_on (by rw [bts_size]; omega), obs]
   have e : (bts l).data.toList = l := stb_bts l
   rw [e, show (⟨#[10]⟩ : ByteArray).data.toList = [10] from rfl]
   rcases cut_segs l 10 with ⟨h1, h2⟩ | ⟨a, b, h1, h2, h3⟩
   ·rw [h2]
    simp only [nF, cT]
    rw [segs_none h1]
    unfold parseQ
    rw [if_neg hl]
   ·rw [h3]
    simp only [nT, cF]
    have hla : a.length + 1 + b.length = l.length := by rw [h1]; simp; omega
    rw [show (⟨a.toArray⟩ : ByteArray) = bts a from rfl, show (⟨b.toArray⟩ : ByteArray) = bts b from rfl, text_ReadCall_eq _ (by rw [bts_size]; omega), obs, h1, segs_some a b h2, parseQ_cons _ _ _ (segs_ne 10 b)]
    by_cases hr : (readB (bts a)).2 = 0
    ·rw [dT hr, nT, cF, if_neg (by simp [hr]), G_on (by simp only [List.length_cons, List.length_nil]; omega)]
     exact ih b _ (by omega) (by simp only [List.length_append, List.length_cons, List.length_nil]; omega)
    ·rw [dF hr, nF, cT, if_pos hr]
theorem text_Parse_eq (s : ByteArray) (h : s.size ≤ 4294967280) : text_Parse s = some (parseB s) := by
 unfold text_Parse
 simp only [J]
 have := text_Parse_run (s.size + 1) (stb s) [] (by rw [stb_len]; omega) (by rw [stb_len]; simpa using h)
 rw [bts_stb] at this
 exact this
theorem rp_run (k : ByteArray → Int → List Mk.Call → Option (List Mk.Call × Int)) (s : ByteArray) (hs : s.size ≤ 4294967280)
  (hk : ∀ (a : Nat) (acc : List Mk.Call), k s (a : Int) acc = some (if a < s.size then ([], 8) else finP acc)) : ∀ (n i a : Nat) (acc : List Mk.Call) (f : Nat), i + n = s.size → a ≤ i → 10 ∉ mid (stb s) a i → acc.length ≤ i → n < f →
  mkref1_Parse_l1 k f s (a : Int) (s.size : Int) (i : Int) acc = some (parseQ acc (segs 10 ((stb s).drop a))) := by
 have hl := stb_len s
 intro n
 induction n with
 | zero =>
  intro i a acc f hi ha hno hacc hf
  obtain ⟨f, rfl⟩ : ∃ g, f = g + 1 := ⟨f - 1, by omega⟩
  rw [mkref1_Parse_l1, dF (by omega), cF, hk]
  rw [mid_all _ _ _ (by omega)] at hno
  rw [segs_none hno]
  congr 1
  unfold parseQ
  by_cases h : a < s.size
  ·rw [if_pos h, if_neg (by intro e; have := congrArg List.length e; simp only [List.length_drop, List.length_nil] at this; omega)]
  ·rw [if_neg h, if_pos (List.drop_of_length_le (by omega))]
 | succ n ih =>
  intro i a acc f hi ha hno hacc hf
  obtain ⟨f, rfl⟩ : ∃ g, f = g + 1 := ⟨f - 1, by omega⟩
  rw [mkref1_Parse_l1, dT (by omega), cT]
  simp only [J]
  have hil : i < (stb s).length := by omega
  rw [G_on (by omega), bix_eq s i hil]
  by_cases hc : (stb s)[i] = UInt8.ofNat 10
  ·have es : segs 10 ((stb s).drop a) = mid (stb s) a i :: segs 10 ((stb s).drop (i + 1)) := by rw [drop_mid ha hil, show (stb s)[i] = 10 from hc, segs_some _ _ hno]
   rw [es]
   rw [dT hc, nT, cF, G_on (by omega), bsub_eq, mkref1_ReadCall_eq _ (by rw [bts_size]; simp only [List.length_take, List.length_drop]; omega), obs]
   rw [parseQ_cons _ _ _ (segs_ne 10 _)]
   by_cases hr : (readB (bts (mid (stb s) a i))).2 = 0
   ·rw [dT hr, nT, cF, if_neg (by simp [hr]), G_on (by simp only [List.length_cons, List.length_nil]; omega), G_on (by unfold I; omega), G_on (by unfold I; omega)]
    rw [show ((i : Int) + 1) = ((i + 1 : Nat) : Int) from by omega]
    have hm : mid (stb s) (i + 1) (i + 1) = [] := by unfold mid; rw [Nat.sub_self]; rfl
    exact ih (i + 1) (i + 1) _ f (by omega) (Nat.le_refl _) (by rw [hm]; simp) (by simp only [List.length_append, List.length_cons, List.length_nil]; omega) (by omega)
   ·rw [dF hr, nF, cT, if_pos hr]
  ·rw [dF hc, nF, cT, G_on (by unfold I; omega), show ((i : Int) + 1) = ((i + 1 : Nat) : Int) from by omega]
   refine ih (i + 1) a acc f (by omega) (by omega) ?_ (by omega) (by omega)
   rw [mid_succ ha hil, List.mem_append]
   rintro (h | h)
   ·exact hno h
   ·exact hc (List.mem_singleton.1 h).symm
theorem mkref1_Parse_eq (s : ByteArray) (h : s.size ≤ 4294967280) : mkref1_Parse s = some (parseB s) := by
 unfold mkref1_Parse
 simp only [J]
 refine (rp_run _ s h ?_ s.size 0 0 [] _ (by omega) (Nat.le_refl _) (by simp [mid]) (by simp) (by omega)).trans rfl
 intro a acc
 by_cases ha : a < s.size
 ·rw [dT (by omega), cT, if_pos ha]
 ·rw [dF (by omega), cF, if_neg ha, finP_eq]
end Sp
end
section
namespace Sp
open Go
theorem bts_append (a b : List UInt8) : bts (a ++ b) = bts a ++ bts b := by
 rw [← bts_stb (bts a ++ bts b), stb_append, stb_bts, stb_bts]
def numsOf (c : Mk.Call) : List Int := (flds c.Kind).map (cget c)
def callL (c : Mk.Call) : List UInt8 := stb (wordB c.Kind) ++ (numsOf c).flatMap fun n => 32 :: Lib.itoa n
def printL (l : List Mk.Call) : List UInt8 := l.flatMap fun c => callL c ++ [10]
theorem flds_four (k : Int) : ∀ o ∈ flds k, o < 4 := by
 intro o ho
 unfold flds at ho
 repeat' split at ho
 all_goals simp at ho
 all_goals omega
theorem cget_range {c : Mk.Call} (h : CallOk c) (o : Nat) : -1073741824 ≤ cget c o ∧ cget c o ≤ 1073741824 := by
 have h1 := h.kind
 have h2 := h.name
 have h3 := h.other
 have h4 := h.num
 unfold cget
 split <;> by_cases h5 : c.Kind = 5 <;> by_cases h6 : c.Kind = 6 <;> omega
theorem itoa_size {n : Int} (h : -1073741824 ≤ n ∧ n ≤ 1073741824) : (bts (Lib.itoa n)).size ≤ 21 := by
 rw [bts_size]; exact Lib.itoa_length_le n (by omega) (by omega)
theorem wordB_size (k : Int) : (wordB k).size ≤ 5 := by
 unfold wordB
 repeat' split
 all_goals decide
theorem tc_run (k : ByteArray → Option ByteArray) (c : Mk.Call) (hc : CallOk c) (fl : List Nat) (hf : ∀ o ∈ fl, o < 4) (hn : fl.length ≤ 100) : ∀ (n i : Nat) (acc : ByteArray) (f : Nat), i + n = fl.length → n < f → acc.size ≤ 100 + 30 * i →
  text_Call_l1 k f acc fl (fl.length : Int) (i : Int) c = k (acc ++ bts ((fl.drop i).flatMap fun o => 32 :: Lib.itoa (cget c o))) := by
 intro n
 induction n with
 | zero =>
  intro i acc f hi hfu ha
  obtain ⟨f, rfl⟩ : ∃ g, f = g + 1 := ⟨f - 1, by omega⟩
  rw [text_Call_l1, dF (by omega), cF, List.drop_of_length_le (by omega)]
  congr 1
  rw [List.flatMap_nil, show acc = bts (stb acc) from (bts_stb acc).symm, ← bts_append, List.append_nil]
 | succ n ih =>
  intro i acc f hi hfu ha
  obtain ⟨f, rfl⟩ : ∃ g, f = g + 1 := ⟨f - 1, by omega⟩
  have hx := ix_drop fl i (by omega)
  have h4 : ix fl (i : Int) < 4 := hf _ (ix_mem fl i (by omega))
  have hs := itoa_size (cget_range hc (ix fl (i : Int)))
  rw [text_Call_l1, dT (by omega), cT, G_on (by omega), G_on h4, G_on h4]
  rw [show strconv_Itoa (cget c (ix fl (i : Int))) = some (bts (Lib.itoa (cget c (ix fl (i : Int))))) from rfl, obs]
  have e1 : (⟨#[32]⟩ : ByteArray).size = 1 := rfl
  rw [G_on (by rw [e1]; omega), G_on (by rw [ByteArray.size_append, e1]; omega), G_on (by unfold I; omega), show ((i : Int) + 1) = ((i + 1 : Nat) : Int) from by omega]
  rw [ih (i + 1) _ f (by omega) (by omega) (by rw [ByteArray.size_append, ByteArray.size_append, e1]; omega)]
  congr 1
  rw [hx, List.flatMap_cons, bts_append, show (⟨#[32]⟩ : ByteArray) = bts [32] from rfl, ← bts_append, ByteArray.append_assoc]
  rfl
theorem text_Call_eq (c : Mk.Call) (hc : CallOk c) : text_Call c = some (bts (callL c)) := by
 have hk := hc.kind
 have hk' : c.Kind = 1 ∨ c.Kind = 2 ∨ c.Kind = 3 ∨ c.Kind = 4 ∨ c.Kind = 5 ∨ c.Kind = 6 := by omega
 unfold text_Call
 rw [show text_words = some [wPut, wGet, wDrop, wAdd, wCount, wSwap] from rfl, obs, G_on (by unfold I; omega), G_on (by simp only [List.length_cons, List.length_nil]; omega), J_def]
 have hf : text_fields c.Kind = some (flds c.Kind) := by unfold text_fields; rw [G_on hk]; rfl
 have hw : ix [wPut, wGet, wDrop, wAdd, wCount, wSwap] (c.Kind - 1) = wordB c.Kind := by
  rcases hk' with h | h | h | h | h | h <;> rw [h] <;> rfl
 have hl : (flds c.Kind).length ≤ 100 := by
  have := flds_len c.Kind hk
  have : cnt c.Kind ≤ 2 := by unfold cnt; split <;> (try split) <;> simp
  omega
 rw [hf, obs, hw]
 have hr := tc_run (fun (x3_k4 : ByteArray) => some x3_k4) c hc (flds c.Kind) (flds_four c.Kind) hl (flds c.Kind).length 0 (wordB c.Kind) ((((flds c.Kind).length : Int) - (0 : Int)).toNat + 1) (by omega) (by omega) (by have := wordB_size c.Kind; omega)
 refine hr.trans ?_
 unfold callL numsOf
 rw [bts_append, bts_stb, List.drop_zero, List.flatMap_map]
theorem mkref1_CallText_eq (c : Mk.Call) (hc : CallOk c) : mkref1_CallText c = some (bts (callL c)) := by
 have hk := hc.kind
 have hk' : c.Kind = 1 ∨ c.Kind = 2 ∨ c.Kind = 3 ∨ c.Kind = 4 ∨ c.Kind = 5 ∨ c.Kind = 6 := by omega
 unfold mkref1_CallText
 have hw : ix [(⟨#[]⟩ : ByteArray), wPut, wGet, wDrop, wAdd, wCount, wSwap] c.Kind = wordB c.Kind := by
  rcases hk' with h | h | h | h | h | h <;> rw [h] <;> rfl
 have hn : ix [(0 : Int), 2, 1, 1, 2, 0, 2] c.Kind = (cnt c.Kind : Int) := by
  rcases hk' with h | h | h | h | h | h <;> rw [h] <;> rfl
 have hsw := wordB_size c.Kind
 have e1 : (⟨#[32]⟩ : ByteArray).size = 1 := rfl
 have e2 : (⟨#[32]⟩ : ByteArray) = bts [32] := rfl
 have hI : ∀ n : Int, strconv_Itoa n = some (bts (Lib.itoa n)) := fun _ => rfl
 have s1 := itoa_size (cget_range hc 1)
 have s2 := itoa_size (cget_range hc 2)
 have s3 := itoa_size (cget_range hc 3)
 simp only [cget] at s1 s2 s3
 rw [mkref1_Words_eq, obs, G_on (by simp only [List.length_cons, List.length_nil]; omega), J_def, G_on (by simp only [List.length_cons, List.length_nil]; omega), hn, hw]
 unfold callL numsOf
 by_cases h5 : c.Kind = 5
 ·have hcn : cnt c.Kind = 0 := by rw [h5]; rfl
  have hfl : flds c.Kind = [] := by rw [h5]; rfl
  rw [hcn, dF (by decide), cF]
  show J _ _ = _
  rw [J_def, G_on (by simp only [List.length_cons, List.length_nil]; omega), hn, hcn, dF (by decide), Bool.false_and, cF]
  show J _ _ = _
  rw [J_def, G_on (by simp only [List.length_cons, List.length_nil]; omega), hn, hcn, dF (by decide), Bool.false_and, cF]
  show some _ = some _
  rw [hfl, List.map_nil, List.flatMap_nil, List.append_nil, bts_stb]
 ·have hpos : (0 : Int) < (cnt c.Kind : Int) := by unfold cnt; rw [if_neg h5]; split <;> decide
  rw [dT hpos, cT, G_on (by rw [e1]; omega), hI, obs, G_on (by rw [ByteArray.size_append, e1]; omega)]
  show J _ _ = _
  rw [J_def, G_on (by simp only [List.length_cons, List.length_nil]; omega), hn]
  by_cases h23 : c.Kind = 2 ∨ c.Kind = 3
  ·have hcn : cnt c.Kind = 1 := by unfold cnt; rw [if_neg h5, if_pos h23]
   have hfl : flds c.Kind = [1] := by unfold flds; rw [if_neg (by omega), if_neg h5, if_pos h23]
   rw [hcn, dF (by decide), Bool.false_and, cF]
   show J _ _ = _
   rw [J_def, G_on (by simp only [List.length_cons, List.length_nil]; omega), hn, hcn, dF (by decide), Bool.false_and, cF]
   show some _ = some _
   rw [hfl, List.map_cons, List.map_nil, List.flatMap_cons, List.flatMap_nil, List.append_nil, bts_append, bts_stb, e2, ByteArray.append_assoc, ← bts_append]
   rfl
  ·have hcn : cnt c.Kind = 2 := by unfold cnt; rw [if_neg h5, if_neg h23]
   by_cases h6 : c.Kind = 6
   ·have hfl : flds c.Kind = [1, 2] := by rw [h6]; rfl
    rw [hcn, dT (by decide), dT h6, Bool.true_and, cT, G_on (by rw [ByteArray.size_append, ByteArray.size_append, e1]; omega), hI, obs, G_on (by rw [ByteArray.size_append, ByteArray.size_append, ByteArray.size_append, e1]; omega)]
    show J _ _ = _
    rw [J_def, G_on (by simp only [List.length_cons, List.length_nil]; omega), hn, hcn, dT h6, nT, Bool.and_false, cF]
    show some _ = some _
    rw [hfl, List.map_cons, List.map_cons, List.map_nil, List.flatMap_cons, List.flatMap_cons, List.flatMap_nil, List.append_nil, bts_append, bts_append, bts_stb, e2]
    simp only [ByteArray.append_assoc, ← bts_append, List.append_assoc, List.cons_append, List.nil_append]
    rfl
   ·have hfl : flds c.Kind = [1, 3] := by unfold flds; rw [if_neg h6, if_neg h5, if_neg h23]
    rw [hcn, dF h6, Bool.and_false, cF]
    show J _ _ = _
    rw [J_def, G_on (by simp only [List.length_cons, List.length_nil]; omega), hn, hcn, dT (by decide), dF h6, nF, Bool.true_and, cT, G_on (by rw [ByteArray.size_append, ByteArray.size_append, e1]; omega), hI, obs, G_on (by rw [ByteArray.size_append, ByteArray.size_append, ByteArray.size_append, e1]; omega)]
    show some _ = some _
    rw [hfl, List.map_cons, List.map_cons, List.map_nil, List.flatMap_cons, List.flatMap_cons, List.flatMap_nil, List.append_nil, bts_append, bts_append, bts_stb, e2]
    simp only [ByteArray.append_assoc, ← bts_append, List.append_assoc, List.cons_append, List.nil_append]
    rfl
theorem callL_size {c : Mk.Call} (hc : CallOk c) : (callL c).length ≤ 60 := by
 have hw := wordB_size c.Kind
 have h1 := itoa_size (cget_range hc 1)
 have h2 := itoa_size (cget_range hc 2)
 have h3 := itoa_size (cget_range hc 3)
 rw [bts_size] at h1 h2 h3
 unfold callL numsOf flds
 rw [List.length_append, stb_len]
 repeat' split
 all_goals simp only [List.map_cons, List.map_nil, List.flatMap_cons, List.flatMap_nil, List.length_append, List.length_cons, List.length_nil]
 all_goals omega
theorem tp_run (l : List Mk.Call) (hl : ∀ c ∈ l, CallOk c) (hn : l.length ≤ 100) : ∀ (n i : Nat) (acc : ByteArray) (f : Nat), i + n = l.length → n < f → acc.size ≤ 100 * i →
  text_Print_l1 (fun x => some x) f acc l (l.length : Int) (i : Int) = some (acc ++ bts (printL (l.drop i))) := by
 intro n
 induction n with
 | zero =>
  intro i acc f hi hf ha
  obtain ⟨f, rfl⟩ : ∃ g, f = g + 1 := ⟨f - 1, by omega⟩
  rw [text_Print_l1, dF (by omega), cF, List.drop_of_length_le (by omega)]
  congr 1
  rw [show printL [] = [] from rfl]
  conv => lhs; rw [← bts_stb acc]
  rw [show acc = bts (stb acc) from (bts_stb acc).symm, ← bts_append, List.append_nil, stb_bts]
 | succ n ih =>
  intro i acc f hi hf ha
  obtain ⟨f, rfl⟩ : ∃ g, f = g + 1 := ⟨f - 1, by omega⟩
  have hx := ix_drop l i (by omega)
  have hc := hl _ (ix_mem l i (by omega))
  have hs := callL_size hc
  have e1 : (⟨#[10]⟩ : ByteArray).size = 1 := rfl
  rw [text_Print_l1, dT (by omega), cT, G_on (by omega), text_Call_eq _ hc, obs, G_on (by rw [bts_size, e1]; omega), G_on (by rw [ByteArray.size_append, bts_size, e1]; omega), G_on (by unfold I; omega), show ((i : Int) + 1) = ((i + 1 : Nat) : Int) from by omega]
  rw [ih (i + 1) _ f (by omega) (by omega) (by rw [ByteArray.size_append, ByteArray.size_append, bts_size, e1]; omega)]
  congr 1
  rw [hx]
  show _ = acc ++ bts ((callL (ix l (i : Int)) ++ [10]) ++ printL (l.drop (i + 1)))
  rw [bts_append, bts_append, ByteArray.append_assoc]
  rfl
theorem text_Print_eq (l : List Mk.Call) (hl : ∀ c ∈ l, CallOk c) (hn : l.length ≤ 100) : text_Print l = some (bts (printL l)) := by
 unfold text_Print
 rw [J_def]
 refine (tp_run l hl hn l.length 0 (bts []) _ (by omega) (by omega) (by simp [bts_size])).trans ?_
 rw [List.drop_zero, ← bts_append, List.nil_append]
theorem rpr_run (l : List Mk.Call) (hl : ∀ c ∈ l, CallOk c) (hn : l.length ≤ 100) : ∀ (n i : Nat) (acc : ByteArray) (f : Nat), i + n = l.length → n < f → acc.size ≤ 100 * i →
  mkref1_Print_l1 (fun x => some x) f l acc (l.length : Int) (i : Int) = some (acc ++ bts (printL (l.drop i))) := by
 intro n
 induction n with
 | zero =>
  intro i acc f hi hf ha
  obtain ⟨f, rfl⟩ : ∃ g, f = g + 1 := ⟨f - 1, by omega⟩
  rw [mkref1_Print_l1, dF (by omega), cF, List.drop_of_length_le (by omega)]
  congr 1
  rw [show printL [] = [] from rfl]
  rw [show acc = bts (stb acc) from (bts_stb acc).symm, ← bts_append, List.append_nil]
 | succ n ih =>
  intro i acc f hi hf ha
  obtain ⟨f, rfl⟩ : ∃ g, f = g + 1 := ⟨f - 1, by omega⟩
  have hx := ix_drop l i (by omega)
  have hc := hl _ (ix_mem l i (by omega))
  have hs := callL_size hc
  have e1 : (⟨#[10]⟩ : ByteArray).size = 1 := rfl
  rw [mkref1_Print_l1, dT (by omega), cT, G_on (by omega), mkref1_CallText_eq _ hc, obs, G_on (by rw [bts_size]; omega), G_on (by rw [ByteArray.size_append, bts_size, e1]; omega), G_on (by unfold I; omega), show ((i : Int) + 1) = ((i + 1 : Nat) : Int) from by omega]
  rw [ih (i + 1) _ f (by omega) (by omega) (by rw [ByteArray.size_append, ByteArray.size_append, bts_size, e1]; omega)]
  congr 1
  rw [hx]
  show _ = acc ++ bts ((callL (ix l (i : Int)) ++ [10]) ++ printL (l.drop (i + 1)))
  rw [bts_append, bts_append]
  simp only [ByteArray.append_assoc]
  rfl
theorem mkref1_Print_eq (l : List Mk.Call) (hl : ∀ c ∈ l, CallOk c) (hn : l.length ≤ 100) : mkref1_Print l = some (bts (printL l)) := by
 unfold mkref1_Print
 rw [J_def]
 refine (rpr_run l hl hn l.length 0 (bts []) _ (by omega) (by omega) (by simp [bts_size])).trans ?_
 rw [List.drop_zero, ← bts_append, List.nil_append]
theorem no_sep {n : Int} (h : -1073741824 ≤ n ∧ n ≤ 1073741824) {x : UInt8} (hx : x = 32 ∨ x = 10) : x ∉ Lib.itoa n := by
 intro hm
 rcases itoa_signs n (by omega) x hm with h1 | h1
 ·rcases hx with rfl | rfl <;> exact absurd h1 (by decide)
 ·rcases hx with rfl | rfl
  ·exact absurd h1.1 (by decide)
  ·exact absurd h1.1 (by decide)
theorem word_sep (k : Int) {x : UInt8} (hx : x = 32 ∨ x = 10) : x ∉ stb (wordB k) := by
 unfold wordB
 rcases hx with rfl | rfl <;> repeat' split
 all_goals decide
theorem segs_nums (w : List UInt8) (hw : (32 : UInt8) ∉ w) (ns : List Int) (hn : ∀ n ∈ ns, -1073741824 ≤ n ∧ n ≤ 1073741824) : segs 32 (w ++ ns.flatMap fun n => 32 :: Lib.itoa n) = w :: ns.map Lib.itoa := by
 induction ns generalizing w with
 | nil => rw [List.flatMap_nil, List.append_nil, segs_none hw]; rfl
 | cons n ns ih =>
  rw [List.flatMap_cons, List.cons_append, segs_some _ _ hw, ih (Lib.itoa n) (no_sep (hn n (by simp)) (.inl rfl)) (fun m hm => hn m (by simp [hm]))]
  rfl
theorem num_itoa {n : Int} (h : -1073741824 ≤ n ∧ n ≤ 1073741824) : num (bts (Lib.itoa n)) = some n := by
 unfold num
 have e : atoiOf (stb (bts (Lib.itoa n))) = (n, ⟨false⟩) := by
  rw [stb_bts]; unfold atoiOf; rw [atoi_itoa n (by omega)]
 rw [e]
 simp
theorem nums_itoa (ns : List Int) (hn : ∀ n ∈ ns, -1073741824 ≤ n ∧ n ≤ 1073741824) : nums (ns.map fun n => bts (Lib.itoa n)) = some ns := by
 induction ns with
 | nil => rfl
 | cons n ns ih =>
  rw [List.map_cons, nums, num_itoa (hn n (by simp)), ih (fun m hm => hn m (by simp [hm]))]; rfl
theorem made_numsOf {c : Mk.Call} (hc : CallOk c) : made c.Kind (numsOf c) = c := by
 obtain ⟨k, n, o, m⟩ := c
 have h1 := hc.kind
 have h2 := hc.name
 have h3 := hc.other
 have h4 := hc.num
 simp only at h1 h2 h3 h4
 have hk : k = 1 ∨ k = 2 ∨ k = 3 ∨ k = 4 ∨ k = 5 ∨ k = 6 := by omega
 rcases hk with rfl | rfl | rfl | rfl | rfl | rfl
 ·have : o = 0 := by omega
  subst this; rfl
 ·have : o = 0 := by omega
  have : m = 0 := by omega
  subst_vars; rfl
 ·have : o = 0 := by omega
  have : m = 0 := by omega
  subst_vars; rfl
 ·have : o = 0 := by omega
  subst this; rfl
 ·have : n = 0 := by omega
  have : o = 0 := by omega
  have : m = 0 := by omega
  subst_vars; rfl
 ·have : m = 0 := by omega
  subst this; rfl
theorem numsOf_range {c : Mk.Call} (hc : CallOk c) : ∀ n ∈ numsOf c, -1073741824 ≤ n ∧ n ≤ 1073741824 := by
 intro n hn
 unfold numsOf at hn
 obtain ⟨o, ho, rfl⟩ := List.mem_map.1 hn
 exact cget_range hc o
theorem read_call {c : Mk.Call} (hc : CallOk c) : readB (bts (callL c)) = (c, 0) := by
 have hp : parts (bts (callL c)) = wordB c.Kind :: (numsOf c).map (fun n => bts (Lib.itoa n)) := by
  unfold parts callL
  rw [stb_bts, segs_nums _ (word_sep c.Kind (.inl rfl)) _ (numsOf_range hc), List.map_cons, bts_stb, List.map_map]
  rfl
 unfold readB readP
 rw [hp]
 have hk := hc.kind
 have h0 : ix (wordB c.Kind :: (numsOf c).map (fun n => bts (Lib.itoa n))) 0 = wordB c.Kind := rfl
 simp only [h0, kindB_word _ hk]
 rw [if_neg (by omega), if_neg (by
  have := flds_len c.Kind hk
  simp only [List.length_cons, List.length_map, numsOf]; omega)]
 rw [List.tail_cons, nums_itoa _ (numsOf_range hc)]
 simp only [made_numsOf hc]
 unfold fin
 rw [if_neg (by simpa using (wcall_ok c).2 hc)]
theorem line_sep {c : Mk.Call} (hc : CallOk c) : (10 : UInt8) ∉ callL c := by
 unfold callL
 rw [List.mem_append]
 rintro (h | h)
 ·exact word_sep c.Kind (.inr rfl) h
 ·obtain ⟨n, hn, h⟩ := List.mem_flatMap.1 h
  rcases List.mem_cons.1 h with h | h
  ·exact absurd h (by decide)
  ·exact no_sep (numsOf_range hc n hn) (.inr rfl) h
theorem parse_print (l : List Mk.Call) (hl : ∀ c ∈ l, CallOk c) (acc : List Mk.Call) : parseQ acc (segs 10 (printL l)) = finP (acc ++ l) := by
 induction l generalizing acc with
 | nil => rw [show segs 10 (printL []) = [[]] from rfl, List.append_nil]; rfl
 | cons c l ih =>
  have hc := hl c (by simp)
  rw [show printL (c :: l) = callL c ++ 10 :: printL l from by unfold printL; simp, segs_some _ _ (line_sep hc), parseQ_cons _ _ _ (segs_ne 10 _), read_call hc]
  simp only [ne_eq, not_true, if_false]
  rw [ih (fun d hd => hl d (by simp [hd]))]
  simp
theorem unsegs (c : UInt8) (l : List UInt8) : ∃ w ws, segs c l = w :: ws ∧ l = w ++ ws.flatMap (c :: ·) := by
 induction l with
 | nil => exact ⟨[], [], rfl, rfl⟩
 | cons x l ih =>
  obtain ⟨w, ws, h1, h2⟩ := ih
  by_cases hx : x = c
  ·refine ⟨[], w :: ws, by rw [segs, if_pos hx, h1], ?_⟩
   rw [h2, hx]; simp
  ·refine ⟨x :: w, ws, by rw [segs, if_neg hx, h1], ?_⟩
   rw [h2]; simp
theorem nums_some : ∀ {l : List ByteArray} {ns : List Int}, nums l = some ns → l = ns.map fun n => bts (Lib.itoa n)
 | [], ns, h => by simp [nums] at h; subst h; rfl
 | w :: l, ns, h => by
  rw [nums] at h
  cases hw : num w with
  | none => rw [hw] at h; cases h
  | some n =>
   rw [hw] at h
   cases hl : nums l with
   | none => rw [hl] at h; cases h
   | some ms =>
    rw [hl] at h
    obtain rfl := Option.some.inj h
    rw [List.map_cons, ← nums_some hl, (num_some hw).2.1]
theorem numsOf_made {k : Int} (hk : 1 ≤ k ∧ k ≤ 6) {ns : List Int} (h : ns.length = cnt k) : numsOf (made k ns) = ns ∧ (made k ns).Kind = k := by
 have hk' : k = 1 ∨ k = 2 ∨ k = 3 ∨ k = 4 ∨ k = 5 ∨ k = 6 := by omega
 have h2 : ∀ n, ns.length = n → n = 2 → ∃ a b, ns = [a, b] := fun n h1 h2 => by
  subst h2
  match ns, h1 with
  | [a, b], _ => exact ⟨a, b, rfl⟩
 have h1 : ∀ n, ns.length = n → n = 1 → ∃ a, ns = [a] := fun n h1 h2 => by
  subst h2
  match ns, h1 with
  | [a], _ => exact ⟨a, rfl⟩
 rcases hk' with rfl | rfl | rfl | rfl | rfl | rfl
 ·obtain ⟨a, b, rfl⟩ := h2 _ h rfl; exact ⟨rfl, rfl⟩
 ·obtain ⟨a, rfl⟩ := h1 _ h rfl; exact ⟨rfl, rfl⟩
 ·obtain ⟨a, rfl⟩ := h1 _ h rfl; exact ⟨rfl, rfl⟩
 ·obtain ⟨a, b, rfl⟩ := h2 _ h rfl; exact ⟨rfl, rfl⟩
 ·have : ns = [] := List.eq_nil_of_length_eq_zero h
  subst this; exact ⟨rfl, rfl⟩
 ·obtain ⟨a, b, rfl⟩ := h2 _ h rfl; exact ⟨rfl, rfl⟩
theorem read_back {p : List UInt8} (h : (readB (bts p)).2 = 0) : CallOk (readB (bts p)).1 ∧ callL (readB (bts p)).1 = p := by
 obtain ⟨w, ws, h1, h2⟩ := unsegs 32 p
 have hp : parts (bts p) = bts w :: ws.map bts := by unfold parts; rw [stb_bts, h1]; rfl
 have hr : readB (bts p) = readP (bts w :: ws.map bts) := by unfold readB; rw [hp]
 rw [hr] at h ⊢
 have h0 : ix (bts w :: ws.map bts) 0 = bts w := rfl
 unfold readP at h ⊢
 simp only [h0] at h ⊢
 rcases kindB_cases (bts w) with hk | ⟨hk, hw⟩
 ·rw [if_pos hk] at h; exact absurd h (by decide)
 ·generalize hkk : kindB (bts w) = k at *
  rw [if_neg (by omega)] at h ⊢
  by_cases hl : (bts w :: ws.map bts).length = 1 + cnt k
  ·rw [if_neg (by omega)] at h ⊢
   rw [List.tail_cons] at h ⊢
   cases hn : nums (ws.map bts) with
   | none => rw [hn] at h; simp only at h; exact absurd h (by decide)
   | some ns =>
    rw [hn] at h
    simp only at h ⊢
    have e := nums_some hn
    unfold fin at h ⊢
    by_cases hc : wcall (made k ns) = 0
    ·rw [if_neg (by simp [hc])]
     refine ⟨(wcall_ok _).1 hc, ?_⟩
     have hlen : ns.length = cnt k := by
      have := congrArg List.length e
      simp only [List.length_map, List.length_cons] at this hl
      omega
     obtain ⟨m1, m2⟩ := numsOf_made hk hlen
     unfold callL
     simp only [m1, m2]
     rw [hw, stb_bts, h2]
     congr 1
     have e2 : ws = ns.map Lib.itoa := by
      have := congrArg (List.map stb) e
      rw [List.map_map, List.map_map] at this
      have i1 : (stb ∘ bts) = id := by funext x; exact stb_bts x
      have i2 : (stb ∘ fun n => bts (Lib.itoa n)) = Lib.itoa := by funext x; exact stb_bts _
      rw [i1, i2, List.map_id] at this
      exact this
     rw [e2, List.flatMap_map]
    ·rw [if_pos hc] at h; exact absurd h hc
  ·rw [if_pos hl] at h; exact absurd h (by decide)
theorem parse_ok : ∀ (qs : List (List UInt8)) (acc l : List Mk.Call), qs ≠ [] → parseQ acc qs = (l, 0) →
  ∃ ps, qs = ps ++ [[]] ∧ (∀ p ∈ ps, (readB (bts p)).2 = 0) ∧ l = acc ++ ps.map (fun p => (readB (bts p)).1) ∧ l.length ≤ 8
 | [], acc, l, h, _ => absurd rfl h
 | [q], acc, l, _, h => by
  unfold parseQ at h
  split at h
  ·rename_i hq
   unfold finP at h
   split at h
   ·cases h
   ·cases h
    exact ⟨[], by rw [hq]; rfl, by simp, by simp, by omega⟩
  ·cases h
 | q :: q' :: qs, acc, l, _, h => by
  rw [parseQ_cons _ _ _ (by simp)] at h
  split at h
  ·rename_i hq
   have := congrArg Prod.snd h
   exact absurd this hq
  ·rename_i hq
   obtain ⟨ps, h1, h2, h3, h4⟩ := parse_ok (q' :: qs) _ l (by simp) h
   refine ⟨q :: ps, by rw [h1]; rfl, fun p hp => ?_, by rw [h3]; simp, h4⟩
   rcases List.mem_cons.1 hp with rfl | hp
   ·simpa using hq
   ·exact h2 p hp
theorem parse_run : ∀ (ps qs : List (List UInt8)) (acc : List Mk.Call), qs ≠ [] → (∀ p ∈ ps, (readB (bts p)).2 = 0) → parseQ acc (ps ++ qs) = parseQ (acc ++ ps.map (fun p => (readB (bts p)).1)) qs
 | [], qs, acc, _, _ => by simp
 | p :: ps, qs, acc, hq, h => by
  rw [List.cons_append, parseQ_cons _ _ _ (by simp [hq]), h p (by simp)]
  simp only [ne_eq, not_true, if_false]
  rw [parse_run ps qs _ hq (fun r hr => h r (by simp [hr]))]
  simp
theorem lines_back : ∀ (ps : List (List UInt8)) (w : List UInt8) (ws : List (List UInt8)), w :: ws = ps ++ [[]] → w ++ ws.flatMap (10 :: ·) = ps.flatMap (· ++ [(10 : UInt8)])
 | [], w, ws, h => by
  have : w = [] ∧ ws = [] := by simpa using h
  rw [this.1, this.2]; rfl
 | [p], w, ws, h => by
  have : w = p ∧ ws = [[]] := by simpa using h
  rw [this.1, this.2]; simp
 | p :: q :: ps, w, ws, h => by
  have h' : w = p ∧ ws = (q :: ps) ++ [[]] := by simpa using h
  obtain ⟨rfl, h2⟩ := h'
  cases ws with
  | nil => simp at h2
  | cons v vs =>
   have := lines_back (q :: ps) v vs h2
   rw [List.flatMap_cons, List.flatMap_cons, ← this]
   simp
theorem print_back {s : ByteArray} {l : List Mk.Call} (h : parseB s = (l, 0)) : (∀ c ∈ l, CallOk c) ∧ l.length ≤ 8 ∧ bts (printL l) = s := by
 obtain ⟨ps, h1, h2, h3, h4⟩ := parse_ok _ _ _ (segs_ne 10 _) h
 rw [List.nil_append] at h3
 have hb : ∀ p ∈ ps, CallOk (readB (bts p)).1 ∧ callL (readB (bts p)).1 = p := fun p hp => read_back (h2 p hp)
 refine ⟨fun c hc => ?_, h4, ?_⟩
 ·rw [h3] at hc
  obtain ⟨p, hp, rfl⟩ := List.mem_map.1 hc
  exact (hb p hp).1
 ·rw [← bts_stb s]
  congr 1
  obtain ⟨w, ws, e1, e2⟩ := unsegs 10 (stb s)
  rw [e1] at h1
  rw [e2, lines_back ps w ws h1, h3]
  unfold printL
  rw [List.flatMap_map]
  have : ∀ (ps : List (List UInt8)), (∀ p ∈ ps, callL (readB (bts p)).1 = p) → ps.flatMap (fun p => callL (readB (bts p)).1 ++ [10]) = ps.flatMap (· ++ [(10 : UInt8)]) := by
   intro ps
   induction ps with
   | nil => intro _; rfl
   | cons p ps ih =>
    intro hh
    rw [List.flatMap_cons, List.flatMap_cons, hh p (by simp), ih (fun q hq => hh q (by simp [hq]))]
  exact this ps (fun p hp => (hb p hp).2)
theorem segs_append (c : UInt8) (a b : List UInt8) (ps : List (List UInt8)) (h : segs c a = ps ++ [[]]) : segs c (a ++ b) = ps ++ segs c b := by
 induction a generalizing ps with
 | nil =>
  have : ps = [] := by
   rw [segs] at h
   cases ps with
   | nil => rfl
   | cons p ps => simp at h
  subst this; rfl
 | cons x a ih =>
  obtain ⟨w, ws, h1, -⟩ := unsegs c a
  rw [List.cons_append]
  by_cases hx : x = c
  ·rw [segs, if_pos hx] at h ⊢
   cases ps with
   | nil => rw [h1] at h; simp at h
   | cons p ps =>
    have h' : p = [] ∧ segs c a = ps ++ [[]] := by simpa [eq_comm] using h
    rw [ih ps h'.2, h'.1]; rfl
  ·rw [segs, if_neg hx, h1] at h
   rw [segs, if_neg hx]
   cases ps with
   | nil => simp at h
   | cons p ps =>
    have h' : x :: w = p ∧ ws = ps ++ [[]] := by simpa using h
    rw [ih (w :: ps) (by rw [h1, h'.2]; rfl), ← h'.1]
    rfl
end Sp
end
