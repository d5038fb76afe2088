/- WHAT THE STATEMENTS OF THIS GROUP NEED, part 3: laid together by prune.py out of own texts. -/
import Derived.Test.YtjclefplnjicgaaGreatDoorZTpB2
set_option linter.unusedVariables false
set_option linter.unusedSimpArgs false
set_option maxRecDepth 20000
set_option maxHeartbeats 4000000
section
namespace Go.Gx
open Sp
theorem c_wire_who {a0 : Int} {a1 : Int} {r : Int} (hφ : wire_who a0 a1 = some r) : Fn Go.Proofs.Tryz.prog 102 [.val a0, .val a1] (.val r) := by
 unfold wire_who at hφ
 refine Fn.mk' Go.Proofs.Tryz.func102 rfl (by decide) rfl rfl rfl (fun w0 hw0 => ?_)
 refine Q2 (Q1 ?_)
 refine O5 (ox1 .int) .nil .nil rfl <| O1 <| Q0 (σ' := ⟨[(0, .val (a0)), (1, .val (a1))], []⟩) (j2 rfl rfl) trivial ?_
 refine Q2 ?_
 refine Q2 (Q1 ?_)
 refine O5 (ox0 .tmp) (.one rfl) .nil rfl <| O5 (ox_lss .tmp .int) (.app (.one rfl) .nil) .nil rfl <| O5 (ox0 .tmp) (.one rfl) .nil rfl <| O4 rfl rfl rfl rfl (.plain .nil) (fun hG => (ox0 .tmp)) (j1 rfl) .nil rfl <| O4 rfl rfl rfl rfl (.cond (fun h => h) .nil) (fun hG => (ox_geq .tmp .int)) (j1 rfl) .nil rfl <| O5 ox9 (j2 rfl rfl) .nil rfl ?_
 refine O5 (ox0 .tmp) (.one rfl) .nil rfl <| O4 rfl rfl rfl rfl (.plain .nil) (fun hG => (ox0 .tmp)) (j1 rfl) .nil rfl <| O4 rfl rfl rfl rfl (.cond (fun h => h) .nil) (fun hG => (ox_lss .tmp .int)) (j1 rfl) .nil rfl <| O5 ox9 (j2 rfl rfl) .nil rfl <| O5 (ox0 .tmp) (.one rfl) .nil rfl <| O4 rfl rfl rfl rfl (.plain .nil) (fun hG => (ox0 .tmp)) (j1 rfl) .nil rfl ?_
 refine O4 rfl rfl rfl rfl (.cond (fun h => h) .nil) (fun hG => (ox_geq .tmp .int)) (j1 rfl) .nil rfl <| O5 ox9 (j2 rfl rfl) .nil rfl <| O1 <| Q0 (σ' := ⟨[(18, .val (((((decide (a0 < (0 : Int))) || (decide ((3 : Int) ≤ a0))) || (decide (a1 < (0 : Int)))) || (decide ((8 : Int) ≤ a1)))))], []⟩) (j1 rfl) trivial ?_
 refine Q3 _ rfl (fun hc1 => ?_) (fun hc1 => ?_)
 ·replace hφ := if_then hφ hc1
  refine Q0 (σ' := ⟨[], []⟩) trivial trivial ?_
  refine Q2 (Q1 ?_)
  refine O5 (ox1 .int) .nil .nil rfl <| O1 <| Q0 (σ' := ⟨[(4, .val (3 : Int))], []⟩) (j1 rfl) trivial ?_
  refine Q5 ?_
  obtain rfl := Option.some.inj hφ
  exact Q6 hw0 rfl (.tmp rfl rfl .nil) rfl
 ·replace hφ := if_else hφ hc1
  refine Q0 (σ' := ⟨[], []⟩) trivial trivial ?_
  refine Q4 ?_
  refine Q2 (Q1 ?_)
  refine O5 (ox1 .int) .nil .nil rfl <| O1 <| Q0 (σ' := ⟨[(4, .val (0 : Int))], []⟩) (j1 rfl) trivial ?_
  refine Q5 ?_
  obtain rfl := Option.some.inj hφ
  exact Q6 hw0 rfl (.tmp rfl rfl .nil) rfl
theorem c_model_Wrong_1 {a0 : Int} {r : Bool} (hφ : model_Wrong_1 a0 = some r) : Fn Go.Proofs.Tryz.prog 51 [.val a0] (.val r) := by
 unfold model_Wrong_1 at hφ
 refine Fn.mk' Go.Proofs.Tryz.func51 rfl (by decide) rfl rfl rfl (fun w0 hw0 => ?_)
 refine Q2 (Q1 ?_)
 refine O5 (ox1 .bool) .nil .nil rfl <| O1 <| Q0 (σ' := ⟨[(0, .val (a0))], []⟩) (j1 rfl) trivial ?_
 refine Q2 (Q1 ?_)
 refine O5 (ox0 .tmp) (.one rfl) .nil rfl <| O5 (ox_geq .tmp .int) (.app (.one rfl) .nil) .nil rfl <| O5 (ox0 .tmp) (.one rfl) .nil rfl <| O4 rfl rfl rfl rfl (.plain .nil) (fun hG => (ox0 .tmp)) (j1 rfl) .nil rfl <| O4 rfl rfl rfl rfl (.cond (fun h => h) .nil) (fun hG => (ox_leq .tmp .int)) (j1 rfl) .nil rfl <| O5 ox8 (j2 rfl rfl) .nil rfl ?_
 refine O5 (ox1 .tmp) (.one rfl) .nil rfl <| O1 <| Q0 (σ' := ⟨[(2, .val ((decide ((1 : Int) ≤ a0)) && (decide (a0 ≤ (255 : Int)))))], []⟩) (j1 rfl) trivial ?_
 refine Q5 ?_
 obtain rfl := Option.some.inj hφ
 exact Q6 hw0 rfl (.tmp rfl rfl .nil) rfl
theorem c_model_Wrong {a0 : Mk.Call} {r : Int} (hφ : model_Wrong a0 = some r) : Fn Go.Proofs.Tryz.prog 32 [.val a0] (.val r) := by
 unfold model_Wrong at hφ
 refine Fn.mk' Go.Proofs.Tryz.func32 rfl (by decide) rfl rfl rfl (fun w0 hw0 => ?_)
 refine Q2 (Q1 ?_)
 refine O3 rfl rfl (ox_box (id := 1) .tmp) (.one rfl) .nil rfl (by kernel_rfl) <| O5 (ox1 .int) .nil .nil rfl <| O1 <| Q0 (σ' := ⟨[(1, _)], [(1, .var (a0) [])]⟩) (j1 rfl) (j1 rfl) ?_
 refine Q2 (Q1 ?_)
 refine O5 (ox1 .func) .nil .nil rfl <| O1 <| Q0 (σ' := ⟨[(1, _), (3, _)], [(1, _)]⟩) (j2 rfl rfl) (j1 rfl) ?_
 refine Q2 ?_
 refine PT.block ?_
 refine Q2 (Q1 ?_)
 refine O5 (ox3 Call_Kind f33_0) (.one rfl) .nil rfl <| O5 (ox2 t3) (.one rfl) (.one rfl) rfl <| O5 (ox_lss .tmp .int) (.app (.one rfl) .nil) .nil rfl <| O5 (ox0 .tmp) (.one rfl) .nil rfl <| O4 rfl rfl rfl rfl (.plain .nil) (fun hG => (ox3 Call_Kind f33_0)) (j1 rfl) .nil rfl <| O4 rfl rfl rfl rfl (.cond (fun h => h) .nil) (fun hG => (ox2 t3)) (j1 rfl) (.one rfl) rfl ?_
 refine O4 rfl rfl rfl rfl (.cond (fun h => h) .nil) (fun hG => (ox_gtr .tmp .int)) (j1 rfl) .nil rfl <| O5 ox9 (j2 rfl rfl) .nil rfl <| O5 (ox1 .tmp) (.one rfl) .nil rfl <| O1 <| Q0 (σ' := ⟨[(1, _), (3, _), (4, .val ((decide (a0.Kind < (1 : Int))) || (decide ((6 : Int) < a0.Kind))))], [(1, _)]⟩) (j3 rfl rfl rfl) (j1 rfl) ?_
 refine Q3 _ rfl (fun hc1 => ?_) (fun hc1 => ?_)
 ·replace hφ := if_then hφ hc1
  refine Q0 (σ' := ⟨[], []⟩) trivial trivial ?_
  refine Q2 (Q1 ?_)
  refine O5 (ox1 .int) .nil .nil rfl <| O1 <| Q0 (σ' := ⟨[(2, .val (1 : Int))], []⟩) (j1 rfl) trivial ?_
  refine Q5 ?_
  obtain rfl := Option.some.inj hφ
  exact Q6 hw0 rfl (.tmp rfl rfl .nil) rfl
 ·replace hφ := if_else hφ hc1
  refine Q0 (σ' := ⟨[(1, _), (3, _)], [(1, _)]⟩) (j2 rfl rfl) (j1 rfl) ?_
  obtain ⟨k2, hk2, hφ⟩ := J_some hφ
  refine PT.cut (ι := Bool × Mk.Call) (fun p => ⟨[(1, .ptr 1 (Lens.id (α := Mk.Call))), (13, .val (p.1))], [(1, .var (p.2) [])]⟩) (fun p => k2 (p.1) (p.2) = some r) ?_ ?_
  ·skip
   refine Q2 ?_
   obtain ⟨v3, hv3, hφ⟩ := B_some hφ
   refine Q8 hMixed (
     .cons (S5 (ox3 Call_Kind f33_0)) ⟨.one rfl, .nil⟩ (by kernel_rfl) rfl <|
     .cons (S5 (ox2 t3)) ⟨.one rfl, .one rfl⟩ (by kernel_rfl) rfl <|
     .cons (S5 (ox_neq .tmp .int)) ⟨(.app (.one rfl) .nil), .nil⟩ (by kernel_rfl) rfl <|
     .cons (S5 (ox0 .tmp)) ⟨.one rfl, .nil⟩ (by kernel_rfl) rfl <|
     .cons (S5 (ox3 Call_Name f33_1)) ⟨.one rfl, .nil⟩ (by kernel_rfl) rfl <|
     .cons (S5 (ox2 t3)) ⟨.one rfl, .one rfl⟩ (by kernel_rfl) rfl <|
     .cons (S5 (ox_callv (c_model_Wrong_1 hv3) (.cons .tmp .nil))) ⟨(.cons rfl (.app (.one rfl) .nil)), .nil⟩ (by kernel_rfl) rfl <|
     .cons (S5 (ox_neqB e4 .tmp .tmp)) ⟨(.app (.one rfl) (.one rfl)), .nil⟩ (by kernel_rfl) rfl <|
     .cons (S5 (ox0 .tmp)) ⟨.one rfl, .nil⟩ (by kernel_rfl) rfl <|
     .cons (S3 rfl rfl rfl Grd.plain _ (by first | exact Iff.rfl | (simp; done) | (simp; intros; exact Iff.rfl)) (.plain .nil) (fun hG => (ox3 Call_Kind f33_0))) ⟨(.cons rfl (j1 rfl)), .nil⟩ (by kernel_rfl) rfl <|
     .cons (S3 rfl rfl rfl Grd.plain _ (by first | exact Iff.rfl | (simp; done) | (simp; intros; exact Iff.rfl)) (.cond (fun h => h) .nil) (fun hG => (ox2 t3))) ⟨(.cons rfl (j1 rfl)), .one rfl⟩ (by kernel_rfl) rfl <|
     .cons (S3 rfl rfl rfl Grd.plain _ (by first | exact Iff.rfl | (simp; done) | (simp; intros; exact Iff.rfl)) (.cond (fun h => h) .nil) (fun hG => (ox_eql .tmp .int))) ⟨(.cons rfl (j1 rfl)), .nil⟩ (by kernel_rfl) rfl <|
     .cons (S3 rfl rfl rfl Grd.plain _ (by first | exact Iff.rfl | (simp; done) | (simp; intros; exact Iff.rfl)) (.cond (fun h => h) .nil) (fun hG => (ox0 .tmp))) ⟨(.cons rfl (j1 rfl)), .nil⟩ (by kernel_rfl) rfl <|
     .cons (S3 rfl rfl rfl Grd.cond _ (by first | exact Iff.rfl | (simp; done) | (simp; intros; exact Iff.rfl)) (.plain .nil) (fun hG => (ox3 Call_Name f33_1))) ⟨(.cons rfl (j1 rfl)), .nil⟩ (by kernel_rfl) rfl <|
     .cons (S3 rfl rfl rfl Grd.cond _ (by first | exact Iff.rfl | (simp; done) | (simp; intros; exact Iff.rfl)) (.cond (fun h => h) .nil) (fun hG => (ox2 t3))) ⟨(.cons rfl (j1 rfl)), .one rfl⟩ (by kernel_rfl) rfl <|
     .cons (S3 rfl rfl rfl Grd.cond _ (by first | exact Iff.rfl | (simp; done) | (simp; intros; exact Iff.rfl)) (.cond (fun h => h) .nil) (fun hG => (ox_neq .tmp .int))) ⟨(.cons rfl (j1 rfl)), .nil⟩ (by kernel_rfl) rfl <|
     .cons (S3 rfl rfl rfl Grd.plain _ (by first | exact Iff.rfl | (simp; done) | (simp; intros; exact Iff.rfl)) (.cond (fun h => h) (.part (fun h => h) .nil)) (fun hG => ox8)) ⟨(.cons rfl (j2 rfl rfl)), .nil⟩ (by kernel_rfl) rfl <|
     .cons (S5 ox9) ⟨(j2 rfl rfl), .nil⟩ (by kernel_rfl) rfl <|
     .cons (S5 (ox1 .tmp)) ⟨.one rfl, .nil⟩ (by kernel_rfl) rfl <|
     .nil) _ [[], [0], [0, 1], [], [], [4], [3, 4, 5], [0, 1, 2, 3, 4, 5, 6], [0, 1, 2, 3, 4, 5, 6, 7], [0, 1, 2, 3, 4, 5, 6, 7, 8], [0, 1, 2, 3, 4, 5, 6, 7, 8, 9], [0, 1, 2, 3, 4, 5, 6, 7, 8, 9, 10], [0, 1, 2, 3, 4, 5, 6, 7, 8, 9, 10, 11], [0, 1, 2, 3, 4, 5, 6, 7, 8, 9, 10, 11, 12], [0, 1, 2, 3, 4, 5, 6, 7, 8, 9, 10, 11, 12, 13], [0, 1, 2, 3, 4, 5, 6, 7, 8, 9, 10, 11, 12, 13, 14], [0, 1, 2, 3, 4, 5, 6, 7, 8, 9, 10, 11, 12, 13, 14, 15], [0, 1, 2, 3, 4, 5, 6, 7, 8, 9, 10, 11, 12, 13, 14, 15, 16], [0, 1, 2, 3, 4, 5, 6, 7, 8, 9, 10, 11, 12, 13, 14, 15, 16, 17]] rfl (by kernel_rfl) (by kernel_rfl) ?_
   refine Q0 (σ' := ⟨[(1, _), (3, _), (13, .val (((!decide ((!decide (a0.Kind = (5 : Int))) = v3)) || ((decide (a0.Kind = (5 : Int))) && (!decide (a0.Name = (0 : Int)))))))], [(1, _)]⟩) (j3 rfl rfl rfl) (j1 rfl) ?_
   refine Q3 _ rfl (fun hc4 => ?_) (fun hc4 => ?_)
   ·replace hφ := if_then hφ hc4
    refine Q0 (σ' := ⟨[(1, _), (13, _)], [(1, _)]⟩) (j2 rfl rfl) (j1 rfl) ?_
    refine Q4 ?_
    exact PT.meet (((!decide ((!decide (a0.Kind = (5 : Int))) = v3)) || ((decide (a0.Kind = (5 : Int))) && (!decide (a0.Name = (0 : Int))))), a0) hφ (j2 rfl rfl) (j1 rfl)
   ·replace hφ := if_else hφ hc4
    refine Q0 (σ' := ⟨[(1, _), (3, _)], [(1, _)]⟩) (j2 rfl rfl) (j1 rfl) ?_
    obtain ⟨v5, hv5, hφ⟩ := B_some hφ
    refine Q8 hMixed (
      .cons (S5 (ox3 Call_Kind f33_0)) ⟨.one rfl, .nil⟩ (by kernel_rfl) rfl <|
      .cons (S5 (ox2 t3)) ⟨.one rfl, .one rfl⟩ (by kernel_rfl) rfl <|
      .cons (S5 (ox_eql .tmp .int)) ⟨(.app (.one rfl) .nil), .nil⟩ (by kernel_rfl) rfl <|
      .cons (S5 (ox0 .tmp)) ⟨.one rfl, .nil⟩ (by kernel_rfl) rfl <|
      .cons (S5 (ox3 Call_Other f33_2)) ⟨.one rfl, .nil⟩ (by kernel_rfl) rfl <|
      .cons (S5 (ox2 t3)) ⟨.one rfl, .one rfl⟩ (by kernel_rfl) rfl <|
      .cons (S5 (ox_callv (c_model_Wrong_1 hv5) (.cons .tmp .nil))) ⟨(.cons rfl (.app (.one rfl) .nil)), .nil⟩ (by kernel_rfl) rfl <|
      .cons (S5 (ox_neqB e4 .tmp .tmp)) ⟨(.app (.one rfl) (.one rfl)), .nil⟩ (by kernel_rfl) rfl <|
      .cons (S5 (ox0 .tmp)) ⟨.one rfl, .nil⟩ (by kernel_rfl) rfl <|
      .cons (S3 rfl rfl rfl Grd.plain _ (by first | exact Iff.rfl | (simp; done) | (simp; intros; exact Iff.rfl)) (.plain .nil) (fun hG => (ox3 Call_Kind f33_0))) ⟨(.cons rfl (j1 rfl)), .nil⟩ (by kernel_rfl) rfl <|
      .cons (S3 rfl rfl rfl Grd.plain _ (by first | exact Iff.rfl | (simp; done) | (simp; intros; exact Iff.rfl)) (.cond (fun h => h) .nil) (fun hG => (ox2 t3))) ⟨(.cons rfl (j1 rfl)), .one rfl⟩ (by kernel_rfl) rfl <|
      .cons (S3 rfl rfl rfl Grd.plain _ (by first | exact Iff.rfl | (simp; done) | (simp; intros; exact Iff.rfl)) (.cond (fun h => h) .nil) (fun hG => (ox_neq .tmp .int))) ⟨(.cons rfl (j1 rfl)), .nil⟩ (by kernel_rfl) rfl <|
      .cons (S3 rfl rfl rfl Grd.plain _ (by first | exact Iff.rfl | (simp; done) | (simp; intros; exact Iff.rfl)) (.cond (fun h => h) .nil) (fun hG => (ox0 .tmp))) ⟨(.cons rfl (j1 rfl)), .nil⟩ (by kernel_rfl) rfl <|
      .cons (S3 rfl rfl rfl Grd.cond _ (by first | exact Iff.rfl | (simp; done) | (simp; intros; exact Iff.rfl)) (.plain .nil) (fun hG => (ox3 Call_Other f33_2))) ⟨(.cons rfl (j1 rfl)), .nil⟩ (by kernel_rfl) rfl <|
      .cons (S3 rfl rfl rfl Grd.cond _ (by first | exact Iff.rfl | (simp; done) | (simp; intros; exact Iff.rfl)) (.cond (fun h => h) .nil) (fun hG => (ox2 t3))) ⟨(.cons rfl (j1 rfl)), .one rfl⟩ (by kernel_rfl) rfl <|
      .cons (S3 rfl rfl rfl Grd.cond _ (by first | exact Iff.rfl | (simp; done) | (simp; intros; exact Iff.rfl)) (.cond (fun h => h) .nil) (fun hG => (ox_neq .tmp .int))) ⟨(.cons rfl (j1 rfl)), .nil⟩ (by kernel_rfl) rfl <|
      .cons (S3 rfl rfl rfl Grd.plain _ (by first | exact Iff.rfl | (simp; done) | (simp; intros; exact Iff.rfl)) (.cond (fun h => h) (.part (fun h => h) .nil)) (fun hG => ox8)) ⟨(.cons rfl (j2 rfl rfl)), .nil⟩ (by kernel_rfl) rfl <|
      .cons (S5 ox9) ⟨(j2 rfl rfl), .nil⟩ (by kernel_rfl) rfl <|
      .cons (S5 (ox1 .tmp)) ⟨.one rfl, .nil⟩ (by kernel_rfl) rfl <|
      .nil) _ [[], [0], [0, 1], [], [], [4], [3, 4, 5], [0, 1, 2, 3, 4, 5, 6], [0, 1, 2, 3, 4, 5, 6, 7], [0, 1, 2, 3, 4, 5, 6, 7, 8], [0, 1, 2, 3, 4, 5, 6, 7, 8, 9], [0, 1, 2, 3, 4, 5, 6, 7, 8, 9, 10], [0, 1, 2, 3, 4, 5, 6, 7, 8, 9, 10, 11], [0, 1, 2, 3, 4, 5, 6, 7, 8, 9, 10, 11, 12], [0, 1, 2, 3, 4, 5, 6, 7, 8, 9, 10, 11, 12, 13], [0, 1, 2, 3, 4, 5, 6, 7, 8, 9, 10, 11, 12, 13, 14], [0, 1, 2, 3, 4, 5, 6, 7, 8, 9, 10, 11, 12, 13, 14, 15], [0, 1, 2, 3, 4, 5, 6, 7, 8, 9, 10, 11, 12, 13, 14, 15, 16], [0, 1, 2, 3, 4, 5, 6, 7, 8, 9, 10, 11, 12, 13, 14, 15, 16, 17]] rfl (by kernel_rfl) (by kernel_rfl) ?_
    refine Q0 (σ' := ⟨[(1, _), (13, .val (((!decide ((decide (a0.Kind = (6 : Int))) = v5)) || ((!decide (a0.Kind = (6 : Int))) && (!decide (a0.Other = (0 : Int)))))))], [(1, _)]⟩) (j2 rfl rfl) (j1 rfl) ?_
    exact PT.meet (((!decide ((decide (a0.Kind = (6 : Int))) = v5)) || ((!decide (a0.Kind = (6 : Int))) && (!decide (a0.Other = (0 : Int))))), a0) hφ (j2 rfl rfl) (j1 rfl)
  ·rintro ⟨x13_k2, y1_k2⟩ hφ
   subst hk2
   refine Q0 (σ' := ⟨[(1, .ptr 1 (Lens.id (α := Mk.Call))), (13, .val (x13_k2))], [(1, .var (y1_k2) [])]⟩) (j2 rfl rfl) (j1 rfl) ?_
   refine Q3 _ rfl (fun hc6 => ?_) (fun hc6 => ?_)
   ·replace hφ := if_then hφ hc6
    refine Q0 (σ' := ⟨[], []⟩) trivial trivial ?_
    refine Q2 (Q1 ?_)
    refine O5 (ox1 .int) .nil .nil rfl <| O1 <| Q0 (σ' := ⟨[(2, .val (7 : Int))], []⟩) (j1 rfl) trivial ?_
    refine Q5 ?_
    obtain rfl := Option.some.inj hφ
    exact Q6 hw0 rfl (.tmp rfl rfl .nil) rfl
   ·replace hφ := if_else hφ hc6
    refine Q0 (σ' := ⟨[(1, _)], [(1, _)]⟩) (j1 rfl) (j1 rfl) ?_
    refine Q2 (Q1 ?_)
    refine O5 (ox3 Call_N f33_3) (.one rfl) .nil rfl <| O5 (ox2 t3) (.one rfl) (.one rfl) rfl <| O5 (ox_lss .tmp .int) (.app (.one rfl) .nil) .nil rfl <| O5 (ox0 .tmp) (.one rfl) .nil rfl <| O4 rfl rfl rfl rfl (.plain .nil) (fun hG => (ox3 Call_N f33_3)) (j1 rfl) .nil rfl <| O4 rfl rfl rfl rfl (.cond (fun h => h) .nil) (fun hG => (ox2 t3)) (j1 rfl) (.one rfl) rfl ?_
    refine O4 rfl rfl rfl rfl (.cond (fun h => h) .nil) (fun hG => (ox_gtr .tmp .int)) (j1 rfl) .nil rfl <| O5 ox9 (j2 rfl rfl) .nil rfl <| O5 (ox0 .tmp) (.one rfl) .nil rfl <| O4 rfl rfl rfl rfl (.plain .nil) (fun hG => (ox3 Call_Kind f33_0)) (j1 rfl) .nil rfl <| O4 rfl rfl rfl rfl (.cond (fun h => h) .nil) (fun hG => (ox2 t3)) (j1 rfl) (.one rfl) rfl <| O4 rfl rfl rfl rfl (.cond (fun h => h) .nil) (fun hG => (ox_neq .tmp .int)) (j1 rfl) .nil rfl ?_
    refine O4 rfl rfl rfl rfl (.cond (fun h => h) .nil) (fun hG => (ox0 .tmp)) (j1 rfl) .nil rfl ?_
    refine Ops.guard2 rfl rfl rfl rfl (.plain .nil) (fun hG => (ox3 Call_Kind f33_0)) (j1 rfl) .nil rfl ?_
    refine Ops.guard2 rfl rfl rfl rfl (.cond (fun h => h) .nil) (fun hG => (ox2 t3)) (j1 rfl) (.one rfl) rfl ?_
    refine Ops.guard2 rfl rfl rfl rfl (.cond (fun h => h) .nil) (fun hG => (ox_neq .tmp .int)) (j1 rfl) .nil rfl ?_
    refine O4 rfl rfl rfl rfl (.cond (fun h => h) (.part (fun h => h) .nil)) (fun hG => ox8) (j2 rfl rfl) .nil rfl <| O4 rfl rfl rfl rfl (.cond (fun h => h) .nil) (fun hG => (ox0 .tmp)) (j1 rfl) .nil rfl ?_
    refine Ops.guard2 rfl rfl rfl rfl (.plain .nil) (fun hG => (ox3 Call_N f33_3)) (j1 rfl) .nil rfl ?_
    refine Ops.guard2 rfl rfl rfl rfl (.cond (fun h => h) .nil) (fun hG => (ox2 t3)) (j1 rfl) (.one rfl) rfl ?_
    refine Ops.guard2 rfl rfl rfl rfl (.cond (fun h => h) .nil) (fun hG => (ox_neq .tmp .int)) (j1 rfl) .nil rfl ?_
    refine O4 rfl rfl rfl rfl (.cond (fun h => h) (.part (fun h => h) .nil)) (fun hG => ox8) (j2 rfl rfl) .nil rfl <| O5 ox9 (j2 rfl rfl) .nil rfl <| O5 (ox1 .tmp) (.one rfl) .nil rfl <| O1 <| Q0 (σ' := ⟨[(50, .val ((((decide (y1_k2.N < (-1073741824 : Int))) || (decide ((1073741824 : Int) < y1_k2.N))) || (((!decide (y1_k2.Kind = (1 : Int))) && (!decide (y1_k2.Kind = (4 : Int)))) && (!decide (y1_k2.N = (0 : Int)))))))], []⟩) (j1 rfl) trivial ?_
    refine Q3 _ rfl (fun hc7 => ?_) (fun hc7 => ?_)
    ·replace hφ := if_then hφ hc7
     refine Q0 (σ' := ⟨[], []⟩) trivial trivial ?_
     refine Q2 (Q1 ?_)
     refine O5 (ox1 .int) .nil .nil rfl <| O1 <| Q0 (σ' := ⟨[(2, .val (3 : Int))], []⟩) (j1 rfl) trivial ?_
     refine Q5 ?_
     obtain rfl := Option.some.inj hφ
     exact Q6 hw0 rfl (.tmp rfl rfl .nil) rfl
    ·replace hφ := if_else hφ hc7
     refine Q0 (σ' := ⟨[], []⟩) trivial trivial ?_
     refine Q4 ?_
     refine Q2 (Q1 ?_)
     refine O5 (ox1 .int) .nil .nil rfl <| O1 <| Q0 (σ' := ⟨[(2, .val (0 : Int))], []⟩) (j1 rfl) trivial ?_
     refine Q5 ?_
     obtain rfl := Option.some.inj hφ
     exact Q6 hw0 rfl (.tmp rfl rfl .nil) rfl
theorem c_wire_WrongRequest {a0 : Mk.Request} {r : Int} (hφ : wire_WrongRequest a0 = some r) : Fn Go.Proofs.Tryz.prog 111 [.val a0] (.val r) := by
 unfold wire_WrongRequest at hφ
 refine Fn.mk' Go.Proofs.Tryz.func111 rfl (by decide) rfl rfl rfl (fun w0 hw0 => ?_)
 refine Q2 (Q1 ?_)
 refine O3 rfl rfl (ox_box (id := 1) .tmp) (.one rfl) .nil rfl (by kernel_rfl) <| O5 (ox1 .int) .nil .nil rfl <| O1 <| Q0 (σ' := ⟨[(1, _)], [(1, .var (a0) [])]⟩) (j1 rfl) (j1 rfl) ?_
 refine Q2 (Q2 ?_)
 obtain ⟨v1, hv1, hφ⟩ := B_some hφ
 refine Q1 ?_
 refine O5 (ox3 Request_Client f35_0) (.one rfl) .nil rfl <| O5 (ox2 t3) (.one rfl) (.one rfl) rfl <| O5 (ox3 Request_Token f35_1) (.one rfl) .nil rfl <| O5 (ox2 t3) (.one rfl) (.one rfl) rfl <| O5 (ox_call (c_wire_who hv1) (.cons .tmp (.cons .tmp .nil))) (.app (.one rfl) (.app (.one rfl) .nil)) .nil rfl <| O5 (ox1 .tmp) (.one rfl) .nil rfl <| O1 <| Q0 (σ' := ⟨[(1, _), (3, .val (v1))], [(1, _)]⟩) (j2 rfl rfl) (j1 rfl) ?_
 refine Q2 (Q1 ?_)
 refine O5 (ox0 .tmp) (.one rfl) .nil rfl <| O5 (ox_neq .tmp .int) (.app (.one rfl) .nil) .nil rfl <| O1 <| Q0 (σ' := ⟨[(1, _), (3, _), (10, .val (!decide (v1 = (0 : Int))))], [(1, _)]⟩) (j3 rfl rfl rfl) (j1 rfl) ?_
 refine Q3 _ rfl (fun hc2 => ?_) (fun hc2 => ?_)
 ·replace hφ := if_then hφ hc2
  refine Q0 (σ' := ⟨[(3, _)], []⟩) (j1 rfl) trivial ?_
  refine Q2 (Q1 ?_)
  refine O5 (ox0 .tmp) (.one rfl) .nil rfl <| O5 (ox1 .tmp) (.one rfl) .nil rfl <| O1 <| Q0 (σ' := ⟨[(2, .val (v1))], []⟩) (j1 rfl) trivial ?_
  refine Q5 ?_
  obtain rfl := Option.some.inj hφ
  exact Q6 hw0 rfl (.tmp rfl rfl .nil) rfl
 ·replace hφ := if_else hφ hc2
  refine Q0 (σ' := ⟨[(1, _)], [(1, _)]⟩) (j1 rfl) (j1 rfl) ?_
  refine Q4 ?_
  refine Q2 ?_
  obtain ⟨v3, hv3, hφ⟩ := B_some hφ
  refine Q1 ?_
  refine O5 (ox3 Request_Call f35_2) (.one rfl) .nil rfl <| O5 (ox2 t33) (.one rfl) (.one rfl) rfl <| O5 (ox_call (c_model_Wrong hv3) (.cons .tmp .nil)) (.app (.one rfl) .nil) .nil rfl <| O5 (ox1 .tmp) (.one rfl) .nil rfl <| O1 <| Q0 (σ' := ⟨[(2, .val (v3))], []⟩) (j1 rfl) trivial ?_
  refine Q5 ?_
  obtain rfl := Option.some.inj hφ
  exact Q6 hw0 rfl (.tmp rfl rfl .nil) rfl
theorem c_wire_WrongAnswer {a0 : Mk.Answer} {r : Int} (hφ : wire_WrongAnswer a0 = some r) : Fn Go.Proofs.Tryz.prog 82 [.val a0] (.val r) := by
 unfold wire_WrongAnswer at hφ
 refine Fn.mk' Go.Proofs.Tryz.func82 rfl (by decide) rfl rfl rfl (fun w0 hw0 => ?_)
 refine Q2 (Q1 ?_)
 refine O3 rfl rfl (ox_box (id := 1) .tmp) (.one rfl) .nil rfl (by kernel_rfl) <| O5 (ox1 .int) .nil .nil rfl <| O1 <| Q0 (σ' := ⟨[(1, _)], [(1, .var (a0) [])]⟩) (j1 rfl) (j1 rfl) ?_
 refine Q2 (Q2 ?_)
 obtain ⟨v1, hv1, hφ⟩ := B_some hφ
 refine Q1 ?_
 refine O5 (ox3 Answer_Client f105_0) (.one rfl) .nil rfl <| O5 (ox2 t3) (.one rfl) (.one rfl) rfl <| O5 (ox3 Answer_Token f105_1) (.one rfl) .nil rfl <| O5 (ox2 t3) (.one rfl) (.one rfl) rfl <| O5 (ox_call (c_wire_who hv1) (.cons .tmp (.cons .tmp .nil))) (.app (.one rfl) (.app (.one rfl) .nil)) .nil rfl <| O5 (ox1 .tmp) (.one rfl) .nil rfl <| O1 <| Q0 (σ' := ⟨[(1, _), (3, .val (v1))], [(1, _)]⟩) (j2 rfl rfl) (j1 rfl) ?_
 refine Q2 (Q1 ?_)
 refine O5 (ox0 .tmp) (.one rfl) .nil rfl <| O5 (ox_neq .tmp .int) (.app (.one rfl) .nil) .nil rfl <| O1 <| Q0 (σ' := ⟨[(1, _), (3, _), (11, .val (!decide (v1 = (0 : Int))))], [(1, _)]⟩) (j3 rfl rfl rfl) (j1 rfl) ?_
 refine Q3 _ rfl (fun hc2 => ?_) (fun hc2 => ?_)
 ·replace hφ := if_then hφ hc2
  refine Q0 (σ' := ⟨[(3, _)], []⟩) (j1 rfl) trivial ?_
  refine Q2 (Q1 ?_)
  refine O5 (ox0 .tmp) (.one rfl) .nil rfl <| O5 (ox1 .tmp) (.one rfl) .nil rfl <| O1 <| Q0 (σ' := ⟨[(2, .val (v1))], []⟩) (j1 rfl) trivial ?_
  refine Q5 ?_
  obtain rfl := Option.some.inj hφ
  exact Q6 hw0 rfl (.tmp rfl rfl .nil) rfl
 ·replace hφ := if_else hφ hc2
  refine Q0 (σ' := ⟨[(1, _)], [(1, _)]⟩) (j1 rfl) (j1 rfl) ?_
  refine Q4 ?_
  refine Q2 (Q1 ?_)
  refine O5 (ox3 Answer_Reply f105_2) (.one rfl) .nil rfl <| O5 (ox2 t38) (.one rfl) (.one rfl) rfl <| O3 rfl rfl (ox_alloc (id := 4) z38) .nil .nil rfl (by kernel_rfl) <| O2 rfl rfl (ox5 t38 .tmp) (.cons rfl (.one rfl)) (.one rfl) <| O1 <| Q0 (σ' := ⟨[(4, _)], [(4, .var (a0.Reply) [])]⟩) (j1 rfl) (j1 rfl) ?_
  refine Q2 ?_
  refine Q2 (Q1 ?_)
  refine O5 (ox3 Reply_Err f38_0) (.one rfl) .nil rfl <| O5 (ox2 t36) (.one rfl) (.one rfl) rfl <| O5 (ox_lss .tmp .int) (.app (.one rfl) .nil) .nil rfl <| O5 (ox0 .tmp) (.one rfl) .nil rfl <| O4 rfl rfl rfl rfl (.plain .nil) (fun hG => (ox3 Reply_Err f38_0)) (j1 rfl) .nil rfl <| O4 rfl rfl rfl rfl (.cond (fun h => h) .nil) (fun hG => (ox2 t36)) (j1 rfl) (.one rfl) rfl ?_
  refine O4 rfl rfl rfl rfl (.cond (fun h => h) .nil) (fun hG => (ox_gtr .tmp .int)) (j1 rfl) .nil rfl <| O5 ox9 (j2 rfl rfl) .nil rfl <| O5 (ox0 .tmp) (.one rfl) .nil rfl <| O4 rfl rfl rfl rfl (.plain .nil) (fun hG => (ox3 Reply_N f38_1)) (j1 rfl) .nil rfl <| O4 rfl rfl rfl rfl (.cond (fun h => h) .nil) (fun hG => (ox2 t3)) (j1 rfl) (.one rfl) rfl <| O4 rfl rfl rfl rfl (.cond (fun h => h) .nil) (fun hG => (ox_lss .tmp .int)) (j1 rfl) .nil rfl ?_
  refine O5 ox9 (j2 rfl rfl) .nil rfl <| O5 (ox0 .tmp) (.one rfl) .nil rfl <| O4 rfl rfl rfl rfl (.plain .nil) (fun hG => (ox3 Reply_N f38_1)) (j1 rfl) .nil rfl <| O4 rfl rfl rfl rfl (.cond (fun h => h) .nil) (fun hG => (ox2 t3)) (j1 rfl) (.one rfl) rfl <| O4 rfl rfl rfl rfl (.cond (fun h => h) .nil) (fun hG => (ox_gtr .tmp .int)) (j1 rfl) .nil rfl <| O5 ox9 (j2 rfl rfl) .nil rfl ?_
  refine O5 (ox0 .tmp) (.one rfl) .nil rfl <| O4 rfl rfl rfl rfl (.plain .nil) (fun hG => (ox3 Reply_Err f38_0)) (j1 rfl) .nil rfl <| O4 rfl rfl rfl rfl (.cond (fun h => h) .nil) (fun hG => (ox2 t36)) (j1 rfl) (.one rfl) rfl <| O4 rfl rfl rfl rfl (.cond (fun h => h) .nil) (fun hG => (ox_neq .tmp .int)) (j1 rfl) .nil rfl <| O4 rfl rfl rfl rfl (.cond (fun h => h) .nil) (fun hG => (ox0 .tmp)) (j1 rfl) .nil rfl ?_
  refine Ops.guard2 rfl rfl rfl rfl (.plain .nil) (fun hG => (ox3 Reply_N f38_1)) (j1 rfl) .nil rfl ?_
  refine Ops.guard2 rfl rfl rfl rfl (.cond (fun h => h) .nil) (fun hG => (ox2 t3)) (j1 rfl) (.one rfl) rfl ?_
  refine Ops.guard2 rfl rfl rfl rfl (.cond (fun h => h) .nil) (fun hG => (ox_neq .tmp .int)) (j1 rfl) .nil rfl ?_
  refine O4 rfl rfl rfl rfl (.cond (fun h => h) (.part (fun h => h) .nil)) (fun hG => ox8) (j2 rfl rfl) .nil rfl <| O5 ox9 (j2 rfl rfl) .nil rfl <| O1 <| Q0 (σ' := ⟨[(42, .val ((((((decide (a0.Reply.Err < (0 : Int))) || (decide ((12 : Int) < a0.Reply.Err))) || (decide (a0.Reply.N < (-1073741824 : Int)))) || (decide ((1073741824 : Int) < a0.Reply.N))) || ((!decide (a0.Reply.Err = (0 : Int))) && (!decide (a0.Reply.N = (0 : Int)))))))], []⟩) (j1 rfl) trivial ?_
  refine Q3 _ rfl (fun hc3 => ?_) (fun hc3 => ?_)
  ·replace hφ := if_then hφ hc3
   refine Q0 (σ' := ⟨[], []⟩) trivial trivial ?_
   refine Q2 (Q1 ?_)
   refine O5 (ox1 .int) .nil .nil rfl <| O1 <| Q0 (σ' := ⟨[(2, .val (3 : Int))], []⟩) (j1 rfl) trivial ?_
   refine Q5 ?_
   obtain rfl := Option.some.inj hφ
   exact Q6 hw0 rfl (.tmp rfl rfl .nil) rfl
  ·replace hφ := if_else hφ hc3
   refine Q0 (σ' := ⟨[], []⟩) trivial trivial ?_
   refine Q4 ?_
   refine Q2 (Q1 ?_)
   refine O5 (ox1 .int) .nil .nil rfl <| O1 <| Q0 (σ' := ⟨[(2, .val (0 : Int))], []⟩) (j1 rfl) trivial ?_
   refine Q5 ?_
   obtain rfl := Option.some.inj hφ
   exact Q6 hw0 rfl (.tmp rfl rfl .nil) rfl
theorem x_wire_num {a0 : List UInt8} {a1 : Int} {r : (List UInt8)} (hφ : wire_num a0 a1 = some r) : FnX Go.Proofs.Tryz.prog 97 [.sl 600, .val a1] [(600, .arr 5 (a0))] (.val r) [] [] := by
 unfold wire_num at hφ
 refine FnX.mk' Go.Proofs.Tryz.func97 rfl (by decide) rfl (fun w0 m0 => ?_)
 refine Q2 (Q1 ?_)
 refine O5 (ox1 .nilS) .nil .nil rfl <| O1 <| Q0 (σ' := ⟨[(0, _), (1, .val (a1))], [(600, .arr 5 (a0))]⟩) (j2 rfl rfl) (j1 rfl) ?_
 refine Q2 ?_
 obtain ⟨hb1, hφ⟩ := G_some hφ
 refine Q1 ?_
 refine O5 (ox0 .tmp) (.one rfl) .nil rfl <| O5 (ox0 .tmp) (.one rfl) .nil rfl <| O5 (ox_shrI 24 .tmp rfl rfl) (.one rfl) .nil rfl <| O5 (ox_i64_u8 (by kernel_rfl) .tmp) (.one rfl) .nil rfl <| O5 (ox0 .tmp) (.one rfl) .nil rfl <| O5 (ox_shrI 16 .tmp rfl rfl) (.one rfl) .nil rfl ?_
 refine O5 (ox_i64_u8 (by kernel_rfl) .tmp) (.one rfl) .nil rfl <| O5 (ox0 .tmp) (.one rfl) .nil rfl <| O5 (ox_shrI 8 .tmp rfl rfl) (.one rfl) .nil rfl <| O5 (ox_i64_u8 (by kernel_rfl) .tmp) (.one rfl) .nil rfl <| O5 (ox0 .tmp) (.one rfl) .nil rfl <| O5 (ox_i64_u8 (by kernel_rfl) .tmp) (.one rfl) .nil rfl ?_
 refine O5 (ox_buildSlice_val s112 z5 (.cons .tmp (.cons .tmp (.cons .tmp (.cons .tmp Parts.nil)))) rfl (by decide)) ((.app (.one rfl) (.app (.one rfl) (.app (.one rfl) (.app (.one rfl) .nil))))) .nil rfl ?_
 refine Ops.putK [0, 5] rfl rfl (ox_append a112 .tmp .tmp hb1.1 hb1.2) (.app (.one rfl) (.one rfl)) (.one rfl) rfl (by kernel_rfl) ?_
 refine O5 (ox1 .tmp) (.one rfl) .nil rfl <| O1 <| Q0 (σ' := ⟨[(4, _)], [(600, .arr 5 (a0 ++ ([(u8 (shrI a1 24)), (u8 (shrI a1 16)), (u8 (shrI a1 8)), (u8 a1)] : List UInt8)))]⟩) (j1 rfl) (j1 rfl) ?_
 refine Q5 ?_
 refine PT.freeze 600 [4] rfl (j1 rfl) ?_
 obtain rfl := Option.some.inj hφ
 exact Q7 rfl (.tmp rfl .nil) rfl trivial trivial
theorem c_wire_Request {a0 : Mk.Request} {r : (List UInt8)} (hφ : wire_Request a0 = some r) : Fn Go.Proofs.Tryz.prog 76 [.val a0] (.val r) := by
 unfold wire_Request at hφ
 refine Fn.mk' Go.Proofs.Tryz.func76 rfl (by decide) rfl rfl rfl (fun w0 hw0 => ?_)
 refine Q2 (Q1 ?_)
 refine O3 rfl rfl (ox_box (id := 1) .tmp) (.one rfl) .nil rfl (by kernel_rfl) <| O5 (ox1 .nilS) .nil .nil rfl <| O1 <| Q0 (σ' := ⟨[(1, _)], [(1, .var (a0) [])]⟩) (j1 rfl) (j1 rfl) ?_
 refine Q2 (Q1 ?_)
 refine O5 (ox3 Request_Call f35_2) (.one rfl) .nil rfl <| O5 (ox2 t33) (.one rfl) (.one rfl) rfl <| O3 rfl rfl (ox_alloc (id := 3) z33) .nil .nil rfl (by kernel_rfl) <| O2 rfl rfl (ox5 t33 .tmp) (.cons rfl (.one rfl)) (.one rfl) <| O1 <| Q0 (σ' := ⟨[(1, _), (3, _)], [(1, _), (3, .var (a0.Call) [])]⟩) (j2 rfl rfl) (j2 rfl rfl) ?_
 refine Q2 ?_
 obtain ⟨v1, hv1, hφ⟩ := B_some hφ
 refine Q1 ?_
 refine O5 (ox3 Request_Client f35_0) (.one rfl) .nil rfl <| O5 (ox2 t3) (.one rfl) (.one rfl) rfl <| O5 (ox_i64_u8 (by kernel_rfl) .tmp) (.one rfl) .nil rfl <| O5 (ox3 Request_Token f35_1) (.one rfl) .nil rfl <| O5 (ox2 t3) (.one rfl) (.one rfl) rfl <| O5 (ox_i64_u8 (by kernel_rfl) .tmp) (.one rfl) .nil rfl ?_
 refine O5 (ox3 Call_Kind f33_0) (.one rfl) .nil rfl <| O5 (ox2 t3) (.one rfl) (.one rfl) rfl <| O5 (ox_i64_u8 (by kernel_rfl) .tmp) (.one rfl) .nil rfl <| O5 (ox3 Call_Name f33_1) (.one rfl) .nil rfl <| O5 (ox2 t3) (.one rfl) (.one rfl) rfl <| O5 (ox_i64_u8 (by kernel_rfl) .tmp) (.one rfl) .nil rfl ?_
 refine O5 (ox3 Call_Other f33_2) (.one rfl) .nil rfl <| O5 (ox2 t3) (.one rfl) (.one rfl) rfl <| O5 (ox_i64_u8 (by kernel_rfl) .tmp) (.one rfl) .nil rfl <| O3 rfl rfl (ox_buildSlice_arr (id := 21) s112 z5 (.cons (.u8 (n := 113)) (.cons .tmp (.cons .tmp (.cons .tmp (.cons .tmp (.cons .tmp Parts.nil)))))) rfl (by decide)) ((.app .nil (.app (.one rfl) (.app (.one rfl) (.app (.one rfl) (.app (.one rfl) (.app (.one rfl) .nil))))))) .nil rfl (by kernel_rfl) <| O5 (ox3 Call_N f33_3) (.one rfl) .nil rfl <| O5 (ox2 t3) (.one rfl) (.one rfl) rfl ?_
 refine O3 rfl rfl (ox_callX (x_wire_num hv1) [(600, 21)] [] [] [21] (.cons .tmp (.cons .tmp .nil)) rfl rfl rfl rfl rfl rfl rfl rfl (j1 rfl) rfl rfl rfl rfl) (.app (.one rfl) (.app (.one rfl) .nil)) (.cons rfl .nil) rfl (by kernel_rfl) <| O5 (ox1 .tmp) (.one rfl) .nil rfl <| O1 <| Q0 (σ' := ⟨[(2, .val (v1))], []⟩) (j1 rfl) trivial ?_
 refine Q5 ?_
 obtain rfl := Option.some.inj hφ
 exact Q6 hw0 rfl (.tmp rfl rfl .nil) rfl
theorem c_wire_Answer {a0 : Mk.Answer} {r : (List UInt8)} (hφ : wire_Answer a0 = some r) : Fn Go.Proofs.Tryz.prog 79 [.val a0] (.val r) := by
 unfold wire_Answer at hφ
 refine Fn.mk' Go.Proofs.Tryz.func79 rfl (by decide) rfl rfl rfl (fun w0 hw0 => ?_)
 refine Q2 (Q1 ?_)
 refine O3 rfl rfl (ox_box (id := 1) .tmp) (.one rfl) .nil rfl (by kernel_rfl) <| O5 (ox1 .nilS) .nil .nil rfl <| O1 <| Q0 (σ' := ⟨[(1, _)], [(1, .var (a0) [])]⟩) (j1 rfl) (j1 rfl) ?_
 refine Q2 ?_
 obtain ⟨v1, hv1, hφ⟩ := B_some hφ
 refine Q1 ?_
 refine O5 (ox3 Answer_Client f105_0) (.one rfl) .nil rfl <| O5 (ox2 t3) (.one rfl) (.one rfl) rfl <| O5 (ox_i64_u8 (by kernel_rfl) .tmp) (.one rfl) .nil rfl <| O5 (ox3 Answer_Token f105_1) (.one rfl) .nil rfl <| O5 (ox2 t3) (.one rfl) (.one rfl) rfl <| O5 (ox_i64_u8 (by kernel_rfl) .tmp) (.one rfl) .nil rfl ?_
 refine O5 (ox3 Answer_Reply f105_2) (.one rfl) .nil rfl <| O5 (ox_fieldAddr_ptr Reply_Err f38_0) (.one rfl) .nil rfl <| O5 (ox2 t36) (.one rfl) (.one rfl) rfl <| O5 (ox_i64_u8 (by kernel_rfl) .tmp) (.one rfl) .nil rfl <| O3 rfl rfl (ox_buildSlice_arr (id := 13) s112 z5 (.cons (.u8 (n := 97)) (.cons .tmp (.cons .tmp (.cons .tmp Parts.nil)))) rfl (by decide)) ((.app .nil (.app (.one rfl) (.app (.one rfl) (.app (.one rfl) .nil))))) .nil rfl (by kernel_rfl) <| O5 (ox3 Answer_Reply f105_2) (.one rfl) .nil rfl ?_
 refine O5 (ox_fieldAddr_ptr Reply_N f38_1) (.one rfl) .nil rfl <| O5 (ox2 t3) (.one rfl) (.one rfl) rfl <| O3 rfl rfl (ox_callX (x_wire_num hv1) [(600, 13)] [] [] [13] (.cons .tmp (.cons .tmp .nil)) rfl rfl rfl rfl rfl rfl rfl rfl (j1 rfl) rfl rfl rfl rfl) (.app (.one rfl) (.app (.one rfl) .nil)) (.cons rfl .nil) rfl (by kernel_rfl) <| O5 (ox1 .tmp) (.one rfl) .nil rfl <| O1 <| Q0 (σ' := ⟨[(2, .val (v1))], []⟩) (j1 rfl) trivial ?_
 refine Q5 ?_
 obtain rfl := Option.some.inj hφ
 exact Q6 hw0 rfl (.tmp rfl rfl .nil) rfl
theorem c_wire_get {a0 : List UInt8} {r : Int} (hφ : wire_get a0 = some r) : Fn Go.Proofs.Tryz.prog 81 [.val a0] (.val r) := by
 unfold wire_get at hφ
 refine Fn.mk' Go.Proofs.Tryz.func81 rfl (by decide) rfl rfl rfl (fun w0 hw0 => ?_)
 refine Q2 (Q1 ?_)
 refine O5 (ox1 .int) .nil .nil rfl <| O1 <| Q0 (σ' := ⟨[(0, .val (a0))], []⟩) (j1 rfl) trivial ?_
 refine Q2 ?_
 obtain ⟨hb1, hφ⟩ := G_some hφ
 obtain ⟨hb2, hφ⟩ := G_some hφ
 obtain ⟨hb3, hφ⟩ := G_some hφ
 obtain ⟨hb4, hφ⟩ := G_some hφ
 refine Q8 hMixed (
   .cons (S5 (ox0 .tmp)) ⟨.one rfl, .nil⟩ (by kernel_rfl) rfl <|
   .cons (S5 (ox_ix s112 .tmp .int hb1.1 hb1.2)) ⟨(.app (.one rfl) .nil), .nil⟩ (by kernel_rfl) rfl <|
   .cons (S5 (ox_load_elem t5)) ⟨.one rfl, .nil⟩ (by kernel_rfl) rfl <|
   .cons (S5 (ox_u8_u32 (by kernel_rfl) .tmp)) ⟨.one rfl, .nil⟩ (by kernel_rfl) rfl <|
   .cons (S5 (ox_shlU 24 .tmp rfl rfl)) ⟨.one rfl, .nil⟩ (by kernel_rfl) rfl <|
   .cons (S5 (ox0 .tmp)) ⟨.one rfl, .nil⟩ (by kernel_rfl) rfl <|
   .cons (S5 (ox_ix s112 .tmp .int hb2.1 hb2.2)) ⟨(.app (.one rfl) .nil), .nil⟩ (by kernel_rfl) rfl <|
   .cons (S5 (ox_load_elem t5)) ⟨.one rfl, .nil⟩ (by kernel_rfl) rfl <|
   .cons (S5 (ox_u8_u32 (by kernel_rfl) .tmp)) ⟨.one rfl, .nil⟩ (by kernel_rfl) rfl <|
   .cons (S5 (ox_shlU 16 .tmp rfl rfl)) ⟨.one rfl, .nil⟩ (by kernel_rfl) rfl <|
   .cons (S5 (ox_orU .tmp .tmp)) ⟨(.app (.one rfl) (.one rfl)), .nil⟩ (by kernel_rfl) rfl <|
   .cons (S5 (ox0 .tmp)) ⟨.one rfl, .nil⟩ (by kernel_rfl) rfl <|
   .cons (S5 (ox_ix s112 .tmp .int hb3.1 hb3.2)) ⟨(.app (.one rfl) .nil), .nil⟩ (by kernel_rfl) rfl <|
   .cons (S5 (ox_load_elem t5)) ⟨.one rfl, .nil⟩ (by kernel_rfl) rfl <|
   .cons (S5 (ox_u8_u32 (by kernel_rfl) .tmp)) ⟨.one rfl, .nil⟩ (by kernel_rfl) rfl <|
   .cons (S5 (ox_shlU 8 .tmp rfl rfl)) ⟨.one rfl, .nil⟩ (by kernel_rfl) rfl <|
   .cons (S5 (ox_orU .tmp .tmp)) ⟨(.app (.one rfl) (.one rfl)), .nil⟩ (by kernel_rfl) rfl <|
   .cons (S5 (ox0 .tmp)) ⟨.one rfl, .nil⟩ (by kernel_rfl) rfl <|
   .cons (S5 (ox_ix s112 .tmp .int hb4.1 hb4.2)) ⟨(.app (.one rfl) .nil), .nil⟩ (by kernel_rfl) rfl <|
   .cons (S5 (ox_load_elem t5)) ⟨.one rfl, .nil⟩ (by kernel_rfl) rfl <|
   .cons (S5 (ox_u8_u32 (by kernel_rfl) .tmp)) ⟨.one rfl, .nil⟩ (by kernel_rfl) rfl <|
   .cons (S5 (ox_orU .tmp .tmp)) ⟨(.app (.one rfl) (.one rfl)), .nil⟩ (by kernel_rfl) rfl <|
   .cons (S5 (ox_u32_i32 (by kernel_rfl) .tmp)) ⟨.one rfl, .nil⟩ (by kernel_rfl) rfl <|
   .cons (S5 (ox_i32_i64 (by kernel_rfl) .tmp)) ⟨.one rfl, .nil⟩ (by kernel_rfl) rfl <|
   .cons (S5 (ox1 .tmp)) ⟨.one rfl, .nil⟩ (by kernel_rfl) rfl <|
   .nil) _ [[], [0], [0, 1], [0, 1, 2], [0, 1, 2, 3], [], [5], [5, 6], [5, 6, 7], [5, 6, 7, 8], [0, 1, 2, 3, 4, 5, 6, 7, 8, 9], [], [11], [11, 12], [11, 12, 13], [11, 12, 13, 14], [0, 1, 2, 3, 4, 5, 6, 7, 8, 9, 10, 11, 12, 13, 14, 15], [], [17], [17, 18], [17, 18, 19], [0, 1, 2, 3, 4, 5, 6, 7, 8, 9, 10, 11, 12, 13, 14, 15, 16, 17, 18, 19, 20], [0, 1, 2, 3, 4, 5, 6, 7, 8, 9, 10, 11, 12, 13, 14, 15, 16, 17, 18, 19, 20, 21], [0, 1, 2, 3, 4, 5, 6, 7, 8, 9, 10, 11, 12, 13, 14, 15, 16, 17, 18, 19, 20, 21, 22], [0, 1, 2, 3, 4, 5, 6, 7, 8, 9, 10, 11, 12, 13, 14, 15, 16, 17, 18, 19, 20, 21, 22, 23]] rfl (by kernel_rfl) (by kernel_rfl) ?_
 refine Q0 (σ' := ⟨[(2, .val ((i32 (orU (orU (orU (shlU (⟨(((ix a0 (0 : Int)).toNat : Nat) : Int)⟩ : U32) 24) (shlU (⟨(((ix a0 (1 : Int)).toNat : Nat) : Int)⟩ : U32) 16)) (shlU (⟨(((ix a0 (2 : Int)).toNat : Nat) : Int)⟩ : U32) 8)) (⟨(((ix a0 (3 : Int)).toNat : Nat) : Int)⟩ : U32)).n).n))], []⟩) (j1 rfl) trivial ?_
 refine Q5 ?_
 obtain rfl := Option.some.inj hφ
 exact Q6 hw0 rfl (.tmp rfl rfl .nil) rfl
theorem c_wire_ReadRequest {a0 : List UInt8} {r : (Mk.Request × Int)} (hφ : wire_ReadRequest a0 = some r) : Fn Go.Proofs.Tryz.prog 98 [.val a0] (.tup [.val r.1, .val r.2]) := by
 unfold wire_ReadRequest at hφ
 refine Fn.mk' Go.Proofs.Tryz.func98 rfl (by decide) rfl rfl rfl (fun w0 hw0 => ?_)
 refine Q2 (Q1 ?_)
 refine O3 rfl rfl (ox_alloc (id := 2) z35) .nil .nil rfl (by kernel_rfl) <| O5 (ox1 .int) .nil .nil rfl <| O1 <| Q0 (σ' := ⟨[(0, .val (a0)), (2, _)], [(2, .var zRq [])]⟩) (j2 rfl rfl) (j1 rfl) ?_
 refine Q2 (Q2 ?_)
 obtain ⟨hb1, hφ⟩ := G_some hφ
 refine Q1 ?_
 refine O5 (ox0 .tmp) (.one rfl) .nil rfl <| O5 (ox_len s112 .tmp) (.one rfl) .nil rfl <| O5 (ox_neq .tmp .int) (.app (.one rfl) .nil) .nil rfl <| O5 (ox0 .tmp) (.one rfl) .nil rfl <| O4 rfl rfl rfl rfl (.plain .nil) (fun hG => (ox0 .tmp)) (j1 rfl) .nil rfl <| O4 rfl rfl rfl rfl (.cond (fun h => h) .nil) (fun hG => (ox_ix s112 .tmp .int (hb1 hG).1 (hb1 hG).2)) (j1 rfl) .nil rfl ?_
 refine O4 rfl rfl rfl rfl (.cond (fun h => h) .nil) (fun hG => (ox_load_elem t5)) (j1 rfl) .nil rfl <| O4 rfl rfl rfl rfl (.cond (fun h => h) .nil) (fun hG => (ox_neqU8 .tmp (.u8 (n := 113)))) (j1 rfl) .nil rfl <| O5 ox9 (j2 rfl rfl) .nil rfl <| O1 <| Q0 (σ' := ⟨[(0, _), (2, _), (14, .val (((!decide ((a0.length : Int) = (10 : Int))) || (!decide ((ix a0 (0 : Int)) = (UInt8.ofNat 113))))))], [(2, _)]⟩) (j3 rfl rfl rfl) (j1 rfl) ?_
 refine Q3 _ rfl (fun hc2 => ?_) (fun hc2 => ?_)
 ·replace hφ := if_then hφ hc2
  refine Q0 (σ' := ⟨[(2, _)], [(2, _)]⟩) (j1 rfl) (j1 rfl) ?_
  refine Q2 (Q1 ?_)
  refine O5 (oxa z35 u35 rfl Bld.nil) .nil .nil rfl <| O2 rfl rfl (ox5 t35 .tmp) (.cons rfl (.one rfl)) (.one rfl) <| O5 (ox1 .int) .nil .nil rfl <| O1 <| Q0 (σ' := ⟨[(2, _), (3, .val (2 : Int))], [(2, _)]⟩) (j2 rfl rfl) (j1 rfl) ?_
  refine Q5 ?_
  obtain rfl := Option.some.inj hφ
  exact Q6 hw0 rfl (.cell t35 rfl rfl (.tmp rfl rfl .nil)) rfl
 ·replace hφ := if_else hφ hc2
  refine Q0 (σ' := ⟨[(0, _), (2, _)], [(2, _)]⟩) (j2 rfl rfl) (j1 rfl) ?_
  refine Q4 ?_
  refine Q2 ?_
  obtain ⟨hb3, hφ⟩ := G_some hφ
  obtain ⟨hb4, hφ⟩ := G_some hφ
  obtain ⟨hb5, hφ⟩ := G_some hφ
  obtain ⟨hb6, hφ⟩ := G_some hφ
  obtain ⟨hb7, hφ⟩ := G_some hφ
  obtain ⟨hb8, hφ⟩ := G_some hφ
  obtain ⟨v9, hv9, hφ⟩ := B_some hφ
  refine Q8 hMixed (
    .cons (S5 (ox0 .tmp)) ⟨.one rfl, .nil⟩ (by kernel_rfl) rfl <|
    .cons (S5 (ox_ix s112 .tmp .int hb3.1 hb3.2)) ⟨(.app (.one rfl) .nil), .nil⟩ (by kernel_rfl) rfl <|
    .cons (S5 (ox_load_elem t5)) ⟨.one rfl, .nil⟩ (by kernel_rfl) rfl <|
    .cons (S5 (ox_u8_i64 (by kernel_rfl) .tmp)) ⟨.one rfl, .nil⟩ (by kernel_rfl) rfl <|
    .cons (S5 (ox0 .tmp)) ⟨.one rfl, .nil⟩ (by kernel_rfl) rfl <|
    .cons (S5 (ox_ix s112 .tmp .int hb4.1 hb4.2)) ⟨(.app (.one rfl) .nil), .nil⟩ (by kernel_rfl) rfl <|
    .cons (S5 (ox_load_elem t5)) ⟨.one rfl, .nil⟩ (by kernel_rfl) rfl <|
    .cons (S5 (ox_u8_i64 (by kernel_rfl) .tmp)) ⟨.one rfl, .nil⟩ (by kernel_rfl) rfl <|
    .cons (S5 (ox0 .tmp)) ⟨.one rfl, .nil⟩ (by kernel_rfl) rfl <|
    .cons (S5 (ox_ix s112 .tmp .int hb5.1 hb5.2)) ⟨(.app (.one rfl) .nil), .nil⟩ (by kernel_rfl) rfl <|
    .cons (S5 (ox_load_elem t5)) ⟨.one rfl, .nil⟩ (by kernel_rfl) rfl <|
    .cons (S5 (ox_u8_i64 (by kernel_rfl) .tmp)) ⟨.one rfl, .nil⟩ (by kernel_rfl) rfl <|
    .cons (S5 (ox0 .tmp)) ⟨.one rfl, .nil⟩ (by kernel_rfl) rfl <|
    .cons (S5 (ox_ix s112 .tmp .int hb6.1 hb6.2)) ⟨(.app (.one rfl) .nil), .nil⟩ (by kernel_rfl) rfl <|
    .cons (S5 (ox_load_elem t5)) ⟨.one rfl, .nil⟩ (by kernel_rfl) rfl <|
    .cons (S5 (ox_u8_i64 (by kernel_rfl) .tmp)) ⟨.one rfl, .nil⟩ (by kernel_rfl) rfl <|
    .cons (S5 (ox0 .tmp)) ⟨.one rfl, .nil⟩ (by kernel_rfl) rfl <|
    .cons (S5 (ox_ix s112 .tmp .int hb7.1 hb7.2)) ⟨(.app (.one rfl) .nil), .nil⟩ (by kernel_rfl) rfl <|
    .cons (S5 (ox_load_elem t5)) ⟨.one rfl, .nil⟩ (by kernel_rfl) rfl <|
    .cons (S5 (ox_u8_i64 (by kernel_rfl) .tmp)) ⟨.one rfl, .nil⟩ (by kernel_rfl) rfl <|
    .cons (S5 (ox0 .tmp)) ⟨.one rfl, .nil⟩ (by kernel_rfl) rfl <|
    .cons (S5 (ox_slice s112 .tmp (.some .int) .none hb8.1 hb8.2.1 hb8.2.2)) ⟨(.app (.one rfl) (.app .nil .nil)), .nil⟩ (by kernel_rfl) rfl <|
    .cons (S5 (ox_call (c_wire_get hv9) (.cons .tmp .nil))) ⟨(.app (.one rfl) .nil), .nil⟩ (by kernel_rfl) rfl <|
    .cons (S5 (oxa z33 u33 rfl (.cons Call_Kind f33_0 .tmp (.cons Call_Name f33_1 .tmp (.cons Call_Other f33_2 .tmp (.cons Call_N f33_3 .tmp Bld.nil)))))) ⟨(.app (.one rfl) (.app (.one rfl) (.app (.one rfl) (.app (.one rfl) .nil)))), .nil⟩ (by kernel_rfl) rfl <|
    .cons (S5 (oxa z35 u35 rfl (.cons Request_Client f35_0 .tmp (.cons Request_Token f35_1 .tmp (.cons Request_Call f35_2 .tmp Bld.nil))))) ⟨(.app (.one rfl) (.app (.one rfl) (.app (.one rfl) .nil))), .nil⟩ (by kernel_rfl) rfl <|
    .cons (S5 (ox_alloc (id := 4) z35)) ⟨.nil, .nil⟩ (by kernel_rfl) rfl <|
    .cons (S4 rfl rfl (ox5 t35 .tmp)) ⟨(.cons rfl (.one rfl)), .one rfl⟩ (by kernel_rfl) rfl <|
    .nil) _ [[], [0], [0, 1], [0, 1, 2], [], [4], [4, 5], [4, 5, 6], [], [8], [8, 9], [8, 9, 10], [], [12], [12, 13], [12, 13, 14], [], [16], [16, 17], [16, 17, 18], [], [20], [20, 21], [8, 9, 10, 11, 12, 13, 14, 15, 16, 17, 18, 19, 20, 21, 22], [0, 1, 2, 3, 4, 5, 6, 7, 8, 9, 10, 11, 12, 13, 14, 15, 16, 17, 18, 19, 20, 21, 22, 23], [], [0, 1, 2, 3, 4, 5, 6, 7, 8, 9, 10, 11, 12, 13, 14, 15, 16, 17, 18, 19, 20, 21, 22, 23, 24, 25]] rfl (by kernel_rfl) (by kernel_rfl) ?_
  refine Q0 (σ' := ⟨[(2, _), (4, _)], [(2, _), (4, .var (({ Client := (((ix a0 (1 : Int)).toNat : Nat) : Int), Token := (((ix a0 (2 : Int)).toNat : Nat) : Int), Call := ({ Kind := (((ix a0 (3 : Int)).toNat : Nat) : Int), Name := (((ix a0 (4 : Int)).toNat : Nat) : Int), Other := (((ix a0 (5 : Int)).toNat : Nat) : Int), N := v9 } : Mk.Call) } : Mk.Request)) [])]⟩) (j2 rfl rfl) (j2 rfl rfl) ?_
  refine Q2 (Q2 ?_)
  obtain ⟨v10, hv10, hφ⟩ := B_some hφ
  refine Q1 ?_
  refine O5 (ox4 t35) (.one rfl) (.one rfl) rfl <| O5 (ox_call (c_wire_WrongRequest hv10) (.cons .tmp .nil)) (.app (.one rfl) .nil) .nil rfl <| O5 (ox1 .tmp) (.one rfl) .nil rfl <| O1 <| Q0 (σ' := ⟨[(2, _), (4, _), (5, .val (v10))], [(2, _), (4, _)]⟩) (j3 rfl rfl rfl) (j2 rfl rfl) ?_
  refine Q2 (Q1 ?_)
  refine O5 (ox0 .tmp) (.one rfl) .nil rfl <| O5 (ox_neq .tmp .int) (.app (.one rfl) .nil) .nil rfl <| O1 <| Q0 (σ' := ⟨[(2, _), (4, _), (5, _), (44, .val (!decide (v10 = (0 : Int))))], [(2, _), (4, _)]⟩) (j4 rfl rfl rfl rfl) (j2 rfl rfl) ?_
  refine Q3 _ rfl (fun hc11 => ?_) (fun hc11 => ?_)
  ·replace hφ := if_then hφ hc11
   refine Q0 (σ' := ⟨[(2, _), (5, _)], [(2, _)]⟩) (j2 rfl rfl) (j1 rfl) ?_
   refine Q2 (Q1 ?_)
   refine O5 (oxa z35 u35 rfl Bld.nil) .nil .nil rfl <| O5 (ox0 .tmp) (.one rfl) .nil rfl <| O2 rfl rfl (ox5 t35 .tmp) (.cons rfl (.one rfl)) (.one rfl) <| O5 (ox1 .tmp) (.one rfl) .nil rfl <| O1 <| Q0 (σ' := ⟨[(2, _), (3, .val (v10))], [(2, _)]⟩) (j2 rfl rfl) (j1 rfl) ?_
   refine Q5 ?_
   obtain rfl := Option.some.inj hφ
   exact Q6 hw0 rfl (.cell t35 rfl rfl (.tmp rfl rfl .nil)) rfl
  ·replace hφ := if_else hφ hc11
   refine Q0 (σ' := ⟨[(2, _), (4, _)], [(2, _), (4, _)]⟩) (j2 rfl rfl) (j2 rfl rfl) ?_
   refine Q4 ?_
   refine Q2 (Q1 ?_)
   refine O5 (ox4 t35) (.one rfl) (.one rfl) rfl <| O2 rfl rfl (ox5 t35 .tmp) (.cons rfl (.one rfl)) (.one rfl) <| O5 (ox1 .int) .nil .nil rfl <| O1 <| Q0 (σ' := ⟨[(2, _), (3, .val (0 : Int))], [(2, .var (({ Client := (((ix a0 (1 : Int)).toNat : Nat) : Int), Token := (((ix a0 (2 : Int)).toNat : Nat) : Int), Call := ({ Kind := (((ix a0 (3 : Int)).toNat : Nat) : Int), Name := (((ix a0 (4 : Int)).toNat : Nat) : Int), Other := (((ix a0 (5 : Int)).toNat : Nat) : Int), N := v9 } : Mk.Call) } : Mk.Request)) [])]⟩) (j2 rfl rfl) (j1 rfl) ?_
   refine Q5 ?_
   obtain rfl := Option.some.inj hφ
   exact Q6 hw0 rfl (.cell t35 rfl rfl (.tmp rfl rfl .nil)) rfl
theorem c_wire_ReadAnswer {a0 : List UInt8} {r : (Mk.Answer × Int)} (hφ : wire_ReadAnswer a0 = some r) : Fn Go.Proofs.Tryz.prog 56 [.val a0] (.tup [.val r.1, .val r.2]) := by
 unfold wire_ReadAnswer at hφ
 refine Fn.mk' Go.Proofs.Tryz.func56 rfl (by decide) rfl rfl rfl (fun w0 hw0 => ?_)
 refine Q2 (Q1 ?_)
 refine O3 rfl rfl (ox_alloc (id := 2) z105) .nil .nil rfl (by kernel_rfl) <| O5 (ox1 .int) .nil .nil rfl <| O1 <| Q0 (σ' := ⟨[(0, .val (a0)), (2, _)], [(2, .var ({ Client := (0 : Int), Token := (0 : Int), Reply := zRe } : Mk.Answer) [])]⟩) (j2 rfl rfl) (j1 rfl) ?_
 refine Q2 (Q2 ?_)
 obtain ⟨hb1, hφ⟩ := G_some hφ
 refine Q1 ?_
 refine O5 (ox0 .tmp) (.one rfl) .nil rfl <| O5 (ox_len s112 .tmp) (.one rfl) .nil rfl <| O5 (ox_neq .tmp .int) (.app (.one rfl) .nil) .nil rfl <| O5 (ox0 .tmp) (.one rfl) .nil rfl <| O4 rfl rfl rfl rfl (.plain .nil) (fun hG => (ox0 .tmp)) (j1 rfl) .nil rfl <| O4 rfl rfl rfl rfl (.cond (fun h => h) .nil) (fun hG => (ox_ix s112 .tmp .int (hb1 hG).1 (hb1 hG).2)) (j1 rfl) .nil rfl ?_
 refine O4 rfl rfl rfl rfl (.cond (fun h => h) .nil) (fun hG => (ox_load_elem t5)) (j1 rfl) .nil rfl <| O4 rfl rfl rfl rfl (.cond (fun h => h) .nil) (fun hG => (ox_neqU8 .tmp (.u8 (n := 97)))) (j1 rfl) .nil rfl <| O5 ox9 (j2 rfl rfl) .nil rfl <| O1 <| Q0 (σ' := ⟨[(0, _), (2, _), (14, .val (((!decide ((a0.length : Int) = (8 : Int))) || (!decide ((ix a0 (0 : Int)) = (UInt8.ofNat 97))))))], [(2, _)]⟩) (j3 rfl rfl rfl) (j1 rfl) ?_
 refine Q3 _ rfl (fun hc2 => ?_) (fun hc2 => ?_)
 ·replace hφ := if_then hφ hc2
  refine Q0 (σ' := ⟨[(2, _)], [(2, _)]⟩) (j1 rfl) (j1 rfl) ?_
  refine Q2 (Q1 ?_)
  refine O5 (oxa z105 u105 rfl Bld.nil) .nil .nil rfl <| O2 rfl rfl (ox5 t105 .tmp) (.cons rfl (.one rfl)) (.one rfl) <| O5 (ox1 .int) .nil .nil rfl <| O1 <| Q0 (σ' := ⟨[(2, _), (3, .val (2 : Int))], [(2, _)]⟩) (j2 rfl rfl) (j1 rfl) ?_
  refine Q5 ?_
  obtain rfl := Option.some.inj hφ
  exact Q6 hw0 rfl (.cell t105 rfl rfl (.tmp rfl rfl .nil)) rfl
 ·replace hφ := if_else hφ hc2
  refine Q0 (σ' := ⟨[(0, _), (2, _)], [(2, _)]⟩) (j2 rfl rfl) (j1 rfl) ?_
  refine Q4 ?_
  refine Q2 ?_
  obtain ⟨hb3, hφ⟩ := G_some hφ
  obtain ⟨hb4, hφ⟩ := G_some hφ
  obtain ⟨hb5, hφ⟩ := G_some hφ
  obtain ⟨hb6, hφ⟩ := G_some hφ
  obtain ⟨v7, hv7, hφ⟩ := B_some hφ
  refine Q8 hMixed (
    .cons (S5 (ox0 .tmp)) ⟨.one rfl, .nil⟩ (by kernel_rfl) rfl <|
    .cons (S5 (ox_ix s112 .tmp .int hb3.1 hb3.2)) ⟨(.app (.one rfl) .nil), .nil⟩ (by kernel_rfl) rfl <|
    .cons (S5 (ox_load_elem t5)) ⟨.one rfl, .nil⟩ (by kernel_rfl) rfl <|
    .cons (S5 (ox_u8_i64 (by kernel_rfl) .tmp)) ⟨.one rfl, .nil⟩ (by kernel_rfl) rfl <|
    .cons (S5 (ox0 .tmp)) ⟨.one rfl, .nil⟩ (by kernel_rfl) rfl <|
    .cons (S5 (ox_ix s112 .tmp .int hb4.1 hb4.2)) ⟨(.app (.one rfl) .nil), .nil⟩ (by kernel_rfl) rfl <|
    .cons (S5 (ox_load_elem t5)) ⟨.one rfl, .nil⟩ (by kernel_rfl) rfl <|
    .cons (S5 (ox_u8_i64 (by kernel_rfl) .tmp)) ⟨.one rfl, .nil⟩ (by kernel_rfl) rfl <|
    .cons (S5 (ox0 .tmp)) ⟨.one rfl, .nil⟩ (by kernel_rfl) rfl <|
    .cons (S5 (ox_ix s112 .tmp .int hb5.1 hb5.2)) ⟨(.app (.one rfl) .nil), .nil⟩ (by kernel_rfl) rfl <|
    .cons (S5 (ox_load_elem t5)) ⟨.one rfl, .nil⟩ (by kernel_rfl) rfl <|
    .cons (S5 (ox_u8_i64 (by kernel_rfl) .tmp)) ⟨.one rfl, .nil⟩ (by kernel_rfl) rfl <|
    .cons (S5 (ox0 .tmp)) ⟨.one rfl, .nil⟩ (by kernel_rfl) rfl <|
    .cons (S5 (ox_slice s112 .tmp (.some .int) .none hb6.1 hb6.2.1 hb6.2.2)) ⟨(.app (.one rfl) (.app .nil .nil)), .nil⟩ (by kernel_rfl) rfl <|
    .cons (S5 (ox_call (c_wire_get hv7) (.cons .tmp .nil))) ⟨(.app (.one rfl) .nil), .nil⟩ (by kernel_rfl) rfl <|
    .cons (S5 (oxa z38 u38 rfl (.cons Reply_Err f38_0 .tmp (.cons Reply_N f38_1 .tmp Bld.nil)))) ⟨(.app (.one rfl) (.app (.one rfl) .nil)), .nil⟩ (by kernel_rfl) rfl <|
    .cons (S5 (oxa z105 u105 rfl (.cons Answer_Client f105_0 .tmp (.cons Answer_Token f105_1 .tmp (.cons Answer_Reply f105_2 .tmp Bld.nil))))) ⟨(.app (.one rfl) (.app (.one rfl) (.app (.one rfl) .nil))), .nil⟩ (by kernel_rfl) rfl <|
    .cons (S5 (ox_alloc (id := 4) z105)) ⟨.nil, .nil⟩ (by kernel_rfl) rfl <|
    .cons (S4 rfl rfl (ox5 t105 .tmp)) ⟨(.cons rfl (.one rfl)), .one rfl⟩ (by kernel_rfl) rfl <|
    .nil) _ [[], [0], [0, 1], [0, 1, 2], [], [4], [4, 5], [4, 5, 6], [], [8], [8, 9], [8, 9, 10], [], [12], [12, 13], [8, 9, 10, 11, 12, 13, 14], [0, 1, 2, 3, 4, 5, 6, 7, 8, 9, 10, 11, 12, 13, 14, 15], [], [0, 1, 2, 3, 4, 5, 6, 7, 8, 9, 10, 11, 12, 13, 14, 15, 16, 17]] rfl (by kernel_rfl) (by kernel_rfl) ?_
  refine Q0 (σ' := ⟨[(2, _), (4, _)], [(2, _), (4, .var (({ Client := (((ix a0 (1 : Int)).toNat : Nat) : Int), Token := (((ix a0 (2 : Int)).toNat : Nat) : Int), Reply := ({ Err := (((ix a0 (3 : Int)).toNat : Nat) : Int), N := v7 } : Mk.Reply) } : Mk.Answer)) [])]⟩) (j2 rfl rfl) (j2 rfl rfl) ?_
  refine Q2 (Q2 ?_)
  obtain ⟨v8, hv8, hφ⟩ := B_some hφ
  refine Q1 ?_
  refine O5 (ox4 t105) (.one rfl) (.one rfl) rfl <| O5 (ox_call (c_wire_WrongAnswer hv8) (.cons .tmp .nil)) (.app (.one rfl) .nil) .nil rfl <| O5 (ox1 .tmp) (.one rfl) .nil rfl <| O1 <| Q0 (σ' := ⟨[(2, _), (4, _), (5, .val (v8))], [(2, _), (4, _)]⟩) (j3 rfl rfl rfl) (j2 rfl rfl) ?_
  refine Q2 (Q1 ?_)
  refine O5 (ox0 .tmp) (.one rfl) .nil rfl <| O5 (ox_neq .tmp .int) (.app (.one rfl) .nil) .nil rfl <| O1 <| Q0 (σ' := ⟨[(2, _), (4, _), (5, _), (36, .val (!decide (v8 = (0 : Int))))], [(2, _), (4, _)]⟩) (j4 rfl rfl rfl rfl) (j2 rfl rfl) ?_
  refine Q3 _ rfl (fun hc9 => ?_) (fun hc9 => ?_)
  ·replace hφ := if_then hφ hc9
   refine Q0 (σ' := ⟨[(2, _), (5, _)], [(2, _)]⟩) (j2 rfl rfl) (j1 rfl) ?_
   refine Q2 (Q1 ?_)
   refine O5 (oxa z105 u105 rfl Bld.nil) .nil .nil rfl <| O5 (ox0 .tmp) (.one rfl) .nil rfl <| O2 rfl rfl (ox5 t105 .tmp) (.cons rfl (.one rfl)) (.one rfl) <| O5 (ox1 .tmp) (.one rfl) .nil rfl <| O1 <| Q0 (σ' := ⟨[(2, _), (3, .val (v8))], [(2, _)]⟩) (j2 rfl rfl) (j1 rfl) ?_
   refine Q5 ?_
   obtain rfl := Option.some.inj hφ
   exact Q6 hw0 rfl (.cell t105 rfl rfl (.tmp rfl rfl .nil)) rfl
  ·replace hφ := if_else hφ hc9
   refine Q0 (σ' := ⟨[(2, _), (4, _)], [(2, _), (4, _)]⟩) (j2 rfl rfl) (j2 rfl rfl) ?_
   refine Q4 ?_
   refine Q2 (Q1 ?_)
   refine O5 (ox4 t105) (.one rfl) (.one rfl) rfl <| O2 rfl rfl (ox5 t105 .tmp) (.cons rfl (.one rfl)) (.one rfl) <| O5 (ox1 .int) .nil .nil rfl <| O1 <| Q0 (σ' := ⟨[(2, _), (3, .val (0 : Int))], [(2, .var (({ Client := (((ix a0 (1 : Int)).toNat : Nat) : Int), Token := (((ix a0 (2 : Int)).toNat : Nat) : Int), Reply := ({ Err := (((ix a0 (3 : Int)).toNat : Nat) : Int), N := v7 } : Mk.Reply) } : Mk.Answer)) [])]⟩) (j2 rfl rfl) (j1 rfl) ?_
   refine Q5 ?_
   obtain rfl := Option.some.inj hφ
   exact Q6 hw0 rfl (.cell t105 rfl rfl (.tmp rfl rfl .nil)) rfl
end Go.Gx
end
section
namespace Go.Gx
open Sp
theorem c_cell_New  {r : (List Int)} (hφ : cell_New  = some r) : Fn Go.Proofs.Tryz.prog 52 [] (.val r) := by
 unfold cell_New at hφ
 refine Fn.mk' Go.Proofs.Tryz.func52 rfl (by decide) rfl rfl rfl (fun w0 hw0 => ?_)
 refine Q2 (Q1 ?_)
 refine O5 (ox1 .nilS) .nil .nil rfl <| O1 <| Q0 (σ' := ⟨[], []⟩) trivial trivial ?_
 refine Q2 ?_
 obtain ⟨hb1, hφ⟩ := G_some hφ
 refine Q1 ?_
 refine O5 (ox_makeIntsV s25 (by kernel_rfl) (by kernel_rfl) .int .int hb1) (.app .nil .nil) .nil rfl <| O5 (ox1 .tmp) (.one rfl) .nil rfl <| O1 <| Q0 (σ' := ⟨[(0, .val (List.replicate (Int.toNat (11 : Int)) (0 : Int)))], []⟩) (j1 rfl) trivial ?_
 refine Q5 ?_
 obtain rfl := Option.some.inj hφ
 exact Q6 hw0 rfl (.tmp rfl rfl .nil) rfl
theorem c_slices_Clone___int_int_ {a0 : List Int} {r : (List Int)} (hφ : slices_Clone___int_int_ a0 = some r) : Fn Go.Proofs.Tryz.prog 41 [.val a0] (.val r) := by
 unfold slices_Clone___int_int_ at hφ
 refine Fn.mk' Go.Proofs.Tryz.func41 rfl (by decide) rfl rfl rfl (fun w0 hw0 => ?_)
 refine Q2 (Q1 ?_)
 refine O5 (ox1 .nilS) .nil .nil rfl <| O1 <| Q0 (σ' := ⟨[(0, .val (a0))], []⟩) (j1 rfl) trivial ?_
 refine Q2 ?_
 refine Q2 (Q1 ?_)
 refine O5 (ox0 .tmp) (.one rfl) .nil rfl <| O5 (ox_isNil (by kernel_rfl) .tmp .nilS) (.app (.one rfl) .nil) .nil rfl <| O1 <| Q0 (σ' := ⟨[(0, _), (4, _)], []⟩) (j2 rfl rfl) trivial ?_
 refine PT.condB _ rfl (fun hc1 => ?_) (fun _ => ?_)
 ·have hc1e := hc1 rfl
  refine Q0 (σ' := ⟨[], []⟩) trivial trivial ?_
  refine Q2 (Q1 ?_)
  refine O5 (ox1 .nilS) .nil .nil rfl <| O1 <| Q0 (σ' := ⟨[(2, .nilS)], []⟩) (j1 rfl) trivial ?_
  refine Q5 ?_
  refine PT.asNil 2 (Int) rfl ?_
  rw [hc1e] at hφ
  obtain ⟨_, hφ⟩ := G_some hφ
  obtain rfl := Option.some.inj hφ
  exact Q6 hw0 rfl (.tmp rfl rfl .nil) rfl
 ·skip
  refine Q0 (σ' := ⟨[(0, _)], []⟩) (j1 rfl) trivial ?_
  refine Q4 ?_
  refine Q2 ?_
  obtain ⟨hb2, hφ⟩ := G_some hφ
  refine Q1 ?_
  refine O3 rfl rfl (ox_buildSlice_arr (id := 5) s25 z3 Parts.nil rfl (by decide)) .nil .nil rfl (by kernel_rfl) <| O5 (ox0 .tmp) (.one rfl) .nil rfl ?_
  refine Ops.putK [5] rfl rfl (ox_append a25 .tmp .tmp hb2.1 hb2.2) (.app (.one rfl) (.one rfl)) (.one rfl) rfl (by kernel_rfl) ?_
  refine O5 (ox1 .tmp) (.one rfl) .nil rfl <| O1 <| Q0 (σ' := ⟨[(2, _)], [(5, .arr 3 (([] : List Int) ++ a0))]⟩) (j1 rfl) (j1 rfl) ?_
  refine Q5 ?_
  refine PT.freeze 5 [2] rfl (j1 rfl) ?_
  obtain rfl := Option.some.inj hφ
  exact Q6 hw0 rfl (.tmp rfl rfl .nil) rfl
theorem x_slices_Clone___int_int_ {a0 : List Int} {r : (List Int)} (hφ : slices_Clone___int_int_ a0 = some r) : FnX Go.Proofs.Tryz.prog 41 [.val a0] [] (.sl 5) [(5, .arr 3 r)] [] := by
 unfold slices_Clone___int_int_ at hφ
 refine FnX.mk' Go.Proofs.Tryz.func41 rfl (by decide) rfl (fun w0 m0 => ?_)
 refine Q2 (Q1 ?_)
 refine O5 (ox1 .nilS) .nil .nil rfl <| O1 <| Q0 (σ' := ⟨[(0, .val (a0))], []⟩) (j1 rfl) trivial ?_
 refine Q2 ?_
 refine Q2 (Q1 ?_)
 refine O5 (ox0 .tmp) (.one rfl) .nil rfl <| O5 (ox_isNil (by kernel_rfl) .tmp .nilS) (.app (.one rfl) .nil) .nil rfl <| O1 <| Q0 (σ' := ⟨[(0, _), (4, _)], []⟩) (j2 rfl rfl) trivial ?_
 refine PT.condB _ rfl (fun hc1 => ?_) (fun _ => ?_)
 ·have hc1e := hc1 rfl
  refine Q0 (σ' := ⟨[], []⟩) trivial trivial ?_
  refine Q2 (Q1 ?_)
  refine O5 (ox1 .nilS) .nil .nil rfl <| O1 <| Q0 (σ' := ⟨[(2, .nilS)], []⟩) (j1 rfl) trivial ?_
  refine Q5 ?_
  refine PT.nilArr 5 2 3 (Int) rfl (by kernel_rfl) ?_
  rw [hc1e] at hφ
  obtain ⟨_, hφ⟩ := G_some hφ
  obtain rfl := Option.some.inj hφ
  exact Q7 rfl (.tmp rfl .nil) rfl (j1 rfl) trivial
 ·skip
  refine Q0 (σ' := ⟨[(0, _)], []⟩) (j1 rfl) trivial ?_
  refine Q4 ?_
  refine Q2 ?_
  obtain ⟨hb2, hφ⟩ := G_some hφ
  refine Q1 ?_
  refine O3 rfl rfl (ox_buildSlice_arr (id := 5) s25 z3 Parts.nil rfl (by decide)) .nil .nil rfl (by kernel_rfl) <| O5 (ox0 .tmp) (.one rfl) .nil rfl ?_
  refine Ops.putK [5] rfl rfl (ox_append a25 .tmp .tmp hb2.1 hb2.2) (.app (.one rfl) (.one rfl)) (.one rfl) rfl (by kernel_rfl) ?_
  refine O5 (ox1 .tmp) (.one rfl) .nil rfl <| O1 <| Q0 (σ' := ⟨[(2, _)], [(5, .arr 3 (([] : List Int) ++ a0))]⟩) (j1 rfl) (j1 rfl) ?_
  refine Q5 ?_
  obtain rfl := Option.some.inj hφ
  exact Q7 rfl (.tmp rfl .nil) rfl (j1 rfl) trivial
theorem c_slices_Clone___api_Write_api_Write_ {a0 : List Mk.Write} {r : (List Mk.Write)} (hφ : slices_Clone___api_Write_api_Write_ a0 = some r) : Fn Go.Proofs.Tryz.prog 42 [.val a0] (.val r) := by
 unfold slices_Clone___api_Write_api_Write_ at hφ
 refine Fn.mk' Go.Proofs.Tryz.func42 rfl (by decide) rfl rfl rfl (fun w0 hw0 => ?_)
 refine Q2 (Q1 ?_)
 refine O5 (ox1 .nilS) .nil .nil rfl <| O1 <| Q0 (σ' := ⟨[(0, .val (a0))], []⟩) (j1 rfl) trivial ?_
 refine Q2 ?_
 refine Q2 (Q1 ?_)
 refine O5 (ox0 .tmp) (.one rfl) .nil rfl <| O5 (ox_isNil (by kernel_rfl) .tmp .nilS) (.app (.one rfl) .nil) .nil rfl <| O1 <| Q0 (σ' := ⟨[(0, _), (4, _)], []⟩) (j2 rfl rfl) trivial ?_
 refine PT.condB _ rfl (fun hc1 => ?_) (fun _ => ?_)
 ·have hc1e := hc1 rfl
  refine Q0 (σ' := ⟨[], []⟩) trivial trivial ?_
  refine Q2 (Q1 ?_)
  refine O5 (ox1 .nilS) .nil .nil rfl <| O1 <| Q0 (σ' := ⟨[(2, .nilS)], []⟩) (j1 rfl) trivial ?_
  refine Q5 ?_
  refine PT.asNil 2 (Mk.Write) rfl ?_
  rw [hc1e] at hφ
  obtain ⟨_, hφ⟩ := G_some hφ
  obtain rfl := Option.some.inj hφ
  exact Q6 hw0 rfl (.tmp rfl rfl .nil) rfl
 ·skip
  refine Q0 (σ' := ⟨[(0, _)], []⟩) (j1 rfl) trivial ?_
  refine Q4 ?_
  refine Q2 ?_
  obtain ⟨hb2, hφ⟩ := G_some hφ
  refine Q1 ?_
  refine O3 rfl rfl (ox_buildSlice_arr (id := 5) s26 z52 Parts.nil rfl (by decide)) .nil .nil rfl (by kernel_rfl) <| O5 (ox0 .tmp) (.one rfl) .nil rfl ?_
  refine Ops.putK [5] rfl rfl (ox_append a26 .tmp .tmp hb2.1 hb2.2) (.app (.one rfl) (.one rfl)) (.one rfl) rfl (by kernel_rfl) ?_
  refine O5 (ox1 .tmp) (.one rfl) .nil rfl <| O1 <| Q0 (σ' := ⟨[(2, _)], [(5, .arr 52 (([] : List Mk.Write) ++ a0))]⟩) (j1 rfl) (j1 rfl) ?_
  refine Q5 ?_
  refine PT.freeze 5 [2] rfl (j1 rfl) ?_
  obtain rfl := Option.some.inj hφ
  exact Q6 hw0 rfl (.tmp rfl rfl .nil) rfl
theorem c_cell_Set {a0 : List Int} {a1 : List Mk.Write} {r : (List Int)} (hφ : cell_Set a0 a1 = some r) : Fn Go.Proofs.Tryz.prog 25 [.val a0, .val a1] (.val r) := by
 unfold cell_Set at hφ
 refine Fn.mk' Go.Proofs.Tryz.func25 rfl (by decide) rfl rfl rfl (fun w0 hw0 => ?_)
 refine Q2 (Q1 ?_)
 refine O5 (ox1 .nilS) .nil .nil rfl <| O1 <| Q0 (σ' := ⟨[(0, .val (a0)), (1, .val (a1))], []⟩) (j2 rfl rfl) trivial ?_
 refine Q2 ?_
 obtain ⟨v1, hv1, hφ⟩ := B_some hφ
 refine Q1 ?_
 refine O5 (ox0 .tmp) (.one rfl) .nil rfl <| O3 rfl rfl (ox_callX (x_slices_Clone___int_int_ hv1) [] [(5, 9)] [(5, 9)] [] (.cons .tmp .nil) rfl rfl rfl rfl rfl rfl rfl rfl trivial rfl rfl rfl rfl) (.app (.one rfl) .nil) .nil rfl (by kernel_rfl) <| O5 (ox1 .tmp) (.one rfl) .nil rfl <| O1 <| Q0 (σ' := ⟨[(1, _), (5, _)], [(9, .arr 3 (v1))]⟩) (j2 rfl rfl) (j1 rfl) ?_
 obtain ⟨k2, hk2, hφ⟩ := J_some hφ
 refine PT.cut (ι := (List Int)) (fun p => ⟨[(5, .sl 9)], [(9, .arr 3 (p))]⟩) (fun p => k2 (p) = some r) ?_ ?_
 ·skip
  refine Q2 (Q1 ?_)
  refine O5 (ox0 .tmp) (.one rfl) .nil rfl <| O5 (ox_len s26 .tmp) (.one rfl) .nil rfl <| O5 (ox0 .int) .nil .nil rfl <| O1 <| Q0 (σ' := ⟨[(5, _), (10, .val (a1)), (11, .val (a1.length : Int)), (12, .val (0 : Int))], [(9, _)]⟩) (j4 rfl rfl rfl rfl) (j1 rfl) ?_
  refine PT.block ?_
  refine PT.loop (ι := Nat × (List Mk.Write) × Int × Int × (List Int)) (fun p => ⟨[(5, .sl 9), (10, .val (p.2.1)), (11, .val (p.2.2.1)), (12, .val (p.2.2.2.1))], [(9, .arr 3 (p.2.2.2.2))]⟩) (fun p => cell_Set_l1 k2 p.1 (p.2.1) (p.2.2.1) (p.2.2.2.1) (p.2.2.2.2) = some r) (fun p => p.1) (((a1.length : Int) - (0 : Int)).toNat + 1, a1, (a1.length : Int), (0 : Int), v1) hφ (j4 rfl rfl rfl rfl) (j1 rfl) ?_
  rintro ⟨m3, x10_m3, x11_m3, x12_m3, y9_m3⟩ (hφ : cell_Set_l1 k2 m3 x10_m3 x11_m3 x12_m3 y9_m3 = some r)
  obtain _ | m3 := m3
  ·exact (none_no hφ).elim
  rw [cell_Set_l1.eq_2] at hφ
  refine Q0 (σ' := ⟨[(5, .sl 9), (10, .val (x10_m3)), (11, .val (x11_m3)), (12, .val (x12_m3))], [(9, .arr 3 (y9_m3))]⟩) (j4 rfl rfl rfl rfl) (j1 rfl) ?_
  refine Q2 (Q1 ?_)
  refine O5 (ox_lss .tmp .tmp) (.app (.one rfl) (.one rfl)) .nil rfl <| O1 <| Q0 (σ' := ⟨[(5, _), (10, _), (11, _), (12, _), (13, .val (decide (x12_m3 < x11_m3)))], [(9, _)]⟩) (j5 rfl rfl rfl rfl rfl) (j1 rfl) ?_
  refine Q2 ?_
  refine Q3 _ rfl (fun hc4 => ?_) (fun hc4 => ?_)
  ·replace hφ := if_then hφ hc4
   refine Q0 (σ' := ⟨[(5, _), (10, _), (11, _), (12, _)], [(9, _)]⟩) (j4 rfl rfl rfl rfl) (j1 rfl) ?_
   refine Q4 ?_
   obtain ⟨k5, hk5, hφ⟩ := J_some hφ
   refine PT.cut (ι := (List Mk.Write) × Int × Int × (List Int)) (fun p => ⟨[(5, .sl 9), (10, .val (p.1)), (11, .val (p.2.1)), (12, .val (p.2.2.1))], [(9, .arr 3 (p.2.2.2))]⟩) (fun p => k5 (p.1) (p.2.1) (p.2.2.1) (p.2.2.2) = some r) ?_ ?_
   ·skip
    refine PT.block ?_
    refine Q2 ?_
    obtain ⟨hb6, hφ⟩ := G_some hφ
    refine Q1 ?_
    refine O5 (ox_ix s26 .tmp .tmp hb6.1 hb6.2) (.app (.one rfl) (.one rfl)) .nil rfl <| O5 (ox_load_elem t52) (.one rfl) .nil rfl <| O3 rfl rfl (ox_alloc (id := 7) z52) .nil .nil rfl (by kernel_rfl) <| O2 rfl rfl (ox5 t52 .tmp) (.cons rfl (.one rfl)) (.one rfl) <| O1 <| Q0 (σ' := ⟨[(5, _), (7, _), (10, _), (11, _), (12, _)], [(7, .var (ix x10_m3 x12_m3) []), (9, _)]⟩) (j5 rfl rfl rfl rfl rfl) (j2 rfl rfl) ?_
    refine Q2 (Q1 ?_)
    refine O5 (ox3 Write_At f52_0) (.one rfl) .nil rfl <| O5 (ox2 t3) (.one rfl) (.one rfl) rfl <| O5 (ox_geq .tmp .int) (.app (.one rfl) .nil) .nil rfl <| O5 (ox0 .tmp) (.one rfl) .nil rfl <| O4 rfl rfl rfl rfl (.plain .nil) (fun hG => (ox3 Write_At f52_0)) (j1 rfl) .nil rfl <| O4 rfl rfl rfl rfl (.cond (fun h => h) .nil) (fun hG => (ox2 t3)) (j1 rfl) (.one rfl) rfl ?_
    refine O4 rfl rfl rfl rfl (.plain .nil) (fun hG => (ox0 .tmp)) (j1 rfl) .nil rfl <| O4 rfl rfl rfl rfl (.cond (fun h => h) .nil) (fun hG => (ox_len_arr s25 .tmp)) (j1 rfl) (.one rfl) rfl <| O4 rfl rfl rfl rfl (.cond (fun h => h) (.cond (fun h => h) .nil)) (fun hG => (ox_lss .tmp .tmp)) (j2 rfl rfl) .nil rfl <| O5 ox8 (j2 rfl rfl) .nil rfl <| O1 <| Q0 (σ' := ⟨[(5, _), (7, _), (10, _), (11, _), (12, _), (25, .val ((decide ((0 : Int) ≤ (ix x10_m3 x12_m3).At)) && (decide ((ix x10_m3 x12_m3).At < (y9_m3.length : Int)))))], [(7, _), (9, _)]⟩) (j6 rfl rfl rfl rfl rfl rfl) (j2 rfl rfl) ?_
    refine Q3 _ rfl (fun hc7 => ?_) (fun hc7 => ?_)
    ·replace hφ := if_then hφ hc7
     refine Q0 (σ' := ⟨[(5, _), (7, _), (10, _), (11, _), (12, _)], [(7, _), (9, _)]⟩) (j5 rfl rfl rfl rfl rfl) (j2 rfl rfl) ?_
     obtain ⟨hb8, hφ⟩ := G_some hφ
     refine Q1 ?_
     refine O5 (ox0 .tmp) (.one rfl) .nil rfl <| O5 (ox3 Write_At f52_0) (.one rfl) .nil rfl <| O5 (ox2 t3) (.one rfl) (.one rfl) rfl <| O5 (ox3 Write_N f52_1) (.one rfl) .nil rfl <| O5 (ox2 t3) (.one rfl) (.one rfl) rfl <| O5 (ox_index_arr s25 .tmp .tmp hb8.1 hb8.2) (.app (.one rfl) (.one rfl)) (.one rfl) rfl ?_
     refine O2 rfl rfl (ox_store_ax t3 .tmp hb8) (.cons rfl (.one rfl)) (.one rfl) <| O1 <| Q0 (σ' := ⟨[(5, _), (10, _), (11, _), (12, _)], [(9, .arr 3 (up y9_m3 (ix x10_m3 x12_m3).At (ix x10_m3 x12_m3).N))]⟩) (j4 rfl rfl rfl rfl) (j1 rfl) ?_
     exact PT.meet (x10_m3, x11_m3, x12_m3, (up y9_m3 (ix x10_m3 x12_m3).At (ix x10_m3 x12_m3).N)) hφ (j4 rfl rfl rfl rfl) (j1 rfl)
    ·replace hφ := if_else hφ hc7
     refine Q0 (σ' := ⟨[(5, _), (10, _), (11, _), (12, _)], [(9, _)]⟩) (j4 rfl rfl rfl rfl) (j1 rfl) ?_
     refine Q4 ?_
     exact PT.meet (x10_m3, x11_m3, x12_m3, y9_m3) hφ (j4 rfl rfl rfl rfl) (j1 rfl)
   ·rintro ⟨x10_k5, x11_k5, x12_k5, y9_k5⟩ hφ
    subst hk5
    refine Q0 (σ' := ⟨[(5, _), (10, .val (x10_k5)), (11, .val (x11_k5)), (12, .val (x12_k5))], [(9, .arr 3 (y9_k5))]⟩) (j4 rfl rfl rfl rfl) (j1 rfl) ?_
    obtain ⟨hb9, hφ⟩ := G_some hφ
    refine Q1 ?_
    refine O5 (ox_add .tmp .int hb9) (.app (.one rfl) .nil) .nil rfl <| O5 (ox0 .tmp) (.one rfl) .nil rfl <| O1 <| Q0 (σ' := ⟨[(5, _), (10, _), (11, _), (12, .val (x12_k5 + (1 : Int)))], [(9, _)]⟩) (j4 rfl rfl rfl rfl) (j1 rfl) ?_
    exact PT.next (m3, x10_k5, x11_k5, (x12_k5 + (1 : Int)), y9_k5) hφ (Nat.lt_succ_self _) (j4 rfl rfl rfl rfl) (j1 rfl)
  ·replace hφ := if_else hφ hc4
   refine Q0 (σ' := ⟨[(5, _)], [(9, _)]⟩) (j1 rfl) (j1 rfl) ?_
   refine PT.exit ?_
   exact PT.meet (y9_m3) hφ (j1 rfl) (j1 rfl)
 ·rintro y9_k2 hφ
  subst hk2
  refine Q0 (σ' := ⟨[(5, .sl 9)], [(9, .arr 3 (y9_k2))]⟩) (j1 rfl) (j1 rfl) ?_
  refine Q2 (Q1 ?_)
  refine O5 (ox0 .tmp) (.one rfl) .nil rfl <| O5 (ox1 .tmp) (.one rfl) .nil rfl <| O1 <| Q0 (σ' := ⟨[(4, _)], [(9, _)]⟩) (j1 rfl) (j1 rfl) ?_
  refine Q5 ?_
  refine PT.freeze 9 [4] rfl (j1 rfl) ?_
  obtain rfl := Option.some.inj hφ
  exact Q6 hw0 rfl (.tmp rfl rfl .nil) rfl
theorem x_slices_Reverse___api_Write_api_Write_ {a0 : List Mk.Write} {r : (List Mk.Write)} (hφ : slices_Reverse___api_Write_api_Write_ a0 = some r) : FnX Go.Proofs.Tryz.prog 114 [.sl 600] [(600, .arr 52 (a0))] (.tup []) [(600, .arr 52 r)] [600] := by
 unfold slices_Reverse___api_Write_api_Write_ at hφ
 refine FnX.mk' Go.Proofs.Tryz.func114 rfl (by decide) rfl (fun w0 m0 => ?_)
 refine Q2 ?_
 obtain ⟨hb1, hφ⟩ := G_some hφ
 refine Q1 ?_
 refine O5 (ox0 .tmp) (.one rfl) .nil rfl <| O5 (ox_len_arr s26 .tmp) (.one rfl) (.one rfl) rfl <| O5 (ox_sub .tmp .int hb1) (.app (.one rfl) .nil) .nil rfl <| O5 (ox1 .int) .nil .nil rfl <| O5 (ox1 .tmp) (.one rfl) .nil rfl <| O1 <| Q0 (σ' := ⟨[(0, _), (2, .val (0 : Int)), (3, .val ((a0.length : Int) - (1 : Int)))], [(600, .arr 52 (a0)), (1500, .pin 600 (m0.blk 600) (m0.sv 600))]⟩) (j3 rfl rfl rfl) (j2 rfl rfl) ?_
 refine PT.block ?_
 refine PT.loop (ι := Nat × Int × Int × (List Mk.Write)) (fun p => ⟨[(0, .sl 600), (2, .val (p.2.1)), (3, .val (p.2.2.1))], [(600, .arr 52 (p.2.2.2)), (1500, .pin 600 (m0.blk 600) (m0.sv 600))]⟩) (fun p => slices_Reverse___api_Write_api_Write__l1  p.1 (p.2.1) (p.2.2.1) (p.2.2.2) = some r) (fun p => p.1) ((((a0.length : Int) - (1 : Int)) - (0 : Int)).toNat + 1, (0 : Int), ((a0.length : Int) - (1 : Int)), a0) hφ (j3 rfl rfl rfl) (j2 rfl rfl) ?_
 rintro ⟨m2, x2_m2, x3_m2, y600_m2⟩ (hφ : slices_Reverse___api_Write_api_Write__l1  m2 x2_m2 x3_m2 y600_m2 = some r)
 obtain _ | m2 := m2
 ·exact (none_no hφ).elim
 rw [slices_Reverse___api_Write_api_Write__l1.eq_2] at hφ
 refine Q0 (σ' := ⟨[(0, .sl 600), (2, .val (x2_m2)), (3, .val (x3_m2))], [(600, .arr 52 (y600_m2)), (1500, _)]⟩) (j3 rfl rfl rfl) (j2 rfl rfl) ?_
 refine Q2 ?_
 refine Q2 (Q1 ?_)
 refine O5 (ox0 .tmp) (.one rfl) .nil rfl <| O5 (ox0 .tmp) (.one rfl) .nil rfl <| O5 (ox_lss .tmp .tmp) (.app (.one rfl) (.one rfl)) .nil rfl <| O1 <| Q0 (σ' := ⟨[(0, _), (2, _), (3, _), (9, .val (decide (x2_m2 < x3_m2)))], [(600, _), (1500, _)]⟩) (j4 rfl rfl rfl rfl) (j2 rfl rfl) ?_
 refine Q3 _ rfl (fun hc3 => ?_) (fun hc3 => ?_)
 ·replace hφ := if_then hφ hc3
  refine Q0 (σ' := ⟨[(0, _), (2, _), (3, _)], [(600, _), (1500, _)]⟩) (j3 rfl rfl rfl) (j2 rfl rfl) ?_
  refine Q4 ?_
  refine Q2 ?_
  refine PT.block ?_
  obtain ⟨hb4, hφ⟩ := G_some hφ
  obtain ⟨hb5, hφ⟩ := G_some hφ
  obtain ⟨hb6, hφ⟩ := G_some hφ
  obtain ⟨hb7, hφ⟩ := G_some hφ
  refine Q8 hMixed (
    .cons (S5 (ox0 .tmp)) ⟨.one rfl, .nil⟩ (by kernel_rfl) rfl <|
    .cons (S5 (ox0 .tmp)) ⟨.one rfl, .nil⟩ (by kernel_rfl) rfl <|
    .cons (S5 (ox0 .tmp)) ⟨.one rfl, .nil⟩ (by kernel_rfl) rfl <|
    .cons (S5 (ox0 .tmp)) ⟨.one rfl, .nil⟩ (by kernel_rfl) rfl <|
    .cons (S5 (ox0 .tmp)) ⟨.one rfl, .nil⟩ (by kernel_rfl) rfl <|
    .cons (S5 (ox0 .tmp)) ⟨.one rfl, .nil⟩ (by kernel_rfl) rfl <|
    .cons (S5 (ox_index_arr s26 .tmp .tmp hb4.1 hb4.2)) ⟨(.app (.one rfl) (.one rfl)), .one rfl⟩ (by kernel_rfl) rfl <|
    .cons (S5 (ox_load_ax t52 hb4)) ⟨.one rfl, .one rfl⟩ (by kernel_rfl) rfl <|
    .cons (S5 (ox0 .tmp)) ⟨.one rfl, .nil⟩ (by kernel_rfl) rfl <|
    .cons (S5 (ox0 .tmp)) ⟨.one rfl, .nil⟩ (by kernel_rfl) rfl <|
    .cons (S5 (ox_index_arr s26 .tmp .tmp hb5.1 hb5.2)) ⟨(.app (.one rfl) (.one rfl)), .one rfl⟩ (by kernel_rfl) rfl <|
    .cons (S5 (ox_load_ax t52 hb5)) ⟨.one rfl, .one rfl⟩ (by kernel_rfl) rfl <|
    .cons (S5 (ox_index_arr s26 .tmp .tmp hb6.1 hb6.2)) ⟨(.app (.one rfl) (.one rfl)), .one rfl⟩ (by kernel_rfl) rfl <|
    .cons (S4 rfl rfl (ox_store_ax t52 .tmp hb6)) ⟨(.cons rfl (.one rfl)), .one rfl⟩ (by kernel_rfl) rfl <|
    .cons (S5 (ox_index_arr s26 .tmp .tmp hb7.1 hb7.2)) ⟨(.app (.one rfl) (.one rfl)), .one rfl⟩ (by kernel_rfl) rfl <|
    .cons (S4 rfl rfl (ox_store_ax t52 .tmp hb7)) ⟨(.cons rfl (.one rfl)), .one rfl⟩ (by kernel_rfl) rfl <|
    .nil) _ [[], [], [], [], [], [], [4, 5], [4, 5, 6], [], [], [8, 9], [8, 9, 10], [0, 1, 4, 5, 6, 7, 8, 9, 10, 11], [0, 1, 4, 5, 6, 7, 8, 9, 10, 11, 12], [0, 1, 2, 3, 4, 5, 6, 7, 8, 9, 10, 11, 12, 13], [0, 1, 2, 3, 4, 5, 6, 7, 8, 9, 10, 11, 12, 13, 14]] rfl (by kernel_rfl) (by kernel_rfl) ?_
  refine Q0 (σ' := ⟨[(0, _), (2, _), (3, _)], [(600, .arr 52 (up (up y600_m2 x2_m2 (ix y600_m2 x3_m2)) x3_m2 (ix y600_m2 x2_m2))), (1500, _)]⟩) (j3 rfl rfl rfl) (j2 rfl rfl) ?_
  obtain ⟨hb8, hφ⟩ := G_some hφ
  obtain ⟨hb9, hφ⟩ := G_some hφ
  refine Q1 ?_
  refine O5 (ox0 .tmp) (.one rfl) .nil rfl <| O5 (ox_add .tmp .int hb8) (.app (.one rfl) .nil) .nil rfl <| O5 (ox0 .tmp) (.one rfl) .nil rfl <| O5 (ox_sub .tmp .int hb9) (.app (.one rfl) .nil) .nil rfl <| O5 (ox1 .tmp) (.one rfl) .nil rfl <| O5 (ox1 .tmp) (.one rfl) .nil rfl <| O1 <| Q0 (σ' := ⟨[(0, _), (2, .val (x2_m2 + (1 : Int))), (3, .val (x3_m2 - (1 : Int)))], [(600, _), (1500, _)]⟩) (j3 rfl rfl rfl) (j2 rfl rfl) ?_
  exact PT.next (m2, (x2_m2 + (1 : Int)), (x3_m2 - (1 : Int)), (up (up y600_m2 x2_m2 (ix y600_m2 x3_m2)) x3_m2 (ix y600_m2 x2_m2))) hφ (Nat.lt_succ_self _) (j3 rfl rfl rfl) (j2 rfl rfl)
 ·replace hφ := if_else hφ hc3
  refine Q0 (σ' := ⟨[], [(600, _), (1500, _)]⟩) trivial (j2 rfl rfl) ?_
  refine PT.exit ?_
  obtain rfl := Option.some.inj hφ
  exact Q7 rfl .nil rfl (j1 rfl) (j1 rfl)
theorem x_cell_Undo {a0 : List Int} {a1 : List Mk.Write} {r : (List Mk.Write)} (hφ : cell_Undo a0 a1 = some r) : FnX Go.Proofs.Tryz.prog 101 [.val a0, .val a1] [] (.sl 1006) [(1006, .arr 52 r)] [] := by
 unfold cell_Undo at hφ
 refine FnX.mk' Go.Proofs.Tryz.func101 rfl (by decide) rfl (fun w0 m0 => ?_)
 refine Q2 (Q1 ?_)
 refine O5 (ox1 .nilS) .nil .nil rfl <| O1 <| Q0 (σ' := ⟨[(0, .val (a0)), (1, .val (a1))], []⟩) (j2 rfl rfl) trivial ?_
 refine Q2 ?_
 obtain ⟨v1, hv1, hφ⟩ := B_some hφ
 refine Q1 ?_
 refine O5 (ox0 .tmp) (.one rfl) .nil rfl <| O3 rfl rfl (ox_callX (x_slices_Clone___int_int_ hv1) [] [(5, 10)] [(5, 10)] [] (.cons .tmp .nil) rfl rfl rfl rfl rfl rfl rfl rfl trivial rfl rfl rfl rfl) (.app (.one rfl) .nil) .nil rfl (by kernel_rfl) <| O5 (ox1 .tmp) (.one rfl) .nil rfl <| O1 <| Q0 (σ' := ⟨[(1, _), (5, _)], [(10, .arr 3 (v1))]⟩) (j2 rfl rfl) (j1 rfl) ?_
 refine Q2 (Q1 ?_)
 refine O5 (ox1 .nilS) .nil .nil rfl <| O1 <| Q0 (σ' := ⟨[(1, _), (5, _), (6, .nilS)], [(10, _)]⟩) (j3 rfl rfl rfl) (j1 rfl) ?_
 obtain ⟨k2, hk2, hφ⟩ := J_some hφ
 refine PT.cut (ι := (List Mk.Write)) (fun p => ⟨[(6, .sl 1006)], [(1006, .arr 52 (p))]⟩) (fun p => k2 (p) = some r) ?_ ?_
 ·skip
  refine Q2 (Q1 ?_)
  refine O5 (ox0 .tmp) (.one rfl) .nil rfl <| O5 (ox_len s26 .tmp) (.one rfl) .nil rfl <| O5 (ox0 .int) .nil .nil rfl <| O1 <| Q0 (σ' := ⟨[(5, _), (6, _), (11, .val (a1)), (12, .val (a1.length : Int)), (13, .val (0 : Int))], [(10, _)]⟩) (j5 rfl rfl rfl rfl rfl) (j1 rfl) ?_
  refine PT.block ?_
  refine PT.nilArr 1006 6 52 (Mk.Write) rfl (by kernel_rfl) ?_
  refine PT.loop (ι := Nat × (List Mk.Write) × Int × Int × (List Int) × (List Mk.Write)) (fun p => ⟨[(5, .sl 10), (6, .sl 1006), (11, .val (p.2.1)), (12, .val (p.2.2.1)), (13, .val (p.2.2.2.1))], [(10, .arr 3 (p.2.2.2.2.1)), (1006, .arr 52 (p.2.2.2.2.2))]⟩) (fun p => cell_Undo_l1 k2 p.1 (p.2.1) (p.2.2.1) (p.2.2.2.1) (p.2.2.2.2.1) (p.2.2.2.2.2) = some r) (fun p => p.1) (((a1.length : Int) - (0 : Int)).toNat + 1, a1, (a1.length : Int), (0 : Int), v1, ([] : List Mk.Write)) hφ (j5 rfl rfl rfl rfl rfl) (j2 rfl rfl) ?_
  rintro ⟨m3, x11_m3, x12_m3, x13_m3, y10_m3, y1006_m3⟩ (hφ : cell_Undo_l1 k2 m3 x11_m3 x12_m3 x13_m3 y10_m3 y1006_m3 = some r)
  obtain _ | m3 := m3
  ·exact (none_no hφ).elim
  rw [cell_Undo_l1.eq_2] at hφ
  refine Q0 (σ' := ⟨[(5, .sl 10), (6, .sl 1006), (11, .val (x11_m3)), (12, .val (x12_m3)), (13, .val (x13_m3))], [(10, .arr 3 (y10_m3)), (1006, .arr 52 (y1006_m3))]⟩) (j5 rfl rfl rfl rfl rfl) (j2 rfl rfl) ?_
  refine Q2 (Q1 ?_)
  refine O5 (ox_lss .tmp .tmp) (.app (.one rfl) (.one rfl)) .nil rfl <| O1 <| Q0 (σ' := ⟨[(5, _), (6, _), (11, _), (12, _), (13, _), (14, .val (decide (x13_m3 < x12_m3)))], [(10, _), (1006, _)]⟩) (j6 rfl rfl rfl rfl rfl rfl) (j2 rfl rfl) ?_
  refine Q2 ?_
  refine Q3 _ rfl (fun hc4 => ?_) (fun hc4 => ?_)
  ·replace hφ := if_then hφ hc4
   refine Q0 (σ' := ⟨[(5, _), (6, _), (11, _), (12, _), (13, _)], [(10, _), (1006, _)]⟩) (j5 rfl rfl rfl rfl rfl) (j2 rfl rfl) ?_
   refine Q4 ?_
   obtain ⟨k5, hk5, hφ⟩ := J_some hφ
   refine PT.cut (ι := (List Mk.Write) × Int × Int × (List Int) × (List Mk.Write)) (fun p => ⟨[(5, .sl 10), (6, .sl 1006), (11, .val (p.1)), (12, .val (p.2.1)), (13, .val (p.2.2.1))], [(10, .arr 3 (p.2.2.2.1)), (1006, .arr 52 (p.2.2.2.2))]⟩) (fun p => k5 (p.1) (p.2.1) (p.2.2.1) (p.2.2.2.1) (p.2.2.2.2) = some r) ?_ ?_
   ·skip
    refine PT.block ?_
    refine Q2 ?_
    obtain ⟨hb6, hφ⟩ := G_some hφ
    refine Q1 ?_
    refine O5 (ox_ix s26 .tmp .tmp hb6.1 hb6.2) (.app (.one rfl) (.one rfl)) .nil rfl <| O5 (ox_load_elem t52) (.one rfl) .nil rfl <| O3 rfl rfl (ox_alloc (id := 8) z52) .nil .nil rfl (by kernel_rfl) <| O2 rfl rfl (ox5 t52 .tmp) (.cons rfl (.one rfl)) (.one rfl) <| O1 <| Q0 (σ' := ⟨[(5, _), (6, _), (8, _), (11, _), (12, _), (13, _)], [(8, .var (ix x11_m3 x13_m3) []), (10, _), (1006, _)]⟩) (j6 rfl rfl rfl rfl rfl rfl) (j3 rfl rfl rfl) ?_
    refine Q2 ?_
    refine Q2 (Q1 ?_)
    refine O5 (ox3 Write_At f52_0) (.one rfl) .nil rfl <| O5 (ox2 t3) (.one rfl) (.one rfl) rfl <| O5 (ox_lss .tmp .int) (.app (.one rfl) .nil) .nil rfl <| O5 (ox0 .tmp) (.one rfl) .nil rfl <| O4 rfl rfl rfl rfl (.plain .nil) (fun hG => (ox3 Write_At f52_0)) (j1 rfl) .nil rfl <| O4 rfl rfl rfl rfl (.cond (fun h => h) .nil) (fun hG => (ox2 t3)) (j1 rfl) (.one rfl) rfl ?_
    refine O4 rfl rfl rfl rfl (.plain .nil) (fun hG => (ox0 .tmp)) (j1 rfl) .nil rfl <| O4 rfl rfl rfl rfl (.cond (fun h => h) .nil) (fun hG => (ox_len_arr s25 .tmp)) (j1 rfl) (.one rfl) rfl <| O4 rfl rfl rfl rfl (.cond (fun h => h) (.cond (fun h => h) .nil)) (fun hG => (ox_geq .tmp .tmp)) (j2 rfl rfl) .nil rfl <| O5 ox9 (j2 rfl rfl) .nil rfl <| O1 <| Q0 (σ' := ⟨[(5, _), (6, _), (8, _), (11, _), (12, _), (13, _), (26, .val ((decide ((ix x11_m3 x13_m3).At < (0 : Int))) || (decide ((y10_m3.length : Int) ≤ (ix x11_m3 x13_m3).At))))], [(8, _), (10, _), (1006, _)]⟩) (j7 rfl rfl rfl rfl rfl rfl rfl) (j3 rfl rfl rfl) ?_
    refine Q3 _ rfl (fun hc7 => ?_) (fun hc7 => ?_)
    ·replace hφ := if_then hφ hc7
     refine Q0 (σ' := ⟨[(5, _), (6, _), (11, _), (12, _), (13, _)], [(10, _), (1006, _)]⟩) (j5 rfl rfl rfl rfl rfl) (j2 rfl rfl) ?_
     refine PT.exit ?_
     exact PT.meet (x11_m3, x12_m3, x13_m3, y10_m3, y1006_m3) hφ (j5 rfl rfl rfl rfl rfl) (j2 rfl rfl)
    ·replace hφ := if_else hφ hc7
     refine Q0 (σ' := ⟨[(5, _), (6, _), (8, _), (11, _), (12, _), (13, _)], [(8, _), (10, _), (1006, _)]⟩) (j6 rfl rfl rfl rfl rfl rfl) (j3 rfl rfl rfl) ?_
     refine Q4 ?_
     refine Q2 ?_
     obtain ⟨hb8, hφ⟩ := G_some hφ
     obtain ⟨hb9, hφ⟩ := G_some hφ
     refine Q8 hMixed (
       .cons (S5 (ox0 .tmp)) ⟨.one rfl, .nil⟩ (by kernel_rfl) rfl <|
       .cons (S5 (ox3 Write_At f52_0)) ⟨.one rfl, .nil⟩ (by kernel_rfl) rfl <|
       .cons (S5 (ox2 t3)) ⟨.one rfl, .one rfl⟩ (by kernel_rfl) rfl <|
       .cons (S5 (ox0 .tmp)) ⟨.one rfl, .nil⟩ (by kernel_rfl) rfl <|
       .cons (S5 (ox3 Write_At f52_0)) ⟨.one rfl, .nil⟩ (by kernel_rfl) rfl <|
       .cons (S5 (ox2 t3)) ⟨.one rfl, .one rfl⟩ (by kernel_rfl) rfl <|
       .cons (S5 (ox_index_arr s25 .tmp .tmp hb8.1 hb8.2)) ⟨(.app (.one rfl) (.one rfl)), .one rfl⟩ (by kernel_rfl) rfl <|
       .cons (S5 (ox_load_ax t3 hb8)) ⟨.one rfl, .one rfl⟩ (by kernel_rfl) rfl <|
       .cons (S5 (oxa z52 u52 rfl (.cons Write_At f52_0 .tmp (.cons Write_N f52_1 .tmp Bld.nil)))) ⟨(.app (.one rfl) (.app (.one rfl) .nil)), .nil⟩ (by kernel_rfl) rfl <|
       .cons (S5 (ox_buildSlice_val s26 z52 (.cons .tmp Parts.nil) rfl (by decide))) ⟨(.app (.one rfl) .nil), .nil⟩ (by kernel_rfl) rfl <|
       .cons (Step.putK [6, 27] rfl rfl (ox_append a26 .tmp .tmp hb9.1 hb9.2)) ⟨(.app (.one rfl) (.one rfl)), .one rfl⟩ (by kernel_rfl) rfl <|
       .cons (S5 (ox1 .tmp)) ⟨.one rfl, .nil⟩ (by kernel_rfl) rfl <|
       .nil) _ [[], [], [1], [], [], [4], [3, 4, 5], [3, 4, 5, 6], [1, 2, 3, 4, 5, 6, 7], [1, 2, 3, 4, 5, 6, 7, 8], [0, 1, 2, 3, 4, 5, 6, 7, 8, 9], [0, 1, 2, 3, 4, 5, 6, 7, 8, 9, 10]] rfl (by kernel_rfl) (by kernel_rfl) ?_
     refine Q0 (σ' := ⟨[(5, _), (6, _), (8, _), (11, _), (12, _), (13, _)], [(8, _), (10, _), (1006, .arr 52 ((y1006_m3 ++ ([({ At := (ix x11_m3 x13_m3).At, N := (ix y10_m3 (ix x11_m3 x13_m3).At) } : Mk.Write)] : List Mk.Write))))]⟩) (j6 rfl rfl rfl rfl rfl rfl) (j3 rfl rfl rfl) ?_
     obtain ⟨hb10, hφ⟩ := G_some hφ
     refine Q1 ?_
     refine O5 (ox0 .tmp) (.one rfl) .nil rfl <| O5 (ox3 Write_At f52_0) (.one rfl) .nil rfl <| O5 (ox2 t3) (.one rfl) (.one rfl) rfl <| O5 (ox3 Write_N f52_1) (.one rfl) .nil rfl <| O5 (ox2 t3) (.one rfl) (.one rfl) rfl <| O5 (ox_index_arr s25 .tmp .tmp hb10.1 hb10.2) (.app (.one rfl) (.one rfl)) (.one rfl) rfl ?_
     refine O2 rfl rfl (ox_store_ax t3 .tmp hb10) (.cons rfl (.one rfl)) (.one rfl) <| O1 <| Q0 (σ' := ⟨[(5, _), (6, _), (11, _), (12, _), (13, _)], [(10, .arr 3 (up y10_m3 (ix x11_m3 x13_m3).At (ix x11_m3 x13_m3).N)), (1006, _)]⟩) (j5 rfl rfl rfl rfl rfl) (j2 rfl rfl) ?_
     exact PT.meet (x11_m3, x12_m3, x13_m3, (up y10_m3 (ix x11_m3 x13_m3).At (ix x11_m3 x13_m3).N), (y1006_m3 ++ ([({ At := (ix x11_m3 x13_m3).At, N := (ix y10_m3 (ix x11_m3 x13_m3).At) } : Mk.Write)] : List Mk.Write))) hφ (j5 rfl rfl rfl rfl rfl) (j2 rfl rfl)
   ·rintro ⟨x11_k5, x12_k5, x13_k5, y10_k5, y1006_k5⟩ hφ
    subst hk5
    refine Q0 (σ' := ⟨[(5, _), (6, _), (11, .val (x11_k5)), (12, .val (x12_k5)), (13, .val (x13_k5))], [(10, .arr 3 (y10_k5)), (1006, .arr 52 (y1006_k5))]⟩) (j5 rfl rfl rfl rfl rfl) (j2 rfl rfl) ?_
    obtain ⟨hb11, hφ⟩ := G_some hφ
    refine Q1 ?_
    refine O5 (ox_add .tmp .int hb11) (.app (.one rfl) .nil) .nil rfl <| O5 (ox0 .tmp) (.one rfl) .nil rfl <| O1 <| Q0 (σ' := ⟨[(5, _), (6, _), (11, _), (12, _), (13, .val (x13_k5 + (1 : Int)))], [(10, _), (1006, _)]⟩) (j5 rfl rfl rfl rfl rfl) (j2 rfl rfl) ?_
    exact PT.next (m3, x11_k5, x12_k5, (x13_k5 + (1 : Int)), y10_k5, y1006_k5) hφ (Nat.lt_succ_self _) (j5 rfl rfl rfl rfl rfl) (j2 rfl rfl)
  ·replace hφ := if_else hφ hc4
   refine Q0 (σ' := ⟨[(6, _)], [(1006, _)]⟩) (j1 rfl) (j1 rfl) ?_
   refine PT.exit ?_
   exact PT.meet (y1006_m3) hφ (j1 rfl) (j1 rfl)
 ·rintro y1006_k2 hφ
  subst hk2
  refine Q0 (σ' := ⟨[(6, .sl 1006)], [(1006, .arr 52 (y1006_k2))]⟩) (j1 rfl) (j1 rfl) ?_
  refine Q2 ?_
  obtain ⟨v12, hv12, hφ⟩ := B_some hφ
  refine Q1 ?_
  refine O5 (ox0 .tmp) (.one rfl) .nil rfl <| O3 rfl rfl (ox_callX (x_slices_Reverse___api_Write_api_Write_ hv12) [(600, 1006)] [(600, 1006)] [] [] (.cons .tmp .nil) rfl rfl rfl rfl rfl rfl rfl rfl (j1 rfl) rfl rfl rfl rfl) (.app (.one rfl) .nil) (.cons rfl .nil) rfl (by kernel_rfl) <| O1 <| Q0 (σ' := ⟨[(6, _)], [(1006, .arr 52 (v12))]⟩) (j1 rfl) (j1 rfl) ?_
  refine Q2 (Q1 ?_)
  refine O5 (ox0 .tmp) (.one rfl) .nil rfl <| O5 (ox1 .tmp) (.one rfl) .nil rfl <| O1 <| Q0 (σ' := ⟨[(4, _)], [(1006, _)]⟩) (j1 rfl) (j1 rfl) ?_
  refine Q5 ?_
  obtain rfl := Option.some.inj hφ
  exact Q7 rfl (.tmp rfl .nil) rfl (j1 rfl) trivial
end Go.Gx
end
section
namespace Go.Gx
open Sp
theorem c_store_New  {r : Mk.Store} (hφ : store_New  = some r) : Fn Go.Proofs.Tryz.prog 33 [] (.val r) := by
 unfold store_New at hφ
 refine Fn.mk' Go.Proofs.Tryz.func33 rfl (by decide) rfl rfl rfl (fun w0 hw0 => ?_)
 refine Q2 (Q1 ?_)
 refine O3 rfl rfl (ox_alloc (id := 0) z30) .nil .nil rfl (by kernel_rfl) <| O1 <| Q0 (σ' := ⟨[(0, _)], [(0, .var zSt [])]⟩) (j1 rfl) (j1 rfl) ?_
 refine Q2 ?_
 obtain ⟨v1, hv1, hφ⟩ := B_some hφ
 refine Q1 ?_
 refine O5 (ox_call (c_cell_New hv1) .nil) .nil .nil rfl <| O5 (oxa z30 u30 rfl (.cons Store_Cells f30_0 .tmp Bld.nil)) (.app (.one rfl) .nil) .nil rfl <| O2 rfl rfl (ox5 t30 .tmp) (.cons rfl (.one rfl)) (.one rfl) <| O1 <| Q0 (σ' := ⟨[(0, _)], [(0, .var ({ Cells := v1, Undo := ([] : List Mk.Write), Answers := ([] : List Mk.Answer), Past := ([] : List Mk.Request) } : Mk.Store) [])]⟩) (j1 rfl) (j1 rfl) ?_
 refine Q5 ?_
 obtain rfl := Option.some.inj hφ
 exact Q6 hw0 rfl (.cell t30 rfl rfl .nil) rfl
theorem c_store_Last {a0 : Mk.Store} {a1 : Int} {r : (Mk.Answer × Bool)} (hφ : store_Last a0 a1 = some r) : Fn Go.Proofs.Tryz.prog 99 [.val a0, .val a1] (.tup [.val r.1, .val r.2]) := by
 unfold store_Last at hφ
 refine Fn.mk' Go.Proofs.Tryz.func99 rfl (by decide) rfl rfl rfl (fun w0 hw0 => ?_)
 refine Q2 (Q1 ?_)
 refine O3 rfl rfl (ox_box (id := 2) .tmp) (.one rfl) .nil rfl (by kernel_rfl) <| O3 rfl rfl (ox_alloc (id := 4) z105) .nil .nil rfl (by kernel_rfl) <| O5 (ox1 .bool) .nil .nil rfl <| O1 <| Q0 (σ' := ⟨[(1, .val (a1)), (2, _), (4, _)], [(2, .var (a0) []), (4, .var ({ Client := (0 : Int), Token := (0 : Int), Reply := zRe } : Mk.Answer) [])]⟩) (j3 rfl rfl rfl) (j2 rfl rfl) ?_
 obtain ⟨k1, hk1, hφ⟩ := J_some hφ
 refine PT.cut (ι := Mk.Answer) (fun p => ⟨[(4, .ptr 4 (Lens.id (α := Mk.Answer)))], [(4, .var (p) [])]⟩) (fun p => k1 (p) = some r) ?_ ?_
 ·skip
  refine Q2 (Q1 ?_)
  refine O5 (ox3 Store_Answers f30_2) (.one rfl) .nil rfl <| O5 (ox2 t27) (.one rfl) (.one rfl) rfl <| O5 (ox_len s27 .tmp) (.one rfl) .nil rfl <| O5 (ox0 .int) .nil .nil rfl <| O1 <| Q0 (σ' := ⟨[(1, _), (4, _), (9, .val (a0.Answers)), (10, .val (a0.Answers.length : Int)), (11, .val (0 : Int))], [(4, _)]⟩) (j5 rfl rfl rfl rfl rfl) (j1 rfl) ?_
  refine PT.block ?_
  refine PT.loop (ι := Nat × Int × (List Mk.Answer) × Int × Int × Mk.Answer) (fun p => ⟨[(1, .val (p.2.1)), (4, .ptr 4 (Lens.id (α := Mk.Answer))), (9, .val (p.2.2.1)), (10, .val (p.2.2.2.1)), (11, .val (p.2.2.2.2.1))], [(4, .var (p.2.2.2.2.2) [])]⟩) (fun p => store_Last_l1 k1 p.1 (p.2.1) (p.2.2.1) (p.2.2.2.1) (p.2.2.2.2.1) (p.2.2.2.2.2) = some r) (fun p => p.1) (((a0.Answers.length : Int) - (0 : Int)).toNat + 1, a1, a0.Answers, (a0.Answers.length : Int), (0 : Int), ({ Client := (0 : Int), Token := (0 : Int), Reply := zRe } : Mk.Answer)) hφ (j5 rfl rfl rfl rfl rfl) (j1 rfl) ?_
  rintro ⟨m2, x1_m2, x9_m2, x10_m2, x11_m2, y4_m2⟩ (hφ : store_Last_l1 k1 m2 x1_m2 x9_m2 x10_m2 x11_m2 y4_m2 = some r)
  obtain _ | m2 := m2
  ·exact (none_no hφ).elim
  rw [store_Last_l1.eq_2] at hφ
  refine Q0 (σ' := ⟨[(1, .val (x1_m2)), (4, .ptr 4 (Lens.id (α := Mk.Answer))), (9, .val (x9_m2)), (10, .val (x10_m2)), (11, .val (x11_m2))], [(4, .var (y4_m2) [])]⟩) (j5 rfl rfl rfl rfl rfl) (j1 rfl) ?_
  refine Q2 (Q1 ?_)
  refine O5 (ox_lss .tmp .tmp) (.app (.one rfl) (.one rfl)) .nil rfl <| O1 <| Q0 (σ' := ⟨[(1, _), (4, _), (9, _), (10, _), (11, _), (12, .val (decide (x11_m2 < x10_m2)))], [(4, _)]⟩) (j6 rfl rfl rfl rfl rfl rfl) (j1 rfl) ?_
  refine Q2 ?_
  refine Q3 _ rfl (fun hc3 => ?_) (fun hc3 => ?_)
  ·replace hφ := if_then hφ hc3
   refine Q0 (σ' := ⟨[(1, _), (4, _), (9, _), (10, _), (11, _)], [(4, _)]⟩) (j5 rfl rfl rfl rfl rfl) (j1 rfl) ?_
   refine Q4 ?_
   refine Q2 ?_
   refine PT.block ?_
   refine Q2 ?_
   obtain ⟨hb4, hφ⟩ := G_some hφ
   refine Q1 ?_
   refine O5 (ox_ix s27 .tmp .tmp hb4.1 hb4.2) (.app (.one rfl) (.one rfl)) .nil rfl <| O5 (ox_load_elem t105) (.one rfl) .nil rfl <| O3 rfl rfl (ox_alloc (id := 7) z105) .nil .nil rfl (by kernel_rfl) <| O2 rfl rfl (ox5 t105 .tmp) (.cons rfl (.one rfl)) (.one rfl) <| O1 <| Q0 (σ' := ⟨[(1, _), (4, _), (7, _), (9, _), (10, _), (11, _)], [(4, _), (7, .var (ix x9_m2 x11_m2) [])]⟩) (j6 rfl rfl rfl rfl rfl rfl) (j2 rfl rfl) ?_
   refine Q2 (Q1 ?_)
   refine O5 (ox3 Answer_Client f105_0) (.one rfl) .nil rfl <| O5 (ox2 t3) (.one rfl) (.one rfl) rfl <| O5 (ox0 .tmp) (.one rfl) .nil rfl <| O5 (ox_eql .tmp .tmp) (.app (.one rfl) (.one rfl)) .nil rfl <| O1 <| Q0 (σ' := ⟨[(1, _), (4, _), (7, _), (9, _), (10, _), (11, _), (18, .val (decide ((ix x9_m2 x11_m2).Client = x1_m2)))], [(4, _), (7, _)]⟩) (j7 rfl rfl rfl rfl rfl rfl rfl) (j2 rfl rfl) ?_
   refine Q3 _ rfl (fun hc5 => ?_) (fun hc5 => ?_)
   ·replace hφ := if_then hφ hc5
    refine Q0 (σ' := ⟨[(4, _), (7, _)], [(4, _), (7, _)]⟩) (j2 rfl rfl) (j2 rfl rfl) ?_
    refine Q2 (Q1 ?_)
    refine O5 (ox4 t105) (.one rfl) (.one rfl) rfl <| O2 rfl rfl (ox5 t105 .tmp) (.cons rfl (.one rfl)) (.one rfl) <| O5 (ox1 .bool) .nil .nil rfl <| O1 <| Q0 (σ' := ⟨[(4, _), (5, .val (true))], [(4, .var (ix x9_m2 x11_m2) [])]⟩) (j2 rfl rfl) (j1 rfl) ?_
    refine Q5 ?_
    obtain rfl := Option.some.inj hφ
    exact Q6 hw0 rfl (.cell t105 rfl rfl (.tmp rfl rfl .nil)) rfl
   ·replace hφ := if_else hφ hc5
    refine Q0 (σ' := ⟨[(1, _), (4, _), (9, _), (10, _), (11, _)], [(4, _)]⟩) (j5 rfl rfl rfl rfl rfl) (j1 rfl) ?_
    refine Q4 ?_
    obtain ⟨hb6, hφ⟩ := G_some hφ
    refine Q1 ?_
    refine O5 (ox_add .tmp .int hb6) (.app (.one rfl) .nil) .nil rfl <| O5 (ox0 .tmp) (.one rfl) .nil rfl <| O1 <| Q0 (σ' := ⟨[(1, _), (4, _), (9, _), (10, _), (11, .val (x11_m2 + (1 : Int)))], [(4, _)]⟩) (j5 rfl rfl rfl rfl rfl) (j1 rfl) ?_
    exact PT.next (m2, x1_m2, x9_m2, x10_m2, (x11_m2 + (1 : Int)), y4_m2) hφ (Nat.lt_succ_self _) (j5 rfl rfl rfl rfl rfl) (j1 rfl)
  ·replace hφ := if_else hφ hc3
   refine Q0 (σ' := ⟨[(4, _)], [(4, _)]⟩) (j1 rfl) (j1 rfl) ?_
   refine PT.exit ?_
   exact PT.meet (y4_m2) hφ (j1 rfl) (j1 rfl)
 ·rintro y4_k1 hφ
  subst hk1
  refine Q0 (σ' := ⟨[(4, .ptr 4 (Lens.id (α := Mk.Answer)))], [(4, .var (y4_k1) [])]⟩) (j1 rfl) (j1 rfl) ?_
  refine Q2 (Q1 ?_)
  refine O5 (oxa z105 u105 rfl Bld.nil) .nil .nil rfl <| O2 rfl rfl (ox5 t105 .tmp) (.cons rfl (.one rfl)) (.one rfl) <| O5 (ox1 .bool) .nil .nil rfl <| O1 <| Q0 (σ' := ⟨[(4, _), (5, .val (false))], [(4, .var ({ Client := (0 : Int), Token := (0 : Int), Reply := zRe } : Mk.Answer) [])]⟩) (j2 rfl rfl) (j1 rfl) ?_
  refine Q5 ?_
  obtain rfl := Option.some.inj hφ
  exact Q6 hw0 rfl (.cell t105 rfl rfl (.tmp rfl rfl .nil)) rfl
theorem c_slices_Clone___api_Answer_api_Answer_ {a0 : List Mk.Answer} {r : (List Mk.Answer)} (hφ : slices_Clone___api_Answer_api_Answer_ a0 = some r) : Fn Go.Proofs.Tryz.prog 43 [.val a0] (.val r) := by
 unfold slices_Clone___api_Answer_api_Answer_ at hφ
 refine Fn.mk' Go.Proofs.Tryz.func43 rfl (by decide) rfl rfl rfl (fun w0 hw0 => ?_)
 refine Q2 (Q1 ?_)
 refine O5 (ox1 .nilS) .nil .nil rfl <| O1 <| Q0 (σ' := ⟨[(0, .val (a0))], []⟩) (j1 rfl) trivial ?_
 refine Q2 ?_
 refine Q2 (Q1 ?_)
 refine O5 (ox0 .tmp) (.one rfl) .nil rfl <| O5 (ox_isNil (by kernel_rfl) .tmp .nilS) (.app (.one rfl) .nil) .nil rfl <| O1 <| Q0 (σ' := ⟨[(0, _), (4, _)], []⟩) (j2 rfl rfl) trivial ?_
 refine PT.condB _ rfl (fun hc1 => ?_) (fun _ => ?_)
 ·have hc1e := hc1 rfl
  refine Q0 (σ' := ⟨[], []⟩) trivial trivial ?_
  refine Q2 (Q1 ?_)
  refine O5 (ox1 .nilS) .nil .nil rfl <| O1 <| Q0 (σ' := ⟨[(2, .nilS)], []⟩) (j1 rfl) trivial ?_
  refine Q5 ?_
  refine PT.asNil 2 (Mk.Answer) rfl ?_
  rw [hc1e] at hφ
  obtain ⟨_, hφ⟩ := G_some hφ
  obtain rfl := Option.some.inj hφ
  exact Q6 hw0 rfl (.tmp rfl rfl .nil) rfl
 ·skip
  refine Q0 (σ' := ⟨[(0, _)], []⟩) (j1 rfl) trivial ?_
  refine Q4 ?_
  refine Q2 ?_
  obtain ⟨hb2, hφ⟩ := G_some hφ
  refine Q1 ?_
  refine O3 rfl rfl (ox_buildSlice_arr (id := 5) s27 z105 Parts.nil rfl (by decide)) .nil .nil rfl (by kernel_rfl) <| O5 (ox0 .tmp) (.one rfl) .nil rfl ?_
  refine Ops.putK [5] rfl rfl (ox_append a27 .tmp .tmp hb2.1 hb2.2) (.app (.one rfl) (.one rfl)) (.one rfl) rfl (by kernel_rfl) ?_
  refine O5 (ox1 .tmp) (.one rfl) .nil rfl <| O1 <| Q0 (σ' := ⟨[(2, _)], [(5, .arr 105 (([] : List Mk.Answer) ++ a0))]⟩) (j1 rfl) (j1 rfl) ?_
  refine Q5 ?_
  refine PT.freeze 5 [2] rfl (j1 rfl) ?_
  obtain rfl := Option.some.inj hφ
  exact Q6 hw0 rfl (.tmp rfl rfl .nil) rfl
theorem x_slices_Clone___api_Answer_api_Answer_ {a0 : List Mk.Answer} {r : (List Mk.Answer)} (hφ : slices_Clone___api_Answer_api_Answer_ a0 = some r) : FnX Go.Proofs.Tryz.prog 43 [.val a0] [] (.sl 5) [(5, .arr 105 r)] [] := by
 unfold slices_Clone___api_Answer_api_Answer_ at hφ
 refine FnX.mk' Go.Proofs.Tryz.func43 rfl (by decide) rfl (fun w0 m0 => ?_)
 refine Q2 (Q1 ?_)
 refine O5 (ox1 .nilS) .nil .nil rfl <| O1 <| Q0 (σ' := ⟨[(0, .val (a0))], []⟩) (j1 rfl) trivial ?_
 refine Q2 ?_
 refine Q2 (Q1 ?_)
 refine O5 (ox0 .tmp) (.one rfl) .nil rfl <| O5 (ox_isNil (by kernel_rfl) .tmp .nilS) (.app (.one rfl) .nil) .nil rfl <| O1 <| Q0 (σ' := ⟨[(0, _), (4, _)], []⟩) (j2 rfl rfl) trivial ?_
 refine PT.condB _ rfl (fun hc1 => ?_) (fun _ => ?_)
 ·have hc1e := hc1 rfl
  refine Q0 (σ' := ⟨[], []⟩) trivial trivial ?_
  refine Q2 (Q1 ?_)
  refine O5 (ox1 .nilS) .nil .nil rfl <| O1 <| Q0 (σ' := ⟨[(2, .nilS)], []⟩) (j1 rfl) trivial ?_
  refine Q5 ?_
  refine PT.nilArr 5 2 105 (Mk.Answer) rfl (by kernel_rfl) ?_
  rw [hc1e] at hφ
  obtain ⟨_, hφ⟩ := G_some hφ
  obtain rfl := Option.some.inj hφ
  exact Q7 rfl (.tmp rfl .nil) rfl (j1 rfl) trivial
 ·skip
  refine Q0 (σ' := ⟨[(0, _)], []⟩) (j1 rfl) trivial ?_
  refine Q4 ?_
  refine Q2 ?_
  obtain ⟨hb2, hφ⟩ := G_some hφ
  refine Q1 ?_
  refine O3 rfl rfl (ox_buildSlice_arr (id := 5) s27 z105 Parts.nil rfl (by decide)) .nil .nil rfl (by kernel_rfl) <| O5 (ox0 .tmp) (.one rfl) .nil rfl ?_
  refine Ops.putK [5] rfl rfl (ox_append a27 .tmp .tmp hb2.1 hb2.2) (.app (.one rfl) (.one rfl)) (.one rfl) rfl (by kernel_rfl) ?_
  refine O5 (ox1 .tmp) (.one rfl) .nil rfl <| O1 <| Q0 (σ' := ⟨[(2, _)], [(5, .arr 105 (([] : List Mk.Answer) ++ a0))]⟩) (j1 rfl) (j1 rfl) ?_
  refine Q5 ?_
  obtain rfl := Option.some.inj hφ
  exact Q7 rfl (.tmp rfl .nil) rfl (j1 rfl) trivial
theorem c_slices_Clone___api_Request_api_Request_ {a0 : List Mk.Request} {r : (List Mk.Request)} (hφ : slices_Clone___api_Request_api_Request_ a0 = some r) : Fn Go.Proofs.Tryz.prog 44 [.val a0] (.val r) := by
 unfold slices_Clone___api_Request_api_Request_ at hφ
 refine Fn.mk' Go.Proofs.Tryz.func44 rfl (by decide) rfl rfl rfl (fun w0 hw0 => ?_)
 refine Q2 (Q1 ?_)
 refine O5 (ox1 .nilS) .nil .nil rfl <| O1 <| Q0 (σ' := ⟨[(0, .val (a0))], []⟩) (j1 rfl) trivial ?_
 refine Q2 ?_
 refine Q2 (Q1 ?_)
 refine O5 (ox0 .tmp) (.one rfl) .nil rfl <| O5 (ox_isNil (by kernel_rfl) .tmp .nilS) (.app (.one rfl) .nil) .nil rfl <| O1 <| Q0 (σ' := ⟨[(0, _), (4, _)], []⟩) (j2 rfl rfl) trivial ?_
 refine PT.condB _ rfl (fun hc1 => ?_) (fun _ => ?_)
 ·have hc1e := hc1 rfl
  refine Q0 (σ' := ⟨[], []⟩) trivial trivial ?_
  refine Q2 (Q1 ?_)
  refine O5 (ox1 .nilS) .nil .nil rfl <| O1 <| Q0 (σ' := ⟨[(2, .nilS)], []⟩) (j1 rfl) trivial ?_
  refine Q5 ?_
  refine PT.asNil 2 (Mk.Request) rfl ?_
  rw [hc1e] at hφ
  obtain ⟨_, hφ⟩ := G_some hφ
  obtain rfl := Option.some.inj hφ
  exact Q6 hw0 rfl (.tmp rfl rfl .nil) rfl
 ·skip
  refine Q0 (σ' := ⟨[(0, _)], []⟩) (j1 rfl) trivial ?_
  refine Q4 ?_
  refine Q2 ?_
  obtain ⟨hb2, hφ⟩ := G_some hφ
  refine Q1 ?_
  refine O3 rfl rfl (ox_buildSlice_arr (id := 5) s28 z35 Parts.nil rfl (by decide)) .nil .nil rfl (by kernel_rfl) <| O5 (ox0 .tmp) (.one rfl) .nil rfl ?_
  refine Ops.putK [5] rfl rfl (ox_append a28 .tmp .tmp hb2.1 hb2.2) (.app (.one rfl) (.one rfl)) (.one rfl) rfl (by kernel_rfl) ?_
  refine O5 (ox1 .tmp) (.one rfl) .nil rfl <| O1 <| Q0 (σ' := ⟨[(2, _)], [(5, .arr 35 (([] : List Mk.Request) ++ a0))]⟩) (j1 rfl) (j1 rfl) ?_
  refine Q5 ?_
  refine PT.freeze 5 [2] rfl (j1 rfl) ?_
  obtain rfl := Option.some.inj hφ
  exact Q6 hw0 rfl (.tmp rfl rfl .nil) rfl
theorem x_slices_Clone___api_Request_api_Request_ {a0 : List Mk.Request} {r : (List Mk.Request)} (hφ : slices_Clone___api_Request_api_Request_ a0 = some r) : FnX Go.Proofs.Tryz.prog 44 [.val a0] [] (.sl 5) [(5, .arr 35 r)] [] := by
 unfold slices_Clone___api_Request_api_Request_ at hφ
 refine FnX.mk' Go.Proofs.Tryz.func44 rfl (by decide) rfl (fun w0 m0 => ?_)
 refine Q2 (Q1 ?_)
 refine O5 (ox1 .nilS) .nil .nil rfl <| O1 <| Q0 (σ' := ⟨[(0, .val (a0))], []⟩) (j1 rfl) trivial ?_
 refine Q2 ?_
 refine Q2 (Q1 ?_)
 refine O5 (ox0 .tmp) (.one rfl) .nil rfl <| O5 (ox_isNil (by kernel_rfl) .tmp .nilS) (.app (.one rfl) .nil) .nil rfl <| O1 <| Q0 (σ' := ⟨[(0, _), (4, _)], []⟩) (j2 rfl rfl) trivial ?_
 refine PT.condB _ rfl (fun hc1 => ?_) (fun _ => ?_)
 ·have hc1e := hc1 rfl
  refine Q0 (σ' := ⟨[], []⟩) trivial trivial ?_
  refine Q2 (Q1 ?_)
  refine O5 (ox1 .nilS) .nil .nil rfl <| O1 <| Q0 (σ' := ⟨[(2, .nilS)], []⟩) (j1 rfl) trivial ?_
  refine Q5 ?_
  refine PT.nilArr 5 2 35 (Mk.Request) rfl (by kernel_rfl) ?_
  rw [hc1e] at hφ
  obtain ⟨_, hφ⟩ := G_some hφ
  obtain rfl := Option.some.inj hφ
  exact Q7 rfl (.tmp rfl .nil) rfl (j1 rfl) trivial
 ·skip
  refine Q0 (σ' := ⟨[(0, _)], []⟩) (j1 rfl) trivial ?_
  refine Q4 ?_
  refine Q2 ?_
  obtain ⟨hb2, hφ⟩ := G_some hφ
  refine Q1 ?_
  refine O3 rfl rfl (ox_buildSlice_arr (id := 5) s28 z35 Parts.nil rfl (by decide)) .nil .nil rfl (by kernel_rfl) <| O5 (ox0 .tmp) (.one rfl) .nil rfl ?_
  refine Ops.putK [5] rfl rfl (ox_append a28 .tmp .tmp hb2.1 hb2.2) (.app (.one rfl) (.one rfl)) (.one rfl) rfl (by kernel_rfl) ?_
  refine O5 (ox1 .tmp) (.one rfl) .nil rfl <| O1 <| Q0 (σ' := ⟨[(2, _)], [(5, .arr 35 (([] : List Mk.Request) ++ a0))]⟩) (j1 rfl) (j1 rfl) ?_
  refine Q5 ?_
  obtain rfl := Option.some.inj hφ
  exact Q7 rfl (.tmp rfl .nil) rfl (j1 rfl) trivial
theorem c_store_Own {a0 : Mk.Store} {r : Mk.Store} (hφ : store_Own a0 = some r) : Fn Go.Proofs.Tryz.prog 24 [.val a0] (.val r) := by
 unfold store_Own at hφ
 refine Fn.mk' Go.Proofs.Tryz.func24 rfl (by decide) rfl rfl rfl (fun w0 hw0 => ?_)
 refine Q2 (Q1 ?_)
 refine O3 rfl rfl (ox_box (id := 1) .tmp) (.one rfl) .nil rfl (by kernel_rfl) <| O3 rfl rfl (ox_alloc (id := 2) z30) .nil .nil rfl (by kernel_rfl) <| O1 <| Q0 (σ' := ⟨[(1, _), (2, _)], [(1, .var (a0) []), (2, .var zSt [])]⟩) (j2 rfl rfl) (j2 rfl rfl) ?_
 refine Q2 ?_
 obtain ⟨v1, hv1, hφ⟩ := B_some hφ
 obtain ⟨v2, hv2, hφ⟩ := B_some hφ
 obtain ⟨v3, hv3, hφ⟩ := B_some hφ
 obtain ⟨v4, hv4, hφ⟩ := B_some hφ
 refine Q8 hMixed (
   .cons (S5 (ox3 Store_Cells f30_0)) ⟨.one rfl, .nil⟩ (by kernel_rfl) rfl <|
   .cons (S5 (ox2 t25)) ⟨.one rfl, .one rfl⟩ (by kernel_rfl) rfl <|
   .cons (S5 (ox_call (c_slices_Clone___int_int_ hv1) (.cons .tmp .nil))) ⟨(.app (.one rfl) .nil), .nil⟩ (by kernel_rfl) rfl <|
   .cons (S5 (ox3 Store_Undo f30_1)) ⟨.one rfl, .nil⟩ (by kernel_rfl) rfl <|
   .cons (S5 (ox2 t26)) ⟨.one rfl, .one rfl⟩ (by kernel_rfl) rfl <|
   .cons (S5 (ox_call (c_slices_Clone___api_Write_api_Write_ hv2) (.cons .tmp .nil))) ⟨(.app (.one rfl) .nil), .nil⟩ (by kernel_rfl) rfl <|
   .cons (S5 (ox3 Store_Answers f30_2)) ⟨.one rfl, .nil⟩ (by kernel_rfl) rfl <|
   .cons (S5 (ox2 t27)) ⟨.one rfl, .one rfl⟩ (by kernel_rfl) rfl <|
   .cons (S5 (ox_call (c_slices_Clone___api_Answer_api_Answer_ hv3) (.cons .tmp .nil))) ⟨(.app (.one rfl) .nil), .nil⟩ (by kernel_rfl) rfl <|
   .cons (S5 (ox3 Store_Past f30_3)) ⟨.one rfl, .nil⟩ (by kernel_rfl) rfl <|
   .cons (S5 (ox2 t28)) ⟨.one rfl, .one rfl⟩ (by kernel_rfl) rfl <|
   .cons (S5 (ox_call (c_slices_Clone___api_Request_api_Request_ hv4) (.cons .tmp .nil))) ⟨(.app (.one rfl) .nil), .nil⟩ (by kernel_rfl) rfl <|
   .cons (S5 (oxa z30 u30 rfl (.cons Store_Cells f30_0 .tmp (.cons Store_Undo f30_1 .tmp (.cons Store_Answers f30_2 .tmp (.cons Store_Past f30_3 .tmp Bld.nil)))))) ⟨(.app (.one rfl) (.app (.one rfl) (.app (.one rfl) (.app (.one rfl) .nil)))), .nil⟩ (by kernel_rfl) rfl <|
   .cons (S4 rfl rfl (ox5 t30 .tmp)) ⟨(.cons rfl (.one rfl)), .one rfl⟩ (by kernel_rfl) rfl <|
   .nil) _ [[], [0], [0, 1], [], [3], [0, 1, 2, 3, 4], [], [6], [0, 1, 2, 3, 4, 5, 6, 7], [], [9], [0, 1, 2, 3, 4, 5, 6, 7, 8, 9, 10], [0, 1, 2, 3, 4, 5, 6, 7, 8, 9, 10, 11], [0, 1, 2, 3, 4, 5, 6, 7, 8, 9, 10, 11, 12]] rfl (by kernel_rfl) (by kernel_rfl) ?_
 refine Q0 (σ' := ⟨[(2, _)], [(2, .var ({ Cells := v1, Undo := v2, Answers := v3, Past := v4 } : Mk.Store) [])]⟩) (j1 rfl) (j1 rfl) ?_
 refine Q5 ?_
 obtain rfl := Option.some.inj hφ
 exact Q6 hw0 rfl (.cell t30 rfl rfl .nil) rfl
theorem x_store_Own {a0 : Mk.Store} {r : Mk.Store} (hφ : store_Own a0 = some r) : FnX Go.Proofs.Tryz.prog 24 [.val a0] [] (.hole ({ ({ r with Answers := ([] : List Mk.Answer) }) with Past := ([] : List Mk.Request) }) [(2, 11), (3, 14)]) [(11, .arr 105 r.Answers), (14, .arr 35 r.Past)] [] := by
 unfold store_Own at hφ
 refine FnX.mk' Go.Proofs.Tryz.func24 rfl (by decide) rfl (fun w0 m0 => ?_)
 refine Q2 (Q1 ?_)
 refine O3 rfl rfl (ox_box (id := 1) .tmp) (.one rfl) .nil rfl (by kernel_rfl) <| O3 rfl rfl (ox_alloc (id := 2) z30) .nil .nil rfl (by kernel_rfl) <| O1 <| Q0 (σ' := ⟨[(1, _), (2, _)], [(1, .var (a0) []), (2, .var zSt [])]⟩) (j2 rfl rfl) (j2 rfl rfl) ?_
 refine Q2 ?_
 obtain ⟨v1, hv1, hφ⟩ := B_some hφ
 obtain ⟨v2, hv2, hφ⟩ := B_some hφ
 obtain ⟨v3, hv3, hφ⟩ := B_some hφ
 obtain ⟨v4, hv4, hφ⟩ := B_some hφ
 refine Q8 hMixed (
   .cons (S5 (ox3 Store_Cells f30_0)) ⟨.one rfl, .nil⟩ (by kernel_rfl) rfl <|
   .cons (S5 (ox2 t25)) ⟨.one rfl, .one rfl⟩ (by kernel_rfl) rfl <|
   .cons (S5 (ox_call (c_slices_Clone___int_int_ hv1) (.cons .tmp .nil))) ⟨(.app (.one rfl) .nil), .nil⟩ (by kernel_rfl) rfl <|
   .cons (S5 (ox3 Store_Undo f30_1)) ⟨.one rfl, .nil⟩ (by kernel_rfl) rfl <|
   .cons (S5 (ox2 t26)) ⟨.one rfl, .one rfl⟩ (by kernel_rfl) rfl <|
   .cons (S5 (ox_call (c_slices_Clone___api_Write_api_Write_ hv2) (.cons .tmp .nil))) ⟨(.app (.one rfl) .nil), .nil⟩ (by kernel_rfl) rfl <|
   .cons (S5 (ox3 Store_Answers f30_2)) ⟨.one rfl, .nil⟩ (by kernel_rfl) rfl <|
   .cons (S5 (ox2 t27)) ⟨.one rfl, .one rfl⟩ (by kernel_rfl) rfl <|
   .cons (S5 (ox_callX (x_slices_Clone___api_Answer_api_Answer_ hv3) [] [(5, 11)] [(5, 11)] [] (.cons .tmp .nil) rfl rfl rfl rfl rfl rfl rfl rfl trivial rfl rfl rfl rfl)) ⟨(.app (.one rfl) .nil), .nil⟩ (by kernel_rfl) rfl <|
   .cons (S5 (ox3 Store_Past f30_3)) ⟨.one rfl, .nil⟩ (by kernel_rfl) rfl <|
   .cons (S5 (ox2 t28)) ⟨.one rfl, .one rfl⟩ (by kernel_rfl) rfl <|
   .cons (S5 (ox_callX (x_slices_Clone___api_Request_api_Request_ hv4) [] [(5, 14)] [(5, 14)] [] (.cons .tmp .nil) rfl rfl rfl rfl rfl rfl rfl rfl trivial rfl rfl rfl rfl)) ⟨(.app (.one rfl) .nil), .nil⟩ (by kernel_rfl) rfl <|
   .cons (S5 (ox_buildH z30 u30 rfl (.cons Store_Cells f30_0 .tmp (.cons Store_Undo f30_1 .tmp (.sl Store_Answers f30_2 .tmp (.sl Store_Past f30_3 .tmp .nil)))))) ⟨(.app (.one rfl) (.app (.one rfl) (.app (.one rfl) (.app (.one rfl) .nil)))), (.cons rfl (.cons rfl .nil))⟩ (by kernel_rfl) rfl <|
   .cons (S4 rfl rfl (ox_store_varH t30 rfl .tmp)) ⟨(.cons rfl (.one rfl)), .one rfl⟩ (by kernel_rfl) rfl <|
   .nil) _ [[], [0], [0, 1], [], [3], [0, 1, 2, 3, 4], [], [6], [0, 1, 2, 3, 4, 5, 6, 7], [], [9], [0, 1, 2, 3, 4, 5, 6, 7, 8, 9, 10], [0, 1, 2, 3, 4, 5, 6, 7, 8, 9, 10, 11], [0, 1, 2, 3, 4, 5, 6, 7, 8, 9, 10, 11, 12]] rfl (by kernel_rfl) (by kernel_rfl) ?_
 refine Q0 (σ' := ⟨[(2, _)], [(2, .var ({ Cells := v1, Undo := v2, Answers := ([] : List Mk.Answer), Past := ([] : List Mk.Request) } : Mk.Store) [(2, 11), (3, 14)]), (11, .arr 105 (v3)), (14, .arr 35 (v4))]⟩) (j1 rfl) (j3 rfl rfl rfl) ?_
 refine Q5 ?_
 obtain rfl := Option.some.inj hφ
 exact Q7 rfl (.cellH t30 rfl rfl rfl .nil) rfl (j2 rfl rfl) trivial
theorem c_store_Write {a0 : Mk.Store} {a1 : Mk.Write} {r : Mk.Store} (hφ : store_Write a0 a1 = some r) : Fn Go.Proofs.Tryz.prog 78 [.val a0, .val a1] (.val r) := by
 unfold store_Write at hφ
 refine Fn.mk' Go.Proofs.Tryz.func78 rfl (by decide) rfl rfl rfl (fun w0 hw0 => ?_)
 refine Q2 (Q1 ?_)
 refine O3 rfl rfl (ox_box (id := 2) .tmp) (.one rfl) .nil rfl (by kernel_rfl) <| O3 rfl rfl (ox_box (id := 3) .tmp) (.one rfl) .nil rfl (by kernel_rfl) <| O3 rfl rfl (ox_alloc (id := 4) z30) .nil .nil rfl (by kernel_rfl) <| O1 <| Q0 (σ' := ⟨[(2, _), (3, _), (4, _)], [(2, .var (a0) []), (3, .var (a1) []), (4, .var zSt [])]⟩) (j3 rfl rfl rfl) (j3 rfl rfl rfl) ?_
 refine Q2 ?_
 obtain ⟨v1, hv1, hφ⟩ := B_some hφ
 refine Q1 ?_
 refine O5 (ox4 t30) (.one rfl) (.one rfl) rfl <| O5 (ox_call (c_store_Own hv1) (.cons .tmp .nil)) (.app (.one rfl) .nil) .nil rfl <| O3 rfl rfl (ox_alloc (id := 5) z30) .nil .nil rfl (by kernel_rfl) <| O2 rfl rfl (ox5 t30 .tmp) (.cons rfl (.one rfl)) (.one rfl) <| O1 <| Q0 (σ' := ⟨[(2, _), (3, _), (4, _), (5, _)], [(2, _), (3, _), (4, _), (5, .var (v1) [])]⟩) (j4 rfl rfl rfl rfl) (j4 rfl rfl rfl rfl) ?_
 refine Q2 ?_
 obtain ⟨v2, hv2, hφ⟩ := B_some hφ
 obtain ⟨hb3, hφ⟩ := G_some hφ
 refine Q8 hMixed (
   .cons (S5 (ox3 Store_Cells f30_0)) ⟨.one rfl, .nil⟩ (by kernel_rfl) rfl <|
   .cons (S5 (ox2 t25)) ⟨.one rfl, .one rfl⟩ (by kernel_rfl) rfl <|
   .cons (S5 (ox4 t52)) ⟨.one rfl, .one rfl⟩ (by kernel_rfl) rfl <|
   .cons (S5 (ox_buildSlice_val s26 z52 (.cons .tmp Parts.nil) rfl (by decide))) ⟨(.app (.one rfl) .nil), .nil⟩ (by kernel_rfl) rfl <|
   .cons (S5 (ox_callX (x_cell_Undo hv2) [] [(1006, 12)] [(1006, 12)] [] (.cons .tmp (.cons .tmp .nil)) rfl rfl rfl rfl rfl rfl rfl rfl trivial rfl rfl rfl rfl)) ⟨(.app (.one rfl) (.app (.one rfl) .nil)), .nil⟩ (by kernel_rfl) rfl <|
   .cons (S5 (ox3 Store_Undo f30_1)) ⟨.one rfl, .nil⟩ (by kernel_rfl) rfl <|
   .cons (S5 (ox2 t26)) ⟨.one rfl, .one rfl⟩ (by kernel_rfl) rfl <|
   .cons (Step.putK [12] rfl rfl (ox_appendV a26 .tmp .tmp hb3.1 hb3.2)) ⟨(.app (.one rfl) (.one rfl)), .one rfl⟩ (by kernel_rfl) rfl <|
   .cons (S5 (ox3 Store_Undo f30_1)) ⟨.one rfl, .nil⟩ (by kernel_rfl) rfl <|
   .cons (S4 rfl rfl (ox_store_fld t26 .tmp)) ⟨(.cons rfl (.one rfl)), .one rfl⟩ (by kernel_rfl) rfl <|
   .nil) _ [[], [0], [], [2], [0, 1, 2, 3], [], [5], [0, 1, 2, 3, 4, 5, 6], [0, 1, 2, 3, 4, 5, 6, 7], [0, 1, 2, 3, 4, 5, 6, 7, 8]] rfl (by kernel_rfl) (by kernel_rfl) ?_
 refine Q0 (σ' := ⟨[(3, _), (4, _), (5, _)], [(3, _), (4, _), (5, .var ({ v1 with Undo := (v2 ++ v1.Undo) }) [])]⟩) (j3 rfl rfl rfl) (j3 rfl rfl rfl) ?_
 refine Q2 ?_
 obtain ⟨v4, hv4, hφ⟩ := B_some hφ
 refine Q1 ?_
 refine O5 (ox3 Store_Cells f30_0) (.one rfl) .nil rfl <| O5 (ox2 t25) (.one rfl) (.one rfl) rfl <| O5 (ox4 t52) (.one rfl) (.one rfl) rfl <| O5 (ox_buildSlice_val s26 z52 (.cons .tmp Parts.nil) rfl (by decide)) (.app (.one rfl) .nil) .nil rfl <| O5 (ox_call (c_cell_Set hv4) (.cons .tmp (.cons .tmp .nil))) (.app (.one rfl) (.app (.one rfl) .nil)) .nil rfl <| O5 (ox3 Store_Cells f30_0) (.one rfl) .nil rfl ?_
 refine O2 rfl rfl (ox_store_fld t25 .tmp) (.cons rfl (.one rfl)) (.one rfl) <| O1 <| Q0 (σ' := ⟨[(4, _), (5, _)], [(4, _), (5, .var ({ ({ v1 with Undo := (v2 ++ v1.Undo) }) with Cells := v4 }) [])]⟩) (j2 rfl rfl) (j2 rfl rfl) ?_
 refine Q2 (Q1 ?_)
 refine O5 (ox4 t30) (.one rfl) (.one rfl) rfl <| O2 rfl rfl (ox5 t30 .tmp) (.cons rfl (.one rfl)) (.one rfl) <| O1 <| Q0 (σ' := ⟨[(4, _)], [(4, .var ({ ({ v1 with Undo := (v2 ++ v1.Undo) }) with Cells := v4 }) [])]⟩) (j1 rfl) (j1 rfl) ?_
 refine Q5 ?_
 obtain rfl := Option.some.inj hφ
 exact Q6 hw0 rfl (.cell t30 rfl rfl .nil) rfl
theorem c_store_Commit {a0 : Mk.Store} {a1 : Mk.Request} {a2 : Mk.Reply} {r : Mk.Store} (hφ : store_Commit a0 a1 a2 = some r) : Fn Go.Proofs.Tryz.prog 80 [.val a0, .val a1, .val a2] (.val r) := by
 unfold store_Commit at hφ
 refine Fn.mk' Go.Proofs.Tryz.func80 rfl (by decide) rfl rfl rfl (fun w0 hw0 => ?_)
 refine Q2 (Q1 ?_)
 refine O3 rfl rfl (ox_box (id := 3) .tmp) (.one rfl) .nil rfl (by kernel_rfl) <| O3 rfl rfl (ox_box (id := 4) .tmp) (.one rfl) .nil rfl (by kernel_rfl) <| O3 rfl rfl (ox_box (id := 5) .tmp) (.one rfl) .nil rfl (by kernel_rfl) <| O3 rfl rfl (ox_alloc (id := 6) z30) .nil .nil rfl (by kernel_rfl) <| O1 <| Q0 (σ' := ⟨[(3, _), (4, _), (5, _), (6, _)], [(3, .var (a0) []), (4, .var (a1) []), (5, .var (a2) []), (6, .var zSt [])]⟩) (j4 rfl rfl rfl rfl) (j4 rfl rfl rfl rfl) ?_
 refine Q2 ?_
 obtain ⟨v1, hv1, hφ⟩ := B_some hφ
 refine Q1 ?_
 refine O5 (ox4 t30) (.one rfl) (.one rfl) rfl <| O3 rfl rfl (ox_callX (x_store_Own hv1) [] [(11, 40122), (14, 40123)] [(11, 40122), (14, 40123)] [] (.cons .tmp .nil) rfl rfl rfl rfl rfl rfl rfl rfl trivial rfl rfl rfl rfl) (.app (.one rfl) .nil) .nil rfl (by kernel_rfl) <| O3 rfl rfl (ox_alloc (id := 7) z30) .nil .nil rfl (by kernel_rfl) <| O2 rfl rfl (ox_store_varH t30 rfl .tmp) (.cons rfl (.one rfl)) (.one rfl) <| O1 <| Q0 (σ' := ⟨[(4, _), (5, _), (6, _), (7, _)], [(4, _), (5, _), (6, _), (7, .var ({ ({ v1 with Answers := ([] : List Mk.Answer) }) with Past := ([] : List Mk.Request) }) [(2, 40122), (3, 40123)]), (40122, .arr 105 (v1.Answers)), (40123, .arr 35 (v1.Past))]⟩) (j4 rfl rfl rfl rfl) (j6 rfl rfl rfl rfl rfl rfl) ?_
 refine Q2 (Q1 ?_)
 refine O5 (ox3 Store_Undo f30_1) (.one rfl) .nil rfl <| O2 rfl rfl (ox_store_over t26 (.nilL (α := Mk.Write)) rfl) (.cons rfl .nil) (.one rfl) <| O1 <| Q0 (σ' := ⟨[(4, _), (5, _), (6, _), (7, _)], [(4, _), (5, _), (6, _), (7, .var ({ ({ ({ v1 with Answers := ([] : List Mk.Answer) }) with Past := ([] : List Mk.Request) }) with Undo := ([] : List Mk.Write) }) [(2, 40122), (3, 40123)]), (40122, _), (40123, _)]⟩) (j4 rfl rfl rfl rfl) (j6 rfl rfl rfl rfl rfl rfl) ?_
 refine Q2 ?_
 obtain ⟨hb2, hφ⟩ := G_some hφ
 refine Q1 ?_
 refine O5 (ox3 Store_Past f30_3) (.one rfl) .nil rfl <| O3 rfl rfl (ox_take_hole (k' := 20015) t28 rfl rfl rfl rfl rfl) (.one rfl) (.cons rfl (.one rfl)) rfl (by kernel_rfl) <| O5 (ox4 t35) (.one rfl) (.one rfl) rfl <| O5 (ox_buildSlice_val s28 z35 (.cons .tmp Parts.nil) rfl (by decide)) (.app (.one rfl) .nil) .nil rfl ?_
 refine Ops.putK [15] rfl rfl (ox_append a28 .tmp .tmp hb2.1 hb2.2) (.app (.one rfl) (.one rfl)) (.one rfl) rfl (by kernel_rfl) ?_
 refine O5 (ox3 Store_Past f30_3) (.one rfl) .nil rfl <| O2 rfl rfl (ox_store_sl t28 .tmp rfl) (.cons rfl (.one rfl)) (.cons rfl (.one rfl)) <| O1 <| Q0 (σ' := ⟨[(4, _), (5, _), (6, _), (7, _)], [(4, _), (5, _), (6, _), (7, _), (40122, _), (40123, .arr 35 (v1.Past ++ ([a1] : List Mk.Request)))]⟩) (j4 rfl rfl rfl rfl) (j6 rfl rfl rfl rfl rfl rfl) ?_
 refine Q2 (Q1 ?_)
 refine O5 (ox3 Request_Client f35_0) (.one rfl) .nil rfl <| O5 (ox2 t3) (.one rfl) (.one rfl) rfl <| O5 (ox3 Request_Token f35_1) (.one rfl) .nil rfl <| O5 (ox2 t3) (.one rfl) (.one rfl) rfl <| O5 (ox4 t38) (.one rfl) (.one rfl) rfl <| O5 (oxa z105 u105 rfl (.cons Answer_Client f105_0 .tmp (.cons Answer_Token f105_1 .tmp (.cons Answer_Reply f105_2 .tmp Bld.nil)))) (.app (.one rfl) (.app (.one rfl) (.app (.one rfl) .nil))) .nil rfl ?_
 refine O3 rfl rfl (ox_alloc (id := 8) z105) .nil .nil rfl (by kernel_rfl) <| O2 rfl rfl (ox5 t105 .tmp) (.cons rfl (.one rfl)) (.one rfl) <| O1 <| Q0 (σ' := ⟨[(4, _), (6, _), (7, _), (8, _)], [(4, _), (6, _), (7, _), (8, .var ({ Client := a1.Client, Token := a1.Token, Reply := a2 } : Mk.Answer) []), (40122, _), (40123, _)]⟩) (j4 rfl rfl rfl rfl) (j6 rfl rfl rfl rfl rfl rfl) ?_
 obtain ⟨k3, hk3, hφ⟩ := J_some hφ
 refine PT.cut (ι := Mk.Store × Mk.Store × Mk.Answer × (List Mk.Answer) × (List Mk.Request)) (fun p => ⟨[(6, .ptr 6 (Lens.id (α := Mk.Store))), (7, .ptr 7 (Lens.id (α := Mk.Store))), (8, .ptr 8 (Lens.id (α := Mk.Answer)))], [(6, .var (p.1) []), (7, .var (p.2.1) [(2, 40122), (3, 40123)]), (8, .var (p.2.2.1) []), (40122, .arr 105 (p.2.2.2.1)), (40123, .arr 35 (p.2.2.2.2))]⟩) (fun p => k3 (p.1) (p.2.1) (p.2.2.1) (p.2.2.2.1) (p.2.2.2.2) = some r) ?_ ?_
 ·skip
  refine Q2 (Q1 ?_)
  refine O5 (ox3 Store_Answers f30_2) (.one rfl) .nil rfl <| O5 (ox_load_hole t27 rfl) (.one rfl) (.cons rfl (.one rfl)) rfl <| O5 (ox_len_arr s27 .tmp) (.one rfl) (.one rfl) rfl <| O5 (ox0 .int) .nil .nil rfl <| O1 <| Q0 (σ' := ⟨[(4, _), (6, _), (7, _), (8, _), (27, _), (28, .val (v1.Answers.length : Int)), (29, .val (0 : Int))], [(4, _), (6, _), (7, _), (8, _), (40122, _), (40123, _)]⟩) (j7 rfl rfl rfl rfl rfl rfl rfl) (j6 rfl rfl rfl rfl rfl rfl) ?_
  refine PT.block ?_
  refine PT.loop (ι := Nat × Int × Int × Mk.Request × Mk.Store × Mk.Store × Mk.Answer × (List Mk.Answer) × (List Mk.Request)) (fun p => ⟨[(4, .ptr 4 (Lens.id (α := Mk.Request))), (6, .ptr 6 (Lens.id (α := Mk.Store))), (7, .ptr 7 (Lens.id (α := Mk.Store))), (8, .ptr 8 (Lens.id (α := Mk.Answer))), (27, .sl 40122), (28, .val (p.2.1)), (29, .val (p.2.2.1))], [(4, .var (p.2.2.2.1) []), (6, .var (p.2.2.2.2.1) []), (7, .var (p.2.2.2.2.2.1) [(2, 40122), (3, 40123)]), (8, .var (p.2.2.2.2.2.2.1) []), (40122, .arr 105 (p.2.2.2.2.2.2.2.1)), (40123, .arr 35 (p.2.2.2.2.2.2.2.2))]⟩) (fun p => store_Commit_l1 k3 p.1 (p.2.1) (p.2.2.1) (p.2.2.2.1) (p.2.2.2.2.1) (p.2.2.2.2.2.1) (p.2.2.2.2.2.2.1) (p.2.2.2.2.2.2.2.1) (p.2.2.2.2.2.2.2.2) = some r) (fun p => p.1) (((v1.Answers.length : Int) - (0 : Int)).toNat + 1, (v1.Answers.length : Int), (0 : Int), a1, zSt, { ({ ({ v1 with Answers := ([] : List Mk.Answer) }) with Past := ([] : List Mk.Request) }) with Undo := ([] : List Mk.Write) }, ({ Client := a1.Client, Token := a1.Token, Reply := a2 } : Mk.Answer), v1.Answers, (v1.Past ++ ([a1] : List Mk.Request))) hφ (j7 rfl rfl rfl rfl rfl rfl rfl) (j6 rfl rfl rfl rfl rfl rfl) ?_
  rintro ⟨m4, x28_m4, x29_m4, y4_m4, y6_m4, y7_m4, y8_m4, y40122_m4, y40123_m4⟩ (hφ : store_Commit_l1 k3 m4 x28_m4 x29_m4 y4_m4 y6_m4 y7_m4 y8_m4 y40122_m4 y40123_m4 = some r)
  obtain _ | m4 := m4
  ·exact (none_no hφ).elim
  rw [store_Commit_l1.eq_2] at hφ
  refine Q0 (σ' := ⟨[(4, .ptr 4 (Lens.id (α := Mk.Request))), (6, .ptr 6 (Lens.id (α := Mk.Store))), (7, .ptr 7 (Lens.id (α := Mk.Store))), (8, .ptr 8 (Lens.id (α := Mk.Answer))), (27, .sl 40122), (28, .val (x28_m4)), (29, .val (x29_m4))], [(4, .var (y4_m4) []), (6, .var (y6_m4) []), (7, .var (y7_m4) [(2, 40122), (3, 40123)]), (8, .var (y8_m4) []), (40122, .arr 105 (y40122_m4)), (40123, .arr 35 (y40123_m4))]⟩) (j7 rfl rfl rfl rfl rfl rfl rfl) (j6 rfl rfl rfl rfl rfl rfl) ?_
  refine Q2 (Q1 ?_)
  refine O5 (ox_lss .tmp .tmp) (.app (.one rfl) (.one rfl)) .nil rfl <| O1 <| Q0 (σ' := ⟨[(4, _), (6, _), (7, _), (8, _), (27, _), (28, _), (29, _), (30, .val (decide (x29_m4 < x28_m4)))], [(4, _), (6, _), (7, _), (8, _), (40122, _), (40123, _)]⟩) (j8 rfl rfl rfl rfl rfl rfl rfl rfl) (j6 rfl rfl rfl rfl rfl rfl) ?_
  refine Q2 ?_
  refine Q3 _ rfl (fun hc5 => ?_) (fun hc5 => ?_)
  ·replace hφ := if_then hφ hc5
   refine Q0 (σ' := ⟨[(4, _), (6, _), (7, _), (8, _), (27, _), (28, _), (29, _)], [(4, _), (6, _), (7, _), (8, _), (40122, _), (40123, _)]⟩) (j7 rfl rfl rfl rfl rfl rfl rfl) (j6 rfl rfl rfl rfl rfl rfl) ?_
   refine Q4 ?_
   refine Q2 ?_
   refine PT.block ?_
   refine Q2 ?_
   obtain ⟨hb6, hφ⟩ := G_some hφ
   refine Q1 ?_
   refine O5 (ox0 .tmp) (.one rfl) .nil rfl <| O5 (ox_index_arr s27 .tmp .tmp hb6.1 hb6.2) (.app (.one rfl) (.one rfl)) (.one rfl) rfl <| O5 (ox_load_ax t105 hb6) (.one rfl) (.one rfl) rfl <| O3 rfl rfl (ox_alloc (id := 10) z105) .nil .nil rfl (by kernel_rfl) <| O5 (ox1 .tmp) (.one rfl) .nil rfl <| O2 rfl rfl (ox5 t105 .tmp) (.cons rfl (.one rfl)) (.one rfl) <| O1 <| Q0 (σ' := ⟨[(4, _), (6, _), (7, _), (8, _), (9, .val (x29_m4)), (10, _), (27, _), (28, _), (29, _)], [(4, _), (6, _), (7, _), (8, _), (10, .var (ix y40122_m4 x29_m4) []), (40122, _), (40123, _)]⟩) (j9 rfl rfl rfl rfl rfl rfl rfl rfl rfl) (j7 rfl rfl rfl rfl rfl rfl rfl) ?_
   refine Q2 (Q1 ?_)
   refine O5 (ox3 Answer_Client f105_0) (.one rfl) .nil rfl <| O5 (ox2 t3) (.one rfl) (.one rfl) rfl <| O5 (ox3 Request_Client f35_0) (.one rfl) .nil rfl <| O5 (ox2 t3) (.one rfl) (.one rfl) rfl <| O5 (ox_eql .tmp .tmp) (.app (.one rfl) (.one rfl)) .nil rfl <| O1 <| Q0 (σ' := ⟨[(4, _), (6, _), (7, _), (8, _), (9, _), (27, _), (28, _), (29, _), (38, .val (decide ((ix y40122_m4 x29_m4).Client = y4_m4.Client)))], [(4, _), (6, _), (7, _), (8, _), (40122, _), (40123, _)]⟩) (j9 rfl rfl rfl rfl rfl rfl rfl rfl rfl) (j6 rfl rfl rfl rfl rfl rfl) ?_
   refine Q3 _ rfl (fun hc7 => ?_) (fun hc7 => ?_)
   ·replace hφ := if_then hφ hc7
    refine Q0 (σ' := ⟨[(6, _), (7, _), (8, _), (9, _)], [(6, _), (7, _), (8, _), (40122, _), (40123, _)]⟩) (j4 rfl rfl rfl rfl) (j5 rfl rfl rfl rfl rfl) ?_
    refine Q2 ?_
    obtain ⟨hb8, hφ⟩ := G_some hφ
    refine Q1 ?_
    refine O5 (ox3 Store_Answers f30_2) (.one rfl) .nil rfl <| O5 (ox_load_hole t27 rfl) (.one rfl) (.cons rfl (.one rfl)) rfl <| O5 (ox0 .tmp) (.one rfl) .nil rfl <| O5 (ox4 t105) (.one rfl) (.one rfl) rfl <| O5 (ox_index_arr s27 .tmp .tmp hb8.1 hb8.2) (.app (.one rfl) (.one rfl)) (.one rfl) rfl <| O2 rfl rfl (ox_store_ax t105 .tmp hb8) (.cons rfl (.one rfl)) (.one rfl) <| O1 <| Q0 (σ' := ⟨[(6, _), (7, _)], [(6, _), (7, _), (40122, .arr 105 (up y40122_m4 x29_m4 y8_m4)), (40123, _)]⟩) (j2 rfl rfl) (j4 rfl rfl rfl rfl) ?_
    refine Q2 ?_
    refine PT.freezeHole 7 40122 [] Store_Answers rfl rfl rfl rfl trivial ?_
    refine PT.freezeHole 7 40123 [] Store_Past rfl rfl rfl rfl trivial ?_
    refine Q1 ?_
    refine O5 (ox4 t30) (.one rfl) (.one rfl) rfl <| O2 rfl rfl (ox5 t30 .tmp) (.cons rfl (.one rfl)) (.one rfl) <| O1 <| Q0 (σ' := ⟨[(6, _)], [(6, .var ({ ({ y7_m4 with Answers := (up y40122_m4 x29_m4 y8_m4) }) with Past := y40123_m4 }) [])]⟩) (j1 rfl) (j1 rfl) ?_
    refine Q5 ?_
    obtain rfl := Option.some.inj hφ
    exact Q6 hw0 rfl (.cell t30 rfl rfl .nil) rfl
   ·replace hφ := if_else hφ hc7
    refine Q0 (σ' := ⟨[(4, _), (6, _), (7, _), (8, _), (27, _), (28, _), (29, _)], [(4, _), (6, _), (7, _), (8, _), (40122, _), (40123, _)]⟩) (j7 rfl rfl rfl rfl rfl rfl rfl) (j6 rfl rfl rfl rfl rfl rfl) ?_
    refine Q4 ?_
    obtain ⟨hb9, hφ⟩ := G_some hφ
    refine Q1 ?_
    refine O5 (ox_add .tmp .int hb9) (.app (.one rfl) .nil) .nil rfl <| O5 (ox0 .tmp) (.one rfl) .nil rfl <| O1 <| Q0 (σ' := ⟨[(4, _), (6, _), (7, _), (8, _), (27, _), (28, _), (29, .val (x29_m4 + (1 : Int)))], [(4, _), (6, _), (7, _), (8, _), (40122, _), (40123, _)]⟩) (j7 rfl rfl rfl rfl rfl rfl rfl) (j6 rfl rfl rfl rfl rfl rfl) ?_
    exact PT.next (m4, x28_m4, (x29_m4 + (1 : Int)), y4_m4, y6_m4, y7_m4, y8_m4, y40122_m4, y40123_m4) hφ (Nat.lt_succ_self _) (j7 rfl rfl rfl rfl rfl rfl rfl) (j6 rfl rfl rfl rfl rfl rfl)
  ·replace hφ := if_else hφ hc5
   refine Q0 (σ' := ⟨[(6, _), (7, _), (8, _)], [(6, _), (7, _), (8, _), (40122, _), (40123, _)]⟩) (j3 rfl rfl rfl) (j5 rfl rfl rfl rfl rfl) ?_
   refine PT.exit ?_
   exact PT.meet (y6_m4, y7_m4, y8_m4, y40122_m4, y40123_m4) hφ (j3 rfl rfl rfl) (j5 rfl rfl rfl rfl rfl)
 ·rintro ⟨y6_k3, y7_k3, y8_k3, y40122_k3, y40123_k3⟩ hφ
  subst hk3
  refine Q0 (σ' := ⟨[(6, .ptr 6 (Lens.id (α := Mk.Store))), (7, .ptr 7 (Lens.id (α := Mk.Store))), (8, .ptr 8 (Lens.id (α := Mk.Answer)))], [(6, .var (y6_k3) []), (7, .var (y7_k3) [(2, 40122), (3, 40123)]), (8, .var (y8_k3) []), (40122, .arr 105 (y40122_k3)), (40123, .arr 35 (y40123_k3))]⟩) (j3 rfl rfl rfl) (j5 rfl rfl rfl rfl rfl) ?_
  refine Q2 ?_
  obtain ⟨hb10, hφ⟩ := G_some hφ
  refine Q1 ?_
  refine O5 (ox3 Store_Answers f30_2) (.one rfl) .nil rfl <| O3 rfl rfl (ox_take_hole (k' := 20047) t27 rfl rfl rfl rfl rfl) (.one rfl) (.cons rfl (.one rfl)) rfl (by kernel_rfl) <| O5 (ox4 t105) (.one rfl) (.one rfl) rfl <| O5 (ox_buildSlice_val s27 z105 (.cons .tmp Parts.nil) rfl (by decide)) (.app (.one rfl) .nil) .nil rfl ?_
  refine Ops.putK [47] rfl rfl (ox_append a27 .tmp .tmp hb10.1 hb10.2) (.app (.one rfl) (.one rfl)) (.one rfl) rfl (by kernel_rfl) ?_
  refine O5 (ox3 Store_Answers f30_2) (.one rfl) .nil rfl <| O2 rfl rfl (ox_store_sl t27 .tmp rfl) (.cons rfl (.one rfl)) (.cons rfl (.one rfl)) <| O1 <| Q0 (σ' := ⟨[(6, _), (7, _)], [(6, _), (7, .var (y7_k3) [(3, 40123), (2, 40122)]), (40122, .arr 105 (y40122_k3 ++ ([y8_k3] : List Mk.Answer))), (40123, _)]⟩) (j2 rfl rfl) (j4 rfl rfl rfl rfl) ?_
  refine Q2 ?_
  refine PT.freezeHole 7 40123 [] Store_Past rfl rfl rfl rfl trivial ?_
  refine PT.freezeHole 7 40122 [] Store_Answers rfl rfl rfl rfl trivial ?_
  refine Q1 ?_
  refine O5 (ox4 t30) (.one rfl) (.one rfl) rfl <| O2 rfl rfl (ox5 t30 .tmp) (.cons rfl (.one rfl)) (.one rfl) <| O1 <| Q0 (σ' := ⟨[(6, _)], [(6, .var ({ ({ y7_k3 with Past := y40123_k3 }) with Answers := (y40122_k3 ++ ([y8_k3] : List Mk.Answer)) }) [])]⟩) (j1 rfl) (j1 rfl) ?_
  refine Q5 ?_
  obtain rfl := Option.some.inj hφ
  exact Q6 hw0 rfl (.cell t30 rfl rfl .nil) rfl
theorem c_store_Back {a0 : Mk.Store} {r : Mk.Store} (hφ : store_Back a0 = some r) : Fn Go.Proofs.Tryz.prog 16 [.val a0] (.val r) := by
 unfold store_Back at hφ
 refine Fn.mk' Go.Proofs.Tryz.func16 rfl (by decide) rfl rfl rfl (fun w0 hw0 => ?_)
 refine Q2 (Q1 ?_)
 refine O3 rfl rfl (ox_box (id := 1) .tmp) (.one rfl) .nil rfl (by kernel_rfl) <| O3 rfl rfl (ox_alloc (id := 2) z30) .nil .nil rfl (by kernel_rfl) <| O1 <| Q0 (σ' := ⟨[(1, _), (2, _)], [(1, .var (a0) []), (2, .var zSt [])]⟩) (j2 rfl rfl) (j2 rfl rfl) ?_
 refine Q2 ?_
 obtain ⟨v1, hv1, hφ⟩ := B_some hφ
 refine Q1 ?_
 refine O5 (ox4 t30) (.one rfl) (.one rfl) rfl <| O5 (ox_call (c_store_Own hv1) (.cons .tmp .nil)) (.app (.one rfl) .nil) .nil rfl <| O3 rfl rfl (ox_alloc (id := 3) z30) .nil .nil rfl (by kernel_rfl) <| O2 rfl rfl (ox5 t30 .tmp) (.cons rfl (.one rfl)) (.one rfl) <| O1 <| Q0 (σ' := ⟨[(2, _), (3, _)], [(2, _), (3, .var (v1) [])]⟩) (j2 rfl rfl) (j2 rfl rfl) ?_
 refine Q2 ?_
 obtain ⟨v2, hv2, hφ⟩ := B_some hφ
 refine Q1 ?_
 refine O5 (ox3 Store_Cells f30_0) (.one rfl) .nil rfl <| O5 (ox2 t25) (.one rfl) (.one rfl) rfl <| O5 (ox3 Store_Undo f30_1) (.one rfl) .nil rfl <| O5 (ox2 t26) (.one rfl) (.one rfl) rfl <| O5 (ox_call (c_cell_Set hv2) (.cons .tmp (.cons .tmp .nil))) (.app (.one rfl) (.app (.one rfl) .nil)) .nil rfl <| O5 (ox3 Store_Cells f30_0) (.one rfl) .nil rfl ?_
 refine O2 rfl rfl (ox_store_fld t25 .tmp) (.cons rfl (.one rfl)) (.one rfl) <| O1 <| Q0 (σ' := ⟨[(2, _), (3, _)], [(2, _), (3, .var ({ v1 with Cells := v2 }) [])]⟩) (j2 rfl rfl) (j2 rfl rfl) ?_
 refine Q2 (Q1 ?_)
 refine O5 (ox3 Store_Undo f30_1) (.one rfl) .nil rfl <| O2 rfl rfl (ox_store_fld t26 (.nilL (α := Mk.Write))) (.cons rfl .nil) (.one rfl) <| O1 <| Q0 (σ' := ⟨[(2, _), (3, _)], [(2, _), (3, .var ({ ({ v1 with Cells := v2 }) with Undo := ([] : List Mk.Write) }) [])]⟩) (j2 rfl rfl) (j2 rfl rfl) ?_
 refine Q2 (Q1 ?_)
 refine O5 (ox4 t30) (.one rfl) (.one rfl) rfl <| O2 rfl rfl (ox5 t30 .tmp) (.cons rfl (.one rfl)) (.one rfl) <| O1 <| Q0 (σ' := ⟨[(2, _)], [(2, .var ({ ({ v1 with Cells := v2 }) with Undo := ([] : List Mk.Write) }) [])]⟩) (j1 rfl) (j1 rfl) ?_
 refine Q5 ?_
 obtain rfl := Option.some.inj hφ
 exact Q6 hw0 rfl (.cell t30 rfl rfl .nil) rfl
end Go.Gx
end
section
namespace Go.Gx
open Go.RowKit
open Sp (RP)
section
variable {P : Program}
theorem OpX.reads {o : Oper} {rs rs' : List (Nat × Desc)} {ro ro' : List (Nat × ODesc)} {d : Desc} {wo : List (Nat × ODesc)} {fr : List Nat} (h : OpX P o rs ro d wo fr)
  (hi : ∀ (m : M) (w0 : B0) (w : World) (a : Act), (∀ p ∈ rs', p.2.holds m (a.tmps.getD p.1 undef)) → (∀ p ∈ ro', p.2.holds m w0.heap.size w p.1) → (∀ p ∈ rs, p.2.holds m (a.tmps.getD p.1 undef)) ∧ (∀ p ∈ ro, p.2.holds m w0.heap.size w p.1)) :
  OpX P o rs' ro' d wo fr := fun m w0 w a hw hs ho => h m w0 w a hw (hi m w0 w a hs ho).1 (hi m w0 w a hs ho).2
theorem rp_ptr {m : M} {b id : Nat} {x : RP b} {v : Value} (l : Lens Mk.Call Int) (ho : x.o = l.off) (h4 : x.o < 4) (hb : m.blk id = b) (h : Desc.holds m (.val x) v) : Desc.holds m (.ptr id l) v := by
 have := holds_rp h h4
 show v = .pointer (some ⟨m.blk id, l.off, none⟩)
 rw [hb, ← ho]; exact this
theorem ox_load_rp {T s id j b : Nat} {sv : Value} {x : RP b} {c : Mk.Call} {dst ty pos af g} (h : Ty P T Int) (h4 : x.o < 4) :
  OpX P ⟨dst, .load T (.tmp s), ty, pos, af, g⟩ [(s, .val x)] [(id, .var c []), (j, .pin id b sv)] (.val (Sp.cget c x.o)) [] [] := by
 have key : ∀ l : Lens Mk.Call Int, x.o = l.off → OpX P ⟨dst, .load T (.tmp s), ty, pos, af, g⟩ [(s, .val x)] [(id, .var c []), (j, .pin id b sv)] (.val (l.get c)) [] [] := fun l ho =>
  OpX.reads (ox2 (l := l) h) fun m w0 w a hs hob => ⟨fun p hp => by
   obtain rfl := List.mem_singleton.1 hp
   have hpin := hob (j, .pin id b sv) (by simp)
   exact rp_ptr l ho h4 hpin.1 (hs (s, .val x) (by simp)), fun p hp => by
   obtain rfl := List.mem_singleton.1 hp
   exact hob (id, .var c []) (by simp)⟩
 obtain ⟨o⟩ := x
 match o, h4 with
 | 0, _ => exact key Call_Kind rfl
 | 1, _ => exact key Call_Name rfl
 | 2, _ => exact key Call_Other rfl
 | 3, _ => exact key Call_N rfl
theorem ox_store_rp {T s id j b : Nat} {sv : Value} {x : RP b} {c : Mk.Call} {y : Operand} {n : Int} {ly : List (Nat × Desc)} {ty pos af g} (h : Ty P T Int) (hy : OpdOk y (.val n) ly) (h4 : x.o < 4) :
  OpX P ⟨none, .store T (.tmp s) y, ty, pos, af, g⟩ ((s, .val x) :: ly) [(id, .var c []), (j, .pin id b sv)] .any [(id, .var (Sp.cset c x.o n) [])] [] := by
 have key : ∀ l : Lens Mk.Call Int, x.o = l.off → OpX P ⟨none, .store T (.tmp s) y, ty, pos, af, g⟩ ((s, .val x) :: ly) [(id, .var c []), (j, .pin id b sv)] .any [(id, .var (l.set c n) [])] [] := fun l ho =>
  OpX.reads (ox_store_fld (l := l) h hy) fun m w0 w a hs hob => ⟨fun p hp => by
   have hpin := hob (j, .pin id b sv) (by simp)
   rcases List.mem_cons.1 hp with rfl | hp
   ·exact rp_ptr l ho h4 hpin.1 (hs (s, .val x) (by simp))
   ·exact hs p (by simp [hp]), fun p hp => by
   obtain rfl := List.mem_singleton.1 hp
   exact hob (id, .var c []) (by simp)⟩
 obtain ⟨o⟩ := x
 match o, h4 with
 | 0, _ => exact key Call_Kind rfl
 | 1, _ => exact key Call_Name rfl
 | 2, _ => exact key Call_Other rfl
 | 3, _ => exact key Call_N rfl
theorem ox_callRP {f s id j b : Nat} {sv : Value} {c : Mk.Call} {l : List Nat} {ats : Array TypeId} {dst ty pos af g} (hF : ∀ b, FnG P (Gc b 0 c.Kind) f [.val (⟨0⟩ : RP b)] (.val (l.map RP.mk : List (RP b)))) :
  OpX P ⟨dst, .call ⟨.value (.func f), #[.tmp s], ats⟩, ty, pos, af, g⟩ [(s, .ptr id (Lens.id (α := Mk.Call)))] [(id, .var c []), (j, .pin id b sv)] (.val (l.map RP.mk : List (RP b))) [] [] := by
 intro m w0 w a hw hs ho K Q hk
 have hpin := ho (j, .pin id b sv) (by simp)
 have hp : a.eval (.tmp s) = .pointer (some ⟨m.blk id, 0, none⟩) := hs (s, .ptr id (Lens.id (α := Mk.Call))) (by simp)
 rw [hpin.1] at hp
 obtain ⟨vs, h1, h2⟩ := var_range (ho (id, .var c []) (by simp)) Call_Kind rfl
 obtain ⟨h1, h1'⟩ := (show vs = [.int .i64 c.Kind] ∧ I64 c.Kind from h1)
 subst h1
 have hG : Gc b 0 c.Kind w := ⟨by have := h2 0 _ rfl; rw [hpin.1] at this; exact this, h1'⟩
 have h3 : Desc.holdsL (base m.ph) [.val (⟨0⟩ : RP b)] [a.eval (.tmp s)] := ⟨_, [], rfl, by rw [hp]; exact rp_holds _ (by decide), rfl⟩
 have he := run_callK (P := P) (xs := [.tmp s]) (ats := ats) (dst := dst) (ty := ty) (pos := pos) (af := af) (g := g) (hF b).callee a w
 obtain ⟨o, hoo⟩ : ∃ o : Oper, o = ⟨dst, .call ⟨.value (.func f), #[.tmp s], ats⟩, ty, pos, af, g⟩ := ⟨_, rfl⟩
 rw [← hoo] at hk ⊢
 have he' : (execOp a.eval o).run P w = .ok (.enter f [a.eval (.tmp s)].toArray) w := by rw [hoo]; exact he
 show o.upon P a K Q _
 rw [he']
 refine ((hF b).run m.ph w _ hw.on hG h3).mono fun e w' he => ?_
 obtain ⟨v, rfl, hb, hr⟩ := he
 exact hk v w' (m.more w w') (hw.more hb) (Chg.more hw hb _) (Desc.holds_clean (m := base (extPH m.ph w w')) (m' := m.more w w') (PH.le_refl _) _ v (hF b).cleanR hr) (fun id e hu => by cases hu)
theorem ox_lenRP {T E sz b : Nat} {x : Operand} {lx : List (Nat × Desc)} {l : List Nat} {dst ty pos af g} (h : slB P T E sz = true) (hx : OpdOk x (.val (l.map RP.mk : List (RP b))) lx) :
  OpX P ⟨dst, .call ⟨.builtin .len, #[x], #[T]⟩, ty, pos, af, g⟩ lx [] (.val (l.length : Int)) [] [] := by
 have := ox_len (dst := dst) (ty := ty) (pos := pos) (af := af) (g := g) h hx
 rwa [List.length_map] at this
theorem ox_ixRP {T E b : Nat} {x ixo : Operand} {lx li : List (Nat × Desc)} {l : List Nat} {i : Int} {dst ty pos af g} (h : slB P T E (GoTy.sz (RP b)) = true)
  (hx : OpdOk x (.val (l.map RP.mk : List (RP b))) lx) (hi : OpdOk ixo (.val i) li) (h0 : 0 ≤ i) (h1 : i < l.length) :
  OpX P ⟨dst, .indexAddr T x ixo, ty, pos, af, g⟩ (lx ++ li) [] (.elem (⟨Sp.ix l i⟩ : RP b)) [] [] := by
 have := ox_ix (dst := dst) (ty := ty) (pos := pos) (af := af) (g := g) h hx hi h0 (by rw [List.length_map]; exact h1)
 have e : Sp.ix (l.map RP.mk : List (RP b)) i = ⟨Sp.ix l i⟩ := by
  have hk : i.toNat < l.length := by omega
  unfold Sp.ix
  simp [List.getD_eq_getElem?_getD, List.getElem?_eq_getElem hk]
 rwa [e] at this
end
end Go.Gx
end
section
namespace Go.Proofs
open Go.Shelf
def Tryz.laysM171_ren : Go.Shelf.Ren := ⟨fun | 171 => 28 | 243 => 46 | 246 => 62 | 283 => 85 | 284 => 86 | 285 => 87 | 286 => 88 | 129 => 104 | 317 => 103 | 318 => 105 | 319 => 106 | 320 => 107 | 337 => 115 | 338 => 116 | n => n, fun | 3 => 3 | 9 => 9 | 2 => 2 | 4 => 4 | 171 => 146 | 0 => 0 | 53 => 147 | 37 => 112 | 5 => 5 | 173 => 150 | 212 => 174 | 51 => 152 | 20 => 20 | 213 => 175 | 46 => 128 | 232 => 191 | 233 => 192 | n => n, fun | 17 => 3 | 18 => 6 | 19 => 7 | n => n⟩
theorem Tryz.laysM171 : Go.Proofs.LaysM.n171 Tryz.prog Tryz.laysM171_ren := {
  mixed := by kernel_rfl
  f129 := Tryz.func104.trans (congrArg some (by kernel_rfl))
  f171 := Tryz.func28.trans (congrArg some (by kernel_rfl))
  f243 := Tryz.func46.trans (congrArg some (by kernel_rfl))
  f246 := Tryz.func62.trans (congrArg some (by kernel_rfl))
  f283 := Tryz.func85.trans (congrArg some (by kernel_rfl))
  f284 := Tryz.func86.trans (congrArg some (by kernel_rfl))
  f285 := Tryz.func87.trans (congrArg some (by kernel_rfl))
  f286 := Tryz.func88.trans (congrArg some (by kernel_rfl))
  f317 := Tryz.func103.trans (congrArg some (by kernel_rfl))
  f318 := Tryz.func105.trans (congrArg some (by kernel_rfl))
  f319 := Tryz.func106.trans (congrArg some (by kernel_rfl))
  f320 := Tryz.func107.trans (congrArg some (by kernel_rfl))
  f337 := Tryz.func115.trans (congrArg some (by kernel_rfl))
  f338 := Tryz.func116.trans (congrArg some (by kernel_rfl))
  t0 := Tryz.underlying0
  a0 := Tryz.isAgg0
  z0 := Tryz.sizeOf0
  v0 := Tryz.zeroValue0
  t2 := Tryz.underlying2
  a2 := Tryz.isAgg2
  z2 := Tryz.sizeOf2
  v2 := Tryz.zeroValue2
  t3 := Tryz.underlying3
  a3 := Tryz.isAgg3
  z3 := Tryz.sizeOf3
  v3 := Tryz.zeroValue3
  t4 := Tryz.underlying4
  a4 := Tryz.isAgg4
  z4 := Tryz.sizeOf4
  v4 := Tryz.zeroValue4
  t5 := Tryz.underlying5
  a5 := Tryz.isAgg5
  z5 := Tryz.sizeOf5
  v5 := Tryz.zeroValue5
  t9 := Tryz.underlying9
  a9 := Tryz.isAgg9
  z9 := Tryz.sizeOf9
  v9 := Tryz.zeroValue9
  t20 := Tryz.underlying20
  a20 := Tryz.isAgg20
  z20 := Tryz.sizeOf20
  v20 := Tryz.zeroValue20
  t37 := Tryz.underlying112
  a37 := Tryz.isAgg112
  z37 := Tryz.sizeOf112
  v37 := Tryz.zeroValue112
  t46 := Tryz.underlying128
  a46 := Tryz.isAgg128
  z46 := Tryz.sizeOf128
  v46 := Tryz.zeroValue128
  t51 := Tryz.underlying152
  a51 := Tryz.isAgg152
  z51 := Tryz.sizeOf152
  v51 := Tryz.zeroValue152
  t53 := Tryz.underlying147
  a53 := Tryz.isAgg147
  z53 := Tryz.sizeOf147
  v53 := Tryz.zeroValue147
  t171 := Tryz.underlying146
  a171 := Tryz.isAgg146
  z171 := Tryz.sizeOf146
  v171 := Tryz.zeroValue146
  t173 := Tryz.underlying150
  a173 := Tryz.isAgg150
  z173 := Tryz.sizeOf150
  v173 := Tryz.zeroValue150
  t212 := Tryz.underlying174
  a212 := Tryz.isAgg174
  z212 := Tryz.sizeOf174
  v212 := Tryz.zeroValue174
  t213 := Tryz.underlying175
  a213 := Tryz.isAgg175
  z213 := Tryz.sizeOf175
  t232 := Tryz.underlying191
  a232 := Tryz.isAgg191
  z232 := Tryz.sizeOf191
  v232 := Tryz.zeroValue191
  t233 := Tryz.underlying192
  a233 := Tryz.isAgg192
  z233 := Tryz.sizeOf192
  v233 := Tryz.zeroValue192
  g17 := by kernel_rfl
  g18 := by kernel_rfl
  g19 := by kernel_rfl
  i0 := by kernel_rfl
  i2 := by kernel_rfl
  i3 := by kernel_rfl
  i4 := by kernel_rfl
  i5 := by kernel_rfl
  i9 := by kernel_rfl
  i20 := by kernel_rfl
  i37 := by kernel_rfl
  i46 := by kernel_rfl
  i51 := by kernel_rfl
  i53 := by kernel_rfl
  i171 := by kernel_rfl
  i173 := by kernel_rfl
  i212 := by kernel_rfl
  i232 := by kernel_rfl
  i233 := by kernel_rfl
  m17 := by kernel_rfl
  m18 := by kernel_rfl
  m19 := by kernel_rfl }
def Tryz.laysC172_ren : Go.Shelf.Ren := ⟨fun | 172 => 31 | 244 => 49 | 245 => 50 | 247 => 70 | 279 => 71 | 280 => 72 | 281 => 73 | 282 => 74 | 287 => 94 | 316 => 95 | 171 => 28 | 205 => 96 | 321 => 109 | 322 => 110 | 243 => 46 | 246 => 62 | 283 => 85 | 284 => 86 | 285 => 87 | 286 => 88 | 129 => 104 | 317 => 103 | 318 => 105 | 319 => 106 | 320 => 107 | 337 => 115 | 338 => 116 | n => n, fun | 9 => 9 | 3 => 3 | 75 => 89 | 76 => 90 | 4 => 4 | 5 => 5 | 167 => 130 | 37 => 112 | 0 => 0 | 85 => 131 | 2 => 2 | 168 => 133 | 53 => 147 | 175 => 158 | 46 => 128 | 210 => 162 | 127 => 179 | 145 => 182 | 143 => 180 | 21 => 21 | 171 => 146 | 173 => 150 | 212 => 174 | 51 => 152 | 20 => 20 | 213 => 175 | 232 => 191 | 233 => 192 | 80 => 193 | n => n, fun | 15 => 1 | 16 => 2 | 17 => 3 | 18 => 6 | 19 => 7 | n => n⟩
theorem Tryz.laysC172 : Go.Proofs.LaysC.n172 Tryz.prog Tryz.laysC172_ren := {
  mixed := by kernel_rfl
  f129 := Tryz.func104.trans (congrArg some (by kernel_rfl))
  f171 := Tryz.func28.trans (congrArg some (by kernel_rfl))
  f172 := Tryz.func31.trans (congrArg some (by kernel_rfl))
  f205 := Tryz.func96.trans (congrArg some (by kernel_rfl))
  f243 := Tryz.func46.trans (congrArg some (by kernel_rfl))
  f244 := Tryz.func49.trans (congrArg some (by kernel_rfl))
  f245 := Tryz.func50.trans (congrArg some (by kernel_rfl))
  f246 := Tryz.func62.trans (congrArg some (by kernel_rfl))
  f247 := Tryz.func70.trans (congrArg some (by kernel_rfl))
  f279 := Tryz.func71.trans (congrArg some (by kernel_rfl))
  f280 := Tryz.func72.trans (congrArg some (by kernel_rfl))
  f281 := Tryz.func73.trans (congrArg some (by kernel_rfl))
  f282 := Tryz.func74.trans (congrArg some (by kernel_rfl))
  f283 := Tryz.func85.trans (congrArg some (by kernel_rfl))
  f284 := Tryz.func86.trans (congrArg some (by kernel_rfl))
  f285 := Tryz.func87.trans (congrArg some (by kernel_rfl))
  f286 := Tryz.func88.trans (congrArg some (by kernel_rfl))
  f287 := Tryz.func94.trans (congrArg some (by kernel_rfl))
  f316 := Tryz.func95.trans (congrArg some (by kernel_rfl))
  f317 := Tryz.func103.trans (congrArg some (by kernel_rfl))
  f318 := Tryz.func105.trans (congrArg some (by kernel_rfl))
  f319 := Tryz.func106.trans (congrArg some (by kernel_rfl))
  f320 := Tryz.func107.trans (congrArg some (by kernel_rfl))
  f321 := Tryz.func109.trans (congrArg some (by kernel_rfl))
  f322 := Tryz.func110.trans (congrArg some (by kernel_rfl))
  f337 := Tryz.func115.trans (congrArg some (by kernel_rfl))
  f338 := Tryz.func116.trans (congrArg some (by kernel_rfl))
  t0 := Tryz.underlying0
  a0 := Tryz.isAgg0
  z0 := Tryz.sizeOf0
  v0 := Tryz.zeroValue0
  t2 := Tryz.underlying2
  a2 := Tryz.isAgg2
  z2 := Tryz.sizeOf2
  v2 := Tryz.zeroValue2
  t3 := Tryz.underlying3
  a3 := Tryz.isAgg3
  z3 := Tryz.sizeOf3
  v3 := Tryz.zeroValue3
  t4 := Tryz.underlying4
  a4 := Tryz.isAgg4
  z4 := Tryz.sizeOf4
  v4 := Tryz.zeroValue4
  t5 := Tryz.underlying5
  a5 := Tryz.isAgg5
  z5 := Tryz.sizeOf5
  v5 := Tryz.zeroValue5
  t9 := Tryz.underlying9
  a9 := Tryz.isAgg9
  z9 := Tryz.sizeOf9
  v9 := Tryz.zeroValue9
  t20 := Tryz.underlying20
  a20 := Tryz.isAgg20
  z20 := Tryz.sizeOf20
  v20 := Tryz.zeroValue20
  t21 := Tryz.underlying21
  a21 := Tryz.isAgg21
  z21 := Tryz.sizeOf21
  v21 := Tryz.zeroValue21
  t37 := Tryz.underlying112
  a37 := Tryz.isAgg112
  z37 := Tryz.sizeOf112
  v37 := Tryz.zeroValue112
  t46 := Tryz.underlying128
  a46 := Tryz.isAgg128
  z46 := Tryz.sizeOf128
  v46 := Tryz.zeroValue128
  t51 := Tryz.underlying152
  a51 := Tryz.isAgg152
  z51 := Tryz.sizeOf152
  v51 := Tryz.zeroValue152
  t53 := Tryz.underlying147
  a53 := Tryz.isAgg147
  z53 := Tryz.sizeOf147
  v53 := Tryz.zeroValue147
  t75 := Tryz.underlying89
  a75 := Tryz.isAgg89
  z75 := Tryz.sizeOf89
  v75 := Tryz.zeroValue89
  t76 := Tryz.underlying90
  a76 := Tryz.isAgg90
  z76 := Tryz.sizeOf90
  v76 := Tryz.zeroValue90
  t85 := Tryz.underlying131
  a85 := Tryz.isAgg131
  z85 := Tryz.sizeOf131
  v85 := Tryz.zeroValue131
  t127 := Tryz.underlying179
  a127 := Tryz.isAgg179
  z127 := Tryz.sizeOf179
  v127 := Tryz.zeroValue179
  t143 := Tryz.underlying180
  a143 := Tryz.isAgg180
  z143 := Tryz.sizeOf180
  v143 := Tryz.zeroValue180
  t145 := Tryz.underlying182
  a145 := Tryz.isAgg182
  z145 := Tryz.sizeOf182
  v145 := Tryz.zeroValue182
  t167 := Tryz.underlying130
  a167 := Tryz.isAgg130
  z167 := Tryz.sizeOf130
  v167 := Tryz.zeroValue130
  t168 := Tryz.underlying133
  a168 := Tryz.isAgg133
  z168 := Tryz.sizeOf133
  v168 := Tryz.zeroValue133
  t171 := Tryz.underlying146
  a171 := Tryz.isAgg146
  z171 := Tryz.sizeOf146
  v171 := Tryz.zeroValue146
  t173 := Tryz.underlying150
  a173 := Tryz.isAgg150
  z173 := Tryz.sizeOf150
  v173 := Tryz.zeroValue150
  t175 := Tryz.underlying158
  a175 := Tryz.isAgg158
  z175 := Tryz.sizeOf158
  v175 := Tryz.zeroValue158
  t210 := Tryz.underlying162
  a210 := Tryz.isAgg162
  z210 := Tryz.sizeOf162
  v210 := Tryz.zeroValue162
  t212 := Tryz.underlying174
  a212 := Tryz.isAgg174
  z212 := Tryz.sizeOf174
  v212 := Tryz.zeroValue174
  t213 := Tryz.underlying175
  a213 := Tryz.isAgg175
  z213 := Tryz.sizeOf175
  t232 := Tryz.underlying191
  a232 := Tryz.isAgg191
  z232 := Tryz.sizeOf191
  v232 := Tryz.zeroValue191
  t233 := Tryz.underlying192
  a233 := Tryz.isAgg192
  z233 := Tryz.sizeOf192
  v233 := Tryz.zeroValue192
  g15 := by kernel_rfl
  g16 := by kernel_rfl
  g17 := by kernel_rfl
  g18 := by kernel_rfl
  g19 := by kernel_rfl
  t80 := Tryz.underlying193
  a80 := Tryz.isAgg193
  z80 := Tryz.sizeOf193
  v80 := Tryz.zeroValue193
  i0 := by kernel_rfl
  i2 := by kernel_rfl
  i3 := by kernel_rfl
  i4 := by kernel_rfl
  i5 := by kernel_rfl
  i9 := by kernel_rfl
  i20 := by kernel_rfl
  i21 := by kernel_rfl
  i37 := by kernel_rfl
  i46 := by kernel_rfl
  i51 := by kernel_rfl
  i53 := by kernel_rfl
  i75 := by kernel_rfl
  i76 := by kernel_rfl
  i80 := by kernel_rfl
  i85 := by kernel_rfl
  i127 := by kernel_rfl
  i143 := by kernel_rfl
  i145 := by kernel_rfl
  i167 := by kernel_rfl
  i168 := by kernel_rfl
  i171 := by kernel_rfl
  i173 := by kernel_rfl
  i175 := by kernel_rfl
  i210 := by kernel_rfl
  i212 := by kernel_rfl
  i232 := by kernel_rfl
  i233 := by kernel_rfl
  m15 := by kernel_rfl
  m16 := by kernel_rfl
  m17 := by kernel_rfl
  m18 := by kernel_rfl
  m19 := by kernel_rfl
  c0 := by kernel_rfl
  c2 := by kernel_rfl
  c3 := by kernel_rfl
  c4 := by kernel_rfl
  c5 := by kernel_rfl
  c9 := by kernel_rfl
  c20 := by kernel_rfl
  c21 := by kernel_rfl
  c37 := by kernel_rfl
  c46 := by kernel_rfl
  c51 := by kernel_rfl
  c53 := by kernel_rfl
  c75 := by kernel_rfl
  c76 := by kernel_rfl
  c80 := by kernel_rfl
  c85 := by kernel_rfl
  c127 := by kernel_rfl
  c143 := by kernel_rfl
  c145 := by kernel_rfl
  c167 := by kernel_rfl
  c168 := by kernel_rfl
  c171 := by kernel_rfl
  c173 := by kernel_rfl
  c175 := by kernel_rfl
  c210 := by kernel_rfl
  c212 := by kernel_rfl
  c213 := by kernel_rfl
  c232 := by kernel_rfl
  c233 := by kernel_rfl }
def Tryz.laysM145_ren : Go.Shelf.Ren := ⟨fun | 145 => 18 | 220 => 29 | 219 => 47 | 217 => 63 | 225 => 64 | 224 => 65 | 267 => 66 | 266 => 89 | 314 => 90 | n => n, fun | 9 => 9 | 4 => 4 | 59 => 70 | 3 => 3 | 5 => 5 | 46 => 128 | 146 => 153 | 51 => 152 | n => n, fun | 1 => 0 | n => n⟩
theorem Tryz.laysM145 : Go.Proofs.LaysM.n145 Tryz.prog Tryz.laysM145_ren := {
  mixed := by kernel_rfl
  f145 := Tryz.func18.trans (congrArg some (by kernel_rfl))
  f217 := Tryz.func63.trans (congrArg some (by kernel_rfl))
  f219 := Tryz.func47.trans (congrArg some (by kernel_rfl))
  f220 := Tryz.func29.trans (congrArg some (by kernel_rfl))
  f224 := Tryz.func65.trans (congrArg some (by kernel_rfl))
  f225 := Tryz.func64.trans (congrArg some (by kernel_rfl))
  f266 := Tryz.func89.trans (congrArg some (by kernel_rfl))
  f267 := Tryz.func66.trans (congrArg some (by kernel_rfl))
  f314 := Tryz.func90.trans (congrArg some (by kernel_rfl))
  t3 := Tryz.underlying3
  a3 := Tryz.isAgg3
  z3 := Tryz.sizeOf3
  v3 := Tryz.zeroValue3
  t4 := Tryz.underlying4
  a4 := Tryz.isAgg4
  z4 := Tryz.sizeOf4
  v4 := Tryz.zeroValue4
  t5 := Tryz.underlying5
  a5 := Tryz.isAgg5
  z5 := Tryz.sizeOf5
  v5 := Tryz.zeroValue5
  t9 := Tryz.underlying9
  a9 := Tryz.isAgg9
  z9 := Tryz.sizeOf9
  v9 := Tryz.zeroValue9
  t46 := Tryz.underlying128
  a46 := Tryz.isAgg128
  z46 := Tryz.sizeOf128
  v46 := Tryz.zeroValue128
  t51 := Tryz.underlying152
  a51 := Tryz.isAgg152
  z51 := Tryz.sizeOf152
  v51 := Tryz.zeroValue152
  t59 := Tryz.underlying70
  a59 := Tryz.isAgg70
  z59 := Tryz.sizeOf70
  v59 := Tryz.zeroValue70
  t146 := Tryz.underlying153
  a146 := Tryz.isAgg153
  z146 := Tryz.sizeOf153
  v146 := Tryz.zeroValue153
  g1 := by kernel_rfl
  i3 := by kernel_rfl
  i4 := by kernel_rfl
  i5 := by kernel_rfl
  i9 := by kernel_rfl
  i46 := by kernel_rfl
  i51 := by kernel_rfl
  i59 := by kernel_rfl
  i146 := by kernel_rfl
  m1 := by kernel_rfl
  s1_3 := fun w h => Go.Proofs.cell_of_shapedOpen_int (zero := #[.int .i64 0]) (t := 3) h (of_decide_eq_true (by kernel_rfl)) (by kernel_rfl) rfl (by kernel_rfl) (by kernel_rfl) Tryz.underlying3 }
def Tryz.laysM146_ren : Go.Shelf.Ren := ⟨fun | 146 => 30 | 221 => 48 | 268 => 67 | 138 => 68 | 143 => 69 | 195 => 91 | 197 => 92 | 218 => 93 | 219 => 47 | 260 => 108 | 217 => 63 | 225 => 64 | 224 => 65 | 267 => 66 | 266 => 89 | 314 => 90 | n => n, fun | 9 => 9 | 31 => 24 | 3 => 3 | 4 => 4 | 0 => 0 | 105 => 156 | 21 => 21 | 5 => 5 | 46 => 128 | 119 => 187 | 139 => 190 | 138 => 189 | 146 => 153 | 51 => 152 | n => n, fun | 1 => 0 | 3 => 4 | 4 => 5 | n => n⟩
theorem Tryz.laysM146 : Go.Proofs.LaysM.n146 Tryz.prog Tryz.laysM146_ren := {
  mixed := by kernel_rfl
  f138 := Tryz.func68.trans (congrArg some (by kernel_rfl))
  f143 := Tryz.func69.trans (congrArg some (by kernel_rfl))
  f146 := Tryz.func30.trans (congrArg some (by kernel_rfl))
  f195 := Tryz.func91.trans (congrArg some (by kernel_rfl))
  f197 := Tryz.func92.trans (congrArg some (by kernel_rfl))
  f217 := Tryz.func63.trans (congrArg some (by kernel_rfl))
  f218 := Tryz.func93.trans (congrArg some (by kernel_rfl))
  f219 := Tryz.func47.trans (congrArg some (by kernel_rfl))
  f221 := Tryz.func48.trans (congrArg some (by kernel_rfl))
  f224 := Tryz.func65.trans (congrArg some (by kernel_rfl))
  f225 := Tryz.func64.trans (congrArg some (by kernel_rfl))
  f260 := Tryz.func108.trans (congrArg some (by kernel_rfl))
  f266 := Tryz.func89.trans (congrArg some (by kernel_rfl))
  f267 := Tryz.func66.trans (congrArg some (by kernel_rfl))
  f268 := Tryz.func67.trans (congrArg some (by kernel_rfl))
  f314 := Tryz.func90.trans (congrArg some (by kernel_rfl))
  t0 := Tryz.underlying0
  a0 := Tryz.isAgg0
  z0 := Tryz.sizeOf0
  v0 := Tryz.zeroValue0
  t3 := Tryz.underlying3
  a3 := Tryz.isAgg3
  z3 := Tryz.sizeOf3
  v3 := Tryz.zeroValue3
  t4 := Tryz.underlying4
  a4 := Tryz.isAgg4
  z4 := Tryz.sizeOf4
  v4 := Tryz.zeroValue4
  t5 := Tryz.underlying5
  a5 := Tryz.isAgg5
  z5 := Tryz.sizeOf5
  v5 := Tryz.zeroValue5
  t9 := Tryz.underlying9
  a9 := Tryz.isAgg9
  z9 := Tryz.sizeOf9
  v9 := Tryz.zeroValue9
  t21 := Tryz.underlying21
  a21 := Tryz.isAgg21
  z21 := Tryz.sizeOf21
  v21 := Tryz.zeroValue21
  t31 := Tryz.underlying24
  a31 := Tryz.isAgg24
  z31 := Tryz.sizeOf24
  v31 := Tryz.zeroValue24
  t46 := Tryz.underlying128
  a46 := Tryz.isAgg128
  z46 := Tryz.sizeOf128
  v46 := Tryz.zeroValue128
  t51 := Tryz.underlying152
  a51 := Tryz.isAgg152
  z51 := Tryz.sizeOf152
  v51 := Tryz.zeroValue152
  t105 := Tryz.underlying156
  a105 := Tryz.isAgg156
  z105 := Tryz.sizeOf156
  v105 := Tryz.zeroValue156
  t119 := Tryz.underlying187
  a119 := Tryz.isAgg187
  z119 := Tryz.sizeOf187
  t138 := Tryz.underlying189
  a138 := Tryz.isAgg189
  z138 := Tryz.sizeOf189
  v138 := Tryz.zeroValue189
  t139 := Tryz.underlying190
  a139 := Tryz.isAgg190
  z139 := Tryz.sizeOf190
  v139 := Tryz.zeroValue190
  t146 := Tryz.underlying153
  a146 := Tryz.isAgg153
  z146 := Tryz.sizeOf153
  v146 := Tryz.zeroValue153
  g1 := by kernel_rfl
  g3 := by kernel_rfl
  g4 := by kernel_rfl
  i0 := by kernel_rfl
  i3 := by kernel_rfl
  i4 := by kernel_rfl
  i5 := by kernel_rfl
  i9 := by kernel_rfl
  i21 := by kernel_rfl
  i31 := by kernel_rfl
  i46 := by kernel_rfl
  i51 := by kernel_rfl
  i105 := by kernel_rfl
  i138 := by kernel_rfl
  i139 := by kernel_rfl
  i146 := by kernel_rfl
  m1 := by kernel_rfl
  s1_3 := fun w h => Go.Proofs.cell_of_shapedOpen_int (zero := #[.int .i64 0]) (t := 3) h (of_decide_eq_true (by kernel_rfl)) (by kernel_rfl) rfl (by kernel_rfl) (by kernel_rfl) Tryz.underlying3
  m3 := by kernel_rfl
  m4 := by kernel_rfl }
end Go.Proofs
end
section
namespace Go.Gx
open Go.RowKit Go.Proofs Sp
structure GT (w : World) : Prop where
  tab : Lib.TabIs Tryz.prog w "internal/strconv.uint64pow10" .u64 Lib.pow10Tab
  max : ∃ m, w.cell? ⟨Tryz.laysM146_ren.g 1, 0, none⟩ = some (.int .i64 m)
  es : ∃ te pe, w.cell? ⟨Tryz.laysC172_ren.g 15, 0, none⟩ = some (.iface te pe)
  er : ∃ te pe, w.cell? ⟨Tryz.laysC172_ren.g 16, 0, none⟩ = some (.iface te pe)
theorem var_keep {P : Program} {w w' : World} {nm : String} {cs : Array Value} (h : Below w.heap.size w w') (hv : w.var? P nm = some cs) : w'.var? P nm = some cs := by
  unfold World.var? at hv ⊢
  cases hg : P.globalNamed nm with
  | none => rw [hg] at hv; cases hv
  | some g =>
    rw [hg] at hv
    simp only [Option.bind_some] at hv ⊢
    cases he : w.heap[g]? with
    | none => rw [he] at hv; cases hv
    | some o =>
      have hlt : g < w.heap.size := (Array.getElem?_eq_some_iff.1 he).1
      rw [h.block g hlt]; exact hv
theorem cell_keep {w w' : World} (h : Below w.heap.size w w') {g : Nat} {v : Value} (hv : w.cell? ⟨g, 0, none⟩ = some v) : w'.cell? ⟨g, 0, none⟩ = some v := by
  rw [← hv]
  exact World.cell?_of_block (a := ⟨g, 0, none⟩) (h.block g (by have := World.block_lt_of_cell? _ _ hv; simpa using this))
theorem keepG : Keeping GT := fun w w' h g => by
  obtain ⟨m, hm⟩ := g.max
  obtain ⟨te, pe, hs⟩ := g.es
  obtain ⟨tr, pr, hr⟩ := g.er
  exact ⟨var_keep h g.tab, ⟨m, cell_keep h hm⟩, ⟨te, pe, cell_keep h hs⟩, ⟨tr, pr, cell_keep h hr⟩⟩
theorem c_strconv_Itoa {a0 : Int} {r : ByteArray} (hφ : strconv_Itoa a0 = some r) : FnG Tryz.prog GT 28 [.val a0] (.val r) := by
  obtain rfl := Option.some.inj hφ
  refine ⟨⟨_, Tryz.func28, by decide, rfl⟩, rfl, rfl, fun ph w vs hon hG hvs => ?_⟩
  obtain ⟨v, r', rfl, ⟨us, ⟨rfl, h64⟩, rfl⟩, rfl⟩ := hvs
  refine (Any.strconv_Itoa Tryz.laysM171 a0 h64.1 h64.2 w hG.tab).mono ?_
  rintro e w' ⟨rfl, k, os, rfl⟩
  refine ⟨_, rfl, Lib.below_grow _ w (Nat.le_refl _) k os, str_holds _ ?_⟩
  have := Lib.itoa_length_le a0 h64.1 h64.2
  show (Lib.itoa a0).toArray.size ≤ _
  simp only [List.size_toArray]
  omega
theorem er_ok (m : M) : Desc.holds m (.val (⟨false⟩ : Er)) .nilIface := ⟨_, .inr ⟨rfl, rfl⟩, rfl⟩
theorem er_bad (m : M) (te : TypeId) (pe : Value) : Desc.holds m (.val (⟨true⟩ : Er)) (.iface te pe) := ⟨_, .inl ⟨rfl, te, pe, rfl⟩, rfl⟩
theorem int_val (m : M) {x : Int} (h : -9223372036854775808 ≤ x ∧ x ≤ 9223372036854775807) : Desc.holds m (.val x) (.int .i64 x) := ⟨_, ⟨rfl, h⟩, rfl⟩
theorem c_strconv_Atoi {a0 : ByteArray} {r : Int × Er} (hφ : strconv_Atoi a0 = some r) : FnG Tryz.prog GT 31 [.val a0] (.tup [.val r.1, .val r.2]) := by
  obtain ⟨hs, hφ⟩ := G_some hφ
  obtain rfl := Option.some.inj hφ
  refine ⟨⟨_, Tryz.func31, by decide, rfl⟩, rfl, rfl, fun ph w vs hon hG hvs => ?_⟩
  obtain ⟨v, r', rfl, ⟨us, ⟨rfl, h64⟩, rfl⟩, rfl⟩ := hvs
  obtain ⟨te, pe, hes⟩ := hG.es
  obtain ⟨tr, pr, her⟩ := hG.er
  rcases h : Lib.atoiAll a0.data.toList with n | _ | _
  · have e : atoiOf a0.data.toList = (n, ⟨false⟩) := by unfold atoiOf; rw [h]
    rw [e]
    refine (Any.strconv_Atoi_ok Tryz.laysC172 a0 (by omega) n h w).mono ?_
    rintro e w' ⟨rfl, hw⟩
    refine ⟨_, rfl, ?_, [.int .i64 n, .nilIface], rfl, _, _, rfl, int_val _ (Lib.atoiAll_bounds h), _, _, rfl, er_ok _, rfl⟩
    rcases hw with rfl | ⟨t, rfl⟩
    · exact Below.refl _ _
    · exact Lib.bytesWorld_below _ _ _
  · have e : atoiOf a0.data.toList = (0, ⟨true⟩) := by unfold atoiOf; rw [h]
    rw [e]
    refine (Any.strconv_Atoi_syntax Tryz.laysC172 a0 (by omega) h _ w hes (.inr ⟨te, pe, rfl⟩)).mono ?_
    rintro e w' ⟨N, rfl, -, -, hb⟩
    exact ⟨_, rfl, hb, [.int .i64 0, .iface _ _], rfl, _, _, rfl, int_val _ (by decide), _, _, rfl, er_bad _ _ _, rfl⟩
  · have e : atoiOf a0.data.toList = (Lib.atoiSat a0.data.toList, ⟨true⟩) := by unfold atoiOf; rw [h]
    rw [e]
    refine (Any.strconv_Atoi_range Tryz.laysC172 a0 (by omega) h _ w her (.inr ⟨tr, pr, rfl⟩)).mono ?_
    rintro e w' ⟨N, rfl, -, -, hb⟩
    exact ⟨_, rfl, hb, [.int .i64 _, .iface _ _], rfl, _, _, rfl, int_val _ (Lib.atoiSat_bounds _), _, _, rfl, er_bad _ _ _, rfl⟩
theorem c_strings_Cut {a0 a1 : ByteArray} {r : ByteArray × ByteArray × Bool} (hφ : strings_Cut a0 a1 = some r) : FnG Tryz.prog GT 18 [.val a0, .val a1] (.tup [.val r.1, .val r.2.1, .val r.2.2]) := by
  obtain ⟨hs, hφ⟩ := G_some hφ
  obtain rfl := Option.some.inj hφ
  refine ⟨⟨_, Tryz.func18, by decide, rfl⟩, rfl, rfl, fun ph w vs hon hG hvs => ?_⟩
  obtain ⟨v, r', rfl, ⟨us, ⟨rfl, h64⟩, rfl⟩, v1, r1, rfl, ⟨us1, ⟨rfl, h641⟩, rfl⟩, rfl⟩ := hvs
  obtain ⟨m, hm⟩ := hG.max
  have L := Tryz.laysM145
  refine (Any.strings_Cut { L with } a0 a1 m w (by omega) hm).mono ?_
  rintro e w' ⟨rfl, n, rfl⟩
  have hle : (Lib.cut a0.data.toList a1.data.toList).1.length ≤ a0.data.toList.length ∧ (Lib.cut a0.data.toList a1.data.toList).2.1.length ≤ a0.data.toList.length := by
    unfold Lib.cut
    split <;> (first | (simp; done) | (simp; omega))
  have hl : a0.data.toList.length = a0.size := Array.length_toList
  refine ⟨_, rfl, ?_, [.string _, .string _, .bool _], rfl, _, _, rfl, str_holds _ ?_, _, _, rfl, str_holds _ ?_, _, _, rfl, bool_holds _ _, rfl⟩
  · have h0 : ∀ n (w : World), Below w.heap.size w (w.drewN n) := fun n w => ⟨rfl, rfl, rfl, Nat.le_refl _, fun _ _ => rfl⟩
    exact h0 n w
  · show (Lib.cut a0.data.toList a1.data.toList).1.toArray.size ≤ _
    simp only [List.size_toArray]; omega
  · show (Lib.cut a0.data.toList a1.data.toList).2.1.toArray.size ≤ _
    simp only [List.size_toArray]; omega
theorem split_sizes (sep : ByteArray) (save : Nat) : ∀ (n : Nat) (s x : ByteArray), x ∈ Lib.splitB sep save n s → x.size ≤ s.size
  | 0, s, x, h => by simp [Lib.splitB] at h; subst h; exact Nat.le_refl _
  | n + 1, s, x, h => by
    unfold Lib.splitB at h
    split at h
    · simp at h; subst h; exact Nat.le_refl _
    · rcases List.mem_cons.1 h with h | h
      · subst h; simp only [ByteArray.size_extract]; omega
      · have := split_sizes sep save n _ x h
        simp only [ByteArray.size_extract] at this; omega
theorem repL_strs (p : PH) : ∀ (l : List ByteArray), (∀ x ∈ l, x.size ≤ 9223372036854775807) → RepL p l (l.map Value.string)
  | [], _ => rfl
  | x :: l, h => ⟨[.string x], l.map Value.string, rfl, ⟨rfl, h x (by simp)⟩, repL_strs p l (fun y hy => h y (by simp [hy]))⟩
theorem c_strings_Split {a0 a1 : ByteArray} {r : List ByteArray} (hφ : strings_Split a0 a1 = some r) : FnG Tryz.prog GT 30 [.val a0, .val a1] (.val r) := by
  obtain ⟨⟨hs, h1⟩, hφ⟩ := G_some hφ
  obtain rfl := Option.some.inj hφ
  refine ⟨⟨_, Tryz.func30, by decide, rfl⟩, rfl, rfl, fun ph w vs hon hG hvs => ?_⟩
  obtain ⟨v, r', rfl, ⟨us, ⟨rfl, h64⟩, rfl⟩, v1, r1, rfl, ⟨us1, ⟨rfl, h641⟩, rfl⟩, rfl⟩ := hvs
  obtain ⟨m, hm⟩ := hG.max
  have L := Tryz.laysM146
  refine (Any.strings_Split { L with } L.i9 a0 a1 m w (by omega) hm h1).mono ?_
  rintro e w' ⟨rfl, rfl⟩
  have hlen := Lib.splitB_all a1 h1 0 _ a0 rfl
  have hle := Lib.countB_le a1 h1 a0.size a0 (Nat.le_refl _)
  refine ⟨_, rfl, (Below.refl _ w).alloc (Nat.le_refl _) _, list_holds ⟨some ⟨w.heap.size, 0, none⟩, Lib.countB a0 a1 + 1, (Lib.splitB a1 0 (Lib.countB a0 a1) a0).map Value.string, by rw [hlen], by rw [hlen]; exact Nat.le_refl _, by omega,
    repL_strs _ _ (fun x hx => by have := split_sizes a1 0 _ a0 x hx; omega), fun e => (by cases e), .inr ⟨w.heap.size, 0, rfl, fun j u hu => ?_⟩⟩⟩
  show extPH ph w _ w.heap.size (0 + j) = some u
  unfold extPH
  rw [if_neg (by omega)]
  simp only [Nat.zero_add, World.cell?, heap_new]
  simp at hu ⊢
  exact hu
end Go.Gx
end
section
namespace Go.Gx
open Sp
theorem c_text_counts  {r : (List Int)} (hφ : text_counts  = some r) : Fn Go.Proofs.Tryz.prog 45 [] (.val r) := by
 unfold text_counts at hφ
 refine Fn.mk' Go.Proofs.Tryz.func45 rfl (by decide) rfl rfl rfl (fun w0 hw0 => ?_)
 refine Q2 (Q1 ?_)
 refine O5 (ox1 .nilS) .nil .nil rfl <| O1 <| Q0 (σ' := ⟨[], []⟩) trivial trivial ?_
 refine Q2 (Q1 ?_)
 refine O5 (ox_buildSlice_val s25 z3 (.cons .int (.cons .int (.cons .int (.cons .int (.cons .int (.cons .int Parts.nil)))))) rfl (by decide)) ((.app .nil (.app .nil (.app .nil (.app .nil (.app .nil (.app .nil .nil))))))) .nil rfl <| O5 (ox1 .tmp) (.one rfl) .nil rfl <| O1 <| Q0 (σ' := ⟨[(0, .val ([(2 : Int), (1 : Int), (1 : Int), (2 : Int), (0 : Int), (2 : Int)] : List Int))], []⟩) (j1 rfl) trivial ?_
 refine Q5 ?_
 obtain rfl := Option.some.inj hφ
 exact Q6 hw0 rfl (.tmp rfl rfl .nil) rfl
theorem c_text_fieldsB {b : Nat} {a0 : Int} {r : (List (RP b))} (hφ : text_fieldsB b a0 = some r) : FnG Go.Proofs.Tryz.prog (Gc b 0 a0) 27 [.val (⟨0⟩ : RP b)] (.val r) := by
 unfold text_fieldsB at hφ
 refine FnG.mk' Go.Proofs.Tryz.func27 rfl (by decide) rfl rfl rfl (fun w0 hw0 hG0 => ?_)
 refine Q2 (Q1 ?_)
 refine O5 (ox1 .nilS) .nil .nil rfl <| O1 <| Q0 (σ' := ⟨[(0, _)], []⟩) (j1 rfl) trivial ?_
 refine Q2 ?_
 refine Q8 hMixed (
   .cons (S5 (ox0 .tmp)) ⟨.one rfl, .nil⟩ (by kernel_rfl) rfl <|
   .cons (S5 (ox_nilCheck_rp (x := (⟨0⟩ : RP b)) (show 0 < 4 by decide))) ⟨.one rfl, .nil⟩ (by kernel_rfl) rfl <|
   .cons (S5 (ox_fieldAddr_rp f33_1 rfl)) ⟨.one rfl, .nil⟩ (by kernel_rfl) rfl <|
   .cons (S5 (ox0 .tmp)) ⟨.one rfl, .nil⟩ (by kernel_rfl) rfl <|
   .cons (S5 (ox_nilCheck_rp (x := (⟨0⟩ : RP b)) (show 0 < 4 by decide))) ⟨.one rfl, .nil⟩ (by kernel_rfl) rfl <|
   .cons (S5 (ox_fieldAddr_rp f33_3 rfl)) ⟨.one rfl, .nil⟩ (by kernel_rfl) rfl <|
   .cons (S5 (ox_buildSlice_arr (id := 10) s82 z85 (.cons .tmp (.cons .tmp Parts.nil)) rfl (show 2 * 1 ≤ 16777216 by decide))) ⟨(.app (.one rfl) (.app (.one rfl) .nil)), .nil⟩ (by kernel_rfl) rfl <|
   .cons (S5 (ox1 .tmp)) ⟨.one rfl, .nil⟩ (by kernel_rfl) rfl <|
   .nil) _ [[], [0], [0, 1], [], [3], [3, 4], [0, 1, 2, 3, 4, 5], [0, 1, 2, 3, 4, 5, 6]] rfl (by kernel_rfl) (by kernel_rfl) ?_
 refine Q0 (σ' := ⟨[(0, _), (3, _)], [(10, .arr 85 ([(⟨1⟩ : RP b), (⟨3⟩ : RP b)] : List (RP b)))]⟩) (j2 rfl rfl) (j1 rfl) ?_
 obtain ⟨k1, hk1, hφ⟩ := J_some hφ
 refine PT.cut (ι := (List (RP b))) (fun p => ⟨[(0, .val (⟨0⟩ : RP b)), (3, .sl 10)], [(10, .arr 85 (p))]⟩) (fun p => k1 (p) = some r) ?_ ?_
 ·skip
  refine Q2 (Q1 ?_)
  refine O5 (ox0 .tmp) (.one rfl) .nil rfl <| O5 (ox_nilCheck_rp (x := (⟨0⟩ : RP b)) (show 0 < 4 by decide)) (.one rfl) .nil rfl <| O5 (ox_fieldAddr_rp f33_0 rfl) (.one rfl) .nil rfl ?_
  refine Ops.putW rfl rfl (ox_load_gc hw0 hG0 t3 rfl) (.one rfl) .nil rfl ?_
  refine O5 (ox_eql .tmp .int) (.app (.one rfl) .nil) .nil rfl <| O1 <| Q0 (σ' := ⟨[(0, _), (3, _), (15, .val (decide (a0 = (6 : Int))))], [(10, _)]⟩) (j3 rfl rfl rfl) (j1 rfl) ?_
  refine Q3 _ rfl (fun hc2 => ?_) (fun hc2 => ?_)
  ·replace hφ := if_then hφ hc2
   refine Q0 (σ' := ⟨[(0, _), (3, _)], [(10, _)]⟩) (j2 rfl rfl) (j1 rfl) ?_
   obtain ⟨hb3, hφ⟩ := G_some hφ
   refine Q1 ?_
   refine O5 (ox0 .tmp) (.one rfl) .nil rfl <| O5 (ox0 .tmp) (.one rfl) .nil rfl <| O5 (ox_nilCheck_rp (x := (⟨0⟩ : RP b)) (show 0 < 4 by decide)) (.one rfl) .nil rfl <| O5 (ox_fieldAddr_rp f33_2 rfl) (.one rfl) .nil rfl <| O5 (ox_index_arr s82 .tmp .int hb3.1 hb3.2) (.app (.one rfl) .nil) (.one rfl) rfl <| O2 rfl rfl (ox_store_ax t85 .tmp hb3) (.cons rfl (.one rfl)) (.one rfl) <| O1 <| Q0 (σ' := ⟨[(0, _), (3, _)], [(10, .arr 85 (up ([(⟨1⟩ : RP b), (⟨3⟩ : RP b)] : List (RP b)) (1 : Int) (⟨2⟩ : RP b)))]⟩) (j2 rfl rfl) (j1 rfl) ?_
   exact PT.meet (up ([(⟨1⟩ : RP b), (⟨3⟩ : RP b)] : List (RP b)) (1 : Int) (⟨2⟩ : RP b)) hφ (j2 rfl rfl) (j1 rfl)
  ·replace hφ := if_else hφ hc2
   refine Q0 (σ' := ⟨[(0, _), (3, _)], [(10, _)]⟩) (j2 rfl rfl) (j1 rfl) ?_
   refine Q4 ?_
   exact PT.meet ([(⟨1⟩ : RP b), (⟨3⟩ : RP b)] : List (RP b)) hφ (j2 rfl rfl) (j1 rfl)
 ·rintro y10_k1 hφ
  subst hk1
  refine Q0 (σ' := ⟨[(0, .val (⟨0⟩ : RP b)), (3, .sl 10)], [(10, .arr 85 (y10_k1))]⟩) (j2 rfl rfl) (j1 rfl) ?_
  refine Q2 ?_
  refine PT.freeze 10 [3] rfl (j1 rfl) ?_
  obtain ⟨v4, hv4, hφ⟩ := B_some hφ
  obtain ⟨hb5, hφ⟩ := G_some hφ
  obtain ⟨hb6, hφ⟩ := G_some hφ
  obtain ⟨hb7, hφ⟩ := G_some hφ
  refine Q8 hMixed (
    .cons (S5 (ox0 .tmp)) ⟨.one rfl, .nil⟩ (by kernel_rfl) rfl <|
    .cons (S5 (ox_call (c_text_counts hv4) .nil)) ⟨.nil, .nil⟩ (by kernel_rfl) rfl <|
    .cons (S5 (ox0 .tmp)) ⟨.one rfl, .nil⟩ (by kernel_rfl) rfl <|
    .cons (S5 (ox_nilCheck_rp (x := (⟨0⟩ : RP b)) (show 0 < 4 by decide))) ⟨.one rfl, .nil⟩ (by kernel_rfl) rfl <|
    .cons (S5 (ox_fieldAddr_rp f33_0 rfl)) ⟨.one rfl, .nil⟩ (by kernel_rfl) rfl <|
    .consW (StepW.put rfl rfl (ox_load_gc hw0 hG0 t3 rfl)) ⟨.one rfl, .nil⟩ (by kernel_rfl) rfl <|
    .cons (S5 (ox_sub .tmp .int hb5)) ⟨(.app (.one rfl) .nil), .nil⟩ (by kernel_rfl) rfl <|
    .cons (S5 (ox_ix s25 .tmp .tmp hb6.1 hb6.2)) ⟨(.app (.one rfl) (.one rfl)), .nil⟩ (by kernel_rfl) rfl <|
    .cons (S5 (ox_load_elem t3)) ⟨.one rfl, .nil⟩ (by kernel_rfl) rfl <|
    .cons (S5 (ox_slice s82 .tmp .none (.some .tmp) hb7.1 hb7.2.1 hb7.2.2)) ⟨(.app (.one rfl) (.app .nil (.one rfl))), .nil⟩ (by kernel_rfl) rfl <|
    .cons (S5 (ox1 .tmp)) ⟨.one rfl, .nil⟩ (by kernel_rfl) rfl <|
    .nil) _ [[], [], [], [2], [2, 3], [2, 3, 4], [2, 3, 4, 5], [1, 2, 3, 4, 5, 6], [1, 2, 3, 4, 5, 6, 7], [0, 1, 2, 3, 4, 5, 6, 7, 8], [0, 1, 2, 3, 4, 5, 6, 7, 8, 9]] rfl (by kernel_rfl) (by kernel_rfl) ?_
  refine Q0 (σ' := ⟨[(2, .val (sub y10_k1 (0 : Int) (ix v4 (a0 - (1 : Int)))))], []⟩) (j1 rfl) trivial ?_
  refine Q5 ?_
  obtain rfl := Option.some.inj hφ
  exact Q6 hw0 rfl (.tmp rfl rfl .nil) rfl
end Go.Gx
end
section
namespace Go.Gx
open Sp
theorem c_text_fields {k : Int} {r : List Nat} (hφ : text_fields k = some r) (b : Nat) : FnG Go.Proofs.Tryz.prog (Gc b 0 k) 27 [.val (⟨0⟩ : RP b)] (.val (r.map RP.mk : List (RP b))) := by
  refine c_text_fieldsB (b := b) (a0 := k) ?_
  obtain ⟨⟨h1, h2⟩, e⟩ := G_some hφ
  obtain rfl := Option.some.inj e
  have hk : k = 1 ∨ k = 2 ∨ k = 3 ∨ k = 4 ∨ k = 5 ∨ k = 6 := by omega
  rcases hk with rfl | rfl | rfl | rfl | rfl | rfl <;> rfl
end Go.Gx
end
section
namespace Go.Gx
open Sp
theorem c_text_words  {r : (List ByteArray)} (hφ : text_words  = some r) : Fn Go.Proofs.Tryz.prog 26 [] (.val r) := by
 unfold text_words at hφ
 refine Fn.mk' Go.Proofs.Tryz.func26 rfl (by decide) rfl rfl rfl (fun w0 hw0 => ?_)
 refine Q2 (Q1 ?_)
 refine O5 (ox1 .nilS) .nil .nil rfl <| O1 <| Q0 (σ' := ⟨[], []⟩) trivial trivial ?_
 refine Q2 (Q1 ?_)
 refine O5 (ox_buildSlice_val s24 z9 (.cons (.str (by decide)) (.cons (.str (by decide)) (.cons (.str (by decide)) (.cons (.str (by decide)) (.cons (.str (by decide)) (.cons (.str (by decide)) Parts.nil)))))) rfl (by decide)) ((.app .nil (.app .nil (.app .nil (.app .nil (.app .nil (.app .nil .nil))))))) .nil rfl <| O5 (ox1 .tmp) (.one rfl) .nil rfl <| O1 <| Q0 (σ' := ⟨[(0, .val ([(⟨#[112, 117, 116]⟩ : ByteArray), (⟨#[103, 101, 116]⟩ : ByteArray), (⟨#[100, 114, 111, 112]⟩ : ByteArray), (⟨#[97, 100, 100]⟩ : ByteArray), (⟨#[99, 111, 117, 110, 116]⟩ : ByteArray), (⟨#[115, 119, 97, 112]⟩ : ByteArray)] : List ByteArray))], []⟩) (j1 rfl) trivial ?_
 refine Q5 ?_
 obtain rfl := Option.some.inj hφ
 exact Q6 hw0 rfl (.tmp rfl rfl .nil) rfl
theorem c_text_Call {a0 : Mk.Call} {r : ByteArray} (hφ : text_Call a0 = some r) : FnG Go.Proofs.Tryz.prog GT 17 [.val a0] (.val r) := by
 unfold text_Call at hφ
 refine FnG.mk' Go.Proofs.Tryz.func17 rfl (by decide) rfl rfl rfl (fun w0 hw0 hG0 => ?_)
 refine Q2 (Q1 ?_)
 refine O3 rfl rfl (ox_box (id := 1) .tmp) (.one rfl) .nil rfl (by kernel_rfl) <| O5 (ox1 (.str (by decide))) .nil .nil rfl <| O1 <| Q0 (σ' := ⟨[(1, _)], [(1, .var (a0) [])]⟩) (j1 rfl) (j1 rfl) ?_
 refine Q2 ?_
 obtain ⟨v1, hv1, hφ⟩ := B_some hφ
 obtain ⟨hb2, hφ⟩ := G_some hφ
 obtain ⟨hb3, hφ⟩ := G_some hφ
 refine Q8 hMixed (
   .cons (S5 (ox_call (c_text_words hv1) .nil)) ⟨.nil, .nil⟩ (by kernel_rfl) rfl <|
   .cons (S5 (ox3 Call_Kind f33_0)) ⟨.one rfl, .nil⟩ (by kernel_rfl) rfl <|
   .cons (S5 (ox2 t3)) ⟨.one rfl, .one rfl⟩ (by kernel_rfl) rfl <|
   .cons (S5 (ox_sub .tmp .int hb2)) ⟨(.app (.one rfl) .nil), .nil⟩ (by kernel_rfl) rfl <|
   .cons (S5 (ox_ix s24 .tmp .tmp hb3.1 hb3.2)) ⟨(.app (.one rfl) (.one rfl)), .nil⟩ (by kernel_rfl) rfl <|
   .cons (S5 (ox_load_elem t9)) ⟨.one rfl, .nil⟩ (by kernel_rfl) rfl <|
   .cons (S5 (ox1 .tmp)) ⟨.one rfl, .nil⟩ (by kernel_rfl) rfl <|
   .nil) _ [[], [], [1], [1, 2], [0, 1, 2, 3], [0, 1, 2, 3, 4], [0, 1, 2, 3, 4, 5]] rfl (by kernel_rfl) (by kernel_rfl) ?_
 refine Q0 (σ' := ⟨[(1, _), (3, .val (ix v1 (a0.Kind - (1 : Int))))], [(1, _)]⟩) (j2 rfl rfl) (j1 rfl) ?_
 obtain ⟨k4, hk4, hφ⟩ := J_some hφ
 refine PT.cut (ι := ByteArray) (fun p => ⟨[(3, .val (p))], []⟩) (fun p => k4 (p) = some r) ?_ ?_
 ·skip
  refine Q2 ?_
  refine PT.pinB 1 80001 (fun b sv => ?_)
  obtain ⟨v5, hv5, hφ⟩ := B_some hφ
  refine Q1 ?_
  refine O5 (ox_callRP (id := 1) (j := 80001) (c_text_fields hv5)) (.one rfl) (.cons rfl (.one rfl)) rfl <| O5 (ox_lenRP (s82 (b := b)) .tmp) (.one rfl) .nil rfl <| O5 (ox0 .int) .nil .nil rfl <| O1 <| Q0 (σ' := ⟨[(3, _), (12, _), (13, .val (v5.length : Int)), (14, .val (0 : Int))], [(1, _), (80001, .pin 1 b sv)]⟩) (j4 rfl rfl rfl rfl) (j2 rfl rfl) ?_
  refine PT.block ?_
  refine PT.loop (ι := Nat × ByteArray × (List Nat) × Int × Int × Mk.Call) (fun p => ⟨[(3, .val (p.2.1)), (12, .val ((p.2.2.1).map RP.mk : List (RP b))), (13, .val (p.2.2.2.1)), (14, .val (p.2.2.2.2.1))], [(1, .var (p.2.2.2.2.2) []), (80001, .pin 1 b sv)]⟩) (fun p => text_Call_l1 k4 p.1 (p.2.1) (p.2.2.1) (p.2.2.2.1) (p.2.2.2.2.1) (p.2.2.2.2.2) = some r) (fun p => p.1) (((v5.length : Int) - (0 : Int)).toNat + 1, (ix v1 (a0.Kind - (1 : Int))), v5, (v5.length : Int), (0 : Int), a0) hφ (j4 rfl rfl rfl rfl) (j2 rfl rfl) ?_
  rintro ⟨m6, x3_m6, x12_m6, x13_m6, x14_m6, y1_m6⟩ (hφ : text_Call_l1 k4 m6 x3_m6 x12_m6 x13_m6 x14_m6 y1_m6 = some r)
  obtain _ | m6 := m6
  ·exact (none_no hφ).elim
  rw [text_Call_l1.eq_2] at hφ
  refine Q0 (σ' := ⟨[(3, .val (x3_m6)), (12, .val ((x12_m6).map RP.mk : List (RP b))), (13, .val (x13_m6)), (14, .val (x14_m6))], [(1, .var (y1_m6) []), (80001, _)]⟩) (j4 rfl rfl rfl rfl) (j2 rfl rfl) ?_
  refine Q2 (Q1 ?_)
  refine O5 (ox_lss .tmp .tmp) (.app (.one rfl) (.one rfl)) .nil rfl <| O1 <| Q0 (σ' := ⟨[(3, _), (12, _), (13, _), (14, _), (15, .val (decide (x14_m6 < x13_m6)))], [(1, _), (80001, _)]⟩) (j5 rfl rfl rfl rfl rfl) (j2 rfl rfl) ?_
  refine Q2 ?_
  refine Q3 _ rfl (fun hc7 => ?_) (fun hc7 => ?_)
  ·replace hφ := if_then hφ hc7
   refine Q0 (σ' := ⟨[(3, _), (12, _), (13, _), (14, _)], [(1, _), (80001, _)]⟩) (j4 rfl rfl rfl rfl) (j2 rfl rfl) ?_
   refine Q4 ?_
   refine Q2 ?_
   refine PT.block ?_
   refine Q2 ?_
   obtain ⟨hb8, hφ⟩ := G_some hφ
   refine Q1 ?_
   refine O5 (ox_ixRP (s82 (b := b)) .tmp .tmp hb8.1 hb8.2) (.app (.one rfl) (.one rfl)) .nil rfl <| O5 (ox_load_elem t85) (.one rfl) .nil rfl <| O5 (ox1 .tmp) (.one rfl) .nil rfl <| O1 <| Q0 (σ' := ⟨[(3, _), (5, _), (12, _), (13, _), (14, _)], [(1, _), (80001, _)]⟩) (j5 rfl rfl rfl rfl rfl) (j2 rfl rfl) ?_
   obtain ⟨hb9, hφ⟩ := G_some hφ
   obtain ⟨hb10, hφ⟩ := G_some hφ
   obtain ⟨v11, hv11, hφ⟩ := B_some hφ
   obtain ⟨hb12, hφ⟩ := G_some hφ
   obtain ⟨hb13, hφ⟩ := G_some hφ
   refine Q1 ?_
   refine O5 (ox0 .tmp) (.one rfl) .nil rfl <| O5 (ox0 .tmp) (.one rfl) .nil rfl <| O5 (ox_nilCheck_rp (x := (⟨(ix x12_m6 x14_m6)⟩ : RP b)) hb9) (.one rfl) .nil rfl <| O5 (ox_load_rp (id := 1) (j := 80001) (x := ⟨(ix x12_m6 x14_m6)⟩) t3 hb10) (.one rfl) (.cons rfl (.one rfl)) rfl ?_
   refine Ops.putW rfl rfl (ox_callW keepG hw0 hG0 (c_strconv_Itoa hv11) (.cons .tmp .nil)) (.app (.one rfl) .nil) .nil rfl ?_
   refine O5 (ox_addStr (.str (by decide)) .tmp hb12) (.app .nil (.one rfl)) .nil rfl <| O5 (ox_addStr .tmp .tmp hb13) (.app (.one rfl) (.one rfl)) .nil rfl <| O5 (ox1 .tmp) (.one rfl) .nil rfl <| O1 <| Q0 (σ' := ⟨[(3, .val (x3_m6 ++ ((⟨#[32]⟩ : ByteArray) ++ v11))), (12, _), (13, _), (14, _)], [(1, _), (80001, _)]⟩) (j4 rfl rfl rfl rfl) (j2 rfl rfl) ?_
   obtain ⟨hb14, hφ⟩ := G_some hφ
   refine Q1 ?_
   refine O5 (ox_add .tmp .int hb14) (.app (.one rfl) .nil) .nil rfl <| O5 (ox0 .tmp) (.one rfl) .nil rfl <| O1 <| Q0 (σ' := ⟨[(3, _), (12, _), (13, _), (14, .val (x14_m6 + (1 : Int)))], [(1, _), (80001, _)]⟩) (j4 rfl rfl rfl rfl) (j2 rfl rfl) ?_
   exact PT.next (m6, (x3_m6 ++ ((⟨#[32]⟩ : ByteArray) ++ v11)), x12_m6, x13_m6, (x14_m6 + (1 : Int)), y1_m6) hφ (Nat.lt_succ_self _) (j4 rfl rfl rfl rfl) (j2 rfl rfl)
  ·replace hφ := if_else hφ hc7
   refine Q0 (σ' := ⟨[(3, _)], []⟩) (j1 rfl) trivial ?_
   refine PT.exit ?_
   exact PT.meet (x3_m6) hφ (j1 rfl) trivial
 ·rintro x3_k4 hφ
  subst hk4
  refine Q0 (σ' := ⟨[(3, .val (x3_k4))], []⟩) (j1 rfl) trivial ?_
  refine Q2 (Q1 ?_)
  refine O5 (ox0 .tmp) (.one rfl) .nil rfl <| O5 (ox1 .tmp) (.one rfl) .nil rfl <| O1 <| Q0 (σ' := ⟨[(2, .val (x3_k4))], []⟩) (j1 rfl) trivial ?_
  refine Q5 ?_
  obtain rfl := Option.some.inj hφ
  exact Q6 hw0 rfl (.tmp rfl rfl .nil) rfl
theorem c_text_ReadCall {a0 : ByteArray} {r : (Mk.Call × Int)} (hφ : text_ReadCall a0 = some r) : FnG Go.Proofs.Tryz.prog GT 19 [.val a0] (.tup [.val r.1, .val r.2]) := by
 unfold text_ReadCall at hφ
 refine FnG.mk' Go.Proofs.Tryz.func19 rfl (by decide) rfl rfl rfl (fun w0 hw0 hG0 => ?_)
 refine Q2 (Q1 ?_)
 refine O3 rfl rfl (ox_alloc (id := 2) z33) .nil .nil rfl (by kernel_rfl) <| O5 (ox1 .int) .nil .nil rfl <| O1 <| Q0 (σ' := ⟨[(0, .val (a0)), (2, _)], [(2, .var zCa [])]⟩) (j2 rfl rfl) (j1 rfl) ?_
 refine Q2 ?_
 obtain ⟨v1, hv1, hφ⟩ := B_some hφ
 refine Q1 ?_
 refine O5 (ox0 .tmp) (.one rfl) .nil rfl ?_
 refine Ops.putW rfl rfl (ox_callW keepG hw0 hG0 (c_strings_Split hv1) (.cons .tmp (.cons (.str (by decide)) .nil))) (.app (.one rfl) (.app .nil .nil)) .nil rfl ?_
 refine O5 (ox1 .tmp) (.one rfl) .nil rfl <| O1 <| Q0 (σ' := ⟨[(2, _), (4, .val (v1))], [(2, _)]⟩) (j2 rfl rfl) (j1 rfl) ?_
 refine Q2 (Q1 ?_)
 refine O3 rfl rfl (ox_alloc (id := 5) z33) .nil .nil rfl (by kernel_rfl) <| O1 <| Q0 (σ' := ⟨[(2, _), (4, _), (5, _)], [(2, _), (5, .var zCa [])]⟩) (j3 rfl rfl rfl) (j2 rfl rfl) ?_
 obtain ⟨k2, hk2, hφ⟩ := J_some hφ
 refine PT.cut (ι := (List ByteArray) × Mk.Call × Mk.Call) (fun p => ⟨[(2, .ptr 2 (Lens.id (α := Mk.Call))), (4, .val (p.1)), (5, .ptr 5 (Lens.id (α := Mk.Call)))], [(2, .var (p.2.1) []), (5, .var (p.2.2) [])]⟩) (fun p => k2 (p.1) (p.2.1) (p.2.2) = some r) ?_ ?_
 ·skip
  refine Q2 ?_
  obtain ⟨v3, hv3, hφ⟩ := B_some hφ
  refine Q1 ?_
  refine O5 (ox_call (c_text_words hv3) .nil) .nil .nil rfl <| O5 (ox_len s24 .tmp) (.one rfl) .nil rfl <| O5 (ox0 .int) .nil .nil rfl <| O1 <| Q0 (σ' := ⟨[(2, _), (4, _), (5, _), (16, .val (v3)), (17, .val (v3.length : Int)), (18, .val (0 : Int))], [(2, _), (5, _)]⟩) (j6 rfl rfl rfl rfl rfl rfl) (j2 rfl rfl) ?_
  refine PT.block ?_
  refine PT.loop (ι := Nat × (List ByteArray) × (List ByteArray) × Int × Int × Mk.Call × Mk.Call) (fun p => ⟨[(2, .ptr 2 (Lens.id (α := Mk.Call))), (4, .val (p.2.1)), (5, .ptr 5 (Lens.id (α := Mk.Call))), (16, .val (p.2.2.1)), (17, .val (p.2.2.2.1)), (18, .val (p.2.2.2.2.1))], [(2, .var (p.2.2.2.2.2.1) []), (5, .var (p.2.2.2.2.2.2) [])]⟩) (fun p => text_ReadCall_l1 k2 p.1 (p.2.1) (p.2.2.1) (p.2.2.2.1) (p.2.2.2.2.1) (p.2.2.2.2.2.1) (p.2.2.2.2.2.2) = some r) (fun p => p.1) (((v3.length : Int) - (0 : Int)).toNat + 1, v1, v3, (v3.length : Int), (0 : Int), zCa, zCa) hφ (j6 rfl rfl rfl rfl rfl rfl) (j2 rfl rfl) ?_
  rintro ⟨m4, x4_m4, x16_m4, x17_m4, x18_m4, y2_m4, y5_m4⟩ (hφ : text_ReadCall_l1 k2 m4 x4_m4 x16_m4 x17_m4 x18_m4 y2_m4 y5_m4 = some r)
  obtain _ | m4 := m4
  ·exact (none_no hφ).elim
  rw [text_ReadCall_l1.eq_2] at hφ
  refine Q0 (σ' := ⟨[(2, .ptr 2 (Lens.id (α := Mk.Call))), (4, .val (x4_m4)), (5, .ptr 5 (Lens.id (α := Mk.Call))), (16, .val (x16_m4)), (17, .val (x17_m4)), (18, .val (x18_m4))], [(2, .var (y2_m4) []), (5, .var (y5_m4) [])]⟩) (j6 rfl rfl rfl rfl rfl rfl) (j2 rfl rfl) ?_
  refine Q2 (Q1 ?_)
  refine O5 (ox_lss .tmp .tmp) (.app (.one rfl) (.one rfl)) .nil rfl <| O1 <| Q0 (σ' := ⟨[(2, _), (4, _), (5, _), (16, _), (17, _), (18, _), (19, .val (decide (x18_m4 < x17_m4)))], [(2, _), (5, _)]⟩) (j7 rfl rfl rfl rfl rfl rfl rfl) (j2 rfl rfl) ?_
  refine Q2 ?_
  refine Q3 _ rfl (fun hc5 => ?_) (fun hc5 => ?_)
  ·replace hφ := if_then hφ hc5
   refine Q0 (σ' := ⟨[(2, _), (4, _), (5, _), (16, _), (17, _), (18, _)], [(2, _), (5, _)]⟩) (j6 rfl rfl rfl rfl rfl rfl) (j2 rfl rfl) ?_
   refine Q4 ?_
   obtain ⟨k6, hk6, hφ⟩ := J_some hφ
   refine PT.cut (ι := (List ByteArray) × (List ByteArray) × Int × Int × Mk.Call × Mk.Call) (fun p => ⟨[(2, .ptr 2 (Lens.id (α := Mk.Call))), (4, .val (p.1)), (5, .ptr 5 (Lens.id (α := Mk.Call))), (16, .val (p.2.1)), (17, .val (p.2.2.1)), (18, .val (p.2.2.2.1))], [(2, .var (p.2.2.2.2.1) []), (5, .var (p.2.2.2.2.2) [])]⟩) (fun p => k6 (p.1) (p.2.1) (p.2.2.1) (p.2.2.2.1) (p.2.2.2.2.1) (p.2.2.2.2.2) = some r) ?_ ?_
   ·skip
    refine PT.block ?_
    refine Q2 ?_
    obtain ⟨hb7, hφ⟩ := G_some hφ
    refine Q1 ?_
    refine O5 (ox0 .tmp) (.one rfl) .nil rfl <| O5 (ox_ix s24 .tmp .tmp hb7.1 hb7.2) (.app (.one rfl) (.one rfl)) .nil rfl <| O5 (ox_load_elem t9) (.one rfl) .nil rfl <| O5 (ox1 .tmp) (.one rfl) .nil rfl <| O5 (ox1 .tmp) (.one rfl) .nil rfl <| O1 <| Q0 (σ' := ⟨[(2, _), (4, _), (5, _), (6, .val (x18_m4)), (7, .val (ix x16_m4 x18_m4)), (16, _), (17, _), (18, _)], [(2, _), (5, _)]⟩) (j8 rfl rfl rfl rfl rfl rfl rfl rfl) (j2 rfl rfl) ?_
    refine Q2 ?_
    obtain ⟨hb8, hφ⟩ := G_some hφ
    refine Q1 ?_
    refine O5 (ox0 .tmp) (.one rfl) .nil rfl <| O5 (ox0 .tmp) (.one rfl) .nil rfl <| O5 (ox_ix s24 .tmp .int hb8.1 hb8.2) (.app (.one rfl) .nil) .nil rfl <| O5 (ox_load_elem t9) (.one rfl) .nil rfl <| O5 (ox_eqlStr .tmp .tmp) (.app (.one rfl) (.one rfl)) .nil rfl <| O1 <| Q0 (σ' := ⟨[(2, _), (4, _), (5, _), (6, _), (16, _), (17, _), (18, _), (27, .val (decide ((ix x16_m4 x18_m4) = (ix x4_m4 (0 : Int)))))], [(2, _), (5, _)]⟩) (j8 rfl rfl rfl rfl rfl rfl rfl rfl) (j2 rfl rfl) ?_
    refine Q3 _ rfl (fun hc9 => ?_) (fun hc9 => ?_)
    ·replace hφ := if_then hφ hc9
     refine Q0 (σ' := ⟨[(2, _), (4, _), (5, _), (6, _), (16, _), (17, _), (18, _)], [(2, _), (5, _)]⟩) (j7 rfl rfl rfl rfl rfl rfl rfl) (j2 rfl rfl) ?_
     obtain ⟨hb10, hφ⟩ := G_some hφ
     refine Q1 ?_
     refine O5 (ox0 .tmp) (.one rfl) .nil rfl <| O5 (ox_add .tmp .int hb10) (.app (.one rfl) .nil) .nil rfl <| O5 (ox3 Call_Kind f33_0) (.one rfl) .nil rfl <| O2 rfl rfl (ox_store_fld t3 .tmp) (.cons rfl (.one rfl)) (.one rfl) <| O1 <| Q0 (σ' := ⟨[(2, _), (4, _), (5, _), (16, _), (17, _), (18, _)], [(2, _), (5, .var ({ y5_m4 with Kind := (x18_m4 + (1 : Int)) }) [])]⟩) (j6 rfl rfl rfl rfl rfl rfl) (j2 rfl rfl) ?_
     exact PT.meet (x4_m4, x16_m4, x17_m4, x18_m4, y2_m4, { y5_m4 with Kind := (x18_m4 + (1 : Int)) }) hφ (j6 rfl rfl rfl rfl rfl rfl) (j2 rfl rfl)
    ·replace hφ := if_else hφ hc9
     refine Q0 (σ' := ⟨[(2, _), (4, _), (5, _), (16, _), (17, _), (18, _)], [(2, _), (5, _)]⟩) (j6 rfl rfl rfl rfl rfl rfl) (j2 rfl rfl) ?_
     refine Q4 ?_
     exact PT.meet (x4_m4, x16_m4, x17_m4, x18_m4, y2_m4, y5_m4) hφ (j6 rfl rfl rfl rfl rfl rfl) (j2 rfl rfl)
   ·rintro ⟨x4_k6, x16_k6, x17_k6, x18_k6, y2_k6, y5_k6⟩ hφ
    subst hk6
    refine Q0 (σ' := ⟨[(2, _), (4, .val (x4_k6)), (5, _), (16, .val (x16_k6)), (17, .val (x17_k6)), (18, .val (x18_k6))], [(2, .var (y2_k6) []), (5, .var (y5_k6) [])]⟩) (j6 rfl rfl rfl rfl rfl rfl) (j2 rfl rfl) ?_
    obtain ⟨hb11, hφ⟩ := G_some hφ
    refine Q1 ?_
    refine O5 (ox_add .tmp .int hb11) (.app (.one rfl) .nil) .nil rfl <| O5 (ox0 .tmp) (.one rfl) .nil rfl <| O1 <| Q0 (σ' := ⟨[(2, _), (4, _), (5, _), (16, _), (17, _), (18, .val (x18_k6 + (1 : Int)))], [(2, _), (5, _)]⟩) (j6 rfl rfl rfl rfl rfl rfl) (j2 rfl rfl) ?_
    exact PT.next (m4, x4_k6, x16_k6, x17_k6, (x18_k6 + (1 : Int)), y2_k6, y5_k6) hφ (Nat.lt_succ_self _) (j6 rfl rfl rfl rfl rfl rfl) (j2 rfl rfl)
  ·replace hφ := if_else hφ hc5
   refine Q0 (σ' := ⟨[(2, _), (4, _), (5, _)], [(2, _), (5, _)]⟩) (j3 rfl rfl rfl) (j2 rfl rfl) ?_
   refine PT.exit ?_
   exact PT.meet (x4_m4, y2_m4, y5_m4) hφ (j3 rfl rfl rfl) (j2 rfl rfl)
 ·rintro ⟨x4_k2, y2_k2, y5_k2⟩ hφ
  subst hk2
  refine Q0 (σ' := ⟨[(2, .ptr 2 (Lens.id (α := Mk.Call))), (4, .val (x4_k2)), (5, .ptr 5 (Lens.id (α := Mk.Call)))], [(2, .var (y2_k2) []), (5, .var (y5_k2) [])]⟩) (j3 rfl rfl rfl) (j2 rfl rfl) ?_
  refine Q2 ?_
  refine Q2 (Q1 ?_)
  refine O5 (ox3 Call_Kind f33_0) (.one rfl) .nil rfl <| O5 (ox2 t3) (.one rfl) (.one rfl) rfl <| O5 (ox_eql .tmp .int) (.app (.one rfl) .nil) .nil rfl <| O1 <| Q0 (σ' := ⟨[(2, _), (4, _), (5, _), (34, .val (decide (y5_k2.Kind = (0 : Int))))], [(2, _), (5, _)]⟩) (j4 rfl rfl rfl rfl) (j2 rfl rfl) ?_
  refine Q3 _ rfl (fun hc12 => ?_) (fun hc12 => ?_)
  ·replace hφ := if_then hφ hc12
   refine Q0 (σ' := ⟨[(2, _)], [(2, _)]⟩) (j1 rfl) (j1 rfl) ?_
   refine Q2 (Q1 ?_)
   refine O5 (oxa z33 u33 rfl Bld.nil) .nil .nil rfl <| O2 rfl rfl (ox5 t33 .tmp) (.cons rfl (.one rfl)) (.one rfl) <| O5 (ox1 .int) .nil .nil rfl <| O1 <| Q0 (σ' := ⟨[(2, _), (3, .val (1 : Int))], [(2, .var zCa [])]⟩) (j2 rfl rfl) (j1 rfl) ?_
   refine Q5 ?_
   obtain rfl := Option.some.inj hφ
   exact Q6 hw0 rfl (.cell t33 rfl rfl (.tmp rfl rfl .nil)) rfl
  ·replace hφ := if_else hφ hc12
   refine Q0 (σ' := ⟨[(2, _), (4, _), (5, _)], [(2, _), (5, _)]⟩) (j3 rfl rfl rfl) (j2 rfl rfl) ?_
   refine Q4 ?_
   refine Q2 ?_
   refine PT.pinB 5 80005 (fun b sv => ?_)
   obtain ⟨v13, hv13, hφ⟩ := B_some hφ
   refine Q1 ?_
   refine O5 (ox_callRP (id := 5) (j := 80005) (c_text_fields hv13)) (.one rfl) (.cons rfl (.one rfl)) rfl <| O5 (ox1 .tmp) (.one rfl) .nil rfl <| O1 <| Q0 (σ' := ⟨[(2, _), (4, _), (5, _), (8, _)], [(2, _), (5, _), (80005, .pin 5 b sv)]⟩) (j4 rfl rfl rfl rfl) (j3 rfl rfl rfl) ?_
   refine Q2 (Q2 ?_)
   obtain ⟨hb14, hφ⟩ := G_some hφ
   refine Q1 ?_
   refine O5 (ox0 .tmp) (.one rfl) .nil rfl <| O5 (ox_len s24 .tmp) (.one rfl) .nil rfl <| O5 (ox0 .tmp) (.one rfl) .nil rfl <| O5 (ox_lenRP (s82 (b := b)) .tmp) (.one rfl) .nil rfl <| O5 (ox_add .int .tmp hb14) (.app .nil (.one rfl)) .nil rfl <| O5 (ox_neq .tmp .tmp) (.app (.one rfl) (.one rfl)) .nil rfl <| O1 <| Q0 (σ' := ⟨[(2, _), (4, _), (5, _), (8, _), (42, .val (!decide ((x4_k2.length : Int) = ((1 : Int) + (v13.length : Int)))))], [(2, _), (5, _), (80005, _)]⟩) (j5 rfl rfl rfl rfl rfl) (j3 rfl rfl rfl) ?_
   refine Q3 _ rfl (fun hc15 => ?_) (fun hc15 => ?_)
   ·replace hφ := if_then hφ hc15
    refine Q0 (σ' := ⟨[(2, _)], [(2, _)]⟩) (j1 rfl) (j1 rfl) ?_
    refine Q2 (Q1 ?_)
    refine O5 (oxa z33 u33 rfl Bld.nil) .nil .nil rfl <| O2 rfl rfl (ox5 t33 .tmp) (.cons rfl (.one rfl)) (.one rfl) <| O5 (ox1 .int) .nil .nil rfl <| O1 <| Q0 (σ' := ⟨[(2, _), (3, .val (2 : Int))], [(2, .var zCa [])]⟩) (j2 rfl rfl) (j1 rfl) ?_
    refine Q5 ?_
    obtain rfl := Option.some.inj hφ
    exact Q6 hw0 rfl (.cell t33 rfl rfl (.tmp rfl rfl .nil)) rfl
   ·replace hφ := if_else hφ hc15
    refine Q0 (σ' := ⟨[(2, _), (4, _), (5, _), (8, _)], [(2, _), (5, _), (80005, _)]⟩) (j4 rfl rfl rfl rfl) (j3 rfl rfl rfl) ?_
    refine Q4 ?_
    obtain ⟨k16, hk16, hφ⟩ := J_some hφ
    refine PT.cut (ι := Mk.Call × Mk.Call) (fun p => ⟨[(2, .ptr 2 (Lens.id (α := Mk.Call))), (5, .ptr 5 (Lens.id (α := Mk.Call)))], [(2, .var (p.1) []), (5, .var (p.2) [])]⟩) (fun p => k16 (p.1) (p.2) = some r) ?_ ?_
    ·skip
     refine Q2 (Q1 ?_)
     refine O5 (ox0 .tmp) (.one rfl) .nil rfl <| O5 (ox_lenRP (s82 (b := b)) .tmp) (.one rfl) .nil rfl <| O5 (ox0 .int) .nil .nil rfl <| O1 <| Q0 (σ' := ⟨[(2, _), (4, _), (5, _), (44, _), (45, .val (v13.length : Int)), (46, .val (0 : Int))], [(2, _), (5, _), (80005, _)]⟩) (j6 rfl rfl rfl rfl rfl rfl) (j3 rfl rfl rfl) ?_
     refine PT.block ?_
     refine PT.loop (ι := Nat × (List ByteArray) × (List Nat) × Int × Int × Mk.Call × Mk.Call) (fun p => ⟨[(2, .ptr 2 (Lens.id (α := Mk.Call))), (4, .val (p.2.1)), (5, .ptr 5 (Lens.id (α := Mk.Call))), (44, .val ((p.2.2.1).map RP.mk : List (RP b))), (45, .val (p.2.2.2.1)), (46, .val (p.2.2.2.2.1))], [(2, .var (p.2.2.2.2.2.1) []), (5, .var (p.2.2.2.2.2.2) []), (80005, .pin 5 b sv)]⟩) (fun p => text_ReadCall_l2 k16 p.1 (p.2.1) (p.2.2.1) (p.2.2.2.1) (p.2.2.2.2.1) (p.2.2.2.2.2.1) (p.2.2.2.2.2.2) = some r) (fun p => p.1) (((v13.length : Int) - (0 : Int)).toNat + 1, x4_k2, v13, (v13.length : Int), (0 : Int), y2_k2, y5_k2) hφ (j6 rfl rfl rfl rfl rfl rfl) (j3 rfl rfl rfl) ?_
     rintro ⟨m17, x4_m17, x44_m17, x45_m17, x46_m17, y2_m17, y5_m17⟩ (hφ : text_ReadCall_l2 k16 m17 x4_m17 x44_m17 x45_m17 x46_m17 y2_m17 y5_m17 = some r)
     obtain _ | m17 := m17
     ·exact (none_no hφ).elim
     rw [text_ReadCall_l2.eq_2] at hφ
     refine Q0 (σ' := ⟨[(2, _), (4, .val (x4_m17)), (5, _), (44, .val ((x44_m17).map RP.mk : List (RP b))), (45, .val (x45_m17)), (46, .val (x46_m17))], [(2, .var (y2_m17) []), (5, .var (y5_m17) []), (80005, _)]⟩) (j6 rfl rfl rfl rfl rfl rfl) (j3 rfl rfl rfl) ?_
     refine Q2 (Q1 ?_)
     refine O5 (ox_lss .tmp .tmp) (.app (.one rfl) (.one rfl)) .nil rfl <| O1 <| Q0 (σ' := ⟨[(2, _), (4, _), (5, _), (44, _), (45, _), (46, _), (47, .val (decide (x46_m17 < x45_m17)))], [(2, _), (5, _), (80005, _)]⟩) (j7 rfl rfl rfl rfl rfl rfl rfl) (j3 rfl rfl rfl) ?_
     refine Q2 ?_
     refine Q3 _ rfl (fun hc18 => ?_) (fun hc18 => ?_)
     ·replace hφ := if_then hφ hc18
      refine Q0 (σ' := ⟨[(2, _), (4, _), (5, _), (44, _), (45, _), (46, _)], [(2, _), (5, _), (80005, _)]⟩) (j6 rfl rfl rfl rfl rfl rfl) (j3 rfl rfl rfl) ?_
      refine Q4 ?_
      refine Q2 ?_
      refine PT.block ?_
      refine Q2 ?_
      obtain ⟨hb19, hφ⟩ := G_some hφ
      refine Q1 ?_
      refine O5 (ox0 .tmp) (.one rfl) .nil rfl <| O5 (ox_ixRP (s82 (b := b)) .tmp .tmp hb19.1 hb19.2) (.app (.one rfl) (.one rfl)) .nil rfl <| O5 (ox_load_elem t85) (.one rfl) .nil rfl <| O5 (ox1 .tmp) (.one rfl) .nil rfl <| O5 (ox1 .tmp) (.one rfl) .nil rfl <| O1 <| Q0 (σ' := ⟨[(2, _), (4, _), (5, _), (9, .val (x46_m17)), (10, _), (44, _), (45, _), (46, _)], [(2, _), (5, _), (80005, _)]⟩) (j8 rfl rfl rfl rfl rfl rfl rfl rfl) (j3 rfl rfl rfl) ?_
      refine Q2 ?_
      obtain ⟨hb20, hφ⟩ := G_some hφ
      obtain ⟨hb21, hφ⟩ := G_some hφ
      obtain ⟨v22, hv22, hφ⟩ := B_some hφ
      refine Q1 ?_
      refine O5 (ox0 .tmp) (.one rfl) .nil rfl <| O5 (ox0 .tmp) (.one rfl) .nil rfl <| O5 (ox_add .int .tmp hb20) (.app .nil (.one rfl)) .nil rfl <| O5 (ox_ix s24 .tmp .tmp hb21.1 hb21.2) (.app (.one rfl) (.one rfl)) .nil rfl <| O5 (ox_load_elem t9) (.one rfl) .nil rfl ?_
      refine Ops.putW rfl rfl (ox_callW keepG hw0 hG0 (c_strconv_Atoi hv22) (.cons .tmp .nil)) (.app (.one rfl) .nil) .nil rfl ?_
      refine O5 (ox0 .tmp) (.one rfl) .nil rfl <| O5 (ox7 rfl) (.one rfl) .nil rfl <| O5 (ox7 rfl) (.one rfl) .nil rfl <| O5 (ox1 .tmp) (.one rfl) .nil rfl <| O5 (ox1 .tmp) (.one rfl) .nil rfl <| O1 <| Q0 (σ' := ⟨[(2, _), (4, _), (5, _), (9, _), (10, _), (11, .val (v22.1)), (12, .val (v22.2)), (44, _), (45, _), (46, _)], [(2, _), (5, _), (80005, _)]⟩) (j10 rfl rfl rfl rfl rfl rfl rfl rfl rfl rfl) (j3 rfl rfl rfl) ?_
      refine Q2 (Q2 ?_)
      obtain ⟨v23, hv23, hφ⟩ := B_some hφ
      obtain ⟨hb24, hφ⟩ := G_some hφ
      obtain ⟨hb25, hφ⟩ := G_some hφ
      refine Q8 hMixed (
        .cons (S5 (ox0 .tmp)) ⟨.one rfl, .nil⟩ (by kernel_rfl) rfl <|
        .cons (S5 (ox_neqEr i89 .tmp)) ⟨.one rfl, .nil⟩ (by kernel_rfl) rfl <|
        .cons (S5 (ox0 .tmp)) ⟨.one rfl, .nil⟩ (by kernel_rfl) rfl <|
        .cons (S3 rfl rfl rfl Grd.plain _ (by first | exact Iff.rfl | (simp; done) | (simp; intros; exact Iff.rfl)) (.plain .nil) (fun hG => (ox0 .tmp))) ⟨(.cons rfl (j1 rfl)), .nil⟩ (by kernel_rfl) rfl <|
        .consW (StepW.guard rfl rfl rfl Grd.plain _ (by first | exact Iff.rfl | (simp; done) | (simp; intros; exact Iff.rfl)) (.cond (fun h => h) .nil) (fun hG => (ox_callW keepG hw0 hG0 (c_strconv_Itoa (Cn_on hv23 hG)) (.cons .tmp .nil)))) ⟨(.cons rfl (j1 rfl)), .nil⟩ (by kernel_rfl) rfl <|
        .cons (S3 rfl rfl rfl Grd.plain _ (by first | exact Iff.rfl | (simp; done) | (simp; intros; exact Iff.rfl)) (.plain .nil) (fun hG => (ox0 .tmp))) ⟨(.cons rfl (j1 rfl)), .nil⟩ (by kernel_rfl) rfl <|
        .cons (S3 rfl rfl rfl Grd.plain _ (by first | exact Iff.rfl | (simp; done) | (simp; intros; exact Iff.rfl)) (.plain .nil) (fun hG => (ox0 .tmp))) ⟨(.cons rfl (j1 rfl)), .nil⟩ (by kernel_rfl) rfl <|
        .cons (S3 rfl rfl rfl Grd.plain _ (by first | exact Iff.rfl | (simp; done) | (simp; intros; exact Iff.rfl)) (.cond (fun h => h) .nil) (fun hG => (ox_add .int .tmp (hb24 hG)))) ⟨(.cons rfl (j1 rfl)), .nil⟩ (by kernel_rfl) rfl <|
        .cons (S3 rfl rfl rfl Grd.plain _ (by first | exact Iff.rfl | (simp; done) | (simp; intros; exact Iff.rfl)) (.cond (fun h => h) (.cond (fun h => h) .nil)) (fun hG => (ox_ix s24 .tmp .tmp (hb25 hG).1 (hb25 hG).2))) ⟨(.cons rfl (j2 rfl rfl)), .nil⟩ (by kernel_rfl) rfl <|
        .cons (S3 rfl rfl rfl Grd.plain _ (by first | exact Iff.rfl | (simp; done) | (simp; intros; exact Iff.rfl)) (.cond (fun h => h) .nil) (fun hG => (ox_load_elem t9))) ⟨(.cons rfl (j1 rfl)), .nil⟩ (by kernel_rfl) rfl <|
        .cons (S3 rfl rfl rfl Grd.plain _ (by first | exact Iff.rfl | (simp; done) | (simp; intros; exact Iff.rfl)) (.cond (fun h => h) (.cond (fun h => h) .nil)) (fun hG => (ox_neqStr .tmp .tmp))) ⟨(.cons rfl (j2 rfl rfl)), .nil⟩ (by kernel_rfl) rfl <|
        .cons (S5 ox9) ⟨(j2 rfl rfl), .nil⟩ (by kernel_rfl) rfl <|
        .nil) _ [[], [0], [0, 1], [0, 1, 2], [0, 1, 2, 3], [0, 1, 2], [0, 1, 2], [0, 1, 2, 6], [0, 1, 2, 5, 6, 7], [0, 1, 2, 5, 6, 7, 8], [0, 1, 2, 3, 4, 5, 6, 7, 8, 9], [0, 1, 2, 3, 4, 5, 6, 7, 8, 9, 10]] rfl (by kernel_rfl) (by kernel_rfl) ?_
      refine Q0 (σ' := ⟨[(2, _), (4, _), (5, _), (10, _), (11, _), (44, _), (45, _), (46, _), (71, .val ((v22.2.bad || (!decide (v23 = (ix x4_m17 ((1 : Int) + x46_m17)))))))], [(2, _), (5, _), (80005, _)]⟩) (j9 rfl rfl rfl rfl rfl rfl rfl rfl rfl) (j3 rfl rfl rfl) ?_
      refine Q3 _ rfl (fun hc26 => ?_) (fun hc26 => ?_)
      ·replace hφ := if_then hφ hc26
       refine Q0 (σ' := ⟨[(2, _)], [(2, _)]⟩) (j1 rfl) (j1 rfl) ?_
       refine Q2 (Q1 ?_)
       refine O5 (oxa z33 u33 rfl Bld.nil) .nil .nil rfl <| O2 rfl rfl (ox5 t33 .tmp) (.cons rfl (.one rfl)) (.one rfl) <| O5 (ox1 .int) .nil .nil rfl <| O1 <| Q0 (σ' := ⟨[(2, _), (3, .val (2 : Int))], [(2, .var zCa [])]⟩) (j2 rfl rfl) (j1 rfl) ?_
       refine Q5 ?_
       obtain rfl := Option.some.inj hφ
       exact Q6 hw0 rfl (.cell t33 rfl rfl (.tmp rfl rfl .nil)) rfl
      ·replace hφ := if_else hφ hc26
       refine Q0 (σ' := ⟨[(2, _), (4, _), (5, _), (10, _), (11, _), (44, _), (45, _), (46, _)], [(2, _), (5, _), (80005, _)]⟩) (j8 rfl rfl rfl rfl rfl rfl rfl rfl) (j3 rfl rfl rfl) ?_
       refine Q4 ?_
       obtain ⟨hb27, hφ⟩ := G_some hφ
       obtain ⟨hb28, hφ⟩ := G_some hφ
       refine Q1 ?_
       refine O5 (ox0 .tmp) (.one rfl) .nil rfl <| O5 (ox0 .tmp) (.one rfl) .nil rfl <| O5 (ox_nilCheck_rp (x := (⟨(ix x44_m17 x46_m17)⟩ : RP b)) hb27) (.one rfl) .nil rfl <| O2 rfl rfl (ox_store_rp (id := 5) (j := 80005) (x := ⟨(ix x44_m17 x46_m17)⟩) t3 .tmp hb28) (.cons rfl (.one rfl)) (.cons rfl (.one rfl)) <| O1 <| Q0 (σ' := ⟨[(2, _), (4, _), (5, _), (44, _), (45, _), (46, _)], [(2, _), (5, .var (cset y5_m17 (ix x44_m17 x46_m17) v22.1) []), (80005, _)]⟩) (j6 rfl rfl rfl rfl rfl rfl) (j3 rfl rfl rfl) ?_
       obtain ⟨hb29, hφ⟩ := G_some hφ
       refine Q1 ?_
       refine O5 (ox_add .tmp .int hb29) (.app (.one rfl) .nil) .nil rfl <| O5 (ox0 .tmp) (.one rfl) .nil rfl <| O1 <| Q0 (σ' := ⟨[(2, _), (4, _), (5, _), (44, _), (45, _), (46, .val (x46_m17 + (1 : Int)))], [(2, _), (5, _), (80005, _)]⟩) (j6 rfl rfl rfl rfl rfl rfl) (j3 rfl rfl rfl) ?_
       exact PT.next (m17, x4_m17, x44_m17, x45_m17, (x46_m17 + (1 : Int)), y2_m17, (cset y5_m17 (ix x44_m17 x46_m17) v22.1)) hφ (Nat.lt_succ_self _) (j6 rfl rfl rfl rfl rfl rfl) (j3 rfl rfl rfl)
     ·replace hφ := if_else hφ hc18
      refine Q0 (σ' := ⟨[(2, _), (5, _)], [(2, _), (5, _)]⟩) (j2 rfl rfl) (j2 rfl rfl) ?_
      refine PT.exit ?_
      exact PT.meet (y2_m17, y5_m17) hφ (j2 rfl rfl) (j2 rfl rfl)
    ·rintro ⟨y2_k16, y5_k16⟩ hφ
     subst hk16
     refine Q0 (σ' := ⟨[(2, _), (5, _)], [(2, .var (y2_k16) []), (5, .var (y5_k16) [])]⟩) (j2 rfl rfl) (j2 rfl rfl) ?_
     refine Q2 (Q2 ?_)
     obtain ⟨v30, hv30, hφ⟩ := B_some hφ
     refine Q1 ?_
     refine O5 (ox4 t33) (.one rfl) (.one rfl) rfl <| O5 (ox_call (c_model_Wrong hv30) (.cons .tmp .nil)) (.app (.one rfl) .nil) .nil rfl <| O5 (ox1 .tmp) (.one rfl) .nil rfl <| O1 <| Q0 (σ' := ⟨[(2, _), (5, _), (13, .val (v30))], [(2, _), (5, _)]⟩) (j3 rfl rfl rfl) (j2 rfl rfl) ?_
     refine Q2 (Q1 ?_)
     refine O5 (ox0 .tmp) (.one rfl) .nil rfl <| O5 (ox_neq .tmp .int) (.app (.one rfl) .nil) .nil rfl <| O1 <| Q0 (σ' := ⟨[(2, _), (5, _), (13, _), (80, .val (!decide (v30 = (0 : Int))))], [(2, _), (5, _)]⟩) (j4 rfl rfl rfl rfl) (j2 rfl rfl) ?_
     refine Q3 _ rfl (fun hc31 => ?_) (fun hc31 => ?_)
     ·replace hφ := if_then hφ hc31
      refine Q0 (σ' := ⟨[(2, _), (13, _)], [(2, _)]⟩) (j2 rfl rfl) (j1 rfl) ?_
      refine Q2 (Q1 ?_)
      refine O5 (oxa z33 u33 rfl Bld.nil) .nil .nil rfl <| O5 (ox0 .tmp) (.one rfl) .nil rfl <| O2 rfl rfl (ox5 t33 .tmp) (.cons rfl (.one rfl)) (.one rfl) <| O5 (ox1 .tmp) (.one rfl) .nil rfl <| O1 <| Q0 (σ' := ⟨[(2, _), (3, .val (v30))], [(2, .var zCa [])]⟩) (j2 rfl rfl) (j1 rfl) ?_
      refine Q5 ?_
      obtain rfl := Option.some.inj hφ
      exact Q6 hw0 rfl (.cell t33 rfl rfl (.tmp rfl rfl .nil)) rfl
     ·replace hφ := if_else hφ hc31
      refine Q0 (σ' := ⟨[(2, _), (5, _)], [(2, _), (5, _)]⟩) (j2 rfl rfl) (j2 rfl rfl) ?_
      refine Q4 ?_
      refine Q2 (Q1 ?_)
      refine O5 (ox4 t33) (.one rfl) (.one rfl) rfl <| O2 rfl rfl (ox5 t33 .tmp) (.cons rfl (.one rfl)) (.one rfl) <| O5 (ox1 .int) .nil .nil rfl <| O1 <| Q0 (σ' := ⟨[(2, _), (3, .val (0 : Int))], [(2, .var (y5_k16) [])]⟩) (j2 rfl rfl) (j1 rfl) ?_
      refine Q5 ?_
      obtain rfl := Option.some.inj hφ
      exact Q6 hw0 rfl (.cell t33 rfl rfl (.tmp rfl rfl .nil)) rfl
theorem c_text_Print {a0 : List Mk.Call} {r : ByteArray} (hφ : text_Print a0 = some r) : FnG Go.Proofs.Tryz.prog GT 10 [.val a0] (.val r) := by
 unfold text_Print at hφ
 refine FnG.mk' Go.Proofs.Tryz.func10 rfl (by decide) rfl rfl rfl (fun w0 hw0 hG0 => ?_)
 refine Q2 (Q1 ?_)
 refine O5 (ox1 (.str (by decide))) .nil .nil rfl <| O1 <| Q0 (σ' := ⟨[(0, .val (a0))], []⟩) (j1 rfl) trivial ?_
 refine Q2 (Q1 ?_)
 refine O5 (ox1 (.str (by decide))) .nil .nil rfl <| O1 <| Q0 (σ' := ⟨[(0, _), (3, .val (⟨#[]⟩ : ByteArray))], []⟩) (j2 rfl rfl) trivial ?_
 obtain ⟨k1, hk1, hφ⟩ := J_some hφ
 refine PT.cut (ι := ByteArray) (fun p => ⟨[(3, .val (p))], []⟩) (fun p => k1 (p) = some r) ?_ ?_
 ·skip
  refine Q2 (Q1 ?_)
  refine O5 (ox0 .tmp) (.one rfl) .nil rfl <| O5 (ox_len s46 .tmp) (.one rfl) .nil rfl <| O5 (ox0 .int) .nil .nil rfl <| O1 <| Q0 (σ' := ⟨[(3, _), (6, .val (a0)), (7, .val (a0.length : Int)), (8, .val (0 : Int))], []⟩) (j4 rfl rfl rfl rfl) trivial ?_
  refine PT.block ?_
  refine PT.loop (ι := Nat × ByteArray × (List Mk.Call) × Int × Int) (fun p => ⟨[(3, .val (p.2.1)), (6, .val (p.2.2.1)), (7, .val (p.2.2.2.1)), (8, .val (p.2.2.2.2))], []⟩) (fun p => text_Print_l1 k1 p.1 (p.2.1) (p.2.2.1) (p.2.2.2.1) (p.2.2.2.2) = some r) (fun p => p.1) (((a0.length : Int) - (0 : Int)).toNat + 1, (⟨#[]⟩ : ByteArray), a0, (a0.length : Int), (0 : Int)) hφ (j4 rfl rfl rfl rfl) trivial ?_
  rintro ⟨m2, x3_m2, x6_m2, x7_m2, x8_m2⟩ (hφ : text_Print_l1 k1 m2 x3_m2 x6_m2 x7_m2 x8_m2 = some r)
  obtain _ | m2 := m2
  ·exact (none_no hφ).elim
  rw [text_Print_l1.eq_2] at hφ
  refine Q0 (σ' := ⟨[(3, .val (x3_m2)), (6, .val (x6_m2)), (7, .val (x7_m2)), (8, .val (x8_m2))], []⟩) (j4 rfl rfl rfl rfl) trivial ?_
  refine Q2 (Q1 ?_)
  refine O5 (ox_lss .tmp .tmp) (.app (.one rfl) (.one rfl)) .nil rfl <| O1 <| Q0 (σ' := ⟨[(3, _), (6, _), (7, _), (8, _), (9, .val (decide (x8_m2 < x7_m2)))], []⟩) (j5 rfl rfl rfl rfl rfl) trivial ?_
  refine Q2 ?_
  refine Q3 _ rfl (fun hc3 => ?_) (fun hc3 => ?_)
  ·replace hφ := if_then hφ hc3
   refine Q0 (σ' := ⟨[(3, _), (6, _), (7, _), (8, _)], []⟩) (j4 rfl rfl rfl rfl) trivial ?_
   refine Q4 ?_
   refine Q2 ?_
   refine PT.block ?_
   refine Q2 ?_
   obtain ⟨hb4, hφ⟩ := G_some hφ
   refine Q1 ?_
   refine O5 (ox_ix s46 .tmp .tmp hb4.1 hb4.2) (.app (.one rfl) (.one rfl)) .nil rfl <| O5 (ox_load_elem t33) (.one rfl) .nil rfl <| O3 rfl rfl (ox_alloc (id := 5) z33) .nil .nil rfl (by kernel_rfl) <| O2 rfl rfl (ox5 t33 .tmp) (.cons rfl (.one rfl)) (.one rfl) <| O1 <| Q0 (σ' := ⟨[(3, _), (5, _), (6, _), (7, _), (8, _)], [(5, .var (ix x6_m2 x8_m2) [])]⟩) (j5 rfl rfl rfl rfl rfl) (j1 rfl) ?_
   obtain ⟨v5, hv5, hφ⟩ := B_some hφ
   obtain ⟨hb6, hφ⟩ := G_some hφ
   obtain ⟨hb7, hφ⟩ := G_some hφ
   refine Q1 ?_
   refine O5 (ox0 .tmp) (.one rfl) .nil rfl <| O5 (ox4 t33) (.one rfl) (.one rfl) rfl ?_
   refine Ops.putW rfl rfl (ox_callW keepG hw0 hG0 (c_text_Call hv5) (.cons .tmp .nil)) (.app (.one rfl) .nil) .nil rfl ?_
   refine O5 (ox_addStr .tmp (.str (by decide)) hb6) (.app (.one rfl) .nil) .nil rfl <| O5 (ox_addStr .tmp .tmp hb7) (.app (.one rfl) (.one rfl)) .nil rfl <| O5 (ox1 .tmp) (.one rfl) .nil rfl <| O1 <| Q0 (σ' := ⟨[(3, .val (x3_m2 ++ (v5 ++ (⟨#[10]⟩ : ByteArray)))), (6, _), (7, _), (8, _)], []⟩) (j4 rfl rfl rfl rfl) trivial ?_
   obtain ⟨hb8, hφ⟩ := G_some hφ
   refine Q1 ?_
   refine O5 (ox_add .tmp .int hb8) (.app (.one rfl) .nil) .nil rfl <| O5 (ox0 .tmp) (.one rfl) .nil rfl <| O1 <| Q0 (σ' := ⟨[(3, _), (6, _), (7, _), (8, .val (x8_m2 + (1 : Int)))], []⟩) (j4 rfl rfl rfl rfl) trivial ?_
   exact PT.next (m2, (x3_m2 ++ (v5 ++ (⟨#[10]⟩ : ByteArray))), x6_m2, x7_m2, (x8_m2 + (1 : Int))) hφ (Nat.lt_succ_self _) (j4 rfl rfl rfl rfl) trivial
  ·replace hφ := if_else hφ hc3
   refine Q0 (σ' := ⟨[(3, _)], []⟩) (j1 rfl) trivial ?_
   refine PT.exit ?_
   exact PT.meet (x3_m2) hφ (j1 rfl) trivial
 ·rintro x3_k1 hφ
  subst hk1
  refine Q0 (σ' := ⟨[(3, .val (x3_k1))], []⟩) (j1 rfl) trivial ?_
  refine Q2 (Q1 ?_)
  refine O5 (ox0 .tmp) (.one rfl) .nil rfl <| O5 (ox1 .tmp) (.one rfl) .nil rfl <| O1 <| Q0 (σ' := ⟨[(2, .val (x3_k1))], []⟩) (j1 rfl) trivial ?_
  refine Q5 ?_
  obtain rfl := Option.some.inj hφ
  exact Q6 hw0 rfl (.tmp rfl rfl .nil) rfl
theorem c_text_Parse {a0 : ByteArray} {r : ((List Mk.Call) × Int)} (hφ : text_Parse a0 = some r) : FnG Go.Proofs.Tryz.prog GT 11 [.val a0] (.tup [.val r.1, .val r.2]) := by
 unfold text_Parse at hφ
 refine FnG.mk' Go.Proofs.Tryz.func11 rfl (by decide) rfl rfl rfl (fun w0 hw0 hG0 => ?_)
 refine Q2 (Q1 ?_)
 refine O5 (ox1 .nilS) .nil .nil rfl <| O5 (ox1 .int) .nil .nil rfl <| O1 <| Q0 (σ' := ⟨[(0, .val (a0))], []⟩) (j1 rfl) trivial ?_
 refine Q2 (Q1 ?_)
 refine O5 (ox1 .nilS) .nil .nil rfl <| O1 <| Q0 (σ' := ⟨[(0, _), (4, .nilS)], []⟩) (j2 rfl rfl) trivial ?_
 obtain ⟨k1, hk1, hφ⟩ := J_some hφ
 refine PT.cut (ι := (List Mk.Call)) (fun p => ⟨[(4, .sl 1004)], [(1004, .arr 33 (p))]⟩) (fun p => k1 (p) = some r) ?_ ?_
 ·skip
  refine PT.block ?_
  refine PT.nilArr 1004 4 33 (Mk.Call) rfl (by kernel_rfl) ?_
  refine PT.loop (ι := Nat × ByteArray × (List Mk.Call)) (fun p => ⟨[(0, .val (p.2.1)), (4, .sl 1004)], [(1004, .arr 33 (p.2.2))]⟩) (fun p => text_Parse_l1 k1 p.1 (p.2.1) (p.2.2) = some r) (fun p => p.1) (a0.size + 1, a0, ([] : List Mk.Call)) hφ (j2 rfl rfl) (j1 rfl) ?_
  rintro ⟨m2, x0_m2, y1004_m2⟩ (hφ : text_Parse_l1 k1 m2 x0_m2 y1004_m2 = some r)
  obtain _ | m2 := m2
  ·exact (none_no hφ).elim
  rw [text_Parse_l1.eq_2] at hφ
  refine Q0 (σ' := ⟨[(0, .val (x0_m2)), (4, .sl 1004)], [(1004, .arr 33 (y1004_m2))]⟩) (j2 rfl rfl) (j1 rfl) ?_
  refine Q2 ?_
  refine Q2 (Q1 ?_)
  refine O5 (ox0 .tmp) (.one rfl) .nil rfl <| O5 (ox_neqStr .tmp (.str (by decide))) (.app (.one rfl) .nil) .nil rfl <| O1 <| Q0 (σ' := ⟨[(0, _), (4, _), (11, .val (!decide (x0_m2 = (⟨#[]⟩ : ByteArray))))], [(1004, _)]⟩) (j3 rfl rfl rfl) (j1 rfl) ?_
  refine Q3 _ rfl (fun hc3 => ?_) (fun hc3 => ?_)
  ·replace hφ := if_then hφ hc3
   refine Q0 (σ' := ⟨[(0, _), (4, _)], [(1004, _)]⟩) (j2 rfl rfl) (j1 rfl) ?_
   refine Q4 ?_
   refine PT.block ?_
   refine Q2 ?_
   obtain ⟨v4, hv4, hφ⟩ := B_some hφ
   refine Q1 ?_
   refine O5 (ox0 .tmp) (.one rfl) .nil rfl ?_
   refine Ops.putW rfl rfl (ox_callW keepG hw0 hG0 (c_strings_Cut hv4) (.cons .tmp (.cons (.str (by decide)) .nil))) (.app (.one rfl) (.app .nil .nil)) .nil rfl ?_
   refine O5 (ox0 .tmp) (.one rfl) .nil rfl <| O5 (ox7 rfl) (.one rfl) .nil rfl <| O5 (ox7 rfl) (.one rfl) .nil rfl <| O5 (ox7 rfl) (.one rfl) .nil rfl <| O5 (ox1 .tmp) (.one rfl) .nil rfl <| O5 (ox1 .tmp) (.one rfl) .nil rfl ?_
   refine O5 (ox1 .tmp) (.one rfl) .nil rfl <| O1 <| Q0 (σ' := ⟨[(4, _), (5, .val (v4.1)), (6, .val (v4.2.1)), (7, .val (v4.2.2))], [(1004, _)]⟩) (j4 rfl rfl rfl rfl) (j1 rfl) ?_
   refine Q2 ?_
   refine Q2 (Q1 ?_)
   refine O5 (ox0 .tmp) (.one rfl) .nil rfl <| O5 (ox_not .tmp) (.one rfl) .nil rfl <| O1 <| Q0 (σ' := ⟨[(4, _), (5, _), (6, _), (19, .val (!v4.2.2))], [(1004, _)]⟩) (j4 rfl rfl rfl rfl) (j1 rfl) ?_
   refine Q3 _ rfl (fun hc5 => ?_) (fun hc5 => ?_)
   ·replace hφ := if_then hφ hc5
    refine Q0 (σ' := ⟨[], []⟩) trivial trivial ?_
    refine Q2 (Q1 ?_)
    refine O5 (ox1 .nilS) .nil .nil rfl <| O5 (ox1 .int) .nil .nil rfl <| O1 <| Q0 (σ' := ⟨[(2, .nilS), (3, .val (8 : Int))], []⟩) (j2 rfl rfl) trivial ?_
    refine Q5 ?_
    refine PT.asNil 2 (Mk.Call) rfl ?_
    obtain rfl := Option.some.inj hφ
    exact Q6 hw0 rfl (.tmp rfl rfl (.tmp rfl rfl .nil)) rfl
   ·replace hφ := if_else hφ hc5
    refine Q0 (σ' := ⟨[(4, _), (5, _), (6, _)], [(1004, _)]⟩) (j3 rfl rfl rfl) (j1 rfl) ?_
    refine Q4 ?_
    refine Q2 ?_
    obtain ⟨v6, hv6, hφ⟩ := B_some hφ
    refine Q1 ?_
    refine O5 (ox0 .tmp) (.one rfl) .nil rfl ?_
    refine Ops.putW rfl rfl (ox_callW keepG hw0 hG0 (c_text_ReadCall hv6) (.cons .tmp .nil)) (.app (.one rfl) .nil) .nil rfl ?_
    refine O5 (ox0 .tmp) (.one rfl) .nil rfl <| O5 (ox7 rfl) (.one rfl) .nil rfl <| O5 (ox7 rfl) (.one rfl) .nil rfl <| O3 rfl rfl (ox_alloc (id := 8) z33) .nil .nil rfl (by kernel_rfl) <| O2 rfl rfl (ox5 t33 .tmp) (.cons rfl (.one rfl)) (.one rfl) <| O5 (ox1 .tmp) (.one rfl) .nil rfl <| O1 <| Q0 (σ' := ⟨[(4, _), (6, _), (8, _), (9, .val (v6.2))], [(8, .var (v6.1) []), (1004, _)]⟩) (j4 rfl rfl rfl rfl) (j2 rfl rfl) ?_
    refine Q2 ?_
    refine Q2 (Q1 ?_)
    refine O5 (ox0 .tmp) (.one rfl) .nil rfl <| O5 (ox_neq .tmp .int) (.app (.one rfl) .nil) .nil rfl <| O1 <| Q0 (σ' := ⟨[(4, _), (6, _), (8, _), (9, _), (26, .val (!decide (v6.2 = (0 : Int))))], [(8, _), (1004, _)]⟩) (j5 rfl rfl rfl rfl rfl) (j2 rfl rfl) ?_
    refine Q3 _ rfl (fun hc7 => ?_) (fun hc7 => ?_)
    ·replace hφ := if_then hφ hc7
     refine Q0 (σ' := ⟨[(9, _)], []⟩) (j1 rfl) trivial ?_
     refine Q2 (Q1 ?_)
     refine O5 (ox0 .tmp) (.one rfl) .nil rfl <| O5 (ox1 .nilS) .nil .nil rfl <| O5 (ox1 .tmp) (.one rfl) .nil rfl <| O1 <| Q0 (σ' := ⟨[(2, .nilS), (3, .val (v6.2))], []⟩) (j2 rfl rfl) trivial ?_
     refine Q5 ?_
     refine PT.asNil 2 (Mk.Call) rfl ?_
     obtain rfl := Option.some.inj hφ
     exact Q6 hw0 rfl (.tmp rfl rfl (.tmp rfl rfl .nil)) rfl
    ·replace hφ := if_else hφ hc7
     refine Q0 (σ' := ⟨[(4, _), (6, _), (8, _)], [(8, _), (1004, _)]⟩) (j3 rfl rfl rfl) (j2 rfl rfl) ?_
     refine Q4 ?_
     obtain ⟨hb8, hφ⟩ := G_some hφ
     refine Q1 ?_
     refine O5 (ox0 .tmp) (.one rfl) .nil rfl <| O5 (ox4 t33) (.one rfl) (.one rfl) rfl <| O5 (ox_buildSlice_val s46 z33 (.cons .tmp Parts.nil) rfl (by decide)) (.app (.one rfl) .nil) .nil rfl ?_
     refine Ops.putK [4, 28] rfl rfl (ox_append a46 .tmp .tmp hb8.1 hb8.2) (.app (.one rfl) (.one rfl)) (.one rfl) rfl (by kernel_rfl) ?_
     refine O5 (ox0 .tmp) (.one rfl) .nil rfl <| O5 (ox1 .tmp) (.one rfl) .nil rfl <| O5 (ox1 .tmp) (.one rfl) .nil rfl <| O1 <| Q0 (σ' := ⟨[(0, .val (v4.2.1)), (4, _)], [(1004, .arr 33 (y1004_m2 ++ ([v6.1] : List Mk.Call)))]⟩) (j2 rfl rfl) (j1 rfl) ?_
     exact PT.next (m2, v4.2.1, (y1004_m2 ++ ([v6.1] : List Mk.Call))) hφ (Nat.lt_succ_self _) (j2 rfl rfl) (j1 rfl)
  ·replace hφ := if_else hφ hc3
   refine Q0 (σ' := ⟨[(4, _)], [(1004, _)]⟩) (j1 rfl) (j1 rfl) ?_
   refine PT.exit ?_
   exact PT.meet (y1004_m2) hφ (j1 rfl) (j1 rfl)
 ·rintro y1004_k1 hφ
  subst hk1
  refine Q0 (σ' := ⟨[(4, .sl 1004)], [(1004, .arr 33 (y1004_k1))]⟩) (j1 rfl) (j1 rfl) ?_
  refine Q2 ?_
  refine Q2 (Q1 ?_)
  refine O5 (ox0 .tmp) (.one rfl) .nil rfl <| O5 (ox_len_arr s46 .tmp) (.one rfl) (.one rfl) rfl <| O5 (ox_gtr .tmp .int) (.app (.one rfl) .nil) .nil rfl <| O1 <| Q0 (σ' := ⟨[(4, _), (35, .val (decide ((8 : Int) < (y1004_k1.length : Int))))], [(1004, _)]⟩) (j2 rfl rfl) (j1 rfl) ?_
  refine Q3 _ rfl (fun hc9 => ?_) (fun hc9 => ?_)
  ·replace hφ := if_then hφ hc9
   refine Q0 (σ' := ⟨[], []⟩) trivial trivial ?_
   refine Q2 (Q1 ?_)
   refine O5 (ox1 .nilS) .nil .nil rfl <| O5 (ox1 .int) .nil .nil rfl <| O1 <| Q0 (σ' := ⟨[(2, .nilS), (3, .val (5 : Int))], []⟩) (j2 rfl rfl) trivial ?_
   refine Q5 ?_
   refine PT.asNil 2 (Mk.Call) rfl ?_
   obtain rfl := Option.some.inj hφ
   exact Q6 hw0 rfl (.tmp rfl rfl (.tmp rfl rfl .nil)) rfl
  ·replace hφ := if_else hφ hc9
   refine Q0 (σ' := ⟨[(4, _)], [(1004, _)]⟩) (j1 rfl) (j1 rfl) ?_
   refine Q4 ?_
   refine Q2 (Q1 ?_)
   refine O5 (ox0 .tmp) (.one rfl) .nil rfl <| O5 (ox1 .tmp) (.one rfl) .nil rfl <| O5 (ox1 .int) .nil .nil rfl <| O1 <| Q0 (σ' := ⟨[(2, _), (3, .val (0 : Int))], [(1004, _)]⟩) (j2 rfl rfl) (j1 rfl) ?_
   refine Q5 ?_
   refine PT.freeze 1004 [2] rfl (j1 rfl) ?_
   obtain rfl := Option.some.inj hφ
   exact Q6 hw0 rfl (.tmp rfl rfl (.tmp rfl rfl .nil)) rfl
end Go.Gx
end
section
namespace Go.Gx
open Sp
theorem c_slices_Clone_____byte___byte_ {a0 : List (List UInt8)} {r : (List (List UInt8))} (hφ : slices_Clone_____byte___byte_ a0 = some r) : Fn Go.Proofs.Tryz.prog 83 [.val a0] (.val r) := by
 unfold slices_Clone_____byte___byte_ at hφ
 refine Fn.mk' Go.Proofs.Tryz.func83 rfl (by decide) rfl rfl rfl (fun w0 hw0 => ?_)
 refine Q2 (Q1 ?_)
 refine O5 (ox1 .nilS) .nil .nil rfl <| O1 <| Q0 (σ' := ⟨[(0, .val (a0))], []⟩) (j1 rfl) trivial ?_
 refine Q2 ?_
 refine Q2 (Q1 ?_)
 refine O5 (ox0 .tmp) (.one rfl) .nil rfl <| O5 (ox_isNil (by kernel_rfl) .tmp .nilS) (.app (.one rfl) .nil) .nil rfl <| O1 <| Q0 (σ' := ⟨[(0, _), (4, _)], []⟩) (j2 rfl rfl) trivial ?_
 refine PT.condB _ rfl (fun hc1 => ?_) (fun _ => ?_)
 ·have hc1e := hc1 rfl
  refine Q0 (σ' := ⟨[], []⟩) trivial trivial ?_
  refine Q2 (Q1 ?_)
  refine O5 (ox1 .nilS) .nil .nil rfl <| O1 <| Q0 (σ' := ⟨[(2, .nilS)], []⟩) (j1 rfl) trivial ?_
  refine Q5 ?_
  refine PT.asNil 2 (List UInt8) rfl ?_
  rw [hc1e] at hφ
  obtain ⟨_, hφ⟩ := G_some hφ
  obtain rfl := Option.some.inj hφ
  exact Q6 hw0 rfl (.tmp rfl rfl .nil) rfl
 ·skip
  refine Q0 (σ' := ⟨[(0, _)], []⟩) (j1 rfl) trivial ?_
  refine Q4 ?_
  refine Q2 ?_
  obtain ⟨hb2, hφ⟩ := G_some hφ
  refine Q1 ?_
  refine O3 rfl rfl (ox_buildSlice_arr (id := 5) s31 z112 Parts.nil rfl (by decide)) .nil .nil rfl (by kernel_rfl) <| O5 (ox0 .tmp) (.one rfl) .nil rfl ?_
  refine Ops.putK [5] rfl rfl (ox_append a31 .tmp .tmp hb2.1 hb2.2) (.app (.one rfl) (.one rfl)) (.one rfl) rfl (by kernel_rfl) ?_
  refine O5 (ox1 .tmp) (.one rfl) .nil rfl <| O1 <| Q0 (σ' := ⟨[(2, _)], [(5, .arr 112 (([] : List (List UInt8)) ++ a0))]⟩) (j1 rfl) (j1 rfl) ?_
  refine Q5 ?_
  refine PT.freeze 5 [2] rfl (j1 rfl) ?_
  obtain rfl := Option.some.inj hφ
  exact Q6 hw0 rfl (.tmp rfl rfl .nil) rfl
theorem x_slices_Clone_____byte___byte_ {a0 : List (List UInt8)} {r : (List (List UInt8))} (hφ : slices_Clone_____byte___byte_ a0 = some r) : FnX Go.Proofs.Tryz.prog 83 [.val a0] [] (.sl 5) [(5, .arr 112 r)] [] := by
 unfold slices_Clone_____byte___byte_ at hφ
 refine FnX.mk' Go.Proofs.Tryz.func83 rfl (by decide) rfl (fun w0 m0 => ?_)
 refine Q2 (Q1 ?_)
 refine O5 (ox1 .nilS) .nil .nil rfl <| O1 <| Q0 (σ' := ⟨[(0, .val (a0))], []⟩) (j1 rfl) trivial ?_
 refine Q2 ?_
 refine Q2 (Q1 ?_)
 refine O5 (ox0 .tmp) (.one rfl) .nil rfl <| O5 (ox_isNil (by kernel_rfl) .tmp .nilS) (.app (.one rfl) .nil) .nil rfl <| O1 <| Q0 (σ' := ⟨[(0, _), (4, _)], []⟩) (j2 rfl rfl) trivial ?_
 refine PT.condB _ rfl (fun hc1 => ?_) (fun _ => ?_)
 ·have hc1e := hc1 rfl
  refine Q0 (σ' := ⟨[], []⟩) trivial trivial ?_
  refine Q2 (Q1 ?_)
  refine O5 (ox1 .nilS) .nil .nil rfl <| O1 <| Q0 (σ' := ⟨[(2, .nilS)], []⟩) (j1 rfl) trivial ?_
  refine Q5 ?_
  refine PT.nilArr 5 2 112 (List UInt8) rfl (by kernel_rfl) ?_
  rw [hc1e] at hφ
  obtain ⟨_, hφ⟩ := G_some hφ
  obtain rfl := Option.some.inj hφ
  exact Q7 rfl (.tmp rfl .nil) rfl (j1 rfl) trivial
 ·skip
  refine Q0 (σ' := ⟨[(0, _)], []⟩) (j1 rfl) trivial ?_
  refine Q4 ?_
  refine Q2 ?_
  obtain ⟨hb2, hφ⟩ := G_some hφ
  refine Q1 ?_
  refine O3 rfl rfl (ox_buildSlice_arr (id := 5) s31 z112 Parts.nil rfl (by decide)) .nil .nil rfl (by kernel_rfl) <| O5 (ox0 .tmp) (.one rfl) .nil rfl ?_
  refine Ops.putK [5] rfl rfl (ox_append a31 .tmp .tmp hb2.1 hb2.2) (.app (.one rfl) (.one rfl)) (.one rfl) rfl (by kernel_rfl) ?_
  refine O5 (ox1 .tmp) (.one rfl) .nil rfl <| O1 <| Q0 (σ' := ⟨[(2, _)], [(5, .arr 112 (([] : List (List UInt8)) ++ a0))]⟩) (j1 rfl) (j1 rfl) ?_
  refine Q5 ?_
  obtain rfl := Option.some.inj hφ
  exact Q7 rfl (.tmp rfl .nil) rfl (j1 rfl) trivial
theorem c_slices_Clone___byte_byte_ {a0 : List UInt8} {r : (List UInt8)} (hφ : slices_Clone___byte_byte_ a0 = some r) : Fn Go.Proofs.Tryz.prog 60 [.val a0] (.val r) := by
 unfold slices_Clone___byte_byte_ at hφ
 refine Fn.mk' Go.Proofs.Tryz.func60 rfl (by decide) rfl rfl rfl (fun w0 hw0 => ?_)
 refine Q2 (Q1 ?_)
 refine O5 (ox1 .nilS) .nil .nil rfl <| O1 <| Q0 (σ' := ⟨[(0, .val (a0))], []⟩) (j1 rfl) trivial ?_
 refine Q2 ?_
 refine Q2 (Q1 ?_)
 refine O5 (ox0 .tmp) (.one rfl) .nil rfl <| O5 (ox_isNil (by kernel_rfl) .tmp .nilS) (.app (.one rfl) .nil) .nil rfl <| O1 <| Q0 (σ' := ⟨[(0, _), (4, _)], []⟩) (j2 rfl rfl) trivial ?_
 refine PT.condB _ rfl (fun hc1 => ?_) (fun _ => ?_)
 ·have hc1e := hc1 rfl
  refine Q0 (σ' := ⟨[], []⟩) trivial trivial ?_
  refine Q2 (Q1 ?_)
  refine O5 (ox1 .nilS) .nil .nil rfl <| O1 <| Q0 (σ' := ⟨[(2, .nilS)], []⟩) (j1 rfl) trivial ?_
  refine Q5 ?_
  refine PT.asNil 2 (UInt8) rfl ?_
  rw [hc1e] at hφ
  obtain ⟨_, hφ⟩ := G_some hφ
  obtain rfl := Option.some.inj hφ
  exact Q6 hw0 rfl (.tmp rfl rfl .nil) rfl
 ·skip
  refine Q0 (σ' := ⟨[(0, _)], []⟩) (j1 rfl) trivial ?_
  refine Q4 ?_
  refine Q2 ?_
  obtain ⟨hb2, hφ⟩ := G_some hφ
  refine Q1 ?_
  refine O3 rfl rfl (ox_buildSlice_arr (id := 5) s112 z5 Parts.nil rfl (by decide)) .nil .nil rfl (by kernel_rfl) <| O5 (ox0 .tmp) (.one rfl) .nil rfl ?_
  refine Ops.putK [5] rfl rfl (ox_append a112 .tmp .tmp hb2.1 hb2.2) (.app (.one rfl) (.one rfl)) (.one rfl) rfl (by kernel_rfl) ?_
  refine O5 (ox1 .tmp) (.one rfl) .nil rfl <| O1 <| Q0 (σ' := ⟨[(2, _)], [(5, .arr 5 (([] : List UInt8) ++ a0))]⟩) (j1 rfl) (j1 rfl) ?_
  refine Q5 ?_
  refine PT.freeze 5 [2] rfl (j1 rfl) ?_
  obtain rfl := Option.some.inj hφ
  exact Q6 hw0 rfl (.tmp rfl rfl .nil) rfl
theorem c_client_Come {a0 : Mk.Client} {a1 : List UInt8} {r : Mk.Client} (hφ : client_Come a0 a1 = some r) : Fn Go.Proofs.Tryz.prog 57 [.val a0, .val a1] (.val r) := by
 unfold client_Come at hφ
 refine Fn.mk' Go.Proofs.Tryz.func57 rfl (by decide) rfl rfl rfl (fun w0 hw0 => ?_)
 refine Q2 (Q1 ?_)
 refine O3 rfl rfl (ox_box (id := 2) .tmp) (.one rfl) .nil rfl (by kernel_rfl) <| O3 rfl rfl (ox_alloc (id := 4) z49) .nil .nil rfl (by kernel_rfl) <| O1 <| Q0 (σ' := ⟨[(1, .val (a1)), (2, _), (4, _)], [(2, .var (a0) []), (4, .var zCl [])]⟩) (j3 rfl rfl rfl) (j2 rfl rfl) ?_
 refine Q2 (Q1 ?_)
 refine O5 (ox4 t49) (.one rfl) (.one rfl) rfl <| O3 rfl rfl (ox_alloc (id := 5) z49) .nil .nil rfl (by kernel_rfl) <| O2 rfl rfl (ox5 t49 .tmp) (.cons rfl (.one rfl)) (.one rfl) <| O1 <| Q0 (σ' := ⟨[(1, _), (2, _), (4, _), (5, _)], [(2, _), (4, _), (5, .var (a0) [])]⟩) (j4 rfl rfl rfl rfl) (j3 rfl rfl rfl) ?_
 obtain ⟨k1, hk1, hφ⟩ := J_some hφ
 refine PT.cut (ι := Mk.Client × Mk.Client) (fun p => ⟨[(4, .ptr 4 (Lens.id (α := Mk.Client))), (5, .ptr 5 (Lens.id (α := Mk.Client)))], [(4, .var (p.1) []), (5, .var (p.2) [])]⟩) (fun p => k1 (p.1) (p.2) = some r) ?_ ?_
 ·skip
  refine Q2 (Q1 ?_)
  refine O5 (ox3 Client_Box f49_4) (.one rfl) .nil rfl <| O5 (ox2 t31) (.one rfl) (.one rfl) rfl <| O5 (ox_len s31 .tmp) (.one rfl) .nil rfl <| O5 (ox_lss .tmp .int) (.app (.one rfl) .nil) .nil rfl <| O1 <| Q0 (σ' := ⟨[(1, _), (2, _), (4, _), (5, _), (10, .val (decide ((a0.Box.length : Int) < (3 : Int))))], [(2, _), (4, _), (5, _)]⟩) (j5 rfl rfl rfl rfl rfl) (j3 rfl rfl rfl) ?_
  refine Q3 _ rfl (fun hc2 => ?_) (fun hc2 => ?_)
  ·replace hφ := if_then hφ hc2
   refine Q0 (σ' := ⟨[(1, _), (2, _), (4, _), (5, _)], [(2, _), (4, _), (5, _)]⟩) (j4 rfl rfl rfl rfl) (j3 rfl rfl rfl) ?_
   obtain ⟨v3, hv3, hφ⟩ := B_some hφ
   obtain ⟨v4, hv4, hφ⟩ := B_some hφ
   obtain ⟨hb5, hφ⟩ := G_some hφ
   refine Q1 ?_
   refine O5 (ox3 Client_Box f49_4) (.one rfl) .nil rfl <| O5 (ox2 t31) (.one rfl) (.one rfl) rfl <| O3 rfl rfl (ox_callX (x_slices_Clone_____byte___byte_ hv3) [] [(5, 13)] [(5, 13)] [] (.cons .tmp .nil) rfl rfl rfl rfl rfl rfl rfl rfl trivial rfl rfl rfl rfl) (.app (.one rfl) .nil) .nil rfl (by kernel_rfl) <| O5 (ox0 .tmp) (.one rfl) .nil rfl <| O5 (ox_call (c_slices_Clone___byte_byte_ hv4) (.cons .tmp .nil)) (.app (.one rfl) .nil) .nil rfl <| O5 (ox_buildSlice_val s31 z112 (.cons .tmp Parts.nil) rfl (by decide)) (.app (.one rfl) .nil) .nil rfl ?_
   refine Ops.putK [13] rfl rfl (ox_appendV a31 .tmp .tmp hb5.1 hb5.2) (.app (.one rfl) (.one rfl)) (.one rfl) rfl (by kernel_rfl) ?_
   refine O5 (ox3 Client_Box f49_4) (.one rfl) .nil rfl <| O2 rfl rfl (ox_store_fld t31 .tmp) (.cons rfl (.one rfl)) (.one rfl) <| O1 <| Q0 (σ' := ⟨[(4, _), (5, _)], [(4, _), (5, .var ({ a0 with Box := (v3 ++ ([v4] : List (List UInt8))) }) [])]⟩) (j2 rfl rfl) (j2 rfl rfl) ?_
   exact PT.meet (zCl, { a0 with Box := (v3 ++ ([v4] : List (List UInt8))) }) hφ (j2 rfl rfl) (j2 rfl rfl)
  ·replace hφ := if_else hφ hc2
   refine Q0 (σ' := ⟨[(4, _), (5, _)], [(4, _), (5, _)]⟩) (j2 rfl rfl) (j2 rfl rfl) ?_
   refine Q4 ?_
   exact PT.meet (zCl, a0) hφ (j2 rfl rfl) (j2 rfl rfl)
 ·rintro ⟨y4_k1, y5_k1⟩ hφ
  subst hk1
  refine Q0 (σ' := ⟨[(4, .ptr 4 (Lens.id (α := Mk.Client))), (5, .ptr 5 (Lens.id (α := Mk.Client)))], [(4, .var (y4_k1) []), (5, .var (y5_k1) [])]⟩) (j2 rfl rfl) (j2 rfl rfl) ?_
  refine Q2 (Q1 ?_)
  refine O5 (ox4 t49) (.one rfl) (.one rfl) rfl <| O2 rfl rfl (ox5 t49 .tmp) (.cons rfl (.one rfl)) (.one rfl) <| O1 <| Q0 (σ' := ⟨[(4, _)], [(4, .var (y5_k1) [])]⟩) (j1 rfl) (j1 rfl) ?_
  refine Q5 ?_
  obtain rfl := Option.some.inj hφ
  exact Q6 hw0 rfl (.cell t49 rfl rfl .nil) rfl
theorem c_slices_Clone___api_Reply_api_Reply_ {a0 : List Mk.Reply} {r : (List Mk.Reply)} (hφ : slices_Clone___api_Reply_api_Reply_ a0 = some r) : Fn Go.Proofs.Tryz.prog 61 [.val a0] (.val r) := by
 unfold slices_Clone___api_Reply_api_Reply_ at hφ
 refine Fn.mk' Go.Proofs.Tryz.func61 rfl (by decide) rfl rfl rfl (fun w0 hw0 => ?_)
 refine Q2 (Q1 ?_)
 refine O5 (ox1 .nilS) .nil .nil rfl <| O1 <| Q0 (σ' := ⟨[(0, .val (a0))], []⟩) (j1 rfl) trivial ?_
 refine Q2 ?_
 refine Q2 (Q1 ?_)
 refine O5 (ox0 .tmp) (.one rfl) .nil rfl <| O5 (ox_isNil (by kernel_rfl) .tmp .nilS) (.app (.one rfl) .nil) .nil rfl <| O1 <| Q0 (σ' := ⟨[(0, _), (4, _)], []⟩) (j2 rfl rfl) trivial ?_
 refine PT.condB _ rfl (fun hc1 => ?_) (fun _ => ?_)
 ·have hc1e := hc1 rfl
  refine Q0 (σ' := ⟨[], []⟩) trivial trivial ?_
  refine Q2 (Q1 ?_)
  refine O5 (ox1 .nilS) .nil .nil rfl <| O1 <| Q0 (σ' := ⟨[(2, .nilS)], []⟩) (j1 rfl) trivial ?_
  refine Q5 ?_
  refine PT.asNil 2 (Mk.Reply) rfl ?_
  rw [hc1e] at hφ
  obtain ⟨_, hφ⟩ := G_some hφ
  obtain rfl := Option.some.inj hφ
  exact Q6 hw0 rfl (.tmp rfl rfl .nil) rfl
 ·skip
  refine Q0 (σ' := ⟨[(0, _)], []⟩) (j1 rfl) trivial ?_
  refine Q4 ?_
  refine Q2 ?_
  obtain ⟨hb2, hφ⟩ := G_some hφ
  refine Q1 ?_
  refine O3 rfl rfl (ox_buildSlice_arr (id := 5) s47 z38 Parts.nil rfl (by decide)) .nil .nil rfl (by kernel_rfl) <| O5 (ox0 .tmp) (.one rfl) .nil rfl ?_
  refine Ops.putK [5] rfl rfl (ox_append a47 .tmp .tmp hb2.1 hb2.2) (.app (.one rfl) (.one rfl)) (.one rfl) rfl (by kernel_rfl) ?_
  refine O5 (ox1 .tmp) (.one rfl) .nil rfl <| O1 <| Q0 (σ' := ⟨[(2, _)], [(5, .arr 38 (([] : List Mk.Reply) ++ a0))]⟩) (j1 rfl) (j1 rfl) ?_
  refine Q5 ?_
  refine PT.freeze 5 [2] rfl (j1 rfl) ?_
  obtain rfl := Option.some.inj hφ
  exact Q6 hw0 rfl (.tmp rfl rfl .nil) rfl
theorem x_slices_Clone___api_Reply_api_Reply_ {a0 : List Mk.Reply} {r : (List Mk.Reply)} (hφ : slices_Clone___api_Reply_api_Reply_ a0 = some r) : FnX Go.Proofs.Tryz.prog 61 [.val a0] [] (.sl 5) [(5, .arr 38 r)] [] := by
 unfold slices_Clone___api_Reply_api_Reply_ at hφ
 refine FnX.mk' Go.Proofs.Tryz.func61 rfl (by decide) rfl (fun w0 m0 => ?_)
 refine Q2 (Q1 ?_)
 refine O5 (ox1 .nilS) .nil .nil rfl <| O1 <| Q0 (σ' := ⟨[(0, .val (a0))], []⟩) (j1 rfl) trivial ?_
 refine Q2 ?_
 refine Q2 (Q1 ?_)
 refine O5 (ox0 .tmp) (.one rfl) .nil rfl <| O5 (ox_isNil (by kernel_rfl) .tmp .nilS) (.app (.one rfl) .nil) .nil rfl <| O1 <| Q0 (σ' := ⟨[(0, _), (4, _)], []⟩) (j2 rfl rfl) trivial ?_
 refine PT.condB _ rfl (fun hc1 => ?_) (fun _ => ?_)
 ·have hc1e := hc1 rfl
  refine Q0 (σ' := ⟨[], []⟩) trivial trivial ?_
  refine Q2 (Q1 ?_)
  refine O5 (ox1 .nilS) .nil .nil rfl <| O1 <| Q0 (σ' := ⟨[(2, .nilS)], []⟩) (j1 rfl) trivial ?_
  refine Q5 ?_
  refine PT.nilArr 5 2 38 (Mk.Reply) rfl (by kernel_rfl) ?_
  rw [hc1e] at hφ
  obtain ⟨_, hφ⟩ := G_some hφ
  obtain rfl := Option.some.inj hφ
  exact Q7 rfl (.tmp rfl .nil) rfl (j1 rfl) trivial
 ·skip
  refine Q0 (σ' := ⟨[(0, _)], []⟩) (j1 rfl) trivial ?_
  refine Q4 ?_
  refine Q2 ?_
  obtain ⟨hb2, hφ⟩ := G_some hφ
  refine Q1 ?_
  refine O3 rfl rfl (ox_buildSlice_arr (id := 5) s47 z38 Parts.nil rfl (by decide)) .nil .nil rfl (by kernel_rfl) <| O5 (ox0 .tmp) (.one rfl) .nil rfl ?_
  refine Ops.putK [5] rfl rfl (ox_append a47 .tmp .tmp hb2.1 hb2.2) (.app (.one rfl) (.one rfl)) (.one rfl) rfl (by kernel_rfl) ?_
  refine O5 (ox1 .tmp) (.one rfl) .nil rfl <| O1 <| Q0 (σ' := ⟨[(2, _)], [(5, .arr 38 (([] : List Mk.Reply) ++ a0))]⟩) (j1 rfl) (j1 rfl) ?_
  refine Q5 ?_
  obtain rfl := Option.some.inj hφ
  exact Q7 rfl (.tmp rfl .nil) rfl (j1 rfl) trivial
theorem c_client_hear {a0 : Mk.Client} {a1 : Int} {r : Mk.Client} (hφ : client_hear a0 a1 = some r) : Fn Go.Proofs.Tryz.prog 75 [.val a0, .val a1] (.val r) := by
 unfold client_hear at hφ
 refine Fn.mk' Go.Proofs.Tryz.func75 rfl (by decide) rfl rfl rfl (fun w0 hw0 => ?_)
 refine Q2 (Q1 ?_)
 refine O3 rfl rfl (ox_box (id := 2) .tmp) (.one rfl) .nil rfl (by kernel_rfl) <| O3 rfl rfl (ox_alloc (id := 4) z49) .nil .nil rfl (by kernel_rfl) <| O1 <| Q0 (σ' := ⟨[(1, .val (a1)), (2, _), (4, _)], [(2, .var (a0) []), (4, .var zCl [])]⟩) (j3 rfl rfl rfl) (j2 rfl rfl) ?_
 refine Q2 ?_
 obtain ⟨hb1, hφ⟩ := G_some hφ
 obtain ⟨v2, hv2, hφ⟩ := B_some hφ
 refine Q1 ?_
 refine O5 (ox3 Client_Box f49_4) (.one rfl) .nil rfl <| O5 (ox2 t31) (.one rfl) (.one rfl) rfl <| O5 (ox_ix s31 .tmp .int hb1.1 hb1.2) (.app (.one rfl) .nil) .nil rfl <| O5 (ox_load_elem t112) (.one rfl) .nil rfl <| O5 (ox_call (c_wire_ReadAnswer hv2) (.cons .tmp .nil)) (.app (.one rfl) .nil) .nil rfl <| O5 (ox0 .tmp) (.one rfl) .nil rfl ?_
 refine O5 (ox7 rfl) (.one rfl) .nil rfl <| O5 (ox7 rfl) (.one rfl) .nil rfl <| O3 rfl rfl (ox_alloc (id := 5) z105) .nil .nil rfl (by kernel_rfl) <| O2 rfl rfl (ox5 t105 .tmp) (.cons rfl (.one rfl)) (.one rfl) <| O5 (ox1 .tmp) (.one rfl) .nil rfl <| O1 <| Q0 (σ' := ⟨[(1, _), (2, _), (4, _), (5, _), (6, .val (v2.2))], [(2, _), (4, _), (5, .var (v2.1) [])]⟩) (j5 rfl rfl rfl rfl rfl) (j3 rfl rfl rfl) ?_
 refine Q2 ?_
 obtain ⟨hb3, hφ⟩ := G_some hφ
 obtain ⟨v4, hv4, hφ⟩ := B_some hφ
 refine Q1 ?_
 refine O5 (ox3 Client_Box f49_4) (.one rfl) .nil rfl <| O5 (ox2 t31) (.one rfl) (.one rfl) rfl <| O5 (ox_slice s31 .tmp (.some .int) .none hb3.1 hb3.2.1 hb3.2.2) (.app (.one rfl) (.app .nil .nil)) .nil rfl <| O5 (ox_call (c_slices_Clone_____byte___byte_ hv4) (.cons .tmp .nil)) (.app (.one rfl) .nil) .nil rfl <| O5 (ox3 Client_Box f49_4) (.one rfl) .nil rfl <| O2 rfl rfl (ox_store_fld t31 .tmp) (.cons rfl (.one rfl)) (.one rfl) <| O1 <| Q0 (σ' := ⟨[(1, _), (2, _), (4, _), (5, _), (6, _)], [(2, .var ({ a0 with Box := v4 }) []), (4, _), (5, _)]⟩) (j5 rfl rfl rfl rfl rfl) (j3 rfl rfl rfl) ?_
 obtain ⟨k5, hk5, hφ⟩ := J_some hφ
 refine PT.cut (ι := Mk.Client × Mk.Client) (fun p => ⟨[(2, .ptr 2 (Lens.id (α := Mk.Client))), (4, .ptr 4 (Lens.id (α := Mk.Client)))], [(2, .var (p.1) []), (4, .var (p.2) [])]⟩) (fun p => k5 (p.1) (p.2) = some r) ?_ ?_
 ·skip
  refine Q2 (Q1 ?_)
  refine O5 (ox0 .tmp) (.one rfl) .nil rfl <| O5 (ox_eql .tmp .int) (.app (.one rfl) .nil) .nil rfl <| O5 (ox0 .tmp) (.one rfl) .nil rfl <| O4 rfl rfl rfl rfl (.plain .nil) (fun hG => (ox3 Answer_Client f105_0)) (j1 rfl) .nil rfl <| O4 rfl rfl rfl rfl (.cond (fun h => h) .nil) (fun hG => (ox2 t3)) (j1 rfl) (.one rfl) rfl <| O4 rfl rfl rfl rfl (.plain .nil) (fun hG => (ox0 .tmp)) (j1 rfl) .nil rfl ?_
  refine O4 rfl rfl rfl rfl (.cond (fun h => h) (.cond (fun h => h) .nil)) (fun hG => (ox_eql .tmp .tmp)) (j2 rfl rfl) .nil rfl <| O5 ox8 (j2 rfl rfl) .nil rfl <| O5 (ox0 .tmp) (.one rfl) .nil rfl <| O4 rfl rfl rfl rfl (.plain .nil) (fun hG => (ox3 Answer_Token f105_1)) (j1 rfl) .nil rfl <| O4 rfl rfl rfl rfl (.cond (fun h => h) .nil) (fun hG => (ox2 t3)) (j1 rfl) (.one rfl) rfl <| O4 rfl rfl rfl rfl (.plain .nil) (fun hG => (ox3 Client_At f49_1)) (j1 rfl) .nil rfl ?_
  refine O4 rfl rfl rfl rfl (.cond (fun h => h) .nil) (fun hG => (ox2 t3)) (j1 rfl) (.one rfl) rfl <| O4 rfl rfl rfl rfl (.cond (fun h => h) (.cond (fun h => h) .nil)) (fun hG => (ox_eql .tmp .tmp)) (j2 rfl rfl) .nil rfl <| O5 ox8 (j2 rfl rfl) .nil rfl <| O5 (ox0 .tmp) (.one rfl) .nil rfl <| O4 rfl rfl rfl rfl (.plain .nil) (fun hG => (ox3 Client_Sent f49_2)) (j1 rfl) .nil rfl <| O4 rfl rfl rfl rfl (.cond (fun h => h) .nil) (fun hG => (ox2 t4)) (j1 rfl) (.one rfl) rfl ?_
  refine O5 ox8 (j2 rfl rfl) .nil rfl <| O1 <| Q0 (σ' := ⟨[(2, _), (4, _), (5, _), (38, .val (((((decide (v2.2 = (0 : Int))) && (decide (v2.1.Client = a1))) && (decide (v2.1.Token = { a0 with Box := v4 }.At))) && { a0 with Box := v4 }.Sent)))], [(2, _), (4, _), (5, _)]⟩) (j4 rfl rfl rfl rfl) (j3 rfl rfl rfl) ?_
  refine Q3 _ rfl (fun hc6 => ?_) (fun hc6 => ?_)
  ·replace hφ := if_then hφ hc6
   refine Q0 (σ' := ⟨[(2, _), (4, _), (5, _)], [(2, _), (4, _), (5, _)]⟩) (j3 rfl rfl rfl) (j3 rfl rfl rfl) ?_
   refine Q2 ?_
   obtain ⟨v7, hv7, hφ⟩ := B_some hφ
   obtain ⟨hb8, hφ⟩ := G_some hφ
   refine Q8 hMixed (
     .cons (S5 (ox3 Client_Got f49_5)) ⟨.one rfl, .nil⟩ (by kernel_rfl) rfl <|
     .cons (S5 (ox2 t47)) ⟨.one rfl, .one rfl⟩ (by kernel_rfl) rfl <|
     .cons (S5 (ox_callX (x_slices_Clone___api_Reply_api_Reply_ hv7) [] [(5, 41)] [(5, 41)] [] (.cons .tmp .nil) rfl rfl rfl rfl rfl rfl rfl rfl trivial rfl rfl rfl rfl)) ⟨(.app (.one rfl) .nil), .nil⟩ (by kernel_rfl) rfl <|
     .cons (S5 (ox3 Answer_Reply f105_2)) ⟨.one rfl, .nil⟩ (by kernel_rfl) rfl <|
     .cons (S5 (ox2 t38)) ⟨.one rfl, .one rfl⟩ (by kernel_rfl) rfl <|
     .cons (S5 (ox_buildSlice_val s47 z38 (.cons .tmp Parts.nil) rfl (by decide))) ⟨(.app (.one rfl) .nil), .nil⟩ (by kernel_rfl) rfl <|
     .cons (Step.putK [41] rfl rfl (ox_appendV a47 .tmp .tmp hb8.1 hb8.2)) ⟨(.app (.one rfl) (.one rfl)), .one rfl⟩ (by kernel_rfl) rfl <|
     .cons (S5 (ox3 Client_Got f49_5)) ⟨.one rfl, .nil⟩ (by kernel_rfl) rfl <|
     .cons (S4 rfl rfl (ox_store_fld t47 .tmp)) ⟨(.cons rfl (.one rfl)), .one rfl⟩ (by kernel_rfl) rfl <|
     .nil) _ [[], [0], [0, 1], [], [3], [3, 4], [0, 1, 2, 3, 4, 5], [0, 1, 2, 3, 4, 5, 6], [0, 1, 2, 3, 4, 5, 6, 7]] rfl (by kernel_rfl) (by kernel_rfl) ?_
   refine Q0 (σ' := ⟨[(2, _), (4, _)], [(2, .var ({ ({ a0 with Box := v4 }) with Got := (v7 ++ ([v2.1.Reply] : List Mk.Reply)) }) []), (4, _)]⟩) (j2 rfl rfl) (j2 rfl rfl) ?_
   refine Q2 ?_
   obtain ⟨hb9, hφ⟩ := G_some hφ
   refine Q1 ?_
   refine O5 (ox3 Client_At f49_1) (.one rfl) .nil rfl <| O5 (ox2 t3) (.one rfl) (.one rfl) rfl <| O5 (ox_add .tmp .int hb9) (.app (.one rfl) .nil) .nil rfl <| O5 (ox3 Client_At f49_1) (.one rfl) .nil rfl <| O2 rfl rfl (ox_store_fld t3 .tmp) (.cons rfl (.one rfl)) (.one rfl) <| O1 <| Q0 (σ' := ⟨[(2, _), (4, _)], [(2, .var ({ ({ ({ a0 with Box := v4 }) with Got := (v7 ++ ([v2.1.Reply] : List Mk.Reply)) }) with At := ({ ({ a0 with Box := v4 }) with Got := (v7 ++ ([v2.1.Reply] : List Mk.Reply)) }.At + (1 : Int)) }) []), (4, _)]⟩) (j2 rfl rfl) (j2 rfl rfl) ?_
   refine Q1 ?_
   refine O5 (ox3 Client_Sent f49_2) (.one rfl) .nil rfl <| O2 rfl rfl (ox_store_fld t4 .bool) (.cons rfl .nil) (.one rfl) <| O1 <| Q0 (σ' := ⟨[(2, _), (4, _)], [(2, .var ({ ({ ({ ({ a0 with Box := v4 }) with Got := (v7 ++ ([v2.1.Reply] : List Mk.Reply)) }) with At := ({ ({ a0 with Box := v4 }) with Got := (v7 ++ ([v2.1.Reply] : List Mk.Reply)) }.At + (1 : Int)) }) with Sent := false }) []), (4, _)]⟩) (j2 rfl rfl) (j2 rfl rfl) ?_
   exact PT.meet ({ ({ ({ ({ a0 with Box := v4 }) with Got := (v7 ++ ([v2.1.Reply] : List Mk.Reply)) }) with At := ({ ({ a0 with Box := v4 }) with Got := (v7 ++ ([v2.1.Reply] : List Mk.Reply)) }.At + (1 : Int)) }) with Sent := false }, zCl) hφ (j2 rfl rfl) (j2 rfl rfl)
  ·replace hφ := if_else hφ hc6
   refine Q0 (σ' := ⟨[(2, _), (4, _)], [(2, _), (4, _)]⟩) (j2 rfl rfl) (j2 rfl rfl) ?_
   refine Q4 ?_
   exact PT.meet ({ a0 with Box := v4 }, zCl) hφ (j2 rfl rfl) (j2 rfl rfl)
 ·rintro ⟨y2_k5, y4_k5⟩ hφ
  subst hk5
  refine Q0 (σ' := ⟨[(2, .ptr 2 (Lens.id (α := Mk.Client))), (4, .ptr 4 (Lens.id (α := Mk.Client)))], [(2, .var (y2_k5) []), (4, .var (y4_k5) [])]⟩) (j2 rfl rfl) (j2 rfl rfl) ?_
  refine Q2 (Q1 ?_)
  refine O5 (ox4 t49) (.one rfl) (.one rfl) rfl <| O2 rfl rfl (ox5 t49 .tmp) (.cons rfl (.one rfl)) (.one rfl) <| O1 <| Q0 (σ' := ⟨[(4, _)], [(4, .var (y2_k5) [])]⟩) (j1 rfl) (j1 rfl) ?_
  refine Q5 ?_
  obtain rfl := Option.some.inj hφ
  exact Q6 hw0 rfl (.cell t49 rfl rfl .nil) rfl
theorem c_client_Go {a0 : Mk.Client} {a1 : Int} {a2 : Int} {a3 : Bool} {r : (Mk.Client × (List UInt8) × Int)} (hφ : client_Go a0 a1 a2 a3 = some r) : Fn Go.Proofs.Tryz.prog 53 [.val a0, .val a1, .val a2, .val a3] (.tup [.val r.1, .nlist r.2.1, .val r.2.2]) := by
 unfold client_Go at hφ
 refine Fn.mk' Go.Proofs.Tryz.func53 rfl (by decide) rfl rfl rfl (fun w0 hw0 => ?_)
 refine Q2 (Q1 ?_)
 refine O3 rfl rfl (ox_box (id := 4) .tmp) (.one rfl) .nil rfl (by kernel_rfl) <| O3 rfl rfl (ox_alloc (id := 8) z49) .nil .nil rfl (by kernel_rfl) <| O5 (ox1 .nilS) .nil .nil rfl <| O5 (ox1 .int) .nil .nil rfl <| O1 <| Q0 (σ' := ⟨[(1, .val (a1)), (2, .val (a2)), (3, .val (a3)), (4, _), (8, _)], [(4, .var (a0) []), (8, .var zCl [])]⟩) (j5 rfl rfl rfl rfl rfl) (j2 rfl rfl) ?_
 refine Q2 ?_
 refine PT.block ?_
 refine Q2 (Q1 ?_)
 refine O5 (ox3 Client_Box f49_4) (.one rfl) .nil rfl <| O5 (ox2 t31) (.one rfl) (.one rfl) rfl <| O5 (ox_len s31 .tmp) (.one rfl) .nil rfl <| O5 (ox_gtr .tmp .int) (.app (.one rfl) .nil) .nil rfl <| O5 (ox1 .tmp) (.one rfl) .nil rfl <| O1 <| Q0 (σ' := ⟨[(1, _), (2, _), (3, _), (4, _), (8, _), (12, .val (decide ((0 : Int) < (a0.Box.length : Int))))], [(4, _), (8, _)]⟩) (j6 rfl rfl rfl rfl rfl rfl) (j2 rfl rfl) ?_
 refine Q3 _ rfl (fun hc1 => ?_) (fun hc1 => ?_)
 ·replace hφ := if_then hφ hc1
  refine Q0 (σ' := ⟨[(1, _), (4, _), (8, _)], [(4, _), (8, _)]⟩) (j3 rfl rfl rfl) (j2 rfl rfl) ?_
  refine Q2 ?_
  obtain ⟨v2, hv2, hφ⟩ := B_some hφ
  refine Q1 ?_
  refine O5 (ox4 t49) (.one rfl) (.one rfl) rfl <| O5 (ox0 .tmp) (.one rfl) .nil rfl <| O5 (ox_call (c_client_hear hv2) (.cons .tmp (.cons .tmp .nil))) (.app (.one rfl) (.app (.one rfl) .nil)) .nil rfl <| O2 rfl rfl (ox5 t49 .tmp) (.cons rfl (.one rfl)) (.one rfl) <| O5 (ox1 .nilS) .nil .nil rfl <| O5 (ox1 .int) .nil .nil rfl <| O1 <| Q0 (σ' := ⟨[(8, _), (9, .nilS), (10, .val (0 : Int))], [(8, .var (v2) [])]⟩) (j3 rfl rfl rfl) (j1 rfl) ?_
  refine Q5 ?_
  refine PT.asNlistNil 9 (UInt8) rfl ?_
  obtain rfl := Option.some.inj hφ
  exact Q6 hw0 rfl (.cell t49 rfl rfl (.tmp rfl rfl (.tmp rfl rfl .nil))) rfl
 ·replace hφ := if_else hφ hc1
  refine Q0 (σ' := ⟨[(1, _), (2, _), (3, _), (4, _), (8, _)], [(4, _), (8, _)]⟩) (j5 rfl rfl rfl rfl rfl) (j2 rfl rfl) ?_
  refine Q2 (Q1 ?_)
  refine O5 (ox3 Client_At f49_1) (.one rfl) .nil rfl <| O5 (ox2 t3) (.one rfl) (.one rfl) rfl <| O5 (ox3 Client_Calls f49_0) (.one rfl) .nil rfl <| O5 (ox2 t46) (.one rfl) (.one rfl) rfl <| O5 (ox_len s46 .tmp) (.one rfl) .nil rfl <| O5 (ox_geq .tmp .tmp) (.app (.one rfl) (.one rfl)) .nil rfl ?_
  refine O5 (ox1 .tmp) (.one rfl) .nil rfl <| O1 <| Q0 (σ' := ⟨[(1, _), (2, _), (3, _), (4, _), (8, _), (20, .val (decide ((a0.Calls.length : Int) ≤ a0.At)))], [(4, _), (8, _)]⟩) (j6 rfl rfl rfl rfl rfl rfl) (j2 rfl rfl) ?_
  refine Q3 _ rfl (fun hc3 => ?_) (fun hc3 => ?_)
  ·replace hφ := if_then hφ hc3
   refine Q0 (σ' := ⟨[(4, _), (8, _)], [(4, _), (8, _)]⟩) (j2 rfl rfl) (j2 rfl rfl) ?_
   refine Q2 (Q1 ?_)
   refine O5 (ox4 t49) (.one rfl) (.one rfl) rfl <| O2 rfl rfl (ox5 t49 .tmp) (.cons rfl (.one rfl)) (.one rfl) <| O5 (ox1 .nilS) .nil .nil rfl <| O5 (ox1 .int) .nil .nil rfl <| O1 <| Q0 (σ' := ⟨[(8, _), (9, .nilS), (10, .val (11 : Int))], [(8, .var (a0) [])]⟩) (j3 rfl rfl rfl) (j1 rfl) ?_
   refine Q5 ?_
   refine PT.asNlistNil 9 (UInt8) rfl ?_
   obtain rfl := Option.some.inj hφ
   exact Q6 hw0 rfl (.cell t49 rfl rfl (.tmp rfl rfl (.tmp rfl rfl .nil))) rfl
  ·replace hφ := if_else hφ hc3
   refine Q0 (σ' := ⟨[(1, _), (2, _), (3, _), (4, _), (8, _)], [(4, _), (8, _)]⟩) (j5 rfl rfl rfl rfl rfl) (j2 rfl rfl) ?_
   refine Q2 (Q1 ?_)
   refine O5 (ox0 .tmp) (.one rfl) .nil rfl <| O5 (ox_not .tmp) (.one rfl) .nil rfl <| O5 (ox1 .tmp) (.one rfl) .nil rfl <| O1 <| Q0 (σ' := ⟨[(1, _), (2, _), (4, _), (8, _), (28, .val (!a3))], [(4, _), (8, _)]⟩) (j5 rfl rfl rfl rfl rfl) (j2 rfl rfl) ?_
   refine Q3 _ rfl (fun hc4 => ?_) (fun hc4 => ?_)
   ·replace hφ := if_then hφ hc4
    refine Q0 (σ' := ⟨[(4, _), (8, _)], [(4, _), (8, _)]⟩) (j2 rfl rfl) (j2 rfl rfl) ?_
    refine Q2 (Q1 ?_)
    refine O5 (ox4 t49) (.one rfl) (.one rfl) rfl <| O2 rfl rfl (ox5 t49 .tmp) (.cons rfl (.one rfl)) (.one rfl) <| O5 (ox1 .nilS) .nil .nil rfl <| O5 (ox1 .int) .nil .nil rfl <| O1 <| Q0 (σ' := ⟨[(8, _), (9, .nilS), (10, .val (10 : Int))], [(8, .var (a0) [])]⟩) (j3 rfl rfl rfl) (j1 rfl) ?_
    refine Q5 ?_
    refine PT.asNlistNil 9 (UInt8) rfl ?_
    obtain rfl := Option.some.inj hφ
    exact Q6 hw0 rfl (.cell t49 rfl rfl (.tmp rfl rfl (.tmp rfl rfl .nil))) rfl
   ·replace hφ := if_else hφ hc4
    refine Q0 (σ' := ⟨[(1, _), (2, _), (4, _), (8, _)], [(4, _), (8, _)]⟩) (j4 rfl rfl rfl rfl) (j2 rfl rfl) ?_
    refine Q2 (Q1 ?_)
    refine O5 (ox3 Client_Sent f49_2) (.one rfl) .nil rfl <| O5 (ox2 t4) (.one rfl) (.one rfl) rfl <| O5 (ox0 .tmp) (.one rfl) .nil rfl <| O4 rfl rfl rfl rfl (.plain .nil) (fun hG => (ox3 Client_Gen f49_3)) (j1 rfl) .nil rfl <| O4 rfl rfl rfl rfl (.cond (fun h => h) .nil) (fun hG => (ox2 t3)) (j1 rfl) (.one rfl) rfl <| O4 rfl rfl rfl rfl (.plain .nil) (fun hG => (ox0 .tmp)) (j1 rfl) .nil rfl ?_
    refine O4 rfl rfl rfl rfl (.cond (fun h => h) (.cond (fun h => h) .nil)) (fun hG => (ox_eql .tmp .tmp)) (j2 rfl rfl) .nil rfl <| O5 ox8 (j2 rfl rfl) .nil rfl <| O5 (ox1 .tmp) (.one rfl) .nil rfl <| O1 <| Q0 (σ' := ⟨[(1, _), (2, _), (4, _), (8, _), (32, .val (a0.Sent && (decide (a0.Gen = a2))))], [(4, _), (8, _)]⟩) (j5 rfl rfl rfl rfl rfl) (j2 rfl rfl) ?_
    refine Q3 _ rfl (fun hc5 => ?_) (fun hc5 => ?_)
    ·replace hφ := if_then hφ hc5
     refine Q0 (σ' := ⟨[(4, _), (8, _)], [(4, _), (8, _)]⟩) (j2 rfl rfl) (j2 rfl rfl) ?_
     refine Q2 (Q1 ?_)
     refine O5 (ox4 t49) (.one rfl) (.one rfl) rfl <| O2 rfl rfl (ox5 t49 .tmp) (.cons rfl (.one rfl)) (.one rfl) <| O5 (ox1 .nilS) .nil .nil rfl <| O5 (ox1 .int) .nil .nil rfl <| O1 <| Q0 (σ' := ⟨[(8, _), (9, .nilS), (10, .val (12 : Int))], [(8, .var (a0) [])]⟩) (j3 rfl rfl rfl) (j1 rfl) ?_
     refine Q5 ?_
     refine PT.asNlistNil 9 (UInt8) rfl ?_
     obtain rfl := Option.some.inj hφ
     exact Q6 hw0 rfl (.cell t49 rfl rfl (.tmp rfl rfl (.tmp rfl rfl .nil))) rfl
    ·replace hφ := if_else hφ hc5
     refine Q0 (σ' := ⟨[(1, _), (2, _), (4, _), (8, _)], [(4, _), (8, _)]⟩) (j4 rfl rfl rfl rfl) (j2 rfl rfl) ?_
     refine Q4 ?_
     refine Q2 ?_
     obtain ⟨hb6, hφ⟩ := G_some hφ
     obtain ⟨v7, hv7, hφ⟩ := B_some hφ
     refine Q8 hMixed (
       .cons (S5 (ox0 .tmp)) ⟨.one rfl, .nil⟩ (by kernel_rfl) rfl <|
       .cons (S5 (ox3 Client_At f49_1)) ⟨.one rfl, .nil⟩ (by kernel_rfl) rfl <|
       .cons (S5 (ox2 t3)) ⟨.one rfl, .one rfl⟩ (by kernel_rfl) rfl <|
       .cons (S5 (ox3 Client_Calls f49_0)) ⟨.one rfl, .nil⟩ (by kernel_rfl) rfl <|
       .cons (S5 (ox2 t46)) ⟨.one rfl, .one rfl⟩ (by kernel_rfl) rfl <|
       .cons (S5 (ox3 Client_At f49_1)) ⟨.one rfl, .nil⟩ (by kernel_rfl) rfl <|
       .cons (S5 (ox2 t3)) ⟨.one rfl, .one rfl⟩ (by kernel_rfl) rfl <|
       .cons (S5 (ox_ix s46 .tmp .tmp hb6.1 hb6.2)) ⟨(.app (.one rfl) (.one rfl)), .nil⟩ (by kernel_rfl) rfl <|
       .cons (S5 (ox_load_elem t33)) ⟨.one rfl, .nil⟩ (by kernel_rfl) rfl <|
       .cons (S5 (oxa z35 u35 rfl (.cons Request_Client f35_0 .tmp (.cons Request_Token f35_1 .tmp (.cons Request_Call f35_2 .tmp Bld.nil))))) ⟨(.app (.one rfl) (.app (.one rfl) (.app (.one rfl) .nil))), .nil⟩ (by kernel_rfl) rfl <|
       .cons (S5 (ox_call (c_wire_Request hv7) (.cons .tmp .nil))) ⟨(.app (.one rfl) .nil), .nil⟩ (by kernel_rfl) rfl <|
       .cons (S5 (ox1 .tmp)) ⟨.one rfl, .nil⟩ (by kernel_rfl) rfl <|
       .nil) _ [[], [], [1], [], [3], [], [5], [3, 4, 5, 6], [3, 4, 5, 6, 7], [0, 1, 2, 3, 4, 5, 6, 7, 8], [0, 1, 2, 3, 4, 5, 6, 7, 8, 9], [0, 1, 2, 3, 4, 5, 6, 7, 8, 9, 10]] rfl (by kernel_rfl) (by kernel_rfl) ?_
     refine Q0 (σ' := ⟨[(2, _), (4, _), (8, _), (11, .val (v7))], [(4, _), (8, _)]⟩) (j4 rfl rfl rfl rfl) (j2 rfl rfl) ?_
     refine Q2 (Q1 ?_)
     refine O5 (ox0 .tmp) (.one rfl) .nil rfl <| O5 (ox3 Client_Sent f49_2) (.one rfl) .nil rfl <| O2 rfl rfl (ox_store_fld t4 .bool) (.cons rfl .nil) (.one rfl) <| O5 (ox3 Client_Gen f49_3) (.one rfl) .nil rfl <| O2 rfl rfl (ox_store_fld t3 .tmp) (.cons rfl (.one rfl)) (.one rfl) <| O1 <| Q0 (σ' := ⟨[(4, _), (8, _), (11, _)], [(4, .var ({ ({ a0 with Sent := true }) with Gen := a2 }) []), (8, _)]⟩) (j3 rfl rfl rfl) (j2 rfl rfl) ?_
     refine Q2 (Q1 ?_)
     refine O5 (ox4 t49) (.one rfl) (.one rfl) rfl <| O5 (ox0 .tmp) (.one rfl) .nil rfl <| O2 rfl rfl (ox5 t49 .tmp) (.cons rfl (.one rfl)) (.one rfl) <| O5 (ox1 .tmp) (.one rfl) .nil rfl <| O5 (ox1 .int) .nil .nil rfl <| O1 <| Q0 (σ' := ⟨[(8, _), (9, .val (v7)), (10, .val (0 : Int))], [(8, .var ({ ({ a0 with Sent := true }) with Gen := a2 }) [])]⟩) (j3 rfl rfl rfl) (j1 rfl) ?_
     refine Q5 ?_
     obtain ⟨hb8, hφ⟩ := G_some hφ
     refine PT.asNlist 9 hb8 rfl ?_
     obtain rfl := Option.some.inj hφ
     exact Q6 hw0 rfl (.cell t49 rfl rfl (.tmp rfl rfl (.tmp rfl rfl .nil))) rfl
end Go.Gx
end
section
namespace Go.Gx
open Sp
theorem c_serve_Own {a0 : Mk.Server} {r : Mk.Server} (hφ : serve_Own a0 = some r) : Fn Go.Proofs.Tryz.prog 39 [.val a0] (.val r) := by
 unfold serve_Own at hφ
 refine Fn.mk' Go.Proofs.Tryz.func39 rfl (by decide) rfl rfl rfl (fun w0 hw0 => ?_)
 refine Q2 (Q1 ?_)
 refine O3 rfl rfl (ox_box (id := 1) .tmp) (.one rfl) .nil rfl (by kernel_rfl) <| O3 rfl rfl (ox_alloc (id := 2) z40) .nil .nil rfl (by kernel_rfl) <| O1 <| Q0 (σ' := ⟨[(1, _), (2, _)], [(1, .var (a0) []), (2, .var zSv [])]⟩) (j2 rfl rfl) (j2 rfl rfl) ?_
 refine Q2 (Q1 ?_)
 refine O5 (ox4 t40) (.one rfl) (.one rfl) rfl <| O3 rfl rfl (ox_alloc (id := 3) z40) .nil .nil rfl (by kernel_rfl) <| O2 rfl rfl (ox5 t40 .tmp) (.cons rfl (.one rfl)) (.one rfl) <| O1 <| Q0 (σ' := ⟨[(1, _), (2, _), (3, _)], [(1, _), (2, _), (3, .var (a0) [])]⟩) (j3 rfl rfl rfl) (j3 rfl rfl rfl) ?_
 refine Q2 (Q1 ?_)
 refine O5 (ox3 Server_Box f40_1) (.one rfl) .nil rfl ?_
 refine Ops.cons (S4 rfl rfl (ox_store_nil (k := 30031) (E := 112) t31 .nilS rfl rfl rfl)) ⟨(.cons rfl .nil), .one rfl⟩ (by kernel_rfl) rfl ?_
 refine O1 <| Q0 (σ' := ⟨[(1, _), (2, _), (3, _)], [(1, _), (2, _), (3, .var (a0) [(1, 30031)]), (30031, .arr 112 ([] : List (List UInt8)))]⟩) (j3 rfl rfl rfl) (j4 rfl rfl rfl rfl) ?_
 obtain ⟨k1, hk1, hφ⟩ := J_some hφ
 refine PT.cut (ι := Mk.Server × Mk.Server × Mk.Server × (List (List UInt8))) (fun p => ⟨[(1, .ptr 1 (Lens.id (α := Mk.Server))), (2, .ptr 2 (Lens.id (α := Mk.Server))), (3, .ptr 3 (Lens.id (α := Mk.Server)))], [(1, .var (p.1) []), (2, .var (p.2.1) []), (3, .var (p.2.2.1) [(1, 30031)]), (30031, .arr 112 (p.2.2.2))]⟩) (fun p => k1 (p.1) (p.2.1) (p.2.2.1) (p.2.2.2) = some r) ?_ ?_
 ·skip
  refine Q2 (Q1 ?_)
  refine O5 (ox3 Server_Box f40_1) (.one rfl) .nil rfl <| O5 (ox2 t31) (.one rfl) (.one rfl) rfl <| O5 (ox_len s31 .tmp) (.one rfl) .nil rfl <| O5 (ox0 .int) .nil .nil rfl <| O1 <| Q0 (σ' := ⟨[(1, _), (2, _), (3, _), (9, .val (a0.Box)), (10, .val (a0.Box.length : Int)), (11, .val (0 : Int))], [(1, _), (2, _), (3, _), (30031, _)]⟩) (j6 rfl rfl rfl rfl rfl rfl) (j4 rfl rfl rfl rfl) ?_
  refine PT.block ?_
  refine PT.loop (ι := Nat × (List (List UInt8)) × Int × Int × Mk.Server × Mk.Server × Mk.Server × (List (List UInt8))) (fun p => ⟨[(1, .ptr 1 (Lens.id (α := Mk.Server))), (2, .ptr 2 (Lens.id (α := Mk.Server))), (3, .ptr 3 (Lens.id (α := Mk.Server))), (9, .val (p.2.1)), (10, .val (p.2.2.1)), (11, .val (p.2.2.2.1))], [(1, .var (p.2.2.2.2.1) []), (2, .var (p.2.2.2.2.2.1) []), (3, .var (p.2.2.2.2.2.2.1) [(1, 30031)]), (30031, .arr 112 (p.2.2.2.2.2.2.2))]⟩) (fun p => serve_Own_l1 k1 p.1 (p.2.1) (p.2.2.1) (p.2.2.2.1) (p.2.2.2.2.1) (p.2.2.2.2.2.1) (p.2.2.2.2.2.2.1) (p.2.2.2.2.2.2.2) = some r) (fun p => p.1) (((a0.Box.length : Int) - (0 : Int)).toNat + 1, a0.Box, (a0.Box.length : Int), (0 : Int), a0, zSv, a0, ([] : List (List UInt8))) hφ (j6 rfl rfl rfl rfl rfl rfl) (j4 rfl rfl rfl rfl) ?_
  rintro ⟨m2, x9_m2, x10_m2, x11_m2, y1_m2, y2_m2, y3_m2, y30031_m2⟩ (hφ : serve_Own_l1 k1 m2 x9_m2 x10_m2 x11_m2 y1_m2 y2_m2 y3_m2 y30031_m2 = some r)
  obtain _ | m2 := m2
  ·exact (none_no hφ).elim
  rw [serve_Own_l1.eq_2] at hφ
  refine Q0 (σ' := ⟨[(1, .ptr 1 (Lens.id (α := Mk.Server))), (2, .ptr 2 (Lens.id (α := Mk.Server))), (3, .ptr 3 (Lens.id (α := Mk.Server))), (9, .val (x9_m2)), (10, .val (x10_m2)), (11, .val (x11_m2))], [(1, .var (y1_m2) []), (2, .var (y2_m2) []), (3, .var (y3_m2) [(1, 30031)]), (30031, .arr 112 (y30031_m2))]⟩) (j6 rfl rfl rfl rfl rfl rfl) (j4 rfl rfl rfl rfl) ?_
  refine Q2 (Q1 ?_)
  refine O5 (ox_lss .tmp .tmp) (.app (.one rfl) (.one rfl)) .nil rfl <| O1 <| Q0 (σ' := ⟨[(1, _), (2, _), (3, _), (9, _), (10, _), (11, _), (12, .val (decide (x11_m2 < x10_m2)))], [(1, _), (2, _), (3, _), (30031, _)]⟩) (j7 rfl rfl rfl rfl rfl rfl rfl) (j4 rfl rfl rfl rfl) ?_
  refine Q2 ?_
  refine Q3 _ rfl (fun hc3 => ?_) (fun hc3 => ?_)
  ·replace hφ := if_then hφ hc3
   refine Q0 (σ' := ⟨[(1, _), (2, _), (3, _), (9, _), (10, _), (11, _)], [(1, _), (2, _), (3, _), (30031, _)]⟩) (j6 rfl rfl rfl rfl rfl rfl) (j4 rfl rfl rfl rfl) ?_
   refine Q4 ?_
   refine Q2 ?_
   refine PT.block ?_
   refine Q2 ?_
   obtain ⟨hb4, hφ⟩ := G_some hφ
   refine Q1 ?_
   refine O5 (ox_ix s31 .tmp .tmp hb4.1 hb4.2) (.app (.one rfl) (.one rfl)) .nil rfl <| O5 (ox_load_elem t112) (.one rfl) .nil rfl <| O5 (ox1 .tmp) (.one rfl) .nil rfl <| O1 <| Q0 (σ' := ⟨[(1, _), (2, _), (3, _), (5, .val (ix x9_m2 x11_m2)), (9, _), (10, _), (11, _)], [(1, _), (2, _), (3, _), (30031, _)]⟩) (j7 rfl rfl rfl rfl rfl rfl rfl) (j4 rfl rfl rfl rfl) ?_
   obtain ⟨v5, hv5, hφ⟩ := B_some hφ
   obtain ⟨hb6, hφ⟩ := G_some hφ
   refine Q8 hMixed (
     .cons (S5 (ox3 Server_Box f40_1)) ⟨.one rfl, .nil⟩ (by kernel_rfl) rfl <|
     .cons (S5 (ox_take_hole (k' := 20016) t31 rfl rfl rfl rfl rfl)) ⟨.one rfl, .cons rfl (.one rfl)⟩ (by kernel_rfl) rfl <|
     .cons (S5 (ox0 .tmp)) ⟨.one rfl, .nil⟩ (by kernel_rfl) rfl <|
     .cons (S5 (ox_call (c_slices_Clone___byte_byte_ hv5) (.cons .tmp .nil))) ⟨(.app (.one rfl) .nil), .nil⟩ (by kernel_rfl) rfl <|
     .cons (S5 (ox_buildSlice_val s31 z112 (.cons .tmp Parts.nil) rfl (by decide))) ⟨(.app (.one rfl) .nil), .nil⟩ (by kernel_rfl) rfl <|
     .cons (Step.putK [16] rfl rfl (ox_append a31 .tmp .tmp hb6.1 hb6.2)) ⟨(.app (.one rfl) (.one rfl)), .one rfl⟩ (by kernel_rfl) rfl <|
     .cons (S5 (ox3 Server_Box f40_1)) ⟨.one rfl, .nil⟩ (by kernel_rfl) rfl <|
     .cons (S4 rfl rfl (ox_store_sl t31 .tmp rfl)) ⟨(.cons rfl (.one rfl)), .cons rfl (.one rfl)⟩ (by kernel_rfl) rfl <|
     .nil) _ [[], [0], [], [2], [2, 3], [0, 1, 2, 3, 4], [0, 1, 2, 3, 4, 5], [0, 1, 2, 3, 4, 5, 6]] rfl (by kernel_rfl) (by kernel_rfl) ?_
   refine Q0 (σ' := ⟨[(1, _), (2, _), (3, _), (9, _), (10, _), (11, _)], [(1, _), (2, _), (3, _), (30031, .arr 112 (y30031_m2 ++ ([v5] : List (List UInt8))))]⟩) (j6 rfl rfl rfl rfl rfl rfl) (j4 rfl rfl rfl rfl) ?_
   obtain ⟨hb7, hφ⟩ := G_some hφ
   refine Q1 ?_
   refine O5 (ox_add .tmp .int hb7) (.app (.one rfl) .nil) .nil rfl <| O5 (ox0 .tmp) (.one rfl) .nil rfl <| O1 <| Q0 (σ' := ⟨[(1, _), (2, _), (3, _), (9, _), (10, _), (11, .val (x11_m2 + (1 : Int)))], [(1, _), (2, _), (3, _), (30031, _)]⟩) (j6 rfl rfl rfl rfl rfl rfl) (j4 rfl rfl rfl rfl) ?_
   exact PT.next (m2, x9_m2, x10_m2, (x11_m2 + (1 : Int)), y1_m2, y2_m2, y3_m2, (y30031_m2 ++ ([v5] : List (List UInt8)))) hφ (Nat.lt_succ_self _) (j6 rfl rfl rfl rfl rfl rfl) (j4 rfl rfl rfl rfl)
  ·replace hφ := if_else hφ hc3
   refine Q0 (σ' := ⟨[(1, _), (2, _), (3, _)], [(1, _), (2, _), (3, _), (30031, _)]⟩) (j3 rfl rfl rfl) (j4 rfl rfl rfl rfl) ?_
   refine PT.exit ?_
   exact PT.meet (y1_m2, y2_m2, y3_m2, y30031_m2) hφ (j3 rfl rfl rfl) (j4 rfl rfl rfl rfl)
 ·rintro ⟨y1_k1, y2_k1, y3_k1, y30031_k1⟩ hφ
  subst hk1
  refine Q0 (σ' := ⟨[(1, .ptr 1 (Lens.id (α := Mk.Server))), (2, .ptr 2 (Lens.id (α := Mk.Server))), (3, .ptr 3 (Lens.id (α := Mk.Server)))], [(1, .var (y1_k1) []), (2, .var (y2_k1) []), (3, .var (y3_k1) [(1, 30031)]), (30031, .arr 112 (y30031_k1))]⟩) (j3 rfl rfl rfl) (j4 rfl rfl rfl rfl) ?_
  refine Q2 ?_
  obtain ⟨v8, hv8, hφ⟩ := B_some hφ
  refine Q1 ?_
  refine O5 (ox3 Server_Plan f40_4) (.one rfl) .nil rfl <| O5 (ox2 t26) (.one rfl) (.one rfl) rfl <| O5 (ox_call (c_slices_Clone___api_Write_api_Write_ hv8) (.cons .tmp .nil)) (.app (.one rfl) .nil) .nil rfl <| O5 (ox3 Server_Plan f40_4) (.one rfl) .nil rfl <| O2 rfl rfl (ox_store_over t26 .tmp rfl) (.cons rfl (.one rfl)) (.one rfl) <| O1 <| Q0 (σ' := ⟨[(2, _), (3, _)], [(2, _), (3, .var ({ y3_k1 with Plan := v8 }) [(1, 30031)]), (30031, _)]⟩) (j2 rfl rfl) (j3 rfl rfl rfl) ?_
  refine Q2 ?_
  refine PT.freezeHole 3 30031 [] Server_Box rfl rfl rfl rfl trivial ?_
  refine Q1 ?_
  refine O5 (ox4 t40) (.one rfl) (.one rfl) rfl <| O2 rfl rfl (ox5 t40 .tmp) (.cons rfl (.one rfl)) (.one rfl) <| O1 <| Q0 (σ' := ⟨[(2, _)], [(2, .var ({ ({ y3_k1 with Plan := v8 }) with Box := y30031_k1 }) [])]⟩) (j1 rfl) (j1 rfl) ?_
  refine Q5 ?_
  obtain rfl := Option.some.inj hφ
  exact Q6 hw0 rfl (.cell t40 rfl rfl .nil) rfl
theorem x_serve_Own {a0 : Mk.Server} {r : Mk.Server} (hφ : serve_Own a0 = some r) : FnX Go.Proofs.Tryz.prog 39 [.val a0] [] (.hole ({ r with Box := ([] : List (List UInt8)) }) [(1, 30031)]) [(30031, .arr 112 r.Box)] [] := by
 unfold serve_Own at hφ
 refine FnX.mk' Go.Proofs.Tryz.func39 rfl (by decide) rfl (fun w0 m0 => ?_)
 refine Q2 (Q1 ?_)
 refine O3 rfl rfl (ox_box (id := 1) .tmp) (.one rfl) .nil rfl (by kernel_rfl) <| O3 rfl rfl (ox_alloc (id := 2) z40) .nil .nil rfl (by kernel_rfl) <| O1 <| Q0 (σ' := ⟨[(1, _), (2, _)], [(1, .var (a0) []), (2, .var zSv [])]⟩) (j2 rfl rfl) (j2 rfl rfl) ?_
 refine Q2 (Q1 ?_)
 refine O5 (ox4 t40) (.one rfl) (.one rfl) rfl <| O3 rfl rfl (ox_alloc (id := 3) z40) .nil .nil rfl (by kernel_rfl) <| O2 rfl rfl (ox5 t40 .tmp) (.cons rfl (.one rfl)) (.one rfl) <| O1 <| Q0 (σ' := ⟨[(1, _), (2, _), (3, _)], [(1, _), (2, _), (3, .var (a0) [])]⟩) (j3 rfl rfl rfl) (j3 rfl rfl rfl) ?_
 refine Q2 (Q1 ?_)
 refine O5 (ox3 Server_Box f40_1) (.one rfl) .nil rfl ?_
 refine Ops.cons (S4 rfl rfl (ox_store_nil (k := 30031) (E := 112) t31 .nilS rfl rfl rfl)) ⟨(.cons rfl .nil), .one rfl⟩ (by kernel_rfl) rfl ?_
 refine O1 <| Q0 (σ' := ⟨[(1, _), (2, _), (3, _)], [(1, _), (2, _), (3, .var (a0) [(1, 30031)]), (30031, .arr 112 ([] : List (List UInt8)))]⟩) (j3 rfl rfl rfl) (j4 rfl rfl rfl rfl) ?_
 obtain ⟨k1, hk1, hφ⟩ := J_some hφ
 refine PT.cut (ι := Mk.Server × Mk.Server × Mk.Server × (List (List UInt8))) (fun p => ⟨[(1, .ptr 1 (Lens.id (α := Mk.Server))), (2, .ptr 2 (Lens.id (α := Mk.Server))), (3, .ptr 3 (Lens.id (α := Mk.Server)))], [(1, .var (p.1) []), (2, .var (p.2.1) []), (3, .var (p.2.2.1) [(1, 30031)]), (30031, .arr 112 (p.2.2.2))]⟩) (fun p => k1 (p.1) (p.2.1) (p.2.2.1) (p.2.2.2) = some r) ?_ ?_
 ·skip
  refine Q2 (Q1 ?_)
  refine O5 (ox3 Server_Box f40_1) (.one rfl) .nil rfl <| O5 (ox2 t31) (.one rfl) (.one rfl) rfl <| O5 (ox_len s31 .tmp) (.one rfl) .nil rfl <| O5 (ox0 .int) .nil .nil rfl <| O1 <| Q0 (σ' := ⟨[(1, _), (2, _), (3, _), (9, .val (a0.Box)), (10, .val (a0.Box.length : Int)), (11, .val (0 : Int))], [(1, _), (2, _), (3, _), (30031, _)]⟩) (j6 rfl rfl rfl rfl rfl rfl) (j4 rfl rfl rfl rfl) ?_
  refine PT.block ?_
  refine PT.loop (ι := Nat × (List (List UInt8)) × Int × Int × Mk.Server × Mk.Server × Mk.Server × (List (List UInt8))) (fun p => ⟨[(1, .ptr 1 (Lens.id (α := Mk.Server))), (2, .ptr 2 (Lens.id (α := Mk.Server))), (3, .ptr 3 (Lens.id (α := Mk.Server))), (9, .val (p.2.1)), (10, .val (p.2.2.1)), (11, .val (p.2.2.2.1))], [(1, .var (p.2.2.2.2.1) []), (2, .var (p.2.2.2.2.2.1) []), (3, .var (p.2.2.2.2.2.2.1) [(1, 30031)]), (30031, .arr 112 (p.2.2.2.2.2.2.2))]⟩) (fun p => serve_Own_l1 k1 p.1 (p.2.1) (p.2.2.1) (p.2.2.2.1) (p.2.2.2.2.1) (p.2.2.2.2.2.1) (p.2.2.2.2.2.2.1) (p.2.2.2.2.2.2.2) = some r) (fun p => p.1) (((a0.Box.length : Int) - (0 : Int)).toNat + 1, a0.Box, (a0.Box.length : Int), (0 : Int), a0, zSv, a0, ([] : List (List UInt8))) hφ (j6 rfl rfl rfl rfl rfl rfl) (j4 rfl rfl rfl rfl) ?_
  rintro ⟨m2, x9_m2, x10_m2, x11_m2, y1_m2, y2_m2, y3_m2, y30031_m2⟩ (hφ : serve_Own_l1 k1 m2 x9_m2 x10_m2 x11_m2 y1_m2 y2_m2 y3_m2 y30031_m2 = some r)
  obtain _ | m2 := m2
  ·exact (none_no hφ).elim
  rw [serve_Own_l1.eq_2] at hφ
  refine Q0 (σ' := ⟨[(1, .ptr 1 (Lens.id (α := Mk.Server))), (2, .ptr 2 (Lens.id (α := Mk.Server))), (3, .ptr 3 (Lens.id (α := Mk.Server))), (9, .val (x9_m2)), (10, .val (x10_m2)), (11, .val (x11_m2))], [(1, .var (y1_m2) []), (2, .var (y2_m2) []), (3, .var (y3_m2) [(1, 30031)]), (30031, .arr 112 (y30031_m2))]⟩) (j6 rfl rfl rfl rfl rfl rfl) (j4 rfl rfl rfl rfl) ?_
  refine Q2 (Q1 ?_)
  refine O5 (ox_lss .tmp .tmp) (.app (.one rfl) (.one rfl)) .nil rfl <| O1 <| Q0 (σ' := ⟨[(1, _), (2, _), (3, _), (9, _), (10, _), (11, _), (12, .val (decide (x11_m2 < x10_m2)))], [(1, _), (2, _), (3, _), (30031, _)]⟩) (j7 rfl rfl rfl rfl rfl rfl rfl) (j4 rfl rfl rfl rfl) ?_
  refine Q2 ?_
  refine Q3 _ rfl (fun hc3 => ?_) (fun hc3 => ?_)
  ·replace hφ := if_then hφ hc3
   refine Q0 (σ' := ⟨[(1, _), (2, _), (3, _), (9, _), (10, _), (11, _)], [(1, _), (2, _), (3, _), (30031, _)]⟩) (j6 rfl rfl rfl rfl rfl rfl) (j4 rfl rfl rfl rfl) ?_
   refine Q4 ?_
   refine Q2 ?_
   refine PT.block ?_
   refine Q2 ?_
   obtain ⟨hb4, hφ⟩ := G_some hφ
   refine Q1 ?_
   refine O5 (ox_ix s31 .tmp .tmp hb4.1 hb4.2) (.app (.one rfl) (.one rfl)) .nil rfl <| O5 (ox_load_elem t112) (.one rfl) .nil rfl <| O5 (ox1 .tmp) (.one rfl) .nil rfl <| O1 <| Q0 (σ' := ⟨[(1, _), (2, _), (3, _), (5, .val (ix x9_m2 x11_m2)), (9, _), (10, _), (11, _)], [(1, _), (2, _), (3, _), (30031, _)]⟩) (j7 rfl rfl rfl rfl rfl rfl rfl) (j4 rfl rfl rfl rfl) ?_
   obtain ⟨v5, hv5, hφ⟩ := B_some hφ
   obtain ⟨hb6, hφ⟩ := G_some hφ
   refine Q8 hMixed (
     .cons (S5 (ox3 Server_Box f40_1)) ⟨.one rfl, .nil⟩ (by kernel_rfl) rfl <|
     .cons (S5 (ox_take_hole (k' := 20016) t31 rfl rfl rfl rfl rfl)) ⟨.one rfl, .cons rfl (.one rfl)⟩ (by kernel_rfl) rfl <|
     .cons (S5 (ox0 .tmp)) ⟨.one rfl, .nil⟩ (by kernel_rfl) rfl <|
     .cons (S5 (ox_call (c_slices_Clone___byte_byte_ hv5) (.cons .tmp .nil))) ⟨(.app (.one rfl) .nil), .nil⟩ (by kernel_rfl) rfl <|
     .cons (S5 (ox_buildSlice_val s31 z112 (.cons .tmp Parts.nil) rfl (by decide))) ⟨(.app (.one rfl) .nil), .nil⟩ (by kernel_rfl) rfl <|
     .cons (Step.putK [16] rfl rfl (ox_append a31 .tmp .tmp hb6.1 hb6.2)) ⟨(.app (.one rfl) (.one rfl)), .one rfl⟩ (by kernel_rfl) rfl <|
     .cons (S5 (ox3 Server_Box f40_1)) ⟨.one rfl, .nil⟩ (by kernel_rfl) rfl <|
     .cons (S4 rfl rfl (ox_store_sl t31 .tmp rfl)) ⟨(.cons rfl (.one rfl)), .cons rfl (.one rfl)⟩ (by kernel_rfl) rfl <|
     .nil) _ [[], [0], [], [2], [2, 3], [0, 1, 2, 3, 4], [0, 1, 2, 3, 4, 5], [0, 1, 2, 3, 4, 5, 6]] rfl (by kernel_rfl) (by kernel_rfl) ?_
   refine Q0 (σ' := ⟨[(1, _), (2, _), (3, _), (9, _), (10, _), (11, _)], [(1, _), (2, _), (3, _), (30031, .arr 112 (y30031_m2 ++ ([v5] : List (List UInt8))))]⟩) (j6 rfl rfl rfl rfl rfl rfl) (j4 rfl rfl rfl rfl) ?_
   obtain ⟨hb7, hφ⟩ := G_some hφ
   refine Q1 ?_
   refine O5 (ox_add .tmp .int hb7) (.app (.one rfl) .nil) .nil rfl <| O5 (ox0 .tmp) (.one rfl) .nil rfl <| O1 <| Q0 (σ' := ⟨[(1, _), (2, _), (3, _), (9, _), (10, _), (11, .val (x11_m2 + (1 : Int)))], [(1, _), (2, _), (3, _), (30031, _)]⟩) (j6 rfl rfl rfl rfl rfl rfl) (j4 rfl rfl rfl rfl) ?_
   exact PT.next (m2, x9_m2, x10_m2, (x11_m2 + (1 : Int)), y1_m2, y2_m2, y3_m2, (y30031_m2 ++ ([v5] : List (List UInt8)))) hφ (Nat.lt_succ_self _) (j6 rfl rfl rfl rfl rfl rfl) (j4 rfl rfl rfl rfl)
  ·replace hφ := if_else hφ hc3
   refine Q0 (σ' := ⟨[(1, _), (2, _), (3, _)], [(1, _), (2, _), (3, _), (30031, _)]⟩) (j3 rfl rfl rfl) (j4 rfl rfl rfl rfl) ?_
   refine PT.exit ?_
   exact PT.meet (y1_m2, y2_m2, y3_m2, y30031_m2) hφ (j3 rfl rfl rfl) (j4 rfl rfl rfl rfl)
 ·rintro ⟨y1_k1, y2_k1, y3_k1, y30031_k1⟩ hφ
  subst hk1
  refine Q0 (σ' := ⟨[(1, .ptr 1 (Lens.id (α := Mk.Server))), (2, .ptr 2 (Lens.id (α := Mk.Server))), (3, .ptr 3 (Lens.id (α := Mk.Server)))], [(1, .var (y1_k1) []), (2, .var (y2_k1) []), (3, .var (y3_k1) [(1, 30031)]), (30031, .arr 112 (y30031_k1))]⟩) (j3 rfl rfl rfl) (j4 rfl rfl rfl rfl) ?_
  refine Q2 ?_
  obtain ⟨v8, hv8, hφ⟩ := B_some hφ
  refine Q1 ?_
  refine O5 (ox3 Server_Plan f40_4) (.one rfl) .nil rfl <| O5 (ox2 t26) (.one rfl) (.one rfl) rfl <| O5 (ox_call (c_slices_Clone___api_Write_api_Write_ hv8) (.cons .tmp .nil)) (.app (.one rfl) .nil) .nil rfl <| O5 (ox3 Server_Plan f40_4) (.one rfl) .nil rfl <| O2 rfl rfl (ox_store_over t26 .tmp rfl) (.cons rfl (.one rfl)) (.one rfl) <| O1 <| Q0 (σ' := ⟨[(2, _), (3, _)], [(2, _), (3, .var ({ y3_k1 with Plan := v8 }) [(1, 30031)]), (30031, _)]⟩) (j2 rfl rfl) (j3 rfl rfl rfl) ?_
  refine Q2 (Q1 ?_)
  refine O5 (ox_load_varH t40 rfl) (.one rfl) (.one rfl) rfl <| O2 rfl rfl (ox_store_varH t40 rfl .tmp) (.cons rfl (.one rfl)) (.one rfl) <| O1 <| Q0 (σ' := ⟨[(2, _)], [(2, .var ({ y3_k1 with Plan := v8 }) [(1, 30031)]), (30031, _)]⟩) (j1 rfl) (j2 rfl rfl) ?_
  refine Q5 ?_
  refine PT.holeNil 2 Server_Box rfl rfl ?_
  obtain rfl := Option.some.inj hφ
  exact Q7 rfl (.cellH t40 rfl rfl rfl .nil) rfl (j1 rfl) trivial
theorem c_slices_Clone___api_Call_api_Call_ {a0 : List Mk.Call} {r : (List Mk.Call)} (hφ : slices_Clone___api_Call_api_Call_ a0 = some r) : Fn Go.Proofs.Tryz.prog 34 [.val a0] (.val r) := by
 unfold slices_Clone___api_Call_api_Call_ at hφ
 refine Fn.mk' Go.Proofs.Tryz.func34 rfl (by decide) rfl rfl rfl (fun w0 hw0 => ?_)
 refine Q2 (Q1 ?_)
 refine O5 (ox1 .nilS) .nil .nil rfl <| O1 <| Q0 (σ' := ⟨[(0, .val (a0))], []⟩) (j1 rfl) trivial ?_
 refine Q2 ?_
 refine Q2 (Q1 ?_)
 refine O5 (ox0 .tmp) (.one rfl) .nil rfl <| O5 (ox_isNil (by kernel_rfl) .tmp .nilS) (.app (.one rfl) .nil) .nil rfl <| O1 <| Q0 (σ' := ⟨[(0, _), (4, _)], []⟩) (j2 rfl rfl) trivial ?_
 refine PT.condB _ rfl (fun hc1 => ?_) (fun _ => ?_)
 ·have hc1e := hc1 rfl
  refine Q0 (σ' := ⟨[], []⟩) trivial trivial ?_
  refine Q2 (Q1 ?_)
  refine O5 (ox1 .nilS) .nil .nil rfl <| O1 <| Q0 (σ' := ⟨[(2, .nilS)], []⟩) (j1 rfl) trivial ?_
  refine Q5 ?_
  refine PT.asNil 2 (Mk.Call) rfl ?_
  rw [hc1e] at hφ
  obtain ⟨_, hφ⟩ := G_some hφ
  obtain rfl := Option.some.inj hφ
  exact Q6 hw0 rfl (.tmp rfl rfl .nil) rfl
 ·skip
  refine Q0 (σ' := ⟨[(0, _)], []⟩) (j1 rfl) trivial ?_
  refine Q4 ?_
  refine Q2 ?_
  obtain ⟨hb2, hφ⟩ := G_some hφ
  refine Q1 ?_
  refine O3 rfl rfl (ox_buildSlice_arr (id := 5) s46 z33 Parts.nil rfl (by decide)) .nil .nil rfl (by kernel_rfl) <| O5 (ox0 .tmp) (.one rfl) .nil rfl ?_
  refine Ops.putK [5] rfl rfl (ox_append a46 .tmp .tmp hb2.1 hb2.2) (.app (.one rfl) (.one rfl)) (.one rfl) rfl (by kernel_rfl) ?_
  refine O5 (ox1 .tmp) (.one rfl) .nil rfl <| O1 <| Q0 (σ' := ⟨[(2, _)], [(5, .arr 33 (([] : List Mk.Call) ++ a0))]⟩) (j1 rfl) (j1 rfl) ?_
  refine Q5 ?_
  refine PT.freeze 5 [2] rfl (j1 rfl) ?_
  obtain rfl := Option.some.inj hφ
  exact Q6 hw0 rfl (.tmp rfl rfl .nil) rfl
theorem c_guard_client {a0 : Mk.Client} {r : Mk.Client} (hφ : guard_client a0 = some r) : Fn Go.Proofs.Tryz.prog 40 [.val a0] (.val r) := by
 unfold guard_client at hφ
 refine Fn.mk' Go.Proofs.Tryz.func40 rfl (by decide) rfl rfl rfl (fun w0 hw0 => ?_)
 refine Q2 (Q1 ?_)
 refine O3 rfl rfl (ox_box (id := 1) .tmp) (.one rfl) .nil rfl (by kernel_rfl) <| O3 rfl rfl (ox_alloc (id := 2) z49) .nil .nil rfl (by kernel_rfl) <| O1 <| Q0 (σ' := ⟨[(1, _), (2, _)], [(1, .var (a0) []), (2, .var zCl [])]⟩) (j2 rfl rfl) (j2 rfl rfl) ?_
 refine Q2 (Q1 ?_)
 refine O5 (ox4 t49) (.one rfl) (.one rfl) rfl <| O3 rfl rfl (ox_alloc (id := 3) z49) .nil .nil rfl (by kernel_rfl) <| O2 rfl rfl (ox5 t49 .tmp) (.cons rfl (.one rfl)) (.one rfl) <| O1 <| Q0 (σ' := ⟨[(1, _), (2, _), (3, _)], [(1, _), (2, _), (3, .var (a0) [])]⟩) (j3 rfl rfl rfl) (j3 rfl rfl rfl) ?_
 refine Q2 ?_
 obtain ⟨v1, hv1, hφ⟩ := B_some hφ
 obtain ⟨v2, hv2, hφ⟩ := B_some hφ
 refine Q8 hMixed (
   .cons (S5 (ox3 Client_Calls f49_0)) ⟨.one rfl, .nil⟩ (by kernel_rfl) rfl <|
   .cons (S5 (ox2 t46)) ⟨.one rfl, .one rfl⟩ (by kernel_rfl) rfl <|
   .cons (S5 (ox_call (c_slices_Clone___api_Call_api_Call_ hv1) (.cons .tmp .nil))) ⟨(.app (.one rfl) .nil), .nil⟩ (by kernel_rfl) rfl <|
   .cons (S5 (ox3 Client_Got f49_5)) ⟨.one rfl, .nil⟩ (by kernel_rfl) rfl <|
   .cons (S5 (ox2 t47)) ⟨.one rfl, .one rfl⟩ (by kernel_rfl) rfl <|
   .cons (S5 (ox_call (c_slices_Clone___api_Reply_api_Reply_ hv2) (.cons .tmp .nil))) ⟨(.app (.one rfl) .nil), .nil⟩ (by kernel_rfl) rfl <|
   .cons (S5 (ox3 Client_Calls f49_0)) ⟨.one rfl, .nil⟩ (by kernel_rfl) rfl <|
   .cons (S4 rfl rfl (ox_store_fld t46 .tmp)) ⟨(.cons rfl (.one rfl)), .one rfl⟩ (by kernel_rfl) rfl <|
   .cons (S5 (ox3 Client_Got f49_5)) ⟨.one rfl, .nil⟩ (by kernel_rfl) rfl <|
   .cons (S4 rfl rfl (ox_store_fld t47 .tmp)) ⟨(.cons rfl (.one rfl)), .one rfl⟩ (by kernel_rfl) rfl <|
   .cons (S5 (ox3 Client_Box f49_4)) ⟨.one rfl, .nil⟩ (by kernel_rfl) rfl <|
   .cons (S4 rfl rfl (ox_store_nil (k := 30034) (E := 112) t31 .nilS rfl rfl rfl)) ⟨(.cons rfl .nil), .one rfl⟩ (by kernel_rfl) rfl <|
   .nil) _ [[], [0], [0, 1], [], [3], [0, 1, 2, 3, 4], [0, 1, 2], [0, 1, 2, 3, 4, 5, 6], [0, 1, 2, 3, 4, 5, 6, 7], [0, 1, 2, 3, 4, 5, 6, 7, 8], [0, 1, 2, 3, 4, 5, 6, 7, 8, 9], [0, 1, 2, 3, 4, 5, 6, 7, 8, 9, 10]] rfl (by kernel_rfl) (by kernel_rfl) ?_
 refine Q0 (σ' := ⟨[(1, _), (2, _), (3, _)], [(1, _), (2, _), (3, .var ({ ({ a0 with Calls := v1 }) with Got := v2 }) [(4, 30034)]), (30034, .arr 112 ([] : List (List UInt8)))]⟩) (j3 rfl rfl rfl) (j4 rfl rfl rfl rfl) ?_
 obtain ⟨k3, hk3, hφ⟩ := J_some hφ
 refine PT.cut (ι := Mk.Client × Mk.Client × (List (List UInt8))) (fun p => ⟨[(2, .ptr 2 (Lens.id (α := Mk.Client))), (3, .ptr 3 (Lens.id (α := Mk.Client)))], [(2, .var (p.1) []), (3, .var (p.2.1) [(4, 30034)]), (30034, .arr 112 (p.2.2))]⟩) (fun p => k3 (p.1) (p.2.1) (p.2.2) = some r) ?_ ?_
 ·skip
  refine Q2 (Q1 ?_)
  refine O5 (ox3 Client_Box f49_4) (.one rfl) .nil rfl <| O5 (ox2 t31) (.one rfl) (.one rfl) rfl <| O5 (ox_len s31 .tmp) (.one rfl) .nil rfl <| O5 (ox0 .int) .nil .nil rfl <| O1 <| Q0 (σ' := ⟨[(2, _), (3, _), (17, .val (a0.Box)), (18, .val (a0.Box.length : Int)), (19, .val (0 : Int))], [(2, _), (3, _), (30034, _)]⟩) (j5 rfl rfl rfl rfl rfl) (j3 rfl rfl rfl) ?_
  refine PT.block ?_
  refine PT.loop (ι := Nat × (List (List UInt8)) × Int × Int × Mk.Client × Mk.Client × (List (List UInt8))) (fun p => ⟨[(2, .ptr 2 (Lens.id (α := Mk.Client))), (3, .ptr 3 (Lens.id (α := Mk.Client))), (17, .val (p.2.1)), (18, .val (p.2.2.1)), (19, .val (p.2.2.2.1))], [(2, .var (p.2.2.2.2.1) []), (3, .var (p.2.2.2.2.2.1) [(4, 30034)]), (30034, .arr 112 (p.2.2.2.2.2.2))]⟩) (fun p => guard_client_l1 k3 p.1 (p.2.1) (p.2.2.1) (p.2.2.2.1) (p.2.2.2.2.1) (p.2.2.2.2.2.1) (p.2.2.2.2.2.2) = some r) (fun p => p.1) (((a0.Box.length : Int) - (0 : Int)).toNat + 1, a0.Box, (a0.Box.length : Int), (0 : Int), zCl, { ({ a0 with Calls := v1 }) with Got := v2 }, ([] : List (List UInt8))) hφ (j5 rfl rfl rfl rfl rfl) (j3 rfl rfl rfl) ?_
  rintro ⟨m4, x17_m4, x18_m4, x19_m4, y2_m4, y3_m4, y30034_m4⟩ (hφ : guard_client_l1 k3 m4 x17_m4 x18_m4 x19_m4 y2_m4 y3_m4 y30034_m4 = some r)
  obtain _ | m4 := m4
  ·exact (none_no hφ).elim
  rw [guard_client_l1.eq_2] at hφ
  refine Q0 (σ' := ⟨[(2, .ptr 2 (Lens.id (α := Mk.Client))), (3, .ptr 3 (Lens.id (α := Mk.Client))), (17, .val (x17_m4)), (18, .val (x18_m4)), (19, .val (x19_m4))], [(2, .var (y2_m4) []), (3, .var (y3_m4) [(4, 30034)]), (30034, .arr 112 (y30034_m4))]⟩) (j5 rfl rfl rfl rfl rfl) (j3 rfl rfl rfl) ?_
  refine Q2 (Q1 ?_)
  refine O5 (ox_lss .tmp .tmp) (.app (.one rfl) (.one rfl)) .nil rfl <| O1 <| Q0 (σ' := ⟨[(2, _), (3, _), (17, _), (18, _), (19, _), (20, .val (decide (x19_m4 < x18_m4)))], [(2, _), (3, _), (30034, _)]⟩) (j6 rfl rfl rfl rfl rfl rfl) (j3 rfl rfl rfl) ?_
  refine Q2 ?_
  refine Q3 _ rfl (fun hc5 => ?_) (fun hc5 => ?_)
  ·replace hφ := if_then hφ hc5
   refine Q0 (σ' := ⟨[(2, _), (3, _), (17, _), (18, _), (19, _)], [(2, _), (3, _), (30034, _)]⟩) (j5 rfl rfl rfl rfl rfl) (j3 rfl rfl rfl) ?_
   refine Q4 ?_
   refine Q2 ?_
   refine PT.block ?_
   refine Q2 ?_
   obtain ⟨hb6, hφ⟩ := G_some hφ
   refine Q1 ?_
   refine O5 (ox_ix s31 .tmp .tmp hb6.1 hb6.2) (.app (.one rfl) (.one rfl)) .nil rfl <| O5 (ox_load_elem t112) (.one rfl) .nil rfl <| O5 (ox1 .tmp) (.one rfl) .nil rfl <| O1 <| Q0 (σ' := ⟨[(2, _), (3, _), (5, .val (ix x17_m4 x19_m4)), (17, _), (18, _), (19, _)], [(2, _), (3, _), (30034, _)]⟩) (j6 rfl rfl rfl rfl rfl rfl) (j3 rfl rfl rfl) ?_
   obtain ⟨v7, hv7, hφ⟩ := B_some hφ
   obtain ⟨hb8, hφ⟩ := G_some hφ
   refine Q8 hMixed (
     .cons (S5 (ox3 Client_Box f49_4)) ⟨.one rfl, .nil⟩ (by kernel_rfl) rfl <|
     .cons (S5 (ox_take_hole (k' := 20024) t31 rfl rfl rfl rfl rfl)) ⟨.one rfl, .cons rfl (.one rfl)⟩ (by kernel_rfl) rfl <|
     .cons (S5 (ox0 .tmp)) ⟨.one rfl, .nil⟩ (by kernel_rfl) rfl <|
     .cons (S5 (ox_call (c_slices_Clone___byte_byte_ hv7) (.cons .tmp .nil))) ⟨(.app (.one rfl) .nil), .nil⟩ (by kernel_rfl) rfl <|
     .cons (S5 (ox_buildSlice_val s31 z112 (.cons .tmp Parts.nil) rfl (by decide))) ⟨(.app (.one rfl) .nil), .nil⟩ (by kernel_rfl) rfl <|
     .cons (Step.putK [24] rfl rfl (ox_append a31 .tmp .tmp hb8.1 hb8.2)) ⟨(.app (.one rfl) (.one rfl)), .one rfl⟩ (by kernel_rfl) rfl <|
     .cons (S5 (ox3 Client_Box f49_4)) ⟨.one rfl, .nil⟩ (by kernel_rfl) rfl <|
     .cons (S4 rfl rfl (ox_store_sl t31 .tmp rfl)) ⟨(.cons rfl (.one rfl)), .cons rfl (.one rfl)⟩ (by kernel_rfl) rfl <|
     .nil) _ [[], [0], [], [2], [2, 3], [0, 1, 2, 3, 4], [0, 1, 2, 3, 4, 5], [0, 1, 2, 3, 4, 5, 6]] rfl (by kernel_rfl) (by kernel_rfl) ?_
   refine Q0 (σ' := ⟨[(2, _), (3, _), (17, _), (18, _), (19, _)], [(2, _), (3, _), (30034, .arr 112 (y30034_m4 ++ ([v7] : List (List UInt8))))]⟩) (j5 rfl rfl rfl rfl rfl) (j3 rfl rfl rfl) ?_
   obtain ⟨hb9, hφ⟩ := G_some hφ
   refine Q1 ?_
   refine O5 (ox_add .tmp .int hb9) (.app (.one rfl) .nil) .nil rfl <| O5 (ox0 .tmp) (.one rfl) .nil rfl <| O1 <| Q0 (σ' := ⟨[(2, _), (3, _), (17, _), (18, _), (19, .val (x19_m4 + (1 : Int)))], [(2, _), (3, _), (30034, _)]⟩) (j5 rfl rfl rfl rfl rfl) (j3 rfl rfl rfl) ?_
   exact PT.next (m4, x17_m4, x18_m4, (x19_m4 + (1 : Int)), y2_m4, y3_m4, (y30034_m4 ++ ([v7] : List (List UInt8)))) hφ (Nat.lt_succ_self _) (j5 rfl rfl rfl rfl rfl) (j3 rfl rfl rfl)
  ·replace hφ := if_else hφ hc5
   refine Q0 (σ' := ⟨[(2, _), (3, _)], [(2, _), (3, _), (30034, _)]⟩) (j2 rfl rfl) (j3 rfl rfl rfl) ?_
   refine PT.exit ?_
   exact PT.meet (y2_m4, y3_m4, y30034_m4) hφ (j2 rfl rfl) (j3 rfl rfl rfl)
 ·rintro ⟨y2_k3, y3_k3, y30034_k3⟩ hφ
  subst hk3
  refine Q0 (σ' := ⟨[(2, .ptr 2 (Lens.id (α := Mk.Client))), (3, .ptr 3 (Lens.id (α := Mk.Client)))], [(2, .var (y2_k3) []), (3, .var (y3_k3) [(4, 30034)]), (30034, .arr 112 (y30034_k3))]⟩) (j2 rfl rfl) (j3 rfl rfl rfl) ?_
  refine Q2 ?_
  refine PT.freezeHole 3 30034 [] Client_Box rfl rfl rfl rfl trivial ?_
  refine Q1 ?_
  refine O5 (ox4 t49) (.one rfl) (.one rfl) rfl <| O2 rfl rfl (ox5 t49 .tmp) (.cons rfl (.one rfl)) (.one rfl) <| O1 <| Q0 (σ' := ⟨[(2, _)], [(2, .var ({ y3_k3 with Box := y30034_k3 }) [])]⟩) (j1 rfl) (j1 rfl) ?_
  refine Q5 ?_
  obtain rfl := Option.some.inj hφ
  exact Q6 hw0 rfl (.cell t49 rfl rfl .nil) rfl
theorem c_guard_Own {a0 : Mk.Machine} {r : Mk.Machine} (hφ : guard_Own a0 = some r) : Fn Go.Proofs.Tryz.prog 22 [.val a0] (.val r) := by
 unfold guard_Own at hφ
 refine Fn.mk' Go.Proofs.Tryz.func22 rfl (by decide) rfl rfl rfl (fun w0 hw0 => ?_)
 refine Q2 (Q1 ?_)
 refine O3 rfl rfl (ox_box (id := 1) .tmp) (.one rfl) .nil rfl (by kernel_rfl) <| O3 rfl rfl (ox_alloc (id := 2) z43) .nil .nil rfl (by kernel_rfl) <| O1 <| Q0 (σ' := ⟨[(1, _), (2, _)], [(1, .var (a0) []), (2, .var (zMa) [])]⟩) (j2 rfl rfl) (j2 rfl rfl) ?_
 refine Q2 (Q1 ?_)
 refine O5 (ox4 t43) (.one rfl) (.one rfl) rfl <| O3 rfl rfl (ox_alloc (id := 3) z43) .nil .nil rfl (by kernel_rfl) <| O2 rfl rfl (ox5 t43 .tmp) (.cons rfl (.one rfl)) (.one rfl) <| O1 <| Q0 (σ' := ⟨[(1, _), (2, _), (3, _)], [(1, _), (2, _), (3, .var (a0) [])]⟩) (j3 rfl rfl rfl) (j3 rfl rfl rfl) ?_
 refine Q2 ?_
 obtain ⟨v1, hv1, hφ⟩ := B_some hφ
 obtain ⟨v2, hv2, hφ⟩ := B_some hφ
 refine Q8 hMixed (
   .cons (S5 (ox3 Machine_Store f43_0)) ⟨.one rfl, .nil⟩ (by kernel_rfl) rfl <|
   .cons (S5 (ox2 t30)) ⟨.one rfl, .one rfl⟩ (by kernel_rfl) rfl <|
   .cons (S5 (ox_call (c_store_Own hv1) (.cons .tmp .nil))) ⟨(.app (.one rfl) .nil), .nil⟩ (by kernel_rfl) rfl <|
   .cons (S5 (ox3 Machine_Server f43_1)) ⟨.one rfl, .nil⟩ (by kernel_rfl) rfl <|
   .cons (S5 (ox2 t40)) ⟨.one rfl, .one rfl⟩ (by kernel_rfl) rfl <|
   .cons (S5 (ox_call (c_serve_Own hv2) (.cons .tmp .nil))) ⟨(.app (.one rfl) .nil), .nil⟩ (by kernel_rfl) rfl <|
   .cons (S5 (ox3 Machine_Store f43_0)) ⟨.one rfl, .nil⟩ (by kernel_rfl) rfl <|
   .cons (S4 rfl rfl (ox_store_fld t30 .tmp)) ⟨(.cons rfl (.one rfl)), .one rfl⟩ (by kernel_rfl) rfl <|
   .cons (S5 (ox3 Machine_Server f43_1)) ⟨.one rfl, .nil⟩ (by kernel_rfl) rfl <|
   .cons (S4 rfl rfl (ox_store_fld t40 .tmp)) ⟨(.cons rfl (.one rfl)), .one rfl⟩ (by kernel_rfl) rfl <|
   .cons (S5 (ox3 Machine_Clients f43_5)) ⟨.one rfl, .nil⟩ (by kernel_rfl) rfl <|
   .cons (S4 rfl rfl (ox_store_nil (k := 30049) (E := 49) t41 .nilS rfl rfl rfl)) ⟨(.cons rfl .nil), .one rfl⟩ (by kernel_rfl) rfl <|
   .nil) _ [[], [0], [0, 1], [], [3], [0, 1, 2, 3, 4], [0, 1, 2], [0, 1, 2, 3, 4, 5, 6], [0, 1, 2, 3, 4, 5, 6, 7], [0, 1, 2, 3, 4, 5, 6, 7, 8], [0, 1, 2, 3, 4, 5, 6, 7, 8, 9], [0, 1, 2, 3, 4, 5, 6, 7, 8, 9, 10]] rfl (by kernel_rfl) (by kernel_rfl) ?_
 refine Q0 (σ' := ⟨[(1, _), (2, _), (3, _)], [(1, _), (2, _), (3, .var ({ ({ a0 with Store := v1 }) with Server := v2 }) [(19, 30049)]), (30049, .arr 49 ([] : List Mk.Client))]⟩) (j3 rfl rfl rfl) (j4 rfl rfl rfl rfl) ?_
 obtain ⟨k3, hk3, hφ⟩ := J_some hφ
 refine PT.cut (ι := Mk.Machine × Mk.Machine × (List Mk.Client)) (fun p => ⟨[(2, .ptr 2 (Lens.id (α := Mk.Machine))), (3, .ptr 3 (Lens.id (α := Mk.Machine)))], [(2, .var (p.1) []), (3, .var (p.2.1) [(19, 30049)]), (30049, .arr 49 (p.2.2))]⟩) (fun p => k3 (p.1) (p.2.1) (p.2.2) = some r) ?_ ?_
 ·skip
  refine Q2 (Q1 ?_)
  refine O5 (ox3 Machine_Clients f43_5) (.one rfl) .nil rfl <| O5 (ox2 t41) (.one rfl) (.one rfl) rfl <| O5 (ox_len s41 .tmp) (.one rfl) .nil rfl <| O5 (ox0 .int) .nil .nil rfl <| O1 <| Q0 (σ' := ⟨[(2, _), (3, _), (17, .val (a0.Clients)), (18, .val (a0.Clients.length : Int)), (19, .val (0 : Int))], [(2, _), (3, _), (30049, _)]⟩) (j5 rfl rfl rfl rfl rfl) (j3 rfl rfl rfl) ?_
  refine PT.block ?_
  refine PT.loop (ι := Nat × (List Mk.Client) × Int × Int × Mk.Machine × Mk.Machine × (List Mk.Client)) (fun p => ⟨[(2, .ptr 2 (Lens.id (α := Mk.Machine))), (3, .ptr 3 (Lens.id (α := Mk.Machine))), (17, .val (p.2.1)), (18, .val (p.2.2.1)), (19, .val (p.2.2.2.1))], [(2, .var (p.2.2.2.2.1) []), (3, .var (p.2.2.2.2.2.1) [(19, 30049)]), (30049, .arr 49 (p.2.2.2.2.2.2))]⟩) (fun p => guard_Own_l1 k3 p.1 (p.2.1) (p.2.2.1) (p.2.2.2.1) (p.2.2.2.2.1) (p.2.2.2.2.2.1) (p.2.2.2.2.2.2) = some r) (fun p => p.1) (((a0.Clients.length : Int) - (0 : Int)).toNat + 1, a0.Clients, (a0.Clients.length : Int), (0 : Int), zMa, { ({ a0 with Store := v1 }) with Server := v2 }, ([] : List Mk.Client)) hφ (j5 rfl rfl rfl rfl rfl) (j3 rfl rfl rfl) ?_
  rintro ⟨m4, x17_m4, x18_m4, x19_m4, y2_m4, y3_m4, y30049_m4⟩ (hφ : guard_Own_l1 k3 m4 x17_m4 x18_m4 x19_m4 y2_m4 y3_m4 y30049_m4 = some r)
  obtain _ | m4 := m4
  ·exact (none_no hφ).elim
  rw [guard_Own_l1.eq_2] at hφ
  refine Q0 (σ' := ⟨[(2, .ptr 2 (Lens.id (α := Mk.Machine))), (3, .ptr 3 (Lens.id (α := Mk.Machine))), (17, .val (x17_m4)), (18, .val (x18_m4)), (19, .val (x19_m4))], [(2, .var (y2_m4) []), (3, .var (y3_m4) [(19, 30049)]), (30049, .arr 49 (y30049_m4))]⟩) (j5 rfl rfl rfl rfl rfl) (j3 rfl rfl rfl) ?_
  refine Q2 (Q1 ?_)
  refine O5 (ox_lss .tmp .tmp) (.app (.one rfl) (.one rfl)) .nil rfl <| O1 <| Q0 (σ' := ⟨[(2, _), (3, _), (17, _), (18, _), (19, _), (20, .val (decide (x19_m4 < x18_m4)))], [(2, _), (3, _), (30049, _)]⟩) (j6 rfl rfl rfl rfl rfl rfl) (j3 rfl rfl rfl) ?_
  refine Q2 ?_
  refine Q3 _ rfl (fun hc5 => ?_) (fun hc5 => ?_)
  ·replace hφ := if_then hφ hc5
   refine Q0 (σ' := ⟨[(2, _), (3, _), (17, _), (18, _), (19, _)], [(2, _), (3, _), (30049, _)]⟩) (j5 rfl rfl rfl rfl rfl) (j3 rfl rfl rfl) ?_
   refine Q4 ?_
   refine Q2 ?_
   refine PT.block ?_
   refine Q2 ?_
   obtain ⟨hb6, hφ⟩ := G_some hφ
   refine Q1 ?_
   refine O5 (ox_ix s41 .tmp .tmp hb6.1 hb6.2) (.app (.one rfl) (.one rfl)) .nil rfl <| O5 (ox_load_elem t49) (.one rfl) .nil rfl <| O3 rfl rfl (ox_alloc (id := 5) z49) .nil .nil rfl (by kernel_rfl) <| O2 rfl rfl (ox5 t49 .tmp) (.cons rfl (.one rfl)) (.one rfl) <| O1 <| Q0 (σ' := ⟨[(2, _), (3, _), (5, _), (17, _), (18, _), (19, _)], [(2, _), (3, _), (5, .var (ix x17_m4 x19_m4) []), (30049, _)]⟩) (j6 rfl rfl rfl rfl rfl rfl) (j4 rfl rfl rfl rfl) ?_
   obtain ⟨v7, hv7, hφ⟩ := B_some hφ
   obtain ⟨hb8, hφ⟩ := G_some hφ
   refine Q8 hMixed (
     .cons (S5 (ox3 Machine_Clients f43_5)) ⟨.one rfl, .nil⟩ (by kernel_rfl) rfl <|
     .cons (S5 (ox_take_hole (k' := 20024) t41 rfl rfl rfl rfl rfl)) ⟨.one rfl, .cons rfl (.one rfl)⟩ (by kernel_rfl) rfl <|
     .cons (S5 (ox4 t49)) ⟨.one rfl, .one rfl⟩ (by kernel_rfl) rfl <|
     .cons (S5 (ox_call (c_guard_client hv7) (.cons .tmp .nil))) ⟨(.app (.one rfl) .nil), .nil⟩ (by kernel_rfl) rfl <|
     .cons (S5 (ox_buildSlice_val s41 z49 (.cons .tmp Parts.nil) rfl (by decide))) ⟨(.app (.one rfl) .nil), .nil⟩ (by kernel_rfl) rfl <|
     .cons (Step.putK [24] rfl rfl (ox_append a41 .tmp .tmp hb8.1 hb8.2)) ⟨(.app (.one rfl) (.one rfl)), .one rfl⟩ (by kernel_rfl) rfl <|
     .cons (S5 (ox3 Machine_Clients f43_5)) ⟨.one rfl, .nil⟩ (by kernel_rfl) rfl <|
     .cons (S4 rfl rfl (ox_store_sl t41 .tmp rfl)) ⟨(.cons rfl (.one rfl)), .cons rfl (.one rfl)⟩ (by kernel_rfl) rfl <|
     .nil) _ [[], [0], [], [2], [2, 3], [0, 1, 2, 3, 4], [0, 1, 2, 3, 4, 5], [0, 1, 2, 3, 4, 5, 6]] rfl (by kernel_rfl) (by kernel_rfl) ?_
   refine Q0 (σ' := ⟨[(2, _), (3, _), (17, _), (18, _), (19, _)], [(2, _), (3, _), (30049, .arr 49 (y30049_m4 ++ ([v7] : List Mk.Client)))]⟩) (j5 rfl rfl rfl rfl rfl) (j3 rfl rfl rfl) ?_
   obtain ⟨hb9, hφ⟩ := G_some hφ
   refine Q1 ?_
   refine O5 (ox_add .tmp .int hb9) (.app (.one rfl) .nil) .nil rfl <| O5 (ox0 .tmp) (.one rfl) .nil rfl <| O1 <| Q0 (σ' := ⟨[(2, _), (3, _), (17, _), (18, _), (19, .val (x19_m4 + (1 : Int)))], [(2, _), (3, _), (30049, _)]⟩) (j5 rfl rfl rfl rfl rfl) (j3 rfl rfl rfl) ?_
   exact PT.next (m4, x17_m4, x18_m4, (x19_m4 + (1 : Int)), y2_m4, y3_m4, (y30049_m4 ++ ([v7] : List Mk.Client))) hφ (Nat.lt_succ_self _) (j5 rfl rfl rfl rfl rfl) (j3 rfl rfl rfl)
  ·replace hφ := if_else hφ hc5
   refine Q0 (σ' := ⟨[(2, _), (3, _)], [(2, _), (3, _), (30049, _)]⟩) (j2 rfl rfl) (j3 rfl rfl rfl) ?_
   refine PT.exit ?_
   exact PT.meet (y2_m4, y3_m4, y30049_m4) hφ (j2 rfl rfl) (j3 rfl rfl rfl)
 ·rintro ⟨y2_k3, y3_k3, y30049_k3⟩ hφ
  subst hk3
  refine Q0 (σ' := ⟨[(2, .ptr 2 (Lens.id (α := Mk.Machine))), (3, .ptr 3 (Lens.id (α := Mk.Machine)))], [(2, .var (y2_k3) []), (3, .var (y3_k3) [(19, 30049)]), (30049, .arr 49 (y30049_k3))]⟩) (j2 rfl rfl) (j3 rfl rfl rfl) ?_
  refine Q2 ?_
  refine PT.freezeHole 3 30049 [] Machine_Clients rfl rfl rfl rfl trivial ?_
  refine Q1 ?_
  refine O5 (ox4 t43) (.one rfl) (.one rfl) rfl <| O2 rfl rfl (ox5 t43 .tmp) (.cons rfl (.one rfl)) (.one rfl) <| O1 <| Q0 (σ' := ⟨[(2, _)], [(2, .var ({ y3_k3 with Clients := y30049_k3 }) [])]⟩) (j1 rfl) (j1 rfl) ?_
  refine Q5 ?_
  obtain rfl := Option.some.inj hφ
  exact Q6 hw0 rfl (.cell t43 rfl rfl .nil) rfl
theorem x_guard_Own {a0 : Mk.Machine} {r : Mk.Machine} (hφ : guard_Own a0 = some r) : FnX Go.Proofs.Tryz.prog 22 [.val a0] [] (.hole ({ r with Clients := ([] : List Mk.Client) }) [(19, 30049)]) [(30049, .arr 49 r.Clients)] [] := by
 unfold guard_Own at hφ
 refine FnX.mk' Go.Proofs.Tryz.func22 rfl (by decide) rfl (fun w0 m0 => ?_)
 refine Q2 (Q1 ?_)
 refine O3 rfl rfl (ox_box (id := 1) .tmp) (.one rfl) .nil rfl (by kernel_rfl) <| O3 rfl rfl (ox_alloc (id := 2) z43) .nil .nil rfl (by kernel_rfl) <| O1 <| Q0 (σ' := ⟨[(1, _), (2, _)], [(1, .var (a0) []), (2, .var (zMa) [])]⟩) (j2 rfl rfl) (j2 rfl rfl) ?_
 refine Q2 (Q1 ?_)
 refine O5 (ox4 t43) (.one rfl) (.one rfl) rfl <| O3 rfl rfl (ox_alloc (id := 3) z43) .nil .nil rfl (by kernel_rfl) <| O2 rfl rfl (ox5 t43 .tmp) (.cons rfl (.one rfl)) (.one rfl) <| O1 <| Q0 (σ' := ⟨[(1, _), (2, _), (3, _)], [(1, _), (2, _), (3, .var (a0) [])]⟩) (j3 rfl rfl rfl) (j3 rfl rfl rfl) ?_
 refine Q2 ?_
 obtain ⟨v1, hv1, hφ⟩ := B_some hφ
 obtain ⟨v2, hv2, hφ⟩ := B_some hφ
 refine Q8 hMixed (
   .cons (S5 (ox3 Machine_Store f43_0)) ⟨.one rfl, .nil⟩ (by kernel_rfl) rfl <|
   .cons (S5 (ox2 t30)) ⟨.one rfl, .one rfl⟩ (by kernel_rfl) rfl <|
   .cons (S5 (ox_call (c_store_Own hv1) (.cons .tmp .nil))) ⟨(.app (.one rfl) .nil), .nil⟩ (by kernel_rfl) rfl <|
   .cons (S5 (ox3 Machine_Server f43_1)) ⟨.one rfl, .nil⟩ (by kernel_rfl) rfl <|
   .cons (S5 (ox2 t40)) ⟨.one rfl, .one rfl⟩ (by kernel_rfl) rfl <|
   .cons (S5 (ox_call (c_serve_Own hv2) (.cons .tmp .nil))) ⟨(.app (.one rfl) .nil), .nil⟩ (by kernel_rfl) rfl <|
   .cons (S5 (ox3 Machine_Store f43_0)) ⟨.one rfl, .nil⟩ (by kernel_rfl) rfl <|
   .cons (S4 rfl rfl (ox_store_fld t30 .tmp)) ⟨(.cons rfl (.one rfl)), .one rfl⟩ (by kernel_rfl) rfl <|
   .cons (S5 (ox3 Machine_Server f43_1)) ⟨.one rfl, .nil⟩ (by kernel_rfl) rfl <|
   .cons (S4 rfl rfl (ox_store_fld t40 .tmp)) ⟨(.cons rfl (.one rfl)), .one rfl⟩ (by kernel_rfl) rfl <|
   .cons (S5 (ox3 Machine_Clients f43_5)) ⟨.one rfl, .nil⟩ (by kernel_rfl) rfl <|
   .cons (S4 rfl rfl (ox_store_nil (k := 30049) (E := 49) t41 .nilS rfl rfl rfl)) ⟨(.cons rfl .nil), .one rfl⟩ (by kernel_rfl) rfl <|
   .nil) _ [[], [0], [0, 1], [], [3], [0, 1, 2, 3, 4], [0, 1, 2], [0, 1, 2, 3, 4, 5, 6], [0, 1, 2, 3, 4, 5, 6, 7], [0, 1, 2, 3, 4, 5, 6, 7, 8], [0, 1, 2, 3, 4, 5, 6, 7, 8, 9], [0, 1, 2, 3, 4, 5, 6, 7, 8, 9, 10]] rfl (by kernel_rfl) (by kernel_rfl) ?_
 refine Q0 (σ' := ⟨[(1, _), (2, _), (3, _)], [(1, _), (2, _), (3, .var ({ ({ a0 with Store := v1 }) with Server := v2 }) [(19, 30049)]), (30049, .arr 49 ([] : List Mk.Client))]⟩) (j3 rfl rfl rfl) (j4 rfl rfl rfl rfl) ?_
 obtain ⟨k3, hk3, hφ⟩ := J_some hφ
 refine PT.cut (ι := Mk.Machine × Mk.Machine × (List Mk.Client)) (fun p => ⟨[(2, .ptr 2 (Lens.id (α := Mk.Machine))), (3, .ptr 3 (Lens.id (α := Mk.Machine)))], [(2, .var (p.1) []), (3, .var (p.2.1) [(19, 30049)]), (30049, .arr 49 (p.2.2))]⟩) (fun p => k3 (p.1) (p.2.1) (p.2.2) = some r) ?_ ?_
 ·skip
  refine Q2 (Q1 ?_)
  refine O5 (ox3 Machine_Clients f43_5) (.one rfl) .nil rfl <| O5 (ox2 t41) (.one rfl) (.one rfl) rfl <| O5 (ox_len s41 .tmp) (.one rfl) .nil rfl <| O5 (ox0 .int) .nil .nil rfl <| O1 <| Q0 (σ' := ⟨[(2, _), (3, _), (17, .val (a0.Clients)), (18, .val (a0.Clients.length : Int)), (19, .val (0 : Int))], [(2, _), (3, _), (30049, _)]⟩) (j5 rfl rfl rfl rfl rfl) (j3 rfl rfl rfl) ?_
  refine PT.block ?_
  refine PT.loop (ι := Nat × (List Mk.Client) × Int × Int × Mk.Machine × Mk.Machine × (List Mk.Client)) (fun p => ⟨[(2, .ptr 2 (Lens.id (α := Mk.Machine))), (3, .ptr 3 (Lens.id (α := Mk.Machine))), (17, .val (p.2.1)), (18, .val (p.2.2.1)), (19, .val (p.2.2.2.1))], [(2, .var (p.2.2.2.2.1) []), (3, .var (p.2.2.2.2.2.1) [(19, 30049)]), (30049, .arr 49 (p.2.2.2.2.2.2))]⟩) (fun p => guard_Own_l1 k3 p.1 (p.2.1) (p.2.2.1) (p.2.2.2.1) (p.2.2.2.2.1) (p.2.2.2.2.2.1) (p.2.2.2.2.2.2) = some r) (fun p => p.1) (((a0.Clients.length : Int) - (0 : Int)).toNat + 1, a0.Clients, (a0.Clients.length : Int), (0 : Int), zMa, { ({ a0 with Store := v1 }) with Server := v2 }, ([] : List Mk.Client)) hφ (j5 rfl rfl rfl rfl rfl) (j3 rfl rfl rfl) ?_
  rintro ⟨m4, x17_m4, x18_m4, x19_m4, y2_m4, y3_m4, y30049_m4⟩ (hφ : guard_Own_l1 k3 m4 x17_m4 x18_m4 x19_m4 y2_m4 y3_m4 y30049_m4 = some r)
  obtain _ | m4 := m4
  ·exact (none_no hφ).elim
  rw [guard_Own_l1.eq_2] at hφ
  refine Q0 (σ' := ⟨[(2, .ptr 2 (Lens.id (α := Mk.Machine))), (3, .ptr 3 (Lens.id (α := Mk.Machine))), (17, .val (x17_m4)), (18, .val (x18_m4)), (19, .val (x19_m4))], [(2, .var (y2_m4) []), (3, .var (y3_m4) [(19, 30049)]), (30049, .arr 49 (y30049_m4))]⟩) (j5 rfl rfl rfl rfl rfl) (j3 rfl rfl rfl) ?_
  refine Q2 (Q1 ?_)
  refine O5 (ox_lss .tmp .tmp) (.app (.one rfl) (.one rfl)) .nil rfl <| O1 <| Q0 (σ' := ⟨[(2, _), (3, _), (17, _), (18, _), (19, _), (20, .val (decide (x19_m4 < x18_m4)))], [(2, _), (3, _), (30049, _)]⟩) (j6 rfl rfl rfl rfl rfl rfl) (j3 rfl rfl rfl) ?_
  refine Q2 ?_
  refine Q3 _ rfl (fun hc5 => ?_) (fun hc5 => ?_)
  ·replace hφ := if_then hφ hc5
   refine Q0 (σ' := ⟨[(2, _), (3, _), (17, _), (18, _), (19, _)], [(2, _), (3, _), (30049, _)]⟩) (j5 rfl rfl rfl rfl rfl) (j3 rfl rfl rfl) ?_
   refine Q4 ?_
   refine Q2 ?_
   refine PT.block ?_
   refine Q2 ?_
   obtain ⟨hb6, hφ⟩ := G_some hφ
   refine Q1 ?_
   refine O5 (ox_ix s41 .tmp .tmp hb6.1 hb6.2) (.app (.one rfl) (.one rfl)) .nil rfl <| O5 (ox_load_elem t49) (.one rfl) .nil rfl <| O3 rfl rfl (ox_alloc (id := 5) z49) .nil .nil rfl (by kernel_rfl) <| O2 rfl rfl (ox5 t49 .tmp) (.cons rfl (.one rfl)) (.one rfl) <| O1 <| Q0 (σ' := ⟨[(2, _), (3, _), (5, _), (17, _), (18, _), (19, _)], [(2, _), (3, _), (5, .var (ix x17_m4 x19_m4) []), (30049, _)]⟩) (j6 rfl rfl rfl rfl rfl rfl) (j4 rfl rfl rfl rfl) ?_
   obtain ⟨v7, hv7, hφ⟩ := B_some hφ
   obtain ⟨hb8, hφ⟩ := G_some hφ
   refine Q8 hMixed (
     .cons (S5 (ox3 Machine_Clients f43_5)) ⟨.one rfl, .nil⟩ (by kernel_rfl) rfl <|
     .cons (S5 (ox_take_hole (k' := 20024) t41 rfl rfl rfl rfl rfl)) ⟨.one rfl, .cons rfl (.one rfl)⟩ (by kernel_rfl) rfl <|
     .cons (S5 (ox4 t49)) ⟨.one rfl, .one rfl⟩ (by kernel_rfl) rfl <|
     .cons (S5 (ox_call (c_guard_client hv7) (.cons .tmp .nil))) ⟨(.app (.one rfl) .nil), .nil⟩ (by kernel_rfl) rfl <|
     .cons (S5 (ox_buildSlice_val s41 z49 (.cons .tmp Parts.nil) rfl (by decide))) ⟨(.app (.one rfl) .nil), .nil⟩ (by kernel_rfl) rfl <|
     .cons (Step.putK [24] rfl rfl (ox_append a41 .tmp .tmp hb8.1 hb8.2)) ⟨(.app (.one rfl) (.one rfl)), .one rfl⟩ (by kernel_rfl) rfl <|
     .cons (S5 (ox3 Machine_Clients f43_5)) ⟨.one rfl, .nil⟩ (by kernel_rfl) rfl <|
     .cons (S4 rfl rfl (ox_store_sl t41 .tmp rfl)) ⟨(.cons rfl (.one rfl)), .cons rfl (.one rfl)⟩ (by kernel_rfl) rfl <|
     .nil) _ [[], [0], [], [2], [2, 3], [0, 1, 2, 3, 4], [0, 1, 2, 3, 4, 5], [0, 1, 2, 3, 4, 5, 6]] rfl (by kernel_rfl) (by kernel_rfl) ?_
   refine Q0 (σ' := ⟨[(2, _), (3, _), (17, _), (18, _), (19, _)], [(2, _), (3, _), (30049, .arr 49 (y30049_m4 ++ ([v7] : List Mk.Client)))]⟩) (j5 rfl rfl rfl rfl rfl) (j3 rfl rfl rfl) ?_
   obtain ⟨hb9, hφ⟩ := G_some hφ
   refine Q1 ?_
   refine O5 (ox_add .tmp .int hb9) (.app (.one rfl) .nil) .nil rfl <| O5 (ox0 .tmp) (.one rfl) .nil rfl <| O1 <| Q0 (σ' := ⟨[(2, _), (3, _), (17, _), (18, _), (19, .val (x19_m4 + (1 : Int)))], [(2, _), (3, _), (30049, _)]⟩) (j5 rfl rfl rfl rfl rfl) (j3 rfl rfl rfl) ?_
   exact PT.next (m4, x17_m4, x18_m4, (x19_m4 + (1 : Int)), y2_m4, y3_m4, (y30049_m4 ++ ([v7] : List Mk.Client))) hφ (Nat.lt_succ_self _) (j5 rfl rfl rfl rfl rfl) (j3 rfl rfl rfl)
  ·replace hφ := if_else hφ hc5
   refine Q0 (σ' := ⟨[(2, _), (3, _)], [(2, _), (3, _), (30049, _)]⟩) (j2 rfl rfl) (j3 rfl rfl rfl) ?_
   refine PT.exit ?_
   exact PT.meet (y2_m4, y3_m4, y30049_m4) hφ (j2 rfl rfl) (j3 rfl rfl rfl)
 ·rintro ⟨y2_k3, y3_k3, y30049_k3⟩ hφ
  subst hk3
  refine Q0 (σ' := ⟨[(2, .ptr 2 (Lens.id (α := Mk.Machine))), (3, .ptr 3 (Lens.id (α := Mk.Machine)))], [(2, .var (y2_k3) []), (3, .var (y3_k3) [(19, 30049)]), (30049, .arr 49 (y30049_k3))]⟩) (j2 rfl rfl) (j3 rfl rfl rfl) ?_
  refine Q2 (Q1 ?_)
  refine O5 (ox_load_varH t43 rfl) (.one rfl) (.one rfl) rfl <| O2 rfl rfl (ox_store_varH t43 rfl .tmp) (.cons rfl (.one rfl)) (.one rfl) <| O1 <| Q0 (σ' := ⟨[(2, _)], [(2, .var (y3_k3) [(19, 30049)]), (30049, _)]⟩) (j1 rfl) (j2 rfl rfl) ?_
  refine Q5 ?_
  refine PT.holeNil 2 Machine_Clients rfl rfl ?_
  obtain rfl := Option.some.inj hφ
  exact Q7 rfl (.cellH t43 rfl rfl rfl .nil) rfl (j1 rfl) trivial
theorem c_guard_Pause {a0 : Int} {r : Int} (hφ : guard_Pause a0 = some r) : Fn Go.Proofs.Tryz.prog 84 [.val a0] (.val r) := by
 unfold guard_Pause at hφ
 refine Fn.mk' Go.Proofs.Tryz.func84 rfl (by decide) rfl rfl rfl (fun w0 hw0 => ?_)
 refine Q2 (Q1 ?_)
 refine O5 (ox1 .int) .nil .nil rfl <| O1 <| Q0 (σ' := ⟨[(0, .val (a0))], []⟩) (j1 rfl) trivial ?_
 refine Q2 (Q1 ?_)
 refine O5 (ox0 .tmp) (.one rfl) .nil rfl <| O5 (ox_max .tmp .int) (.app (.one rfl) .nil) .nil rfl <| O5 (ox_min .tmp .int) (.app (.one rfl) .nil) .nil rfl <| O5 (ox1 .tmp) (.one rfl) .nil rfl <| O1 <| Q0 (σ' := ⟨[(2, .val (if (3 : Int) < (if a0 < (1 : Int) then (1 : Int) else a0) then (3 : Int) else (if a0 < (1 : Int) then (1 : Int) else a0)))], []⟩) (j1 rfl) trivial ?_
 refine Q5 ?_
 obtain rfl := Option.some.inj hφ
 exact Q6 hw0 rfl (.tmp rfl rfl .nil) rfl
theorem c_guard_Fall {a0 : Mk.Machine} {r : (Mk.Machine × Int)} (hφ : guard_Fall a0 = some r) : Fn Go.Proofs.Tryz.prog 58 [.val a0] (.tup [.val r.1, .val r.2]) := by
 unfold guard_Fall at hφ
 refine Fn.mk' Go.Proofs.Tryz.func58 rfl (by decide) rfl rfl rfl (fun w0 hw0 => ?_)
 refine Q2 (Q1 ?_)
 refine O3 rfl rfl (ox_box (id := 1) .tmp) (.one rfl) .nil rfl (by kernel_rfl) <| O3 rfl rfl (ox_alloc (id := 2) z43) .nil .nil rfl (by kernel_rfl) <| O5 (ox1 .int) .nil .nil rfl <| O1 <| Q0 (σ' := ⟨[(1, _), (2, _)], [(1, .var (a0) []), (2, .var (zMa) [])]⟩) (j2 rfl rfl) (j2 rfl rfl) ?_
 refine Q2 ?_
 obtain ⟨v1, hv1, hφ⟩ := B_some hφ
 refine Q1 ?_
 refine O5 (ox4 t43) (.one rfl) (.one rfl) rfl <| O5 (ox_call (c_guard_Own hv1) (.cons .tmp .nil)) (.app (.one rfl) .nil) .nil rfl <| O3 rfl rfl (ox_alloc (id := 4) z43) .nil .nil rfl (by kernel_rfl) <| O2 rfl rfl (ox5 t43 .tmp) (.cons rfl (.one rfl)) (.one rfl) <| O1 <| Q0 (σ' := ⟨[(1, _), (2, _), (4, _)], [(1, _), (2, _), (4, .var (v1) [])]⟩) (j3 rfl rfl rfl) (j3 rfl rfl rfl) ?_
 refine Q2 ?_
 refine PT.block ?_
 refine Q2 (Q1 ?_)
 refine O5 (ox3 Machine_Up f43_2) (.one rfl) .nil rfl <| O5 (ox2 t4) (.one rfl) (.one rfl) rfl <| O5 (ox_not .tmp) (.one rfl) .nil rfl <| O5 (ox1 .tmp) (.one rfl) .nil rfl <| O1 <| Q0 (σ' := ⟨[(1, _), (2, _), (4, _), (7, .val (!a0.Up))], [(1, _), (2, _), (4, _)]⟩) (j4 rfl rfl rfl rfl) (j3 rfl rfl rfl) ?_
 refine Q3 _ rfl (fun hc2 => ?_) (fun hc2 => ?_)
 ·replace hφ := if_then hφ hc2
  refine Q0 (σ' := ⟨[(2, _), (4, _)], [(2, _), (4, _)]⟩) (j2 rfl rfl) (j2 rfl rfl) ?_
  refine Q2 (Q1 ?_)
  refine O5 (ox4 t43) (.one rfl) (.one rfl) rfl <| O2 rfl rfl (ox5 t43 .tmp) (.cons rfl (.one rfl)) (.one rfl) <| O5 (ox1 .int) .nil .nil rfl <| O1 <| Q0 (σ' := ⟨[(2, _), (3, .val (11 : Int))], [(2, .var (v1) [])]⟩) (j2 rfl rfl) (j1 rfl) ?_
  refine Q5 ?_
  obtain rfl := Option.some.inj hφ
  exact Q6 hw0 rfl (.cell t43 rfl rfl (.tmp rfl rfl .nil)) rfl
 ·replace hφ := if_else hφ hc2
  refine Q0 (σ' := ⟨[(1, _), (2, _), (4, _)], [(1, _), (2, _), (4, _)]⟩) (j3 rfl rfl rfl) (j3 rfl rfl rfl) ?_
  refine Q2 (Q1 ?_)
  refine O5 (ox3 Machine_Falls f43_4) (.one rfl) .nil rfl <| O5 (ox2 t3) (.one rfl) (.one rfl) rfl <| O5 (ox_geq .tmp .int) (.app (.one rfl) .nil) .nil rfl <| O5 (ox1 .tmp) (.one rfl) .nil rfl <| O1 <| Q0 (σ' := ⟨[(1, _), (2, _), (4, _), (12, .val (decide ((6 : Int) ≤ a0.Falls)))], [(1, _), (2, _), (4, _)]⟩) (j4 rfl rfl rfl rfl) (j3 rfl rfl rfl) ?_
  refine Q3 _ rfl (fun hc3 => ?_) (fun hc3 => ?_)
  ·replace hφ := if_then hφ hc3
   refine Q0 (σ' := ⟨[(2, _), (4, _)], [(2, _), (4, _)]⟩) (j2 rfl rfl) (j2 rfl rfl) ?_
   refine Q2 (Q1 ?_)
   refine O5 (ox4 t43) (.one rfl) (.one rfl) rfl <| O2 rfl rfl (ox5 t43 .tmp) (.cons rfl (.one rfl)) (.one rfl) <| O5 (ox1 .int) .nil .nil rfl <| O1 <| Q0 (σ' := ⟨[(2, _), (3, .val (5 : Int))], [(2, .var (v1) [])]⟩) (j2 rfl rfl) (j1 rfl) ?_
   refine Q5 ?_
   obtain rfl := Option.some.inj hφ
   exact Q6 hw0 rfl (.cell t43 rfl rfl (.tmp rfl rfl .nil)) rfl
  ·replace hφ := if_else hφ hc3
   refine Q0 (σ' := ⟨[(1, _), (2, _), (4, _)], [(1, _), (2, _), (4, _)]⟩) (j3 rfl rfl rfl) (j3 rfl rfl rfl) ?_
   refine Q4 ?_
   refine Q2 ?_
   obtain ⟨hb4, hφ⟩ := G_some hφ
   refine Q1 ?_
   refine O5 (ox3 Machine_Falls f43_4) (.one rfl) .nil rfl <| O5 (ox2 t3) (.one rfl) (.one rfl) rfl <| O5 (ox_add .tmp .int hb4) (.app (.one rfl) .nil) .nil rfl <| O5 (ox3 Machine_Falls f43_4) (.one rfl) .nil rfl <| O2 rfl rfl (ox_store_fld t3 .tmp) (.cons rfl (.one rfl)) (.one rfl) <| O1 <| Q0 (σ' := ⟨[(1, _), (2, _), (4, _)], [(1, _), (2, _), (4, .var ({ v1 with Falls := (v1.Falls + (1 : Int)) }) [])]⟩) (j3 rfl rfl rfl) (j3 rfl rfl rfl) ?_
   refine Q2 ?_
   obtain ⟨v5, hv5, hφ⟩ := B_some hφ
   refine Q1 ?_
   refine O5 (ox3 Machine_Falls f43_4) (.one rfl) .nil rfl <| O5 (ox2 t3) (.one rfl) (.one rfl) rfl <| O5 (ox_call (c_guard_Pause hv5) (.cons .tmp .nil)) (.app (.one rfl) .nil) .nil rfl <| O5 (ox3 Machine_Up f43_2) (.one rfl) .nil rfl <| O2 rfl rfl (ox_store_fld t4 .bool) (.cons rfl .nil) (.one rfl) <| O5 (ox3 Machine_Pause f43_3) (.one rfl) .nil rfl ?_
   refine O2 rfl rfl (ox_store_fld t3 .tmp) (.cons rfl (.one rfl)) (.one rfl) <| O1 <| Q0 (σ' := ⟨[(1, _), (2, _), (4, _)], [(1, _), (2, _), (4, .var ({ ({ ({ v1 with Falls := (v1.Falls + (1 : Int)) }) with Up := false }) with Pause := v5 }) [])]⟩) (j3 rfl rfl rfl) (j3 rfl rfl rfl) ?_
   refine Q2 (Q1 ?_)
   refine O5 (ox3 Machine_Server f43_1) (.one rfl) .nil rfl <| O5 (ox_fieldAddr_ptr Server_Gen f40_0) (.one rfl) .nil rfl <| O5 (ox2 t3) (.one rfl) (.one rfl) rfl <| O5 (oxa z40 u40 rfl (.cons Server_Gen f40_0 .tmp Bld.nil)) (.app (.one rfl) .nil) .nil rfl <| O5 (ox3 Machine_Server f43_1) (.one rfl) .nil rfl <| O2 rfl rfl (ox_store_fld t40 .tmp) (.cons rfl (.one rfl)) (.one rfl) <| O1 <| Q0 (σ' := ⟨[(2, _), (4, _)], [(2, _), (4, .var ({ ({ ({ ({ v1 with Falls := (v1.Falls + (1 : Int)) }) with Up := false }) with Pause := v5 }) with Server := ({ Gen := a0.Server.Gen, Box := ([] : List (List UInt8)), Busy := false, Now := zRq, Plan := ([] : List Mk.Write), Says := zRe } : Mk.Server) }) [])]⟩) (j2 rfl rfl) (j2 rfl rfl) ?_
   refine Q2 (Q1 ?_)
   refine O5 (ox4 t43) (.one rfl) (.one rfl) rfl <| O2 rfl rfl (ox5 t43 .tmp) (.cons rfl (.one rfl)) (.one rfl) <| O5 (ox1 .int) .nil .nil rfl <| O1 <| Q0 (σ' := ⟨[(2, _), (3, .val (0 : Int))], [(2, .var ({ ({ ({ ({ v1 with Falls := (v1.Falls + (1 : Int)) }) with Up := false }) with Pause := v5 }) with Server := ({ Gen := a0.Server.Gen, Box := ([] : List (List UInt8)), Busy := false, Now := zRq, Plan := ([] : List Mk.Write), Says := zRe } : Mk.Server) }) [])]⟩) (j2 rfl rfl) (j1 rfl) ?_
   refine Q5 ?_
   obtain rfl := Option.some.inj hφ
   exact Q6 hw0 rfl (.cell t43 rfl rfl (.tmp rfl rfl .nil)) rfl
theorem c_guard_Tick {a0 : Mk.Machine} {r : Mk.Machine} (hφ : guard_Tick a0 = some r) : Fn Go.Proofs.Tryz.prog 59 [.val a0] (.val r) := by
 unfold guard_Tick at hφ
 refine Fn.mk' Go.Proofs.Tryz.func59 rfl (by decide) rfl rfl rfl (fun w0 hw0 => ?_)
 refine Q2 (Q1 ?_)
 refine O3 rfl rfl (ox_box (id := 1) .tmp) (.one rfl) .nil rfl (by kernel_rfl) <| O3 rfl rfl (ox_alloc (id := 2) z43) .nil .nil rfl (by kernel_rfl) <| O1 <| Q0 (σ' := ⟨[(1, _), (2, _)], [(1, .var (a0) []), (2, .var (zMa) [])]⟩) (j2 rfl rfl) (j2 rfl rfl) ?_
 refine Q2 ?_
 obtain ⟨v1, hv1, hφ⟩ := B_some hφ
 refine Q1 ?_
 refine O5 (ox4 t43) (.one rfl) (.one rfl) rfl <| O5 (ox_call (c_guard_Own hv1) (.cons .tmp .nil)) (.app (.one rfl) .nil) .nil rfl <| O3 rfl rfl (ox_alloc (id := 3) z43) .nil .nil rfl (by kernel_rfl) <| O2 rfl rfl (ox5 t43 .tmp) (.cons rfl (.one rfl)) (.one rfl) <| O1 <| Q0 (σ' := ⟨[(1, _), (2, _), (3, _)], [(1, _), (2, _), (3, .var (v1) [])]⟩) (j3 rfl rfl rfl) (j3 rfl rfl rfl) ?_
 refine Q2 ?_
 refine Q2 (Q1 ?_)
 refine O5 (ox3 Machine_Up f43_2) (.one rfl) .nil rfl <| O5 (ox2 t4) (.one rfl) (.one rfl) rfl <| O1 <| Q0 (σ' := ⟨[(1, _), (2, _), (3, _), (7, .val (a0.Up))], [(1, _), (2, _), (3, _)]⟩) (j4 rfl rfl rfl rfl) (j3 rfl rfl rfl) ?_
 refine Q3 _ rfl (fun hc2 => ?_) (fun hc2 => ?_)
 ·replace hφ := if_then hφ hc2
  refine Q0 (σ' := ⟨[(2, _), (3, _)], [(2, _), (3, _)]⟩) (j2 rfl rfl) (j2 rfl rfl) ?_
  refine Q2 (Q1 ?_)
  refine O5 (ox4 t43) (.one rfl) (.one rfl) rfl <| O2 rfl rfl (ox5 t43 .tmp) (.cons rfl (.one rfl)) (.one rfl) <| O1 <| Q0 (σ' := ⟨[(2, _)], [(2, .var (v1) [])]⟩) (j1 rfl) (j1 rfl) ?_
  refine Q5 ?_
  obtain rfl := Option.some.inj hφ
  exact Q6 hw0 rfl (.cell t43 rfl rfl .nil) rfl
 ·replace hφ := if_else hφ hc2
  refine Q0 (σ' := ⟨[(1, _), (2, _), (3, _)], [(1, _), (2, _), (3, _)]⟩) (j3 rfl rfl rfl) (j3 rfl rfl rfl) ?_
  refine Q4 ?_
  refine Q2 ?_
  obtain ⟨hb3, hφ⟩ := G_some hφ
  refine Q1 ?_
  refine O5 (ox3 Machine_Pause f43_3) (.one rfl) .nil rfl <| O5 (ox2 t3) (.one rfl) (.one rfl) rfl <| O5 (ox_sub .tmp .int hb3) (.app (.one rfl) .nil) .nil rfl <| O5 (ox3 Machine_Pause f43_3) (.one rfl) .nil rfl <| O2 rfl rfl (ox_store_fld t3 .tmp) (.cons rfl (.one rfl)) (.one rfl) <| O1 <| Q0 (σ' := ⟨[(1, _), (2, _), (3, _)], [(1, _), (2, _), (3, .var ({ v1 with Pause := (v1.Pause - (1 : Int)) }) [])]⟩) (j3 rfl rfl rfl) (j3 rfl rfl rfl) ?_
  obtain ⟨k4, hk4, hφ⟩ := J_some hφ
  refine PT.cut (ι := Mk.Machine × Mk.Machine) (fun p => ⟨[(2, .ptr 2 (Lens.id (α := Mk.Machine))), (3, .ptr 3 (Lens.id (α := Mk.Machine)))], [(2, .var (p.1) []), (3, .var (p.2) [])]⟩) (fun p => k4 (p.1) (p.2) = some r) ?_ ?_
  ·skip
   refine Q2 (Q1 ?_)
   refine O5 (ox3 Machine_Pause f43_3) (.one rfl) .nil rfl <| O5 (ox2 t3) (.one rfl) (.one rfl) rfl <| O5 (ox_leq .tmp .int) (.app (.one rfl) .nil) .nil rfl <| O1 <| Q0 (σ' := ⟨[(1, _), (2, _), (3, _), (15, .val (decide ({ v1 with Pause := (v1.Pause - (1 : Int)) }.Pause ≤ (0 : Int))))], [(1, _), (2, _), (3, _)]⟩) (j4 rfl rfl rfl rfl) (j3 rfl rfl rfl) ?_
   refine Q3 _ rfl (fun hc5 => ?_) (fun hc5 => ?_)
   ·replace hφ := if_then hφ hc5
    refine Q0 (σ' := ⟨[(1, _), (2, _), (3, _)], [(1, _), (2, _), (3, _)]⟩) (j3 rfl rfl rfl) (j3 rfl rfl rfl) ?_
    refine Q2 (Q1 ?_)
    refine O5 (ox3 Machine_Up f43_2) (.one rfl) .nil rfl <| O2 rfl rfl (ox_store_fld t4 .bool) (.cons rfl .nil) (.one rfl) <| O5 (ox3 Machine_Pause f43_3) (.one rfl) .nil rfl <| O2 rfl rfl (ox_store_fld t3 .int) (.cons rfl .nil) (.one rfl) <| O1 <| Q0 (σ' := ⟨[(1, _), (2, _), (3, _)], [(1, _), (2, _), (3, .var ({ ({ ({ v1 with Pause := (v1.Pause - (1 : Int)) }) with Up := true }) with Pause := (0 : Int) }) [])]⟩) (j3 rfl rfl rfl) (j3 rfl rfl rfl) ?_
    refine Q2 ?_
    obtain ⟨v6, hv6, hφ⟩ := B_some hφ
    refine Q1 ?_
    refine O5 (ox3 Machine_Store f43_0) (.one rfl) .nil rfl <| O5 (ox2 t30) (.one rfl) (.one rfl) rfl <| O5 (ox_call (c_store_Back hv6) (.cons .tmp .nil)) (.app (.one rfl) .nil) .nil rfl <| O5 (ox3 Machine_Store f43_0) (.one rfl) .nil rfl <| O2 rfl rfl (ox_store_fld t30 .tmp) (.cons rfl (.one rfl)) (.one rfl) <| O1 <| Q0 (σ' := ⟨[(1, _), (2, _), (3, _)], [(1, _), (2, _), (3, .var ({ ({ ({ ({ v1 with Pause := (v1.Pause - (1 : Int)) }) with Up := true }) with Pause := (0 : Int) }) with Store := v6 }) [])]⟩) (j3 rfl rfl rfl) (j3 rfl rfl rfl) ?_
    obtain ⟨hb7, hφ⟩ := G_some hφ
    refine Q1 ?_
    refine O5 (ox3 Machine_Server f43_1) (.one rfl) .nil rfl <| O5 (ox_fieldAddr_ptr Server_Gen f40_0) (.one rfl) .nil rfl <| O5 (ox2 t3) (.one rfl) (.one rfl) rfl <| O5 (ox_add .tmp .int hb7) (.app (.one rfl) .nil) .nil rfl <| O5 (oxa z40 u40 rfl (.cons Server_Gen f40_0 .tmp Bld.nil)) (.app (.one rfl) .nil) .nil rfl <| O5 (ox3 Machine_Server f43_1) (.one rfl) .nil rfl ?_
    refine O2 rfl rfl (ox_store_fld t40 .tmp) (.cons rfl (.one rfl)) (.one rfl) <| O1 <| Q0 (σ' := ⟨[(2, _), (3, _)], [(2, _), (3, .var ({ ({ ({ ({ ({ v1 with Pause := (v1.Pause - (1 : Int)) }) with Up := true }) with Pause := (0 : Int) }) with Store := v6 }) with Server := ({ Gen := (a0.Server.Gen + (1 : Int)), Box := ([] : List (List UInt8)), Busy := false, Now := zRq, Plan := ([] : List Mk.Write), Says := zRe } : Mk.Server) }) [])]⟩) (j2 rfl rfl) (j2 rfl rfl) ?_
    exact PT.meet (zMa, { ({ ({ ({ ({ v1 with Pause := (v1.Pause - (1 : Int)) }) with Up := true }) with Pause := (0 : Int) }) with Store := v6 }) with Server := ({ Gen := (a0.Server.Gen + (1 : Int)), Box := ([] : List (List UInt8)), Busy := false, Now := zRq, Plan := ([] : List Mk.Write), Says := zRe } : Mk.Server) }) hφ (j2 rfl rfl) (j2 rfl rfl)
   ·replace hφ := if_else hφ hc5
    refine Q0 (σ' := ⟨[(2, _), (3, _)], [(2, _), (3, _)]⟩) (j2 rfl rfl) (j2 rfl rfl) ?_
    refine Q4 ?_
    exact PT.meet (zMa, { v1 with Pause := (v1.Pause - (1 : Int)) }) hφ (j2 rfl rfl) (j2 rfl rfl)
  ·rintro ⟨y2_k4, y3_k4⟩ hφ
   subst hk4
   refine Q0 (σ' := ⟨[(2, .ptr 2 (Lens.id (α := Mk.Machine))), (3, .ptr 3 (Lens.id (α := Mk.Machine)))], [(2, .var (y2_k4) []), (3, .var (y3_k4) [])]⟩) (j2 rfl rfl) (j2 rfl rfl) ?_
   refine Q2 (Q1 ?_)
   refine O5 (ox4 t43) (.one rfl) (.one rfl) rfl <| O2 rfl rfl (ox5 t43 .tmp) (.cons rfl (.one rfl)) (.one rfl) <| O1 <| Q0 (σ' := ⟨[(2, _)], [(2, .var (y3_k4) [])]⟩) (j1 rfl) (j1 rfl) ?_
   refine Q5 ?_
   obtain rfl := Option.some.inj hφ
   exact Q6 hw0 rfl (.cell t43 rfl rfl .nil) rfl
end Go.Gx
end
