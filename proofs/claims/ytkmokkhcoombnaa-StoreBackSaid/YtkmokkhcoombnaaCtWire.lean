/- FUNCTIONS OF THE PROGRAM ANSWER WHAT THEIR SPECS ANSWER: printed by gen3.py. -/
import Derived.Test.YtkmokkhcoombnaaGt
import Derived.Test.YtkmokkhcoombnaaSpWire
import Derived.Test.YtkmokkhcoombnaaChecked
import Derived.Test.YtkmokkhcoombnaaCtPlan
namespace Go.Gx
open Sp
set_option linter.unusedVariables false
set_option linter.unusedSimpArgs false
set_option maxRecDepth 20000
/-- mendkernel/wire.who -/
theorem c_wire_who {a0 : Int} {a1 : Int} {r : Int} (hφ : wire_who a0 a1 = some r) : Fn Go.Proofs.Try.prog 86 [.val a0, .val a1] (.val r) := by
  unfold wire_who at hφ
  refine Fn.mk' Go.Proofs.Try.func86 rfl (by decide) rfl rfl rfl (fun w0 hw0 => ?_)
  refine PT.seq ?_
  refine PT.region ?_
  refine Ops.put rfl rfl (ox_assign .int) (.nil) (.nil) rfl ?_
  refine Ops.nil ?_
  refine PT.sub (σ' := ⟨[(0, .val (a0)), (1, .val (a1))], []⟩) ⟨rfl, rfl, trivial⟩ trivial ?_
  refine PT.seq ?_
  refine PT.seq ?_
  refine PT.region ?_
  refine Ops.put rfl rfl (ox_move .tmp) (.one rfl) (.nil) rfl ?_
  refine Ops.put rfl rfl (ox_lss .tmp .int) ((.app (.one rfl) (.nil))) (.nil) rfl ?_
  refine Ops.put rfl rfl (ox_move .tmp) (.one rfl) (.nil) rfl ?_
  refine Ops.guard rfl rfl rfl rfl (.plain .nil) (fun hG => (ox_move .tmp)) ⟨rfl, trivial⟩ (.nil) rfl ?_
  refine Ops.guard rfl rfl rfl rfl (.cond (fun h => h) .nil) (fun hG => (ox_geq .tmp .int)) ⟨rfl, trivial⟩ (.nil) rfl ?_
  refine Ops.put rfl rfl ox_pick_or (⟨rfl, rfl, trivial⟩) (.nil) rfl ?_
  refine Ops.put rfl rfl (ox_move .tmp) (.one rfl) (.nil) rfl ?_
  refine Ops.guard rfl rfl rfl rfl (.plain .nil) (fun hG => (ox_move .tmp)) ⟨rfl, trivial⟩ (.nil) rfl ?_
  refine Ops.guard rfl rfl rfl rfl (.cond (fun h => h) .nil) (fun hG => (ox_lss .tmp .int)) ⟨rfl, trivial⟩ (.nil) rfl ?_
  refine Ops.put rfl rfl ox_pick_or (⟨rfl, rfl, trivial⟩) (.nil) rfl ?_
  refine Ops.put rfl rfl (ox_move .tmp) (.one rfl) (.nil) rfl ?_
  refine Ops.guard rfl rfl rfl rfl (.plain .nil) (fun hG => (ox_move .tmp)) ⟨rfl, trivial⟩ (.nil) rfl ?_
  refine Ops.guard rfl rfl rfl rfl (.cond (fun h => h) .nil) (fun hG => (ox_geq .tmp .int)) ⟨rfl, trivial⟩ (.nil) rfl ?_
  refine Ops.put rfl rfl ox_pick_or (⟨rfl, rfl, trivial⟩) (.nil) rfl ?_
  refine Ops.nil ?_
  refine PT.sub (σ' := ⟨[(18, .val (((((decide (a0 < (0 : Int))) || (decide ((3 : Int) ≤ a0))) || (decide (a1 < (0 : Int)))) || (decide ((8 : Int) ≤ a1)))))], []⟩) ⟨rfl, trivial⟩ trivial ?_
  refine PT.cond _ rfl (fun hc1 => ?_) (fun hc1 => ?_)
  · replace hφ := if_then hφ hc1
    refine PT.sub (σ' := ⟨[], []⟩) trivial trivial ?_
    refine PT.seq ?_
    refine PT.region ?_
    refine Ops.put rfl rfl (ox_assign .int) (.nil) (.nil) rfl ?_
    refine Ops.nil ?_
    refine PT.sub (σ' := ⟨[(4, .val ((3 : Int)))], []⟩) ⟨rfl, trivial⟩ trivial ?_
    refine PT.ret ?_
    obtain rfl := Option.some.inj hφ
    exact PT.done hw0 rfl (.tmp rfl rfl .nil) rfl
  · replace hφ := if_else hφ hc1
    refine PT.sub (σ' := ⟨[], []⟩) trivial trivial ?_
    refine PT.skip ?_
    refine PT.seq ?_
    refine PT.region ?_
    refine Ops.put rfl rfl (ox_assign .int) (.nil) (.nil) rfl ?_
    refine Ops.nil ?_
    refine PT.sub (σ' := ⟨[(4, .val ((0 : Int)))], []⟩) ⟨rfl, trivial⟩ trivial ?_
    refine PT.ret ?_
    obtain rfl := Option.some.inj hφ
    exact PT.done hw0 rfl (.tmp rfl rfl .nil) rfl

/-- mendkernel/model.Wrong$1 -/
theorem c_model_Wrong_1 {a0 : Int} {r : Bool} (hφ : model_Wrong_1 a0 = some r) : Fn Go.Proofs.Try.prog 109 [.val a0] (.val r) := by
  unfold model_Wrong_1 at hφ
  refine Fn.mk' Go.Proofs.Try.func109 rfl (by decide) rfl rfl rfl (fun w0 hw0 => ?_)
  refine PT.seq ?_
  refine PT.region ?_
  refine Ops.put rfl rfl (ox_assign .bool) (.nil) (.nil) rfl ?_
  refine Ops.nil ?_
  refine PT.sub (σ' := ⟨[(0, .val (a0))], []⟩) ⟨rfl, trivial⟩ trivial ?_
  refine PT.seq ?_
  refine PT.region ?_
  refine Ops.put rfl rfl (ox_move .tmp) (.one rfl) (.nil) rfl ?_
  refine Ops.put rfl rfl (ox_geq .tmp .int) ((.app (.one rfl) (.nil))) (.nil) rfl ?_
  refine Ops.put rfl rfl (ox_move .tmp) (.one rfl) (.nil) rfl ?_
  refine Ops.guard rfl rfl rfl rfl (.plain .nil) (fun hG => (ox_move .tmp)) ⟨rfl, trivial⟩ (.nil) rfl ?_
  refine Ops.guard rfl rfl rfl rfl (.cond (fun h => h) .nil) (fun hG => (ox_leq .tmp .int)) ⟨rfl, trivial⟩ (.nil) rfl ?_
  refine Ops.put rfl rfl ox_pick_and (⟨rfl, rfl, trivial⟩) (.nil) rfl ?_
  refine Ops.put rfl rfl (ox_assign .tmp) (.one rfl) (.nil) rfl ?_
  refine Ops.nil ?_
  refine PT.sub (σ' := ⟨[(2, .val (((decide ((1 : Int) ≤ a0)) && (decide (a0 ≤ (255 : Int))))))], []⟩) ⟨rfl, trivial⟩ trivial ?_
  refine PT.ret ?_
  obtain rfl := Option.some.inj hφ
  exact PT.done hw0 rfl (.tmp rfl rfl .nil) rfl

/-- mendkernel/model.Wrong -/
theorem c_model_Wrong {a0 : Mk.Call} {r : Int} (hφ : model_Wrong a0 = some r) : Fn Go.Proofs.Try.prog 76 [.val a0] (.val r) := by
  unfold model_Wrong at hφ
  refine Fn.mk' Go.Proofs.Try.func76 rfl (by decide) rfl rfl rfl (fun w0 hw0 => ?_)
  refine PT.seq ?_
  refine PT.region ?_
  refine Ops.putO rfl rfl (ox_box (id := 1) .tmp) (.one rfl) (.nil) rfl (by kernel_rfl) ?_
  refine Ops.put rfl rfl (ox_assign .int) (.nil) (.nil) rfl ?_
  refine Ops.nil ?_
  refine PT.sub (σ' := ⟨[(1, _)], [(1, .var (a0) [])]⟩) ⟨rfl, trivial⟩ ⟨rfl, trivial⟩ ?_
  refine PT.seq ?_
  refine PT.region ?_
  refine Ops.put rfl rfl (ox_assign .func) (.nil) (.nil) rfl ?_
  refine Ops.nil ?_
  refine PT.sub (σ' := ⟨[(1, _), (3, _)], [(1, .var (a0) [])]⟩) ⟨rfl, rfl, trivial⟩ ⟨rfl, trivial⟩ ?_
  refine PT.seq ?_
  refine PT.block ?_
  refine PT.seq ?_
  refine PT.region ?_
  refine Ops.put rfl rfl (ox_fieldAddr_var Call_Kind f23_0) (.one rfl) (.nil) rfl ?_
  refine Ops.put rfl rfl (ox_load_fld t3) (.one rfl) (.one rfl) rfl ?_
  refine Ops.put rfl rfl (ox_lss .tmp .int) ((.app (.one rfl) (.nil))) (.nil) rfl ?_
  refine Ops.put rfl rfl (ox_move .tmp) (.one rfl) (.nil) rfl ?_
  refine Ops.guard rfl rfl rfl rfl (.plain .nil) (fun hG => (ox_fieldAddr_var Call_Kind f23_0)) ⟨rfl, trivial⟩ (.nil) rfl ?_
  refine Ops.guard rfl rfl rfl rfl (.cond (fun h => h) .nil) (fun hG => (ox_load_fld t3)) ⟨rfl, trivial⟩ (.one rfl) rfl ?_
  refine Ops.guard rfl rfl rfl rfl (.cond (fun h => h) .nil) (fun hG => (ox_gtr .tmp .int)) ⟨rfl, trivial⟩ (.nil) rfl ?_
  refine Ops.put rfl rfl ox_pick_or (⟨rfl, rfl, trivial⟩) (.nil) rfl ?_
  refine Ops.put rfl rfl (ox_assign .tmp) (.one rfl) (.nil) rfl ?_
  refine Ops.nil ?_
  refine PT.sub (σ' := ⟨[(1, _), (3, _), (4, .val (((decide (a0.Kind < (1 : Int))) || (decide ((6 : Int) < a0.Kind)))))], [(1, .var (a0) [])]⟩) ⟨rfl, rfl, rfl, trivial⟩ ⟨rfl, trivial⟩ ?_
  refine PT.cond _ rfl (fun hc1 => ?_) (fun hc1 => ?_)
  · replace hφ := if_then hφ hc1
    refine PT.sub (σ' := ⟨[], []⟩) trivial trivial ?_
    refine PT.seq ?_
    refine PT.region ?_
    refine Ops.put rfl rfl (ox_assign .int) (.nil) (.nil) rfl ?_
    refine Ops.nil ?_
    refine PT.sub (σ' := ⟨[(2, .val ((1 : Int)))], []⟩) ⟨rfl, trivial⟩ trivial ?_
    refine PT.ret ?_
    obtain rfl := Option.some.inj hφ
    exact PT.done hw0 rfl (.tmp rfl rfl .nil) rfl
  · replace hφ := if_else hφ hc1
    refine PT.sub (σ' := ⟨[(1, _), (3, _)], [(1, .var (a0) [])]⟩) ⟨rfl, rfl, trivial⟩ ⟨rfl, trivial⟩ ?_
    obtain ⟨k2, hk2, hφ⟩ := J_some hφ
    refine PT.cut (ι := Bool × Mk.Call) (fun p => ⟨[(1, .ptr 1 (Lens.id (α := Mk.Call))), (13, .val (p.1))], [(1, .var (p.2) [])]⟩) (fun p => k2 (p.1) (p.2) = some r) ?_ ?_
    · skip
      refine PT.seq ?_
      obtain ⟨v3, hv3, hφ⟩ := B_some hφ
      refine PT.draw hMixed (
          Segs.cons (Step.put rfl rfl (ox_fieldAddr_var Call_Kind f23_0)) ⟨.one rfl, .nil⟩ (by kernel_rfl) rfl <|
          Segs.cons (Step.put rfl rfl (ox_load_fld t3)) ⟨.one rfl, .one rfl⟩ (by kernel_rfl) rfl <|
          Segs.cons (Step.put rfl rfl (ox_neq .tmp .int)) ⟨(.app (.one rfl) (.nil)), .nil⟩ (by kernel_rfl) rfl <|
          Segs.cons (Step.put rfl rfl (ox_move .tmp)) ⟨.one rfl, .nil⟩ (by kernel_rfl) rfl <|
          Segs.cons (Step.put rfl rfl (ox_fieldAddr_var Call_Name f23_1)) ⟨.one rfl, .nil⟩ (by kernel_rfl) rfl <|
          Segs.cons (Step.put rfl rfl (ox_load_fld t3)) ⟨.one rfl, .one rfl⟩ (by kernel_rfl) rfl <|
          Segs.cons (Step.put rfl rfl (ox_callv (c_model_Wrong_1 hv3) (.cons .tmp .nil))) ⟨(.cons rfl ((.app (.one rfl) .nil))), .nil⟩ (by kernel_rfl) rfl <|
          Segs.cons (Step.put rfl rfl (ox_neqB e4 .tmp .tmp)) ⟨(.app (.one rfl) (.one rfl)), .nil⟩ (by kernel_rfl) rfl <|
          Segs.cons (Step.put rfl rfl (ox_move .tmp)) ⟨.one rfl, .nil⟩ (by kernel_rfl) rfl <|
          Segs.cons (Step.guard rfl rfl rfl Grd.plain _ (by first | exact Iff.rfl | simp) (.plain .nil) (fun hG => (ox_fieldAddr_var Call_Kind f23_0))) ⟨(.cons rfl ⟨rfl, trivial⟩), .nil⟩ (by kernel_rfl) rfl <|
          Segs.cons (Step.guard rfl rfl rfl Grd.plain _ (by first | exact Iff.rfl | simp) (.cond (fun h => h) .nil) (fun hG => (ox_load_fld t3))) ⟨(.cons rfl ⟨rfl, trivial⟩), .one rfl⟩ (by kernel_rfl) rfl <|
          Segs.cons (Step.guard rfl rfl rfl Grd.plain _ (by first | exact Iff.rfl | simp) (.cond (fun h => h) .nil) (fun hG => (ox_eql .tmp .int))) ⟨(.cons rfl ⟨rfl, trivial⟩), .nil⟩ (by kernel_rfl) rfl <|
          Segs.cons (Step.guard rfl rfl rfl Grd.plain _ (by first | exact Iff.rfl | simp) (.cond (fun h => h) .nil) (fun hG => (ox_move .tmp))) ⟨(.cons rfl ⟨rfl, trivial⟩), .nil⟩ (by kernel_rfl) rfl <|
          Segs.cons (Step.guard rfl rfl rfl Grd.cond _ (by first | exact Iff.rfl | simp) (.plain .nil) (fun hG => (ox_fieldAddr_var Call_Name f23_1))) ⟨(.cons rfl ⟨rfl, trivial⟩), .nil⟩ (by kernel_rfl) rfl <|
          Segs.cons (Step.guard rfl rfl rfl Grd.cond _ (by first | exact Iff.rfl | simp) (.cond (fun h => h) .nil) (fun hG => (ox_load_fld t3))) ⟨(.cons rfl ⟨rfl, trivial⟩), .one rfl⟩ (by kernel_rfl) rfl <|
          Segs.cons (Step.guard rfl rfl rfl Grd.cond _ (by first | exact Iff.rfl | simp) (.cond (fun h => h) .nil) (fun hG => (ox_neq .tmp .int))) ⟨(.cons rfl ⟨rfl, trivial⟩), .nil⟩ (by kernel_rfl) rfl <|
          Segs.cons (Step.guard rfl rfl rfl Grd.plain _ (by first | exact Iff.rfl | simp) (.cond (fun h => h) (.part (fun h => h) .nil)) (fun hG => ox_pick_and)) ⟨(.cons rfl ⟨rfl, rfl, trivial⟩), .nil⟩ (by kernel_rfl) rfl <|
          Segs.cons (Step.put rfl rfl ox_pick_or) ⟨⟨rfl, rfl, trivial⟩, .nil⟩ (by kernel_rfl) rfl <|
          Segs.cons (Step.put rfl rfl (ox_assign .tmp)) ⟨.one rfl, .nil⟩ (by kernel_rfl) rfl <|
          Segs.nil) _ [[], [0], [0, 1], [], [], [4], [3, 4, 5], [0, 1, 2, 3, 4, 5, 6], [0, 1, 2, 3, 4, 5, 6, 7], [0, 1, 2, 3, 4, 5, 6, 7, 8], [0, 1, 2, 3, 4, 5, 6, 7, 8, 9], [0, 1, 2, 3, 4, 5, 6, 7, 8, 9, 10], [0, 1, 2, 3, 4, 5, 6, 7, 8, 9, 10, 11], [0, 1, 2, 3, 4, 5, 6, 7, 8, 9, 10, 11, 12], [0, 1, 2, 3, 4, 5, 6, 7, 8, 9, 10, 11, 12, 13], [0, 1, 2, 3, 4, 5, 6, 7, 8, 9, 10, 11, 12, 13, 14], [0, 1, 2, 3, 4, 5, 6, 7, 8, 9, 10, 11, 12, 13, 14, 15], [0, 1, 2, 3, 4, 5, 6, 7, 8, 9, 10, 11, 12, 13, 14, 15, 16], [0, 1, 2, 3, 4, 5, 6, 7, 8, 9, 10, 11, 12, 13, 14, 15, 16, 17]] rfl (by kernel_rfl) (by kernel_rfl) ?_
      refine PT.sub (σ' := ⟨[(1, _), (3, _), (13, .val (((!decide ((!decide (a0.Kind = (5 : Int))) = v3)) || ((decide (a0.Kind = (5 : Int))) && (!decide (a0.Name = (0 : Int)))))))], [(1, .var (a0) [])]⟩) ⟨rfl, rfl, rfl, trivial⟩ ⟨rfl, trivial⟩ ?_
      refine PT.cond _ rfl (fun hc4 => ?_) (fun hc4 => ?_)
      · replace hφ := if_then hφ hc4
        refine PT.sub (σ' := ⟨[(1, _), (13, .val (((!decide ((!decide (a0.Kind = (5 : Int))) = v3)) || ((decide (a0.Kind = (5 : Int))) && (!decide (a0.Name = (0 : Int)))))))], [(1, .var (a0) [])]⟩) ⟨rfl, rfl, trivial⟩ ⟨rfl, trivial⟩ ?_
        refine PT.skip ?_
        exact PT.meet (((!decide ((!decide (a0.Kind = (5 : Int))) = v3)) || ((decide (a0.Kind = (5 : Int))) && (!decide (a0.Name = (0 : Int))))), a0) hφ ⟨rfl, rfl, trivial⟩ ⟨rfl, trivial⟩
      · replace hφ := if_else hφ hc4
        refine PT.sub (σ' := ⟨[(1, _), (3, _)], [(1, .var (a0) [])]⟩) ⟨rfl, rfl, trivial⟩ ⟨rfl, trivial⟩ ?_
        obtain ⟨v5, hv5, hφ⟩ := B_some hφ
        refine PT.draw hMixed (
            Segs.cons (Step.put rfl rfl (ox_fieldAddr_var Call_Kind f23_0)) ⟨.one rfl, .nil⟩ (by kernel_rfl) rfl <|
            Segs.cons (Step.put rfl rfl (ox_load_fld t3)) ⟨.one rfl, .one rfl⟩ (by kernel_rfl) rfl <|
            Segs.cons (Step.put rfl rfl (ox_eql .tmp .int)) ⟨(.app (.one rfl) (.nil)), .nil⟩ (by kernel_rfl) rfl <|
            Segs.cons (Step.put rfl rfl (ox_move .tmp)) ⟨.one rfl, .nil⟩ (by kernel_rfl) rfl <|
            Segs.cons (Step.put rfl rfl (ox_fieldAddr_var Call_Other f23_2)) ⟨.one rfl, .nil⟩ (by kernel_rfl) rfl <|
            Segs.cons (Step.put rfl rfl (ox_load_fld t3)) ⟨.one rfl, .one rfl⟩ (by kernel_rfl) rfl <|
            Segs.cons (Step.put rfl rfl (ox_callv (c_model_Wrong_1 hv5) (.cons .tmp .nil))) ⟨(.cons rfl ((.app (.one rfl) .nil))), .nil⟩ (by kernel_rfl) rfl <|
            Segs.cons (Step.put rfl rfl (ox_neqB e4 .tmp .tmp)) ⟨(.app (.one rfl) (.one rfl)), .nil⟩ (by kernel_rfl) rfl <|
            Segs.cons (Step.put rfl rfl (ox_move .tmp)) ⟨.one rfl, .nil⟩ (by kernel_rfl) rfl <|
            Segs.cons (Step.guard rfl rfl rfl Grd.plain _ (by first | exact Iff.rfl | simp) (.plain .nil) (fun hG => (ox_fieldAddr_var Call_Kind f23_0))) ⟨(.cons rfl ⟨rfl, trivial⟩), .nil⟩ (by kernel_rfl) rfl <|
            Segs.cons (Step.guard rfl rfl rfl Grd.plain _ (by first | exact Iff.rfl | simp) (.cond (fun h => h) .nil) (fun hG => (ox_load_fld t3))) ⟨(.cons rfl ⟨rfl, trivial⟩), .one rfl⟩ (by kernel_rfl) rfl <|
            Segs.cons (Step.guard rfl rfl rfl Grd.plain _ (by first | exact Iff.rfl | simp) (.cond (fun h => h) .nil) (fun hG => (ox_neq .tmp .int))) ⟨(.cons rfl ⟨rfl, trivial⟩), .nil⟩ (by kernel_rfl) rfl <|
            Segs.cons (Step.guard rfl rfl rfl Grd.plain _ (by first | exact Iff.rfl | simp) (.cond (fun h => h) .nil) (fun hG => (ox_move .tmp))) ⟨(.cons rfl ⟨rfl, trivial⟩), .nil⟩ (by kernel_rfl) rfl <|
            Segs.cons (Step.guard rfl rfl rfl Grd.cond _ (by first | exact Iff.rfl | simp) (.plain .nil) (fun hG => (ox_fieldAddr_var Call_Other f23_2))) ⟨(.cons rfl ⟨rfl, trivial⟩), .nil⟩ (by kernel_rfl) rfl <|
            Segs.cons (Step.guard rfl rfl rfl Grd.cond _ (by first | exact Iff.rfl | simp) (.cond (fun h => h) .nil) (fun hG => (ox_load_fld t3))) ⟨(.cons rfl ⟨rfl, trivial⟩), .one rfl⟩ (by kernel_rfl) rfl <|
            Segs.cons (Step.guard rfl rfl rfl Grd.cond _ (by first | exact Iff.rfl | simp) (.cond (fun h => h) .nil) (fun hG => (ox_neq .tmp .int))) ⟨(.cons rfl ⟨rfl, trivial⟩), .nil⟩ (by kernel_rfl) rfl <|
            Segs.cons (Step.guard rfl rfl rfl Grd.plain _ (by first | exact Iff.rfl | simp) (.cond (fun h => h) (.part (fun h => h) .nil)) (fun hG => ox_pick_and)) ⟨(.cons rfl ⟨rfl, rfl, trivial⟩), .nil⟩ (by kernel_rfl) rfl <|
            Segs.cons (Step.put rfl rfl ox_pick_or) ⟨⟨rfl, rfl, trivial⟩, .nil⟩ (by kernel_rfl) rfl <|
            Segs.cons (Step.put rfl rfl (ox_assign .tmp)) ⟨.one rfl, .nil⟩ (by kernel_rfl) rfl <|
            Segs.nil) _ [[], [0], [0, 1], [], [], [4], [3, 4, 5], [0, 1, 2, 3, 4, 5, 6], [0, 1, 2, 3, 4, 5, 6, 7], [0, 1, 2, 3, 4, 5, 6, 7, 8], [0, 1, 2, 3, 4, 5, 6, 7, 8, 9], [0, 1, 2, 3, 4, 5, 6, 7, 8, 9, 10], [0, 1, 2, 3, 4, 5, 6, 7, 8, 9, 10, 11], [0, 1, 2, 3, 4, 5, 6, 7, 8, 9, 10, 11, 12], [0, 1, 2, 3, 4, 5, 6, 7, 8, 9, 10, 11, 12, 13], [0, 1, 2, 3, 4, 5, 6, 7, 8, 9, 10, 11, 12, 13, 14], [0, 1, 2, 3, 4, 5, 6, 7, 8, 9, 10, 11, 12, 13, 14, 15], [0, 1, 2, 3, 4, 5, 6, 7, 8, 9, 10, 11, 12, 13, 14, 15, 16], [0, 1, 2, 3, 4, 5, 6, 7, 8, 9, 10, 11, 12, 13, 14, 15, 16, 17]] rfl (by kernel_rfl) (by kernel_rfl) ?_
        refine PT.sub (σ' := ⟨[(1, _), (13, .val (((!decide ((decide (a0.Kind = (6 : Int))) = v5)) || ((!decide (a0.Kind = (6 : Int))) && (!decide (a0.Other = (0 : Int)))))))], [(1, .var (a0) [])]⟩) ⟨rfl, rfl, trivial⟩ ⟨rfl, trivial⟩ ?_
        exact PT.meet (((!decide ((decide (a0.Kind = (6 : Int))) = v5)) || ((!decide (a0.Kind = (6 : Int))) && (!decide (a0.Other = (0 : Int))))), a0) hφ ⟨rfl, rfl, trivial⟩ ⟨rfl, trivial⟩
    · rintro ⟨x13_k2, y1_k2⟩ hφ
      subst hk2
      refine PT.sub (σ' := ⟨[(1, .ptr 1 (Lens.id (α := Mk.Call))), (13, .val (x13_k2))], [(1, .var (y1_k2) [])]⟩) ⟨rfl, rfl, trivial⟩ ⟨rfl, trivial⟩ ?_
      refine PT.cond _ rfl (fun hc6 => ?_) (fun hc6 => ?_)
      · replace hφ := if_then hφ hc6
        refine PT.sub (σ' := ⟨[], []⟩) trivial trivial ?_
        refine PT.seq ?_
        refine PT.region ?_
        refine Ops.put rfl rfl (ox_assign .int) (.nil) (.nil) rfl ?_
        refine Ops.nil ?_
        refine PT.sub (σ' := ⟨[(2, .val ((7 : Int)))], []⟩) ⟨rfl, trivial⟩ trivial ?_
        refine PT.ret ?_
        obtain rfl := Option.some.inj hφ
        exact PT.done hw0 rfl (.tmp rfl rfl .nil) rfl
      · replace hφ := if_else hφ hc6
        refine PT.sub (σ' := ⟨[(1, _)], [(1, .var (y1_k2) [])]⟩) ⟨rfl, trivial⟩ ⟨rfl, trivial⟩ ?_
        refine PT.seq ?_
        refine PT.region ?_
        refine Ops.put rfl rfl (ox_fieldAddr_var Call_N f23_3) (.one rfl) (.nil) rfl ?_
        refine Ops.put rfl rfl (ox_load_fld t3) (.one rfl) (.one rfl) rfl ?_
        refine Ops.put rfl rfl (ox_lss .tmp .int) ((.app (.one rfl) (.nil))) (.nil) rfl ?_
        refine Ops.put rfl rfl (ox_move .tmp) (.one rfl) (.nil) rfl ?_
        refine Ops.guard rfl rfl rfl rfl (.plain .nil) (fun hG => (ox_fieldAddr_var Call_N f23_3)) ⟨rfl, trivial⟩ (.nil) rfl ?_
        refine Ops.guard rfl rfl rfl rfl (.cond (fun h => h) .nil) (fun hG => (ox_load_fld t3)) ⟨rfl, trivial⟩ (.one rfl) rfl ?_
        refine Ops.guard rfl rfl rfl rfl (.cond (fun h => h) .nil) (fun hG => (ox_gtr .tmp .int)) ⟨rfl, trivial⟩ (.nil) rfl ?_
        refine Ops.put rfl rfl ox_pick_or (⟨rfl, rfl, trivial⟩) (.nil) rfl ?_
        refine Ops.put rfl rfl (ox_move .tmp) (.one rfl) (.nil) rfl ?_
        refine Ops.guard rfl rfl rfl rfl (.plain .nil) (fun hG => (ox_fieldAddr_var Call_Kind f23_0)) ⟨rfl, trivial⟩ (.nil) rfl ?_
        refine Ops.guard rfl rfl rfl rfl (.cond (fun h => h) .nil) (fun hG => (ox_load_fld t3)) ⟨rfl, trivial⟩ (.one rfl) rfl ?_
        refine Ops.guard rfl rfl rfl rfl (.cond (fun h => h) .nil) (fun hG => (ox_neq .tmp .int)) ⟨rfl, trivial⟩ (.nil) rfl ?_
        refine Ops.guard rfl rfl rfl rfl (.cond (fun h => h) .nil) (fun hG => (ox_move .tmp)) ⟨rfl, trivial⟩ (.nil) rfl ?_
        refine Ops.guard2 rfl rfl rfl rfl (.plain .nil) (fun hG => (ox_fieldAddr_var Call_Kind f23_0)) ⟨rfl, trivial⟩ (.nil) rfl ?_
        refine Ops.guard2 rfl rfl rfl rfl (.cond (fun h => h) .nil) (fun hG => (ox_load_fld t3)) ⟨rfl, trivial⟩ (.one rfl) rfl ?_
        refine Ops.guard2 rfl rfl rfl rfl (.cond (fun h => h) .nil) (fun hG => (ox_neq .tmp .int)) ⟨rfl, trivial⟩ (.nil) rfl ?_
        refine Ops.guard rfl rfl rfl rfl (.cond (fun h => h) (.part (fun h => h) .nil)) (fun hG => ox_pick_and) ⟨rfl, rfl, trivial⟩ (.nil) rfl ?_
        refine Ops.guard rfl rfl rfl rfl (.cond (fun h => h) .nil) (fun hG => (ox_move .tmp)) ⟨rfl, trivial⟩ (.nil) rfl ?_
        refine Ops.guard2 rfl rfl rfl rfl (.plain .nil) (fun hG => (ox_fieldAddr_var Call_N f23_3)) ⟨rfl, trivial⟩ (.nil) rfl ?_
        refine Ops.guard2 rfl rfl rfl rfl (.cond (fun h => h) .nil) (fun hG => (ox_load_fld t3)) ⟨rfl, trivial⟩ (.one rfl) rfl ?_
        refine Ops.guard2 rfl rfl rfl rfl (.cond (fun h => h) .nil) (fun hG => (ox_neq .tmp .int)) ⟨rfl, trivial⟩ (.nil) rfl ?_
        refine Ops.guard rfl rfl rfl rfl (.cond (fun h => h) (.part (fun h => h) .nil)) (fun hG => ox_pick_and) ⟨rfl, rfl, trivial⟩ (.nil) rfl ?_
        refine Ops.put rfl rfl ox_pick_or (⟨rfl, rfl, trivial⟩) (.nil) rfl ?_
        refine Ops.put rfl rfl (ox_assign .tmp) (.one rfl) (.nil) rfl ?_
        refine Ops.nil ?_
        refine PT.sub (σ' := ⟨[(50, .val ((((decide (y1_k2.N < (-1073741824 : Int))) || (decide ((1073741824 : Int) < y1_k2.N))) || (((!decide (y1_k2.Kind = (1 : Int))) && (!decide (y1_k2.Kind = (4 : Int)))) && (!decide (y1_k2.N = (0 : Int)))))))], []⟩) ⟨rfl, trivial⟩ trivial ?_
        refine PT.cond _ rfl (fun hc7 => ?_) (fun hc7 => ?_)
        · replace hφ := if_then hφ hc7
          refine PT.sub (σ' := ⟨[], []⟩) trivial trivial ?_
          refine PT.seq ?_
          refine PT.region ?_
          refine Ops.put rfl rfl (ox_assign .int) (.nil) (.nil) rfl ?_
          refine Ops.nil ?_
          refine PT.sub (σ' := ⟨[(2, .val ((3 : Int)))], []⟩) ⟨rfl, trivial⟩ trivial ?_
          refine PT.ret ?_
          obtain rfl := Option.some.inj hφ
          exact PT.done hw0 rfl (.tmp rfl rfl .nil) rfl
        · replace hφ := if_else hφ hc7
          refine PT.sub (σ' := ⟨[], []⟩) trivial trivial ?_
          refine PT.skip ?_
          refine PT.seq ?_
          refine PT.region ?_
          refine Ops.put rfl rfl (ox_assign .int) (.nil) (.nil) rfl ?_
          refine Ops.nil ?_
          refine PT.sub (σ' := ⟨[(2, .val ((0 : Int)))], []⟩) ⟨rfl, trivial⟩ trivial ?_
          refine PT.ret ?_
          obtain rfl := Option.some.inj hφ
          exact PT.done hw0 rfl (.tmp rfl rfl .nil) rfl

/-- mendkernel/wire.WrongRequest -/
theorem c_wire_WrongRequest {a0 : Mk.Request} {r : Int} (hφ : wire_WrongRequest a0 = some r) : Fn Go.Proofs.Try.prog 21 [.val a0] (.val r) := by
  unfold wire_WrongRequest at hφ
  refine Fn.mk' Go.Proofs.Try.func21 rfl (by decide) rfl rfl rfl (fun w0 hw0 => ?_)
  refine PT.seq ?_
  refine PT.region ?_
  refine Ops.putO rfl rfl (ox_box (id := 1) .tmp) (.one rfl) (.nil) rfl (by kernel_rfl) ?_
  refine Ops.put rfl rfl (ox_assign .int) (.nil) (.nil) rfl ?_
  refine Ops.nil ?_
  refine PT.sub (σ' := ⟨[(1, _)], [(1, .var (a0) [])]⟩) ⟨rfl, trivial⟩ ⟨rfl, trivial⟩ ?_
  refine PT.seq ?_
  refine PT.seq ?_
  obtain ⟨v1, hv1, hφ⟩ := B_some hφ
  refine PT.region ?_
  refine Ops.put rfl rfl (ox_fieldAddr_var Request_Client f25_0) (.one rfl) (.nil) rfl ?_
  refine Ops.put rfl rfl (ox_load_fld t3) (.one rfl) (.one rfl) rfl ?_
  refine Ops.put rfl rfl (ox_fieldAddr_var Request_Token f25_1) (.one rfl) (.nil) rfl ?_
  refine Ops.put rfl rfl (ox_load_fld t3) (.one rfl) (.one rfl) rfl ?_
  refine Ops.put rfl rfl (ox_call (c_wire_who hv1) (.cons .tmp (.cons .tmp .nil))) ((.app (.one rfl) (.app (.one rfl) .nil))) (.nil) rfl ?_
  refine Ops.put rfl rfl (ox_assign .tmp) (.one rfl) (.nil) rfl ?_
  refine Ops.nil ?_
  refine PT.sub (σ' := ⟨[(1, _), (3, .val (v1))], [(1, .var (a0) [])]⟩) ⟨rfl, rfl, trivial⟩ ⟨rfl, trivial⟩ ?_
  refine PT.seq ?_
  refine PT.region ?_
  refine Ops.put rfl rfl (ox_move .tmp) (.one rfl) (.nil) rfl ?_
  refine Ops.put rfl rfl (ox_neq .tmp .int) ((.app (.one rfl) (.nil))) (.nil) rfl ?_
  refine Ops.nil ?_
  refine PT.sub (σ' := ⟨[(1, _), (3, .val (v1)), (10, .val ((!decide (v1 = (0 : Int)))))], [(1, .var (a0) [])]⟩) ⟨rfl, rfl, rfl, trivial⟩ ⟨rfl, trivial⟩ ?_
  refine PT.cond _ rfl (fun hc2 => ?_) (fun hc2 => ?_)
  · replace hφ := if_then hφ hc2
    refine PT.sub (σ' := ⟨[(3, .val (v1))], []⟩) ⟨rfl, trivial⟩ trivial ?_
    refine PT.seq ?_
    refine PT.region ?_
    refine Ops.put rfl rfl (ox_move .tmp) (.one rfl) (.nil) rfl ?_
    refine Ops.put rfl rfl (ox_assign .tmp) (.one rfl) (.nil) rfl ?_
    refine Ops.nil ?_
    refine PT.sub (σ' := ⟨[(2, .val (v1))], []⟩) ⟨rfl, trivial⟩ trivial ?_
    refine PT.ret ?_
    obtain rfl := Option.some.inj hφ
    exact PT.done hw0 rfl (.tmp rfl rfl .nil) rfl
  · replace hφ := if_else hφ hc2
    refine PT.sub (σ' := ⟨[(1, _)], [(1, .var (a0) [])]⟩) ⟨rfl, trivial⟩ ⟨rfl, trivial⟩ ?_
    refine PT.skip ?_
    refine PT.seq ?_
    obtain ⟨v3, hv3, hφ⟩ := B_some hφ
    refine PT.region ?_
    refine Ops.put rfl rfl (ox_fieldAddr_var Request_Call f25_2) (.one rfl) (.nil) rfl ?_
    refine Ops.put rfl rfl (ox_load_fld t23) (.one rfl) (.one rfl) rfl ?_
    refine Ops.put rfl rfl (ox_call (c_model_Wrong hv3) (.cons .tmp .nil)) ((.app (.one rfl) .nil)) (.nil) rfl ?_
    refine Ops.put rfl rfl (ox_assign .tmp) (.one rfl) (.nil) rfl ?_
    refine Ops.nil ?_
    refine PT.sub (σ' := ⟨[(2, .val (v3))], []⟩) ⟨rfl, trivial⟩ trivial ?_
    refine PT.ret ?_
    obtain rfl := Option.some.inj hφ
    exact PT.done hw0 rfl (.tmp rfl rfl .nil) rfl

/-- mendkernel/mkref1.who -/
theorem c_mkref1_who {a0 : Int} {a1 : Int} {r : Bool} (hφ : mkref1_who a0 a1 = some r) : Fn Go.Proofs.Try.prog 87 [.val a0, .val a1] (.val r) := by
  unfold mkref1_who at hφ
  refine Fn.mk' Go.Proofs.Try.func87 rfl (by decide) rfl rfl rfl (fun w0 hw0 => ?_)
  refine PT.seq ?_
  refine PT.region ?_
  refine Ops.put rfl rfl (ox_assign .bool) (.nil) (.nil) rfl ?_
  refine Ops.nil ?_
  refine PT.sub (σ' := ⟨[(0, .val (a0)), (1, .val (a1))], []⟩) ⟨rfl, rfl, trivial⟩ trivial ?_
  refine PT.seq ?_
  refine PT.region ?_
  refine Ops.put rfl rfl (ox_move .tmp) (.one rfl) (.nil) rfl ?_
  refine Ops.put rfl rfl (ox_geq .tmp .int) ((.app (.one rfl) (.nil))) (.nil) rfl ?_
  refine Ops.put rfl rfl (ox_move .tmp) (.one rfl) (.nil) rfl ?_
  refine Ops.guard rfl rfl rfl rfl (.plain .nil) (fun hG => (ox_move .tmp)) ⟨rfl, trivial⟩ (.nil) rfl ?_
  refine Ops.guard rfl rfl rfl rfl (.cond (fun h => h) .nil) (fun hG => (ox_lss .tmp .int)) ⟨rfl, trivial⟩ (.nil) rfl ?_
  refine Ops.put rfl rfl ox_pick_and (⟨rfl, rfl, trivial⟩) (.nil) rfl ?_
  refine Ops.put rfl rfl (ox_move .tmp) (.one rfl) (.nil) rfl ?_
  refine Ops.guard rfl rfl rfl rfl (.plain .nil) (fun hG => (ox_move .tmp)) ⟨rfl, trivial⟩ (.nil) rfl ?_
  refine Ops.guard rfl rfl rfl rfl (.cond (fun h => h) .nil) (fun hG => (ox_geq .tmp .int)) ⟨rfl, trivial⟩ (.nil) rfl ?_
  refine Ops.put rfl rfl ox_pick_and (⟨rfl, rfl, trivial⟩) (.nil) rfl ?_
  refine Ops.put rfl rfl (ox_move .tmp) (.one rfl) (.nil) rfl ?_
  refine Ops.guard rfl rfl rfl rfl (.plain .nil) (fun hG => (ox_move .tmp)) ⟨rfl, trivial⟩ (.nil) rfl ?_
  refine Ops.guard rfl rfl rfl rfl (.cond (fun h => h) .nil) (fun hG => (ox_lss .tmp .int)) ⟨rfl, trivial⟩ (.nil) rfl ?_
  refine Ops.put rfl rfl ox_pick_and (⟨rfl, rfl, trivial⟩) (.nil) rfl ?_
  refine Ops.put rfl rfl (ox_assign .tmp) (.one rfl) (.nil) rfl ?_
  refine Ops.nil ?_
  refine PT.sub (σ' := ⟨[(4, .val (((((decide ((0 : Int) ≤ a0)) && (decide (a0 < (3 : Int)))) && (decide ((0 : Int) ≤ a1))) && (decide (a1 < (8 : Int))))))], []⟩) ⟨rfl, trivial⟩ trivial ?_
  refine PT.ret ?_
  obtain rfl := Option.some.inj hφ
  exact PT.done hw0 rfl (.tmp rfl rfl .nil) rfl

/-- mendkernel/mkref1.WrongRequest -/
theorem c_mkref1_WrongRequest {a0 : Mk.Request} {r : Int} (hφ : mkref1_WrongRequest a0 = some r) : Fn Go.Proofs.Try.prog 22 [.val a0] (.val r) := by
  unfold mkref1_WrongRequest at hφ
  refine Fn.mk' Go.Proofs.Try.func22 rfl (by decide) rfl rfl rfl (fun w0 hw0 => ?_)
  refine PT.seq ?_
  refine PT.region ?_
  refine Ops.putO rfl rfl (ox_box (id := 1) .tmp) (.one rfl) (.nil) rfl (by kernel_rfl) ?_
  refine Ops.put rfl rfl (ox_assign .int) (.nil) (.nil) rfl ?_
  refine Ops.nil ?_
  refine PT.sub (σ' := ⟨[(1, _)], [(1, .var (a0) [])]⟩) ⟨rfl, trivial⟩ ⟨rfl, trivial⟩ ?_
  refine PT.seq ?_
  refine PT.seq ?_
  obtain ⟨v1, hv1, hφ⟩ := B_some hφ
  refine PT.region ?_
  refine Ops.put rfl rfl (ox_fieldAddr_var Request_Client f25_0) (.one rfl) (.nil) rfl ?_
  refine Ops.put rfl rfl (ox_load_fld t3) (.one rfl) (.one rfl) rfl ?_
  refine Ops.put rfl rfl (ox_fieldAddr_var Request_Token f25_1) (.one rfl) (.nil) rfl ?_
  refine Ops.put rfl rfl (ox_load_fld t3) (.one rfl) (.one rfl) rfl ?_
  refine Ops.put rfl rfl (ox_call (c_mkref1_who hv1) (.cons .tmp (.cons .tmp .nil))) ((.app (.one rfl) (.app (.one rfl) .nil))) (.nil) rfl ?_
  refine Ops.put rfl rfl (ox_not .tmp) (.one rfl) (.nil) rfl ?_
  refine Ops.nil ?_
  refine PT.sub (σ' := ⟨[(1, _), (8, .val ((!v1)))], [(1, .var (a0) [])]⟩) ⟨rfl, rfl, trivial⟩ ⟨rfl, trivial⟩ ?_
  refine PT.cond _ rfl (fun hc2 => ?_) (fun hc2 => ?_)
  · replace hφ := if_then hφ hc2
    refine PT.sub (σ' := ⟨[], []⟩) trivial trivial ?_
    refine PT.seq ?_
    refine PT.region ?_
    refine Ops.put rfl rfl (ox_assign .int) (.nil) (.nil) rfl ?_
    refine Ops.nil ?_
    refine PT.sub (σ' := ⟨[(2, .val ((3 : Int)))], []⟩) ⟨rfl, trivial⟩ trivial ?_
    refine PT.ret ?_
    obtain rfl := Option.some.inj hφ
    exact PT.done hw0 rfl (.tmp rfl rfl .nil) rfl
  · replace hφ := if_else hφ hc2
    refine PT.sub (σ' := ⟨[(1, _)], [(1, .var (a0) [])]⟩) ⟨rfl, trivial⟩ ⟨rfl, trivial⟩ ?_
    refine PT.skip ?_
    refine PT.seq ?_
    obtain ⟨v3, hv3, hφ⟩ := B_some hφ
    refine PT.region ?_
    refine Ops.put rfl rfl (ox_fieldAddr_var Request_Call f25_2) (.one rfl) (.nil) rfl ?_
    refine Ops.put rfl rfl (ox_load_fld t23) (.one rfl) (.one rfl) rfl ?_
    refine Ops.put rfl rfl (ox_call (c_mkref1_WrongCall hv3) (.cons .tmp .nil)) ((.app (.one rfl) .nil)) (.nil) rfl ?_
    refine Ops.put rfl rfl (ox_assign .tmp) (.one rfl) (.nil) rfl ?_
    refine Ops.nil ?_
    refine PT.sub (σ' := ⟨[(2, .val (v3))], []⟩) ⟨rfl, trivial⟩ trivial ?_
    refine PT.ret ?_
    obtain rfl := Option.some.inj hφ
    exact PT.done hw0 rfl (.tmp rfl rfl .nil) rfl

/-- mendkernel/wire.WrongAnswer -/
theorem c_wire_WrongAnswer {a0 : Mk.Answer} {r : Int} (hφ : wire_WrongAnswer a0 = some r) : Fn Go.Proofs.Try.prog 23 [.val a0] (.val r) := by
  unfold wire_WrongAnswer at hφ
  refine Fn.mk' Go.Proofs.Try.func23 rfl (by decide) rfl rfl rfl (fun w0 hw0 => ?_)
  refine PT.seq ?_
  refine PT.region ?_
  refine Ops.putO rfl rfl (ox_box (id := 1) .tmp) (.one rfl) (.nil) rfl (by kernel_rfl) ?_
  refine Ops.put rfl rfl (ox_assign .int) (.nil) (.nil) rfl ?_
  refine Ops.nil ?_
  refine PT.sub (σ' := ⟨[(1, _)], [(1, .var (a0) [])]⟩) ⟨rfl, trivial⟩ ⟨rfl, trivial⟩ ?_
  refine PT.seq ?_
  refine PT.seq ?_
  obtain ⟨v1, hv1, hφ⟩ := B_some hφ
  refine PT.region ?_
  refine Ops.put rfl rfl (ox_fieldAddr_var Answer_Client f30_0) (.one rfl) (.nil) rfl ?_
  refine Ops.put rfl rfl (ox_load_fld t3) (.one rfl) (.one rfl) rfl ?_
  refine Ops.put rfl rfl (ox_fieldAddr_var Answer_Token f30_1) (.one rfl) (.nil) rfl ?_
  refine Ops.put rfl rfl (ox_load_fld t3) (.one rfl) (.one rfl) rfl ?_
  refine Ops.put rfl rfl (ox_call (c_wire_who hv1) (.cons .tmp (.cons .tmp .nil))) ((.app (.one rfl) (.app (.one rfl) .nil))) (.nil) rfl ?_
  refine Ops.put rfl rfl (ox_assign .tmp) (.one rfl) (.nil) rfl ?_
  refine Ops.nil ?_
  refine PT.sub (σ' := ⟨[(1, _), (3, .val (v1))], [(1, .var (a0) [])]⟩) ⟨rfl, rfl, trivial⟩ ⟨rfl, trivial⟩ ?_
  refine PT.seq ?_
  refine PT.region ?_
  refine Ops.put rfl rfl (ox_move .tmp) (.one rfl) (.nil) rfl ?_
  refine Ops.put rfl rfl (ox_neq .tmp .int) ((.app (.one rfl) (.nil))) (.nil) rfl ?_
  refine Ops.nil ?_
  refine PT.sub (σ' := ⟨[(1, _), (3, .val (v1)), (11, .val ((!decide (v1 = (0 : Int)))))], [(1, .var (a0) [])]⟩) ⟨rfl, rfl, rfl, trivial⟩ ⟨rfl, trivial⟩ ?_
  refine PT.cond _ rfl (fun hc2 => ?_) (fun hc2 => ?_)
  · replace hφ := if_then hφ hc2
    refine PT.sub (σ' := ⟨[(3, .val (v1))], []⟩) ⟨rfl, trivial⟩ trivial ?_
    refine PT.seq ?_
    refine PT.region ?_
    refine Ops.put rfl rfl (ox_move .tmp) (.one rfl) (.nil) rfl ?_
    refine Ops.put rfl rfl (ox_assign .tmp) (.one rfl) (.nil) rfl ?_
    refine Ops.nil ?_
    refine PT.sub (σ' := ⟨[(2, .val (v1))], []⟩) ⟨rfl, trivial⟩ trivial ?_
    refine PT.ret ?_
    obtain rfl := Option.some.inj hφ
    exact PT.done hw0 rfl (.tmp rfl rfl .nil) rfl
  · replace hφ := if_else hφ hc2
    refine PT.sub (σ' := ⟨[(1, _)], [(1, .var (a0) [])]⟩) ⟨rfl, trivial⟩ ⟨rfl, trivial⟩ ?_
    refine PT.skip ?_
    refine PT.seq ?_
    refine PT.region ?_
    refine Ops.put rfl rfl (ox_fieldAddr_var Answer_Reply f30_2) (.one rfl) (.nil) rfl ?_
    refine Ops.put rfl rfl (ox_load_fld t28) (.one rfl) (.one rfl) rfl ?_
    refine Ops.putO rfl rfl (ox_alloc (id := 4) z28) (.nil) (.nil) rfl (by kernel_rfl) ?_
    refine Ops.mute rfl rfl (ox_store_var t28 .tmp) ((.cons rfl (.one rfl))) (.one rfl) ?_
    refine Ops.nil ?_
    refine PT.sub (σ' := ⟨[(4, _)], [(4, .var (a0.Reply) [])]⟩) ⟨rfl, trivial⟩ ⟨rfl, trivial⟩ ?_
    refine PT.seq ?_
    refine PT.seq ?_
    refine PT.region ?_
    refine Ops.put rfl rfl (ox_fieldAddr_var Reply_Err f28_0) (.one rfl) (.nil) rfl ?_
    refine Ops.put rfl rfl (ox_load_fld t26) (.one rfl) (.one rfl) rfl ?_
    refine Ops.put rfl rfl (ox_lss .tmp .int) ((.app (.one rfl) (.nil))) (.nil) rfl ?_
    refine Ops.put rfl rfl (ox_move .tmp) (.one rfl) (.nil) rfl ?_
    refine Ops.guard rfl rfl rfl rfl (.plain .nil) (fun hG => (ox_fieldAddr_var Reply_Err f28_0)) ⟨rfl, trivial⟩ (.nil) rfl ?_
    refine Ops.guard rfl rfl rfl rfl (.cond (fun h => h) .nil) (fun hG => (ox_load_fld t26)) ⟨rfl, trivial⟩ (.one rfl) rfl ?_
    refine Ops.guard rfl rfl rfl rfl (.cond (fun h => h) .nil) (fun hG => (ox_gtr .tmp .int)) ⟨rfl, trivial⟩ (.nil) rfl ?_
    refine Ops.put rfl rfl ox_pick_or (⟨rfl, rfl, trivial⟩) (.nil) rfl ?_
    refine Ops.put rfl rfl (ox_move .tmp) (.one rfl) (.nil) rfl ?_
    refine Ops.guard rfl rfl rfl rfl (.plain .nil) (fun hG => (ox_fieldAddr_var Reply_N f28_1)) ⟨rfl, trivial⟩ (.nil) rfl ?_
    refine Ops.guard rfl rfl rfl rfl (.cond (fun h => h) .nil) (fun hG => (ox_load_fld t3)) ⟨rfl, trivial⟩ (.one rfl) rfl ?_
    refine Ops.guard rfl rfl rfl rfl (.cond (fun h => h) .nil) (fun hG => (ox_lss .tmp .int)) ⟨rfl, trivial⟩ (.nil) rfl ?_
    refine Ops.put rfl rfl ox_pick_or (⟨rfl, rfl, trivial⟩) (.nil) rfl ?_
    refine Ops.put rfl rfl (ox_move .tmp) (.one rfl) (.nil) rfl ?_
    refine Ops.guard rfl rfl rfl rfl (.plain .nil) (fun hG => (ox_fieldAddr_var Reply_N f28_1)) ⟨rfl, trivial⟩ (.nil) rfl ?_
    refine Ops.guard rfl rfl rfl rfl (.cond (fun h => h) .nil) (fun hG => (ox_load_fld t3)) ⟨rfl, trivial⟩ (.one rfl) rfl ?_
    refine Ops.guard rfl rfl rfl rfl (.cond (fun h => h) .nil) (fun hG => (ox_gtr .tmp .int)) ⟨rfl, trivial⟩ (.nil) rfl ?_
    refine Ops.put rfl rfl ox_pick_or (⟨rfl, rfl, trivial⟩) (.nil) rfl ?_
    refine Ops.put rfl rfl (ox_move .tmp) (.one rfl) (.nil) rfl ?_
    refine Ops.guard rfl rfl rfl rfl (.plain .nil) (fun hG => (ox_fieldAddr_var Reply_Err f28_0)) ⟨rfl, trivial⟩ (.nil) rfl ?_
    refine Ops.guard rfl rfl rfl rfl (.cond (fun h => h) .nil) (fun hG => (ox_load_fld t26)) ⟨rfl, trivial⟩ (.one rfl) rfl ?_
    refine Ops.guard rfl rfl rfl rfl (.cond (fun h => h) .nil) (fun hG => (ox_neq .tmp .int)) ⟨rfl, trivial⟩ (.nil) rfl ?_
    refine Ops.guard rfl rfl rfl rfl (.cond (fun h => h) .nil) (fun hG => (ox_move .tmp)) ⟨rfl, trivial⟩ (.nil) rfl ?_
    refine Ops.guard2 rfl rfl rfl rfl (.plain .nil) (fun hG => (ox_fieldAddr_var Reply_N f28_1)) ⟨rfl, trivial⟩ (.nil) rfl ?_
    refine Ops.guard2 rfl rfl rfl rfl (.cond (fun h => h) .nil) (fun hG => (ox_load_fld t3)) ⟨rfl, trivial⟩ (.one rfl) rfl ?_
    refine Ops.guard2 rfl rfl rfl rfl (.cond (fun h => h) .nil) (fun hG => (ox_neq .tmp .int)) ⟨rfl, trivial⟩ (.nil) rfl ?_
    refine Ops.guard rfl rfl rfl rfl (.cond (fun h => h) (.part (fun h => h) .nil)) (fun hG => ox_pick_and) ⟨rfl, rfl, trivial⟩ (.nil) rfl ?_
    refine Ops.put rfl rfl ox_pick_or (⟨rfl, rfl, trivial⟩) (.nil) rfl ?_
    refine Ops.nil ?_
    refine PT.sub (σ' := ⟨[(42, .val ((((((decide (a0.Reply.Err < (0 : Int))) || (decide ((12 : Int) < a0.Reply.Err))) || (decide (a0.Reply.N < (-1073741824 : Int)))) || (decide ((1073741824 : Int) < a0.Reply.N))) || ((!decide (a0.Reply.Err = (0 : Int))) && (!decide (a0.Reply.N = (0 : Int)))))))], []⟩) ⟨rfl, trivial⟩ trivial ?_
    refine PT.cond _ rfl (fun hc3 => ?_) (fun hc3 => ?_)
    · replace hφ := if_then hφ hc3
      refine PT.sub (σ' := ⟨[], []⟩) trivial trivial ?_
      refine PT.seq ?_
      refine PT.region ?_
      refine Ops.put rfl rfl (ox_assign .int) (.nil) (.nil) rfl ?_
      refine Ops.nil ?_
      refine PT.sub (σ' := ⟨[(2, .val ((3 : Int)))], []⟩) ⟨rfl, trivial⟩ trivial ?_
      refine PT.ret ?_
      obtain rfl := Option.some.inj hφ
      exact PT.done hw0 rfl (.tmp rfl rfl .nil) rfl
    · replace hφ := if_else hφ hc3
      refine PT.sub (σ' := ⟨[], []⟩) trivial trivial ?_
      refine PT.skip ?_
      refine PT.seq ?_
      refine PT.region ?_
      refine Ops.put rfl rfl (ox_assign .int) (.nil) (.nil) rfl ?_
      refine Ops.nil ?_
      refine PT.sub (σ' := ⟨[(2, .val ((0 : Int)))], []⟩) ⟨rfl, trivial⟩ trivial ?_
      refine PT.ret ?_
      obtain rfl := Option.some.inj hφ
      exact PT.done hw0 rfl (.tmp rfl rfl .nil) rfl

/-- mendkernel/mkref1.WrongAnswer -/
theorem c_mkref1_WrongAnswer {a0 : Mk.Answer} {r : Int} (hφ : mkref1_WrongAnswer a0 = some r) : Fn Go.Proofs.Try.prog 24 [.val a0] (.val r) := by
  unfold mkref1_WrongAnswer at hφ
  refine Fn.mk' Go.Proofs.Try.func24 rfl (by decide) rfl rfl rfl (fun w0 hw0 => ?_)
  refine PT.seq ?_
  refine PT.region ?_
  refine Ops.putO rfl rfl (ox_box (id := 1) .tmp) (.one rfl) (.nil) rfl (by kernel_rfl) ?_
  refine Ops.put rfl rfl (ox_assign .int) (.nil) (.nil) rfl ?_
  refine Ops.nil ?_
  refine PT.sub (σ' := ⟨[(1, _)], [(1, .var (a0) [])]⟩) ⟨rfl, trivial⟩ ⟨rfl, trivial⟩ ?_
  refine PT.seq ?_
  refine PT.region ?_
  refine Ops.put rfl rfl (ox_fieldAddr_var Answer_Reply f30_2) (.one rfl) (.nil) rfl ?_
  refine Ops.put rfl rfl (ox_load_fld t28) (.one rfl) (.one rfl) rfl ?_
  refine Ops.putO rfl rfl (ox_alloc (id := 3) z28) (.nil) (.nil) rfl (by kernel_rfl) ?_
  refine Ops.mute rfl rfl (ox_store_var t28 .tmp) ((.cons rfl (.one rfl))) (.one rfl) ?_
  refine Ops.nil ?_
  refine PT.sub (σ' := ⟨[(1, _), (3, _)], [(1, .var (a0) []), (3, .var (a0.Reply) [])]⟩) ⟨rfl, rfl, trivial⟩ ⟨rfl, rfl, trivial⟩ ?_
  refine PT.seq ?_
  refine PT.seq ?_
  obtain ⟨v1, hv1, hφ⟩ := B_some hφ
  refine PT.region ?_
  refine Ops.put rfl rfl (ox_fieldAddr_var Answer_Client f30_0) (.one rfl) (.nil) rfl ?_
  refine Ops.put rfl rfl (ox_load_fld t3) (.one rfl) (.one rfl) rfl ?_
  refine Ops.put rfl rfl (ox_fieldAddr_var Answer_Token f30_1) (.one rfl) (.nil) rfl ?_
  refine Ops.put rfl rfl (ox_load_fld t3) (.one rfl) (.one rfl) rfl ?_
  refine Ops.put rfl rfl (ox_call (c_mkref1_who hv1) (.cons .tmp (.cons .tmp .nil))) ((.app (.one rfl) (.app (.one rfl) .nil))) (.nil) rfl ?_
  refine Ops.put rfl rfl (ox_not .tmp) (.one rfl) (.nil) rfl ?_
  refine Ops.put rfl rfl (ox_move .tmp) (.one rfl) (.nil) rfl ?_
  refine Ops.guard rfl rfl rfl rfl (.plain .nil) (fun hG => (ox_fieldAddr_var Reply_Err f28_0)) ⟨rfl, trivial⟩ (.nil) rfl ?_
  refine Ops.guard rfl rfl rfl rfl (.cond (fun h => h) .nil) (fun hG => (ox_load_fld t26)) ⟨rfl, trivial⟩ (.one rfl) rfl ?_
  refine Ops.guard rfl rfl rfl rfl (.cond (fun h => h) .nil) (fun hG => (ox_lss .tmp .int)) ⟨rfl, trivial⟩ (.nil) rfl ?_
  refine Ops.put rfl rfl ox_pick_or (⟨rfl, rfl, trivial⟩) (.nil) rfl ?_
  refine Ops.put rfl rfl (ox_move .tmp) (.one rfl) (.nil) rfl ?_
  refine Ops.guard rfl rfl rfl rfl (.plain .nil) (fun hG => (ox_fieldAddr_var Reply_Err f28_0)) ⟨rfl, trivial⟩ (.nil) rfl ?_
  refine Ops.guard rfl rfl rfl rfl (.cond (fun h => h) .nil) (fun hG => (ox_load_fld t26)) ⟨rfl, trivial⟩ (.one rfl) rfl ?_
  refine Ops.guard rfl rfl rfl rfl (.cond (fun h => h) .nil) (fun hG => (ox_gtr .tmp .int)) ⟨rfl, trivial⟩ (.nil) rfl ?_
  refine Ops.put rfl rfl ox_pick_or (⟨rfl, rfl, trivial⟩) (.nil) rfl ?_
  refine Ops.put rfl rfl (ox_move .tmp) (.one rfl) (.nil) rfl ?_
  refine Ops.guard rfl rfl rfl rfl (.plain .nil) (fun hG => (ox_fieldAddr_var Reply_N f28_1)) ⟨rfl, trivial⟩ (.nil) rfl ?_
  refine Ops.guard rfl rfl rfl rfl (.cond (fun h => h) .nil) (fun hG => (ox_load_fld t3)) ⟨rfl, trivial⟩ (.one rfl) rfl ?_
  refine Ops.guard rfl rfl rfl rfl (.cond (fun h => h) .nil) (fun hG => (ox_gtr .tmp .int)) ⟨rfl, trivial⟩ (.nil) rfl ?_
  refine Ops.put rfl rfl ox_pick_or (⟨rfl, rfl, trivial⟩) (.nil) rfl ?_
  refine Ops.put rfl rfl (ox_move .tmp) (.one rfl) (.nil) rfl ?_
  refine Ops.guard rfl rfl rfl rfl (.plain .nil) (fun hG => (ox_fieldAddr_var Reply_N f28_1)) ⟨rfl, trivial⟩ (.nil) rfl ?_
  refine Ops.guard rfl rfl rfl rfl (.cond (fun h => h) .nil) (fun hG => (ox_load_fld t3)) ⟨rfl, trivial⟩ (.one rfl) rfl ?_
  refine Ops.guard rfl rfl rfl rfl (.cond (fun h => h) .nil) (fun hG => (ox_lss .tmp .int)) ⟨rfl, trivial⟩ (.nil) rfl ?_
  refine Ops.put rfl rfl ox_pick_or (⟨rfl, rfl, trivial⟩) (.nil) rfl ?_
  refine Ops.put rfl rfl (ox_move .tmp) (.one rfl) (.nil) rfl ?_
  refine Ops.guard rfl rfl rfl rfl (.plain .nil) (fun hG => (ox_fieldAddr_var Reply_Err f28_0)) ⟨rfl, trivial⟩ (.nil) rfl ?_
  refine Ops.guard rfl rfl rfl rfl (.cond (fun h => h) .nil) (fun hG => (ox_load_fld t26)) ⟨rfl, trivial⟩ (.one rfl) rfl ?_
  refine Ops.guard rfl rfl rfl rfl (.cond (fun h => h) .nil) (fun hG => (ox_gtr .tmp .int)) ⟨rfl, trivial⟩ (.nil) rfl ?_
  refine Ops.guard rfl rfl rfl rfl (.cond (fun h => h) .nil) (fun hG => (ox_move .tmp)) ⟨rfl, trivial⟩ (.nil) rfl ?_
  refine Ops.guard2 rfl rfl rfl rfl (.plain .nil) (fun hG => (ox_fieldAddr_var Reply_N f28_1)) ⟨rfl, trivial⟩ (.nil) rfl ?_
  refine Ops.guard2 rfl rfl rfl rfl (.cond (fun h => h) .nil) (fun hG => (ox_load_fld t3)) ⟨rfl, trivial⟩ (.one rfl) rfl ?_
  refine Ops.guard2 rfl rfl rfl rfl (.cond (fun h => h) .nil) (fun hG => (ox_neq .tmp .int)) ⟨rfl, trivial⟩ (.nil) rfl ?_
  refine Ops.guard rfl rfl rfl rfl (.cond (fun h => h) (.part (fun h => h) .nil)) (fun hG => ox_pick_and) ⟨rfl, rfl, trivial⟩ (.nil) rfl ?_
  refine Ops.put rfl rfl ox_pick_or (⟨rfl, rfl, trivial⟩) (.nil) rfl ?_
  refine Ops.nil ?_
  refine PT.sub (σ' := ⟨[(41, .val (((((((!v1) || (decide (a0.Reply.Err < (0 : Int)))) || (decide ((12 : Int) < a0.Reply.Err))) || (decide ((1073741824 : Int) < a0.Reply.N))) || (decide (a0.Reply.N < (-1073741824 : Int)))) || ((decide ((0 : Int) < a0.Reply.Err)) && (!decide (a0.Reply.N = (0 : Int)))))))], []⟩) ⟨rfl, trivial⟩ trivial ?_
  refine PT.cond _ rfl (fun hc2 => ?_) (fun hc2 => ?_)
  · replace hφ := if_then hφ hc2
    refine PT.sub (σ' := ⟨[], []⟩) trivial trivial ?_
    refine PT.seq ?_
    refine PT.region ?_
    refine Ops.put rfl rfl (ox_assign .int) (.nil) (.nil) rfl ?_
    refine Ops.nil ?_
    refine PT.sub (σ' := ⟨[(2, .val ((3 : Int)))], []⟩) ⟨rfl, trivial⟩ trivial ?_
    refine PT.ret ?_
    obtain rfl := Option.some.inj hφ
    exact PT.done hw0 rfl (.tmp rfl rfl .nil) rfl
  · replace hφ := if_else hφ hc2
    refine PT.sub (σ' := ⟨[], []⟩) trivial trivial ?_
    refine PT.skip ?_
    refine PT.seq ?_
    refine PT.region ?_
    refine Ops.put rfl rfl (ox_assign .int) (.nil) (.nil) rfl ?_
    refine Ops.nil ?_
    refine PT.sub (σ' := ⟨[(2, .val ((0 : Int)))], []⟩) ⟨rfl, trivial⟩ trivial ?_
    refine PT.ret ?_
    obtain rfl := Option.some.inj hφ
    exact PT.done hw0 rfl (.tmp rfl rfl .nil) rfl

/-- mendkernel/wire.num -/
theorem x_wire_num {a0 : List UInt8} {a1 : Int} {r : ((List UInt8))} (hφ : wire_num a0 a1 = some r) : FnX Go.Proofs.Try.prog 88 [.sl 600, .val a1] [(600, .arr 5 (a0))] (.val r) [] [] := by
  unfold wire_num at hφ
  refine FnX.mk' Go.Proofs.Try.func88 rfl (by decide) rfl (fun w0 m0 => ?_)
  refine PT.seq ?_
  refine PT.region ?_
  refine Ops.put rfl rfl (ox_assign .nilS) (.nil) (.nil) rfl ?_
  refine Ops.nil ?_
  refine PT.sub (σ' := ⟨[(0, _), (1, .val (a1))], [(600, .arr 5 (a0))]⟩) ⟨rfl, rfl, trivial⟩ ⟨rfl, trivial⟩ ?_
  refine PT.seq ?_
  obtain ⟨hb1, hφ⟩ := G_some hφ
  refine PT.region ?_
  refine Ops.put rfl rfl (ox_move .tmp) (.one rfl) (.nil) rfl ?_
  refine Ops.put rfl rfl (ox_move .tmp) (.one rfl) (.nil) rfl ?_
  refine Ops.put rfl rfl (ox_shrI 24 .tmp rfl rfl) (.one rfl) (.nil) rfl ?_
  refine Ops.put rfl rfl (ox_i64_u8 (by kernel_rfl) .tmp) (.one rfl) (.nil) rfl ?_
  refine Ops.put rfl rfl (ox_move .tmp) (.one rfl) (.nil) rfl ?_
  refine Ops.put rfl rfl (ox_shrI 16 .tmp rfl rfl) (.one rfl) (.nil) rfl ?_
  refine Ops.put rfl rfl (ox_i64_u8 (by kernel_rfl) .tmp) (.one rfl) (.nil) rfl ?_
  refine Ops.put rfl rfl (ox_move .tmp) (.one rfl) (.nil) rfl ?_
  refine Ops.put rfl rfl (ox_shrI 8 .tmp rfl rfl) (.one rfl) (.nil) rfl ?_
  refine Ops.put rfl rfl (ox_i64_u8 (by kernel_rfl) .tmp) (.one rfl) (.nil) rfl ?_
  refine Ops.put rfl rfl (ox_move .tmp) (.one rfl) (.nil) rfl ?_
  refine Ops.put rfl rfl (ox_i64_u8 (by kernel_rfl) .tmp) (.one rfl) (.nil) rfl ?_
  refine Ops.put rfl rfl (ox_buildSlice_val s31 z5 (.cons .tmp (.cons .tmp (.cons .tmp (.cons .tmp Parts.nil)))) rfl (by decide)) ((.app (.one rfl) (.app (.one rfl) (.app (.one rfl) (.app (.one rfl) .nil))))) (.nil) rfl ?_
  refine Ops.putK [0, 5] rfl rfl (ox_append a31 .tmp .tmp hb1.1 hb1.2) ((.app (.one rfl) (.one rfl))) (.one rfl) rfl (by kernel_rfl) ?_
  refine Ops.put rfl rfl (ox_assign .tmp) (.one rfl) (.nil) rfl ?_
  refine Ops.nil ?_
  refine PT.sub (σ' := ⟨[(4, _)], [(600, .arr 5 ((a0 ++ ([(u8 (shrI a1 24)), (u8 (shrI a1 16)), (u8 (shrI a1 8)), (u8 a1)] : List UInt8))))]⟩) ⟨rfl, trivial⟩ ⟨rfl, trivial⟩ ?_
  refine PT.ret ?_
  refine PT.freeze 600 [4] rfl ⟨rfl, trivial⟩ ?_
  obtain rfl := Option.some.inj hφ
  exact PT.doneX rfl (.tmp rfl .nil) rfl trivial trivial

/-- mendkernel/wire.Request -/
theorem c_wire_Request {a0 : Mk.Request} {r : ((List UInt8))} (hφ : wire_Request a0 = some r) : Fn Go.Proofs.Try.prog 25 [.val a0] (.val r) := by
  unfold wire_Request at hφ
  refine Fn.mk' Go.Proofs.Try.func25 rfl (by decide) rfl rfl rfl (fun w0 hw0 => ?_)
  refine PT.seq ?_
  refine PT.region ?_
  refine Ops.putO rfl rfl (ox_box (id := 1) .tmp) (.one rfl) (.nil) rfl (by kernel_rfl) ?_
  refine Ops.put rfl rfl (ox_assign .nilS) (.nil) (.nil) rfl ?_
  refine Ops.nil ?_
  refine PT.sub (σ' := ⟨[(1, _)], [(1, .var (a0) [])]⟩) ⟨rfl, trivial⟩ ⟨rfl, trivial⟩ ?_
  refine PT.seq ?_
  refine PT.region ?_
  refine Ops.put rfl rfl (ox_fieldAddr_var Request_Call f25_2) (.one rfl) (.nil) rfl ?_
  refine Ops.put rfl rfl (ox_load_fld t23) (.one rfl) (.one rfl) rfl ?_
  refine Ops.putO rfl rfl (ox_alloc (id := 3) z23) (.nil) (.nil) rfl (by kernel_rfl) ?_
  refine Ops.mute rfl rfl (ox_store_var t23 .tmp) ((.cons rfl (.one rfl))) (.one rfl) ?_
  refine Ops.nil ?_
  refine PT.sub (σ' := ⟨[(1, _), (3, _)], [(1, .var (a0) []), (3, .var (a0.Call) [])]⟩) ⟨rfl, rfl, trivial⟩ ⟨rfl, rfl, trivial⟩ ?_
  refine PT.seq ?_
  obtain ⟨v1, hv1, hφ⟩ := B_some hφ
  refine PT.region ?_
  refine Ops.put rfl rfl (ox_fieldAddr_var Request_Client f25_0) (.one rfl) (.nil) rfl ?_
  refine Ops.put rfl rfl (ox_load_fld t3) (.one rfl) (.one rfl) rfl ?_
  refine Ops.put rfl rfl (ox_i64_u8 (by kernel_rfl) .tmp) (.one rfl) (.nil) rfl ?_
  refine Ops.put rfl rfl (ox_fieldAddr_var Request_Token f25_1) (.one rfl) (.nil) rfl ?_
  refine Ops.put rfl rfl (ox_load_fld t3) (.one rfl) (.one rfl) rfl ?_
  refine Ops.put rfl rfl (ox_i64_u8 (by kernel_rfl) .tmp) (.one rfl) (.nil) rfl ?_
  refine Ops.put rfl rfl (ox_fieldAddr_var Call_Kind f23_0) (.one rfl) (.nil) rfl ?_
  refine Ops.put rfl rfl (ox_load_fld t3) (.one rfl) (.one rfl) rfl ?_
  refine Ops.put rfl rfl (ox_i64_u8 (by kernel_rfl) .tmp) (.one rfl) (.nil) rfl ?_
  refine Ops.put rfl rfl (ox_fieldAddr_var Call_Name f23_1) (.one rfl) (.nil) rfl ?_
  refine Ops.put rfl rfl (ox_load_fld t3) (.one rfl) (.one rfl) rfl ?_
  refine Ops.put rfl rfl (ox_i64_u8 (by kernel_rfl) .tmp) (.one rfl) (.nil) rfl ?_
  refine Ops.put rfl rfl (ox_fieldAddr_var Call_Other f23_2) (.one rfl) (.nil) rfl ?_
  refine Ops.put rfl rfl (ox_load_fld t3) (.one rfl) (.one rfl) rfl ?_
  refine Ops.put rfl rfl (ox_i64_u8 (by kernel_rfl) .tmp) (.one rfl) (.nil) rfl ?_
  refine Ops.putO rfl rfl (ox_buildSlice_arr (id := 21) s31 z5 (.cons (.u8 (n := 113)) (.cons .tmp (.cons .tmp (.cons .tmp (.cons .tmp (.cons .tmp Parts.nil)))))) rfl (by decide)) ((.app (.nil) (.app (.one rfl) (.app (.one rfl) (.app (.one rfl) (.app (.one rfl) (.app (.one rfl) .nil))))))) (.nil) rfl (by kernel_rfl) ?_
  refine Ops.put rfl rfl (ox_fieldAddr_var Call_N f23_3) (.one rfl) (.nil) rfl ?_
  refine Ops.put rfl rfl (ox_load_fld t3) (.one rfl) (.one rfl) rfl ?_
  refine Ops.putO rfl rfl (ox_callX (x_wire_num hv1) [(600, 21)] [] [] [21] (.cons .tmp (.cons .tmp .nil)) rfl rfl rfl rfl rfl rfl rfl rfl ⟨rfl, trivial⟩ rfl rfl rfl rfl) ((.app (.one rfl) (.app (.one rfl) .nil))) ((.cons rfl .nil)) rfl (by kernel_rfl) ?_
  refine Ops.put rfl rfl (ox_assign .tmp) (.one rfl) (.nil) rfl ?_
  refine Ops.nil ?_
  refine PT.sub (σ' := ⟨[(2, .val (v1))], []⟩) ⟨rfl, trivial⟩ trivial ?_
  refine PT.ret ?_
  obtain rfl := Option.some.inj hφ
  exact PT.done hw0 rfl (.tmp rfl rfl .nil) rfl

/-- mendkernel/mkref1.four -/
theorem c_mkref1_four {a0 : Int} {r : ByteArray} (hφ : mkref1_four a0 = some r) : Fn Go.Proofs.Try.prog 89 [.val a0] (.val r) := by
  unfold mkref1_four at hφ
  refine Fn.mk' Go.Proofs.Try.func89 rfl (by decide) rfl rfl rfl (fun w0 hw0 => ?_)
  refine PT.seq ?_
  refine PT.region ?_
  refine Ops.put rfl rfl (ox_assign (.str (by decide))) (.nil) (.nil) rfl ?_
  refine Ops.nil ?_
  refine PT.sub (σ' := ⟨[(0, .val (a0))], []⟩) ⟨rfl, trivial⟩ trivial ?_
  refine PT.seq ?_
  refine PT.region ?_
  refine Ops.put rfl rfl (ox_move .tmp) (.one rfl) (.nil) rfl ?_
  refine Ops.put rfl rfl (ox_i64_u32 (by kernel_rfl) .tmp) (.one rfl) (.nil) rfl ?_
  refine Ops.put rfl rfl (ox_assign .tmp) (.one rfl) (.nil) rfl ?_
  refine Ops.nil ?_
  refine PT.sub (σ' := ⟨[(3, .val ((u32 a0)))], []⟩) ⟨rfl, trivial⟩ trivial ?_
  refine PT.seq ?_
  refine PT.region ?_
  refine Ops.put rfl rfl (ox_move .tmp) (.one rfl) (.nil) rfl ?_
  refine Ops.put rfl rfl (ox_quoU .tmp .u32 (by decide)) ((.app (.one rfl) (.nil))) (.nil) rfl ?_
  refine Ops.put rfl rfl (ox_u32_u8 (by kernel_rfl) .tmp) (.one rfl) (.nil) rfl ?_
  refine Ops.put rfl rfl (ox_move .tmp) (.one rfl) (.nil) rfl ?_
  refine Ops.put rfl rfl (ox_quoU .tmp .u32 (by decide)) ((.app (.one rfl) (.nil))) (.nil) rfl ?_
  refine Ops.put rfl rfl (ox_remU .tmp .u32 (by decide)) ((.app (.one rfl) (.nil))) (.nil) rfl ?_
  refine Ops.put rfl rfl (ox_u32_u8 (by kernel_rfl) .tmp) (.one rfl) (.nil) rfl ?_
  refine Ops.put rfl rfl (ox_move .tmp) (.one rfl) (.nil) rfl ?_
  refine Ops.put rfl rfl (ox_quoU .tmp .u32 (by decide)) ((.app (.one rfl) (.nil))) (.nil) rfl ?_
  refine Ops.put rfl rfl (ox_remU .tmp .u32 (by decide)) ((.app (.one rfl) (.nil))) (.nil) rfl ?_
  refine Ops.put rfl rfl (ox_u32_u8 (by kernel_rfl) .tmp) (.one rfl) (.nil) rfl ?_
  refine Ops.put rfl rfl (ox_move .tmp) (.one rfl) (.nil) rfl ?_
  refine Ops.put rfl rfl (ox_remU .tmp .u32 (by decide)) ((.app (.one rfl) (.nil))) (.nil) rfl ?_
  refine Ops.put rfl rfl (ox_u32_u8 (by kernel_rfl) .tmp) (.one rfl) (.nil) rfl ?_
  refine Ops.put rfl rfl (ox_buildSlice_val s31 z5 (.cons .tmp (.cons .tmp (.cons .tmp (.cons .tmp Parts.nil)))) rfl (by decide)) ((.app (.one rfl) (.app (.one rfl) (.app (.one rfl) (.app (.one rfl) .nil))))) (.nil) rfl ?_
  refine Ops.put rfl rfl (ox_bts (e := 5) (by kernel_rfl) .tmp) (.one rfl) (.nil) rfl ?_
  refine Ops.put rfl rfl (ox_assign .tmp) (.one rfl) (.nil) rfl ?_
  refine Ops.nil ?_
  refine PT.sub (σ' := ⟨[(2, .val ((bts ([(u8 (u32 (Int.tdiv (u32 a0).n (⟨16777216⟩ : U32).n)).n), (u8 (⟨Int.tmod (u32 (Int.tdiv (u32 a0).n (⟨65536⟩ : U32).n)).n (⟨256⟩ : U32).n⟩ : U32).n), (u8 (⟨Int.tmod (u32 (Int.tdiv (u32 a0).n (⟨256⟩ : U32).n)).n (⟨256⟩ : U32).n⟩ : U32).n), (u8 (⟨Int.tmod (u32 a0).n (⟨256⟩ : U32).n⟩ : U32).n)] : List UInt8))))], []⟩) ⟨rfl, trivial⟩ trivial ?_
  refine PT.ret ?_
  obtain rfl := Option.some.inj hφ
  exact PT.done hw0 rfl (.tmp rfl rfl .nil) rfl

/-- mendkernel/mkref1.RequestBytes -/
theorem c_mkref1_RequestBytes {a0 : Mk.Request} {r : ((List UInt8))} (hφ : mkref1_RequestBytes a0 = some r) : Fn Go.Proofs.Try.prog 26 [.val a0] (.val r) := by
  unfold mkref1_RequestBytes at hφ
  refine Fn.mk' Go.Proofs.Try.func26 rfl (by decide) rfl rfl rfl (fun w0 hw0 => ?_)
  refine PT.seq ?_
  refine PT.region ?_
  refine Ops.putO rfl rfl (ox_box (id := 1) .tmp) (.one rfl) (.nil) rfl (by kernel_rfl) ?_
  refine Ops.put rfl rfl (ox_assign .nilS) (.nil) (.nil) rfl ?_
  refine Ops.nil ?_
  refine PT.sub (σ' := ⟨[(1, _)], [(1, .var (a0) [])]⟩) ⟨rfl, trivial⟩ ⟨rfl, trivial⟩ ?_
  refine PT.seq ?_
  obtain ⟨hb1, hφ⟩ := G_some hφ
  obtain ⟨v2, hv2, hφ⟩ := B_some hφ
  obtain ⟨hb3, hφ⟩ := G_some hφ
  refine PT.draw hMixed (
      Segs.cons (Step.put rfl rfl (ox_fieldAddr_var Request_Client f25_0)) ⟨.one rfl, .nil⟩ (by kernel_rfl) rfl <|
      Segs.cons (Step.put rfl rfl (ox_load_fld t3)) ⟨.one rfl, .one rfl⟩ (by kernel_rfl) rfl <|
      Segs.cons (Step.put rfl rfl (ox_i64_u8 (by kernel_rfl) .tmp)) ⟨.one rfl, .nil⟩ (by kernel_rfl) rfl <|
      Segs.cons (Step.put rfl rfl (ox_fieldAddr_var Request_Token f25_1)) ⟨.one rfl, .nil⟩ (by kernel_rfl) rfl <|
      Segs.cons (Step.put rfl rfl (ox_load_fld t3)) ⟨.one rfl, .one rfl⟩ (by kernel_rfl) rfl <|
      Segs.cons (Step.put rfl rfl (ox_i64_u8 (by kernel_rfl) .tmp)) ⟨.one rfl, .nil⟩ (by kernel_rfl) rfl <|
      Segs.cons (Step.put rfl rfl (ox_fieldAddr_var Request_Call f25_2)) ⟨.one rfl, .nil⟩ (by kernel_rfl) rfl <|
      Segs.cons (Step.put rfl rfl (ox_fieldAddr_ptr Call_Kind f23_0)) ⟨.one rfl, .nil⟩ (by kernel_rfl) rfl <|
      Segs.cons (Step.put rfl rfl (ox_load_fld t3)) ⟨.one rfl, .one rfl⟩ (by kernel_rfl) rfl <|
      Segs.cons (Step.put rfl rfl (ox_i64_u8 (by kernel_rfl) .tmp)) ⟨.one rfl, .nil⟩ (by kernel_rfl) rfl <|
      Segs.cons (Step.put rfl rfl (ox_fieldAddr_var Request_Call f25_2)) ⟨.one rfl, .nil⟩ (by kernel_rfl) rfl <|
      Segs.cons (Step.put rfl rfl (ox_fieldAddr_ptr Call_Name f23_1)) ⟨.one rfl, .nil⟩ (by kernel_rfl) rfl <|
      Segs.cons (Step.put rfl rfl (ox_load_fld t3)) ⟨.one rfl, .one rfl⟩ (by kernel_rfl) rfl <|
      Segs.cons (Step.put rfl rfl (ox_i64_u8 (by kernel_rfl) .tmp)) ⟨.one rfl, .nil⟩ (by kernel_rfl) rfl <|
      Segs.cons (Step.put rfl rfl (ox_fieldAddr_var Request_Call f25_2)) ⟨.one rfl, .nil⟩ (by kernel_rfl) rfl <|
      Segs.cons (Step.put rfl rfl (ox_fieldAddr_ptr Call_Other f23_2)) ⟨.one rfl, .nil⟩ (by kernel_rfl) rfl <|
      Segs.cons (Step.put rfl rfl (ox_load_fld t3)) ⟨.one rfl, .one rfl⟩ (by kernel_rfl) rfl <|
      Segs.cons (Step.put rfl rfl (ox_i64_u8 (by kernel_rfl) .tmp)) ⟨.one rfl, .nil⟩ (by kernel_rfl) rfl <|
      Segs.cons (Step.put rfl rfl (ox_buildSlice_val s31 z5 (.cons .tmp (.cons .tmp (.cons .tmp (.cons .tmp (.cons .tmp Parts.nil))))) rfl (by decide))) ⟨(.app (.one rfl) (.app (.one rfl) (.app (.one rfl) (.app (.one rfl) (.app (.one rfl) .nil))))), .nil⟩ (by kernel_rfl) rfl <|
      Segs.cons (Step.put rfl rfl (ox_bts (e := 5) (by kernel_rfl) .tmp)) ⟨.one rfl, .nil⟩ (by kernel_rfl) rfl <|
      Segs.cons (Step.put rfl rfl (ox_addStr (.str (by decide)) .tmp hb1)) ⟨(.app (.nil) (.one rfl)), .nil⟩ (by kernel_rfl) rfl <|
      Segs.cons (Step.put rfl rfl (ox_fieldAddr_var Request_Call f25_2)) ⟨.one rfl, .nil⟩ (by kernel_rfl) rfl <|
      Segs.cons (Step.put rfl rfl (ox_fieldAddr_ptr Call_N f23_3)) ⟨.one rfl, .nil⟩ (by kernel_rfl) rfl <|
      Segs.cons (Step.put rfl rfl (ox_load_fld t3)) ⟨.one rfl, .one rfl⟩ (by kernel_rfl) rfl <|
      Segs.cons (Step.put rfl rfl (ox_call (c_mkref1_four hv2) (.cons .tmp .nil))) ⟨(.app (.one rfl) .nil), .nil⟩ (by kernel_rfl) rfl <|
      Segs.cons (Step.put rfl rfl (ox_addStr .tmp .tmp hb3)) ⟨(.app (.one rfl) (.one rfl)), .nil⟩ (by kernel_rfl) rfl <|
      Segs.cons (Step.put rfl rfl (ox_stb (e := 5) (by kernel_rfl) .tmp)) ⟨.one rfl, .nil⟩ (by kernel_rfl) rfl <|
      Segs.cons (Step.put rfl rfl (ox_assign .tmp)) ⟨.one rfl, .nil⟩ (by kernel_rfl) rfl <|
      Segs.nil) _ [[], [0], [0, 1], [], [3], [3, 4], [], [6], [6, 7], [6, 7, 8], [], [10], [10, 11], [10, 11, 12], [], [14], [14, 15], [14, 15, 16], [0, 1, 2, 3, 4, 5, 6, 7, 8, 9, 10, 11, 12, 13, 14, 15, 16, 17], [0, 1, 2, 3, 4, 5, 6, 7, 8, 9, 10, 11, 12, 13, 14, 15, 16, 17, 18], [0, 1, 2, 3, 4, 5, 6, 7, 8, 9, 10, 11, 12, 13, 14, 15, 16, 17, 18, 19], [], [21], [21, 22], [21, 22, 23], [0, 1, 2, 3, 4, 5, 6, 7, 8, 9, 10, 11, 12, 13, 14, 15, 16, 17, 18, 19, 20, 21, 22, 23, 24], [0, 1, 2, 3, 4, 5, 6, 7, 8, 9, 10, 11, 12, 13, 14, 15, 16, 17, 18, 19, 20, 21, 22, 23, 24, 25], [0, 1, 2, 3, 4, 5, 6, 7, 8, 9, 10, 11, 12, 13, 14, 15, 16, 17, 18, 19, 20, 21, 22, 23, 24, 25, 26]] rfl (by kernel_rfl) (by kernel_rfl) ?_
  refine PT.sub (σ' := ⟨[(2, .val ((stb (((⟨#[113]⟩ : ByteArray) ++ (bts ([(u8 a0.Client), (u8 a0.Token), (u8 a0.Call.Kind), (u8 a0.Call.Name), (u8 a0.Call.Other)] : List UInt8))) ++ v2))))], []⟩) ⟨rfl, trivial⟩ trivial ?_
  refine PT.ret ?_
  obtain rfl := Option.some.inj hφ
  exact PT.done hw0 rfl (.tmp rfl rfl .nil) rfl

/-- mendkernel/wire.Answer -/
theorem c_wire_Answer {a0 : Mk.Answer} {r : ((List UInt8))} (hφ : wire_Answer a0 = some r) : Fn Go.Proofs.Try.prog 27 [.val a0] (.val r) := by
  unfold wire_Answer at hφ
  refine Fn.mk' Go.Proofs.Try.func27 rfl (by decide) rfl rfl rfl (fun w0 hw0 => ?_)
  refine PT.seq ?_
  refine PT.region ?_
  refine Ops.putO rfl rfl (ox_box (id := 1) .tmp) (.one rfl) (.nil) rfl (by kernel_rfl) ?_
  refine Ops.put rfl rfl (ox_assign .nilS) (.nil) (.nil) rfl ?_
  refine Ops.nil ?_
  refine PT.sub (σ' := ⟨[(1, _)], [(1, .var (a0) [])]⟩) ⟨rfl, trivial⟩ ⟨rfl, trivial⟩ ?_
  refine PT.seq ?_
  obtain ⟨v1, hv1, hφ⟩ := B_some hφ
  refine PT.region ?_
  refine Ops.put rfl rfl (ox_fieldAddr_var Answer_Client f30_0) (.one rfl) (.nil) rfl ?_
  refine Ops.put rfl rfl (ox_load_fld t3) (.one rfl) (.one rfl) rfl ?_
  refine Ops.put rfl rfl (ox_i64_u8 (by kernel_rfl) .tmp) (.one rfl) (.nil) rfl ?_
  refine Ops.put rfl rfl (ox_fieldAddr_var Answer_Token f30_1) (.one rfl) (.nil) rfl ?_
  refine Ops.put rfl rfl (ox_load_fld t3) (.one rfl) (.one rfl) rfl ?_
  refine Ops.put rfl rfl (ox_i64_u8 (by kernel_rfl) .tmp) (.one rfl) (.nil) rfl ?_
  refine Ops.put rfl rfl (ox_fieldAddr_var Answer_Reply f30_2) (.one rfl) (.nil) rfl ?_
  refine Ops.put rfl rfl (ox_fieldAddr_ptr Reply_Err f28_0) (.one rfl) (.nil) rfl ?_
  refine Ops.put rfl rfl (ox_load_fld t26) (.one rfl) (.one rfl) rfl ?_
  refine Ops.put rfl rfl (ox_i64_u8 (by kernel_rfl) .tmp) (.one rfl) (.nil) rfl ?_
  refine Ops.putO rfl rfl (ox_buildSlice_arr (id := 13) s31 z5 (.cons (.u8 (n := 97)) (.cons .tmp (.cons .tmp (.cons .tmp Parts.nil)))) rfl (by decide)) ((.app (.nil) (.app (.one rfl) (.app (.one rfl) (.app (.one rfl) .nil))))) (.nil) rfl (by kernel_rfl) ?_
  refine Ops.put rfl rfl (ox_fieldAddr_var Answer_Reply f30_2) (.one rfl) (.nil) rfl ?_
  refine Ops.put rfl rfl (ox_fieldAddr_ptr Reply_N f28_1) (.one rfl) (.nil) rfl ?_
  refine Ops.put rfl rfl (ox_load_fld t3) (.one rfl) (.one rfl) rfl ?_
  refine Ops.putO rfl rfl (ox_callX (x_wire_num hv1) [(600, 13)] [] [] [13] (.cons .tmp (.cons .tmp .nil)) rfl rfl rfl rfl rfl rfl rfl rfl ⟨rfl, trivial⟩ rfl rfl rfl rfl) ((.app (.one rfl) (.app (.one rfl) .nil))) ((.cons rfl .nil)) rfl (by kernel_rfl) ?_
  refine Ops.put rfl rfl (ox_assign .tmp) (.one rfl) (.nil) rfl ?_
  refine Ops.nil ?_
  refine PT.sub (σ' := ⟨[(2, .val (v1))], []⟩) ⟨rfl, trivial⟩ trivial ?_
  refine PT.ret ?_
  obtain rfl := Option.some.inj hφ
  exact PT.done hw0 rfl (.tmp rfl rfl .nil) rfl

/-- mendkernel/mkref1.AnswerBytes -/
theorem c_mkref1_AnswerBytes {a0 : Mk.Answer} {r : ((List UInt8))} (hφ : mkref1_AnswerBytes a0 = some r) : Fn Go.Proofs.Try.prog 28 [.val a0] (.val r) := by
  unfold mkref1_AnswerBytes at hφ
  refine Fn.mk' Go.Proofs.Try.func28 rfl (by decide) rfl rfl rfl (fun w0 hw0 => ?_)
  refine PT.seq ?_
  refine PT.region ?_
  refine Ops.putO rfl rfl (ox_box (id := 1) .tmp) (.one rfl) (.nil) rfl (by kernel_rfl) ?_
  refine Ops.put rfl rfl (ox_assign .nilS) (.nil) (.nil) rfl ?_
  refine Ops.nil ?_
  refine PT.sub (σ' := ⟨[(1, _)], [(1, .var (a0) [])]⟩) ⟨rfl, trivial⟩ ⟨rfl, trivial⟩ ?_
  refine PT.seq ?_
  obtain ⟨hb1, hφ⟩ := G_some hφ
  obtain ⟨v2, hv2, hφ⟩ := B_some hφ
  obtain ⟨hb3, hφ⟩ := G_some hφ
  refine PT.draw hMixed (
      Segs.cons (Step.put rfl rfl (ox_fieldAddr_var Answer_Client f30_0)) ⟨.one rfl, .nil⟩ (by kernel_rfl) rfl <|
      Segs.cons (Step.put rfl rfl (ox_load_fld t3)) ⟨.one rfl, .one rfl⟩ (by kernel_rfl) rfl <|
      Segs.cons (Step.put rfl rfl (ox_i64_u8 (by kernel_rfl) .tmp)) ⟨.one rfl, .nil⟩ (by kernel_rfl) rfl <|
      Segs.cons (Step.put rfl rfl (ox_fieldAddr_var Answer_Token f30_1)) ⟨.one rfl, .nil⟩ (by kernel_rfl) rfl <|
      Segs.cons (Step.put rfl rfl (ox_load_fld t3)) ⟨.one rfl, .one rfl⟩ (by kernel_rfl) rfl <|
      Segs.cons (Step.put rfl rfl (ox_i64_u8 (by kernel_rfl) .tmp)) ⟨.one rfl, .nil⟩ (by kernel_rfl) rfl <|
      Segs.cons (Step.put rfl rfl (ox_fieldAddr_var Answer_Reply f30_2)) ⟨.one rfl, .nil⟩ (by kernel_rfl) rfl <|
      Segs.cons (Step.put rfl rfl (ox_fieldAddr_ptr Reply_Err f28_0)) ⟨.one rfl, .nil⟩ (by kernel_rfl) rfl <|
      Segs.cons (Step.put rfl rfl (ox_load_fld t26)) ⟨.one rfl, .one rfl⟩ (by kernel_rfl) rfl <|
      Segs.cons (Step.put rfl rfl (ox_i64_u8 (by kernel_rfl) .tmp)) ⟨.one rfl, .nil⟩ (by kernel_rfl) rfl <|
      Segs.cons (Step.put rfl rfl (ox_buildSlice_val s31 z5 (.cons .tmp (.cons .tmp (.cons .tmp Parts.nil))) rfl (by decide))) ⟨(.app (.one rfl) (.app (.one rfl) (.app (.one rfl) .nil))), .nil⟩ (by kernel_rfl) rfl <|
      Segs.cons (Step.put rfl rfl (ox_bts (e := 5) (by kernel_rfl) .tmp)) ⟨.one rfl, .nil⟩ (by kernel_rfl) rfl <|
      Segs.cons (Step.put rfl rfl (ox_addStr (.str (by decide)) .tmp hb1)) ⟨(.app (.nil) (.one rfl)), .nil⟩ (by kernel_rfl) rfl <|
      Segs.cons (Step.put rfl rfl (ox_fieldAddr_var Answer_Reply f30_2)) ⟨.one rfl, .nil⟩ (by kernel_rfl) rfl <|
      Segs.cons (Step.put rfl rfl (ox_fieldAddr_ptr Reply_N f28_1)) ⟨.one rfl, .nil⟩ (by kernel_rfl) rfl <|
      Segs.cons (Step.put rfl rfl (ox_load_fld t3)) ⟨.one rfl, .one rfl⟩ (by kernel_rfl) rfl <|
      Segs.cons (Step.put rfl rfl (ox_call (c_mkref1_four hv2) (.cons .tmp .nil))) ⟨(.app (.one rfl) .nil), .nil⟩ (by kernel_rfl) rfl <|
      Segs.cons (Step.put rfl rfl (ox_addStr .tmp .tmp hb3)) ⟨(.app (.one rfl) (.one rfl)), .nil⟩ (by kernel_rfl) rfl <|
      Segs.cons (Step.put rfl rfl (ox_stb (e := 5) (by kernel_rfl) .tmp)) ⟨.one rfl, .nil⟩ (by kernel_rfl) rfl <|
      Segs.cons (Step.put rfl rfl (ox_assign .tmp)) ⟨.one rfl, .nil⟩ (by kernel_rfl) rfl <|
      Segs.nil) _ [[], [0], [0, 1], [], [3], [3, 4], [], [6], [6, 7], [6, 7, 8], [0, 1, 2, 3, 4, 5, 6, 7, 8, 9], [0, 1, 2, 3, 4, 5, 6, 7, 8, 9, 10], [0, 1, 2, 3, 4, 5, 6, 7, 8, 9, 10, 11], [], [13], [13, 14], [13, 14, 15], [0, 1, 2, 3, 4, 5, 6, 7, 8, 9, 10, 11, 12, 13, 14, 15, 16], [0, 1, 2, 3, 4, 5, 6, 7, 8, 9, 10, 11, 12, 13, 14, 15, 16, 17], [0, 1, 2, 3, 4, 5, 6, 7, 8, 9, 10, 11, 12, 13, 14, 15, 16, 17, 18]] rfl (by kernel_rfl) (by kernel_rfl) ?_
  refine PT.sub (σ' := ⟨[(2, .val ((stb (((⟨#[97]⟩ : ByteArray) ++ (bts ([(u8 a0.Client), (u8 a0.Token), (u8 a0.Reply.Err)] : List UInt8))) ++ v2))))], []⟩) ⟨rfl, trivial⟩ trivial ?_
  refine PT.ret ?_
  obtain rfl := Option.some.inj hφ
  exact PT.done hw0 rfl (.tmp rfl rfl .nil) rfl

/-- mendkernel/wire.get -/
theorem c_wire_get {a0 : List UInt8} {r : Int} (hφ : wire_get a0 = some r) : Fn Go.Proofs.Try.prog 90 [.val a0] (.val r) := by
  unfold wire_get at hφ
  refine Fn.mk' Go.Proofs.Try.func90 rfl (by decide) rfl rfl rfl (fun w0 hw0 => ?_)
  refine PT.seq ?_
  refine PT.region ?_
  refine Ops.put rfl rfl (ox_assign .int) (.nil) (.nil) rfl ?_
  refine Ops.nil ?_
  refine PT.sub (σ' := ⟨[(0, .val (a0))], []⟩) ⟨rfl, trivial⟩ trivial ?_
  refine PT.seq ?_
  obtain ⟨hb1, hφ⟩ := G_some hφ
  obtain ⟨hb2, hφ⟩ := G_some hφ
  obtain ⟨hb3, hφ⟩ := G_some hφ
  obtain ⟨hb4, hφ⟩ := G_some hφ
  refine PT.draw hMixed (
      Segs.cons (Step.put rfl rfl (ox_move .tmp)) ⟨.one rfl, .nil⟩ (by kernel_rfl) rfl <|
      Segs.cons (Step.put rfl rfl (ox_ix s31 .tmp .int hb1.1 hb1.2)) ⟨(.app (.one rfl) (.nil)), .nil⟩ (by kernel_rfl) rfl <|
      Segs.cons (Step.put rfl rfl (ox_load_elem t5)) ⟨.one rfl, .nil⟩ (by kernel_rfl) rfl <|
      Segs.cons (Step.put rfl rfl (ox_u8_u32 (by kernel_rfl) .tmp)) ⟨.one rfl, .nil⟩ (by kernel_rfl) rfl <|
      Segs.cons (Step.put rfl rfl (ox_shlU 24 .tmp rfl rfl)) ⟨.one rfl, .nil⟩ (by kernel_rfl) rfl <|
      Segs.cons (Step.put rfl rfl (ox_move .tmp)) ⟨.one rfl, .nil⟩ (by kernel_rfl) rfl <|
      Segs.cons (Step.put rfl rfl (ox_ix s31 .tmp .int hb2.1 hb2.2)) ⟨(.app (.one rfl) (.nil)), .nil⟩ (by kernel_rfl) rfl <|
      Segs.cons (Step.put rfl rfl (ox_load_elem t5)) ⟨.one rfl, .nil⟩ (by kernel_rfl) rfl <|
      Segs.cons (Step.put rfl rfl (ox_u8_u32 (by kernel_rfl) .tmp)) ⟨.one rfl, .nil⟩ (by kernel_rfl) rfl <|
      Segs.cons (Step.put rfl rfl (ox_shlU 16 .tmp rfl rfl)) ⟨.one rfl, .nil⟩ (by kernel_rfl) rfl <|
      Segs.cons (Step.put rfl rfl (ox_orU .tmp .tmp)) ⟨(.app (.one rfl) (.one rfl)), .nil⟩ (by kernel_rfl) rfl <|
      Segs.cons (Step.put rfl rfl (ox_move .tmp)) ⟨.one rfl, .nil⟩ (by kernel_rfl) rfl <|
      Segs.cons (Step.put rfl rfl (ox_ix s31 .tmp .int hb3.1 hb3.2)) ⟨(.app (.one rfl) (.nil)), .nil⟩ (by kernel_rfl) rfl <|
      Segs.cons (Step.put rfl rfl (ox_load_elem t5)) ⟨.one rfl, .nil⟩ (by kernel_rfl) rfl <|
      Segs.cons (Step.put rfl rfl (ox_u8_u32 (by kernel_rfl) .tmp)) ⟨.one rfl, .nil⟩ (by kernel_rfl) rfl <|
      Segs.cons (Step.put rfl rfl (ox_shlU 8 .tmp rfl rfl)) ⟨.one rfl, .nil⟩ (by kernel_rfl) rfl <|
      Segs.cons (Step.put rfl rfl (ox_orU .tmp .tmp)) ⟨(.app (.one rfl) (.one rfl)), .nil⟩ (by kernel_rfl) rfl <|
      Segs.cons (Step.put rfl rfl (ox_move .tmp)) ⟨.one rfl, .nil⟩ (by kernel_rfl) rfl <|
      Segs.cons (Step.put rfl rfl (ox_ix s31 .tmp .int hb4.1 hb4.2)) ⟨(.app (.one rfl) (.nil)), .nil⟩ (by kernel_rfl) rfl <|
      Segs.cons (Step.put rfl rfl (ox_load_elem t5)) ⟨.one rfl, .nil⟩ (by kernel_rfl) rfl <|
      Segs.cons (Step.put rfl rfl (ox_u8_u32 (by kernel_rfl) .tmp)) ⟨.one rfl, .nil⟩ (by kernel_rfl) rfl <|
      Segs.cons (Step.put rfl rfl (ox_orU .tmp .tmp)) ⟨(.app (.one rfl) (.one rfl)), .nil⟩ (by kernel_rfl) rfl <|
      Segs.cons (Step.put rfl rfl (ox_u32_i32 (by kernel_rfl) .tmp)) ⟨.one rfl, .nil⟩ (by kernel_rfl) rfl <|
      Segs.cons (Step.put rfl rfl (ox_i32_i64 (by kernel_rfl) .tmp)) ⟨.one rfl, .nil⟩ (by kernel_rfl) rfl <|
      Segs.cons (Step.put rfl rfl (ox_assign .tmp)) ⟨.one rfl, .nil⟩ (by kernel_rfl) rfl <|
      Segs.nil) _ [[], [0], [0, 1], [0, 1, 2], [0, 1, 2, 3], [], [5], [5, 6], [5, 6, 7], [5, 6, 7, 8], [0, 1, 2, 3, 4, 5, 6, 7, 8, 9], [], [11], [11, 12], [11, 12, 13], [11, 12, 13, 14], [0, 1, 2, 3, 4, 5, 6, 7, 8, 9, 10, 11, 12, 13, 14, 15], [], [17], [17, 18], [17, 18, 19], [0, 1, 2, 3, 4, 5, 6, 7, 8, 9, 10, 11, 12, 13, 14, 15, 16, 17, 18, 19, 20], [0, 1, 2, 3, 4, 5, 6, 7, 8, 9, 10, 11, 12, 13, 14, 15, 16, 17, 18, 19, 20, 21], [0, 1, 2, 3, 4, 5, 6, 7, 8, 9, 10, 11, 12, 13, 14, 15, 16, 17, 18, 19, 20, 21, 22], [0, 1, 2, 3, 4, 5, 6, 7, 8, 9, 10, 11, 12, 13, 14, 15, 16, 17, 18, 19, 20, 21, 22, 23]] rfl (by kernel_rfl) (by kernel_rfl) ?_
  refine PT.sub (σ' := ⟨[(2, .val ((i32 (orU (orU (orU (shlU (⟨(((ix a0 (0 : Int)).toNat : Nat) : Int)⟩ : U32) 24) (shlU (⟨(((ix a0 (1 : Int)).toNat : Nat) : Int)⟩ : U32) 16)) (shlU (⟨(((ix a0 (2 : Int)).toNat : Nat) : Int)⟩ : U32) 8)) (⟨(((ix a0 (3 : Int)).toNat : Nat) : Int)⟩ : U32)).n).n))], []⟩) ⟨rfl, trivial⟩ trivial ?_
  refine PT.ret ?_
  obtain rfl := Option.some.inj hφ
  exact PT.done hw0 rfl (.tmp rfl rfl .nil) rfl

/-- mendkernel/wire.ReadRequest -/
theorem c_wire_ReadRequest {a0 : List UInt8} {r : (Mk.Request × Int)} (hφ : wire_ReadRequest a0 = some r) : Fn Go.Proofs.Try.prog 29 [.val a0] (.tup [.val r.1, .val r.2]) := by
  unfold wire_ReadRequest at hφ
  refine Fn.mk' Go.Proofs.Try.func29 rfl (by decide) rfl rfl rfl (fun w0 hw0 => ?_)
  refine PT.seq ?_
  refine PT.region ?_
  refine Ops.putO rfl rfl (ox_alloc (id := 2) z25) (.nil) (.nil) rfl (by kernel_rfl) ?_
  refine Ops.put rfl rfl (ox_assign .int) (.nil) (.nil) rfl ?_
  refine Ops.nil ?_
  refine PT.sub (σ' := ⟨[(0, .val (a0)), (2, _)], [(2, .var (({ Client := (0 : Int), Token := (0 : Int), Call := ({ Kind := (0 : Int), Name := (0 : Int), Other := (0 : Int), N := (0 : Int) } : Mk.Call) } : Mk.Request)) [])]⟩) ⟨rfl, rfl, trivial⟩ ⟨rfl, trivial⟩ ?_
  refine PT.seq ?_
  refine PT.seq ?_
  obtain ⟨hb1, hφ⟩ := G_some hφ
  refine PT.region ?_
  refine Ops.put rfl rfl (ox_move .tmp) (.one rfl) (.nil) rfl ?_
  refine Ops.put rfl rfl (ox_len s31 .tmp) (.one rfl) (.nil) rfl ?_
  refine Ops.put rfl rfl (ox_neq .tmp .int) ((.app (.one rfl) (.nil))) (.nil) rfl ?_
  refine Ops.put rfl rfl (ox_move .tmp) (.one rfl) (.nil) rfl ?_
  refine Ops.guard rfl rfl rfl rfl (.plain .nil) (fun hG => (ox_move .tmp)) ⟨rfl, trivial⟩ (.nil) rfl ?_
  refine Ops.guard rfl rfl rfl rfl (.cond (fun h => h) .nil) (fun hG => (ox_ix s31 .tmp .int (hb1 hG).1 (hb1 hG).2)) ⟨rfl, trivial⟩ (.nil) rfl ?_
  refine Ops.guard rfl rfl rfl rfl (.cond (fun h => h) .nil) (fun hG => (ox_load_elem t5)) ⟨rfl, trivial⟩ (.nil) rfl ?_
  refine Ops.guard rfl rfl rfl rfl (.cond (fun h => h) .nil) (fun hG => (ox_neqU8 .tmp (.u8 (n := 113)))) ⟨rfl, trivial⟩ (.nil) rfl ?_
  refine Ops.put rfl rfl ox_pick_or (⟨rfl, rfl, trivial⟩) (.nil) rfl ?_
  refine Ops.nil ?_
  refine PT.sub (σ' := ⟨[(0, .val (a0)), (2, _), (14, .val (((!decide ((a0.length : Int) = (10 : Int))) || (!decide ((ix a0 (0 : Int)) = (UInt8.ofNat 113))))))], [(2, .var (({ Client := (0 : Int), Token := (0 : Int), Call := ({ Kind := (0 : Int), Name := (0 : Int), Other := (0 : Int), N := (0 : Int) } : Mk.Call) } : Mk.Request)) [])]⟩) ⟨rfl, rfl, rfl, trivial⟩ ⟨rfl, trivial⟩ ?_
  refine PT.cond _ rfl (fun hc2 => ?_) (fun hc2 => ?_)
  · replace hφ := if_then hφ hc2
    refine PT.sub (σ' := ⟨[(2, _)], [(2, .var (({ Client := (0 : Int), Token := (0 : Int), Call := ({ Kind := (0 : Int), Name := (0 : Int), Other := (0 : Int), N := (0 : Int) } : Mk.Call) } : Mk.Request)) [])]⟩) ⟨rfl, trivial⟩ ⟨rfl, trivial⟩ ?_
    refine PT.seq ?_
    refine PT.region ?_
    refine Ops.put rfl rfl (ox_buildB z25 u25 rfl Bld.nil) (.nil) (.nil) rfl ?_
    refine Ops.mute rfl rfl (ox_store_var t25 .tmp) ((.cons rfl (.one rfl))) (.one rfl) ?_
    refine Ops.put rfl rfl (ox_assign .int) (.nil) (.nil) rfl ?_
    refine Ops.nil ?_
    refine PT.sub (σ' := ⟨[(2, _), (3, .val ((2 : Int)))], [(2, .var (({ Client := (0 : Int), Token := (0 : Int), Call := ({ Kind := (0 : Int), Name := (0 : Int), Other := (0 : Int), N := (0 : Int) } : Mk.Call) } : Mk.Request)) [])]⟩) ⟨rfl, rfl, trivial⟩ ⟨rfl, trivial⟩ ?_
    refine PT.ret ?_
    obtain rfl := Option.some.inj hφ
    exact PT.done hw0 rfl (.cell t25 rfl rfl (.tmp rfl rfl .nil)) rfl
  · replace hφ := if_else hφ hc2
    refine PT.sub (σ' := ⟨[(0, .val (a0)), (2, _)], [(2, .var (({ Client := (0 : Int), Token := (0 : Int), Call := ({ Kind := (0 : Int), Name := (0 : Int), Other := (0 : Int), N := (0 : Int) } : Mk.Call) } : Mk.Request)) [])]⟩) ⟨rfl, rfl, trivial⟩ ⟨rfl, trivial⟩ ?_
    refine PT.skip ?_
    refine PT.seq ?_
    obtain ⟨hb3, hφ⟩ := G_some hφ
    obtain ⟨hb4, hφ⟩ := G_some hφ
    obtain ⟨hb5, hφ⟩ := G_some hφ
    obtain ⟨hb6, hφ⟩ := G_some hφ
    obtain ⟨hb7, hφ⟩ := G_some hφ
    obtain ⟨hb8, hφ⟩ := G_some hφ
    obtain ⟨v9, hv9, hφ⟩ := B_some hφ
    refine PT.draw hMixed (
        Segs.cons (Step.put rfl rfl (ox_move .tmp)) ⟨.one rfl, .nil⟩ (by kernel_rfl) rfl <|
        Segs.cons (Step.put rfl rfl (ox_ix s31 .tmp .int hb3.1 hb3.2)) ⟨(.app (.one rfl) (.nil)), .nil⟩ (by kernel_rfl) rfl <|
        Segs.cons (Step.put rfl rfl (ox_load_elem t5)) ⟨.one rfl, .nil⟩ (by kernel_rfl) rfl <|
        Segs.cons (Step.put rfl rfl (ox_u8_i64 (by kernel_rfl) .tmp)) ⟨.one rfl, .nil⟩ (by kernel_rfl) rfl <|
        Segs.cons (Step.put rfl rfl (ox_move .tmp)) ⟨.one rfl, .nil⟩ (by kernel_rfl) rfl <|
        Segs.cons (Step.put rfl rfl (ox_ix s31 .tmp .int hb4.1 hb4.2)) ⟨(.app (.one rfl) (.nil)), .nil⟩ (by kernel_rfl) rfl <|
        Segs.cons (Step.put rfl rfl (ox_load_elem t5)) ⟨.one rfl, .nil⟩ (by kernel_rfl) rfl <|
        Segs.cons (Step.put rfl rfl (ox_u8_i64 (by kernel_rfl) .tmp)) ⟨.one rfl, .nil⟩ (by kernel_rfl) rfl <|
        Segs.cons (Step.put rfl rfl (ox_move .tmp)) ⟨.one rfl, .nil⟩ (by kernel_rfl) rfl <|
        Segs.cons (Step.put rfl rfl (ox_ix s31 .tmp .int hb5.1 hb5.2)) ⟨(.app (.one rfl) (.nil)), .nil⟩ (by kernel_rfl) rfl <|
        Segs.cons (Step.put rfl rfl (ox_load_elem t5)) ⟨.one rfl, .nil⟩ (by kernel_rfl) rfl <|
        Segs.cons (Step.put rfl rfl (ox_u8_i64 (by kernel_rfl) .tmp)) ⟨.one rfl, .nil⟩ (by kernel_rfl) rfl <|
        Segs.cons (Step.put rfl rfl (ox_move .tmp)) ⟨.one rfl, .nil⟩ (by kernel_rfl) rfl <|
        Segs.cons (Step.put rfl rfl (ox_ix s31 .tmp .int hb6.1 hb6.2)) ⟨(.app (.one rfl) (.nil)), .nil⟩ (by kernel_rfl) rfl <|
        Segs.cons (Step.put rfl rfl (ox_load_elem t5)) ⟨.one rfl, .nil⟩ (by kernel_rfl) rfl <|
        Segs.cons (Step.put rfl rfl (ox_u8_i64 (by kernel_rfl) .tmp)) ⟨.one rfl, .nil⟩ (by kernel_rfl) rfl <|
        Segs.cons (Step.put rfl rfl (ox_move .tmp)) ⟨.one rfl, .nil⟩ (by kernel_rfl) rfl <|
        Segs.cons (Step.put rfl rfl (ox_ix s31 .tmp .int hb7.1 hb7.2)) ⟨(.app (.one rfl) (.nil)), .nil⟩ (by kernel_rfl) rfl <|
        Segs.cons (Step.put rfl rfl (ox_load_elem t5)) ⟨.one rfl, .nil⟩ (by kernel_rfl) rfl <|
        Segs.cons (Step.put rfl rfl (ox_u8_i64 (by kernel_rfl) .tmp)) ⟨.one rfl, .nil⟩ (by kernel_rfl) rfl <|
        Segs.cons (Step.put rfl rfl (ox_move .tmp)) ⟨.one rfl, .nil⟩ (by kernel_rfl) rfl <|
        Segs.cons (Step.put rfl rfl (ox_slice s31 .tmp (.some .int) .none hb8.1 hb8.2.1 hb8.2.2)) ⟨(.app (.one rfl) ((.app (.nil) (.nil)))), .nil⟩ (by kernel_rfl) rfl <|
        Segs.cons (Step.put rfl rfl (ox_call (c_wire_get hv9) (.cons .tmp .nil))) ⟨(.app (.one rfl) .nil), .nil⟩ (by kernel_rfl) rfl <|
        Segs.cons (Step.put rfl rfl (ox_buildB z23 u23 rfl (.cons Call_Kind f23_0 .tmp (.cons Call_Name f23_1 .tmp (.cons Call_Other f23_2 .tmp (.cons Call_N f23_3 .tmp Bld.nil)))))) ⟨(.app (.one rfl) (.app (.one rfl) (.app (.one rfl) (.app (.one rfl) .nil)))), .nil⟩ (by kernel_rfl) rfl <|
        Segs.cons (Step.put rfl rfl (ox_buildB z25 u25 rfl (.cons Request_Client f25_0 .tmp (.cons Request_Token f25_1 .tmp (.cons Request_Call f25_2 .tmp Bld.nil))))) ⟨(.app (.one rfl) (.app (.one rfl) (.app (.one rfl) .nil))), .nil⟩ (by kernel_rfl) rfl <|
        Segs.cons (Step.put rfl rfl (ox_alloc (id := 4) z25)) ⟨.nil, .nil⟩ (by kernel_rfl) rfl <|
        Segs.cons (Step.mute rfl rfl (ox_store_var t25 .tmp)) ⟨(.cons rfl (.one rfl)), .one rfl⟩ (by kernel_rfl) rfl <|
        Segs.nil) _ [[], [0], [0, 1], [0, 1, 2], [], [4], [4, 5], [4, 5, 6], [], [8], [8, 9], [8, 9, 10], [], [12], [12, 13], [12, 13, 14], [], [16], [16, 17], [16, 17, 18], [], [20], [20, 21], [8, 9, 10, 11, 12, 13, 14, 15, 16, 17, 18, 19, 20, 21, 22], [0, 1, 2, 3, 4, 5, 6, 7, 8, 9, 10, 11, 12, 13, 14, 15, 16, 17, 18, 19, 20, 21, 22, 23], [], [0, 1, 2, 3, 4, 5, 6, 7, 8, 9, 10, 11, 12, 13, 14, 15, 16, 17, 18, 19, 20, 21, 22, 23, 24, 25]] rfl (by kernel_rfl) (by kernel_rfl) ?_
    refine PT.sub (σ' := ⟨[(2, _), (4, _)], [(2, .var (({ Client := (0 : Int), Token := (0 : Int), Call := ({ Kind := (0 : Int), Name := (0 : Int), Other := (0 : Int), N := (0 : Int) } : Mk.Call) } : Mk.Request)) []), (4, .var (({ Client := (((ix a0 (1 : Int)).toNat : Nat) : Int), Token := (((ix a0 (2 : Int)).toNat : Nat) : Int), Call := ({ Kind := (((ix a0 (3 : Int)).toNat : Nat) : Int), Name := (((ix a0 (4 : Int)).toNat : Nat) : Int), Other := (((ix a0 (5 : Int)).toNat : Nat) : Int), N := v9 } : Mk.Call) } : Mk.Request)) [])]⟩) ⟨rfl, rfl, trivial⟩ ⟨rfl, rfl, trivial⟩ ?_
    refine PT.seq ?_
    refine PT.seq ?_
    obtain ⟨v10, hv10, hφ⟩ := B_some hφ
    refine PT.region ?_
    refine Ops.put rfl rfl (ox_load_var t25) (.one rfl) (.one rfl) rfl ?_
    refine Ops.put rfl rfl (ox_call (c_wire_WrongRequest hv10) (.cons .tmp .nil)) ((.app (.one rfl) .nil)) (.nil) rfl ?_
    refine Ops.put rfl rfl (ox_assign .tmp) (.one rfl) (.nil) rfl ?_
    refine Ops.nil ?_
    refine PT.sub (σ' := ⟨[(2, _), (4, _), (5, .val (v10))], [(2, .var (({ Client := (0 : Int), Token := (0 : Int), Call := ({ Kind := (0 : Int), Name := (0 : Int), Other := (0 : Int), N := (0 : Int) } : Mk.Call) } : Mk.Request)) []), (4, .var (({ Client := (((ix a0 (1 : Int)).toNat : Nat) : Int), Token := (((ix a0 (2 : Int)).toNat : Nat) : Int), Call := ({ Kind := (((ix a0 (3 : Int)).toNat : Nat) : Int), Name := (((ix a0 (4 : Int)).toNat : Nat) : Int), Other := (((ix a0 (5 : Int)).toNat : Nat) : Int), N := v9 } : Mk.Call) } : Mk.Request)) [])]⟩) ⟨rfl, rfl, rfl, trivial⟩ ⟨rfl, rfl, trivial⟩ ?_
    refine PT.seq ?_
    refine PT.region ?_
    refine Ops.put rfl rfl (ox_move .tmp) (.one rfl) (.nil) rfl ?_
    refine Ops.put rfl rfl (ox_neq .tmp .int) ((.app (.one rfl) (.nil))) (.nil) rfl ?_
    refine Ops.nil ?_
    refine PT.sub (σ' := ⟨[(2, _), (4, _), (5, .val (v10)), (44, .val ((!decide (v10 = (0 : Int)))))], [(2, .var (({ Client := (0 : Int), Token := (0 : Int), Call := ({ Kind := (0 : Int), Name := (0 : Int), Other := (0 : Int), N := (0 : Int) } : Mk.Call) } : Mk.Request)) []), (4, .var (({ Client := (((ix a0 (1 : Int)).toNat : Nat) : Int), Token := (((ix a0 (2 : Int)).toNat : Nat) : Int), Call := ({ Kind := (((ix a0 (3 : Int)).toNat : Nat) : Int), Name := (((ix a0 (4 : Int)).toNat : Nat) : Int), Other := (((ix a0 (5 : Int)).toNat : Nat) : Int), N := v9 } : Mk.Call) } : Mk.Request)) [])]⟩) ⟨rfl, rfl, rfl, rfl, trivial⟩ ⟨rfl, rfl, trivial⟩ ?_
    refine PT.cond _ rfl (fun hc11 => ?_) (fun hc11 => ?_)
    · replace hφ := if_then hφ hc11
      refine PT.sub (σ' := ⟨[(2, _), (5, .val (v10))], [(2, .var (({ Client := (0 : Int), Token := (0 : Int), Call := ({ Kind := (0 : Int), Name := (0 : Int), Other := (0 : Int), N := (0 : Int) } : Mk.Call) } : Mk.Request)) [])]⟩) ⟨rfl, rfl, trivial⟩ ⟨rfl, trivial⟩ ?_
      refine PT.seq ?_
      refine PT.region ?_
      refine Ops.put rfl rfl (ox_buildB z25 u25 rfl Bld.nil) (.nil) (.nil) rfl ?_
      refine Ops.put rfl rfl (ox_move .tmp) (.one rfl) (.nil) rfl ?_
      refine Ops.mute rfl rfl (ox_store_var t25 .tmp) ((.cons rfl (.one rfl))) (.one rfl) ?_
      refine Ops.put rfl rfl (ox_assign .tmp) (.one rfl) (.nil) rfl ?_
      refine Ops.nil ?_
      refine PT.sub (σ' := ⟨[(2, _), (3, .val (v10))], [(2, .var (({ Client := (0 : Int), Token := (0 : Int), Call := ({ Kind := (0 : Int), Name := (0 : Int), Other := (0 : Int), N := (0 : Int) } : Mk.Call) } : Mk.Request)) [])]⟩) ⟨rfl, rfl, trivial⟩ ⟨rfl, trivial⟩ ?_
      refine PT.ret ?_
      obtain rfl := Option.some.inj hφ
      exact PT.done hw0 rfl (.cell t25 rfl rfl (.tmp rfl rfl .nil)) rfl
    · replace hφ := if_else hφ hc11
      refine PT.sub (σ' := ⟨[(2, _), (4, _)], [(2, .var (({ Client := (0 : Int), Token := (0 : Int), Call := ({ Kind := (0 : Int), Name := (0 : Int), Other := (0 : Int), N := (0 : Int) } : Mk.Call) } : Mk.Request)) []), (4, .var (({ Client := (((ix a0 (1 : Int)).toNat : Nat) : Int), Token := (((ix a0 (2 : Int)).toNat : Nat) : Int), Call := ({ Kind := (((ix a0 (3 : Int)).toNat : Nat) : Int), Name := (((ix a0 (4 : Int)).toNat : Nat) : Int), Other := (((ix a0 (5 : Int)).toNat : Nat) : Int), N := v9 } : Mk.Call) } : Mk.Request)) [])]⟩) ⟨rfl, rfl, trivial⟩ ⟨rfl, rfl, trivial⟩ ?_
      refine PT.skip ?_
      refine PT.seq ?_
      refine PT.region ?_
      refine Ops.put rfl rfl (ox_load_var t25) (.one rfl) (.one rfl) rfl ?_
      refine Ops.mute rfl rfl (ox_store_var t25 .tmp) ((.cons rfl (.one rfl))) (.one rfl) ?_
      refine Ops.put rfl rfl (ox_assign .int) (.nil) (.nil) rfl ?_
      refine Ops.nil ?_
      refine PT.sub (σ' := ⟨[(2, _), (3, .val ((0 : Int)))], [(2, .var (({ Client := (((ix a0 (1 : Int)).toNat : Nat) : Int), Token := (((ix a0 (2 : Int)).toNat : Nat) : Int), Call := ({ Kind := (((ix a0 (3 : Int)).toNat : Nat) : Int), Name := (((ix a0 (4 : Int)).toNat : Nat) : Int), Other := (((ix a0 (5 : Int)).toNat : Nat) : Int), N := v9 } : Mk.Call) } : Mk.Request)) [])]⟩) ⟨rfl, rfl, trivial⟩ ⟨rfl, trivial⟩ ?_
      refine PT.ret ?_
      obtain rfl := Option.some.inj hφ
      exact PT.done hw0 rfl (.cell t25 rfl rfl (.tmp rfl rfl .nil)) rfl

/-- mendkernel/mkref1.num -/
theorem c_mkref1_num {a0 : List UInt8} {r : Int} (hφ : mkref1_num a0 = some r) : Fn Go.Proofs.Try.prog 91 [.val a0] (.val r) := by
  unfold mkref1_num at hφ
  refine Fn.mk' Go.Proofs.Try.func91 rfl (by decide) rfl rfl rfl (fun w0 hw0 => ?_)
  refine PT.seq ?_
  refine PT.region ?_
  refine Ops.put rfl rfl (ox_assign .int) (.nil) (.nil) rfl ?_
  refine Ops.nil ?_
  refine PT.sub (σ' := ⟨[(0, .val (a0))], []⟩) ⟨rfl, trivial⟩ trivial ?_
  refine PT.seq ?_
  refine PT.region ?_
  refine Ops.put rfl rfl (ox_assign .u32) (.nil) (.nil) rfl ?_
  refine Ops.nil ?_
  refine PT.sub (σ' := ⟨[(0, .val (a0)), (3, .val ((⟨0⟩ : U32)))], []⟩) ⟨rfl, rfl, trivial⟩ trivial ?_
  obtain ⟨k1, hk1, hφ⟩ := J_some hφ
  refine PT.cut (ι := U32) (fun p => ⟨[(3, .val (p))], []⟩) (fun p => k1 (p) = some r) ?_ ?_
  · skip
    refine PT.seq ?_
    refine PT.region ?_
    refine Ops.put rfl rfl (ox_move .int) (.nil) (.nil) rfl ?_
    refine Ops.nil ?_
    refine PT.sub (σ' := ⟨[(0, .val (a0)), (3, .val ((⟨0⟩ : U32))), (5, .val ((0 : Int)))], []⟩) ⟨rfl, rfl, rfl, trivial⟩ trivial ?_
    refine PT.block ?_
    refine PT.loop (ι := Nat × (List UInt8) × U32 × Int) (fun p => ⟨[(0, .val (p.2.1)), (3, .val (p.2.2.1)), (5, .val (p.2.2.2))], []⟩) (fun p => mkref1_num_l1 k1 p.1 (p.2.1) (p.2.2.1) (p.2.2.2) = some r) (fun p => p.1) (((4 : Int) - (0 : Int)).toNat + 1, a0, (⟨0⟩ : U32), (0 : Int)) hφ ⟨rfl, rfl, rfl, trivial⟩ trivial ?_
    rintro ⟨m2, x0_m2, x3_m2, x5_m2⟩ (hφ : mkref1_num_l1 k1 m2 x0_m2 x3_m2 x5_m2 = some r)
    obtain _ | m2 := m2
    · exact (none_no hφ).elim
    rw [mkref1_num_l1.eq_2] at hφ
    refine PT.sub (σ' := ⟨[(0, .val (x0_m2)), (3, .val (x3_m2)), (5, .val (x5_m2))], []⟩) ⟨rfl, rfl, rfl, trivial⟩ trivial ?_
    refine PT.seq ?_
    refine PT.region ?_
    refine Ops.put rfl rfl (ox_lss .tmp .int) ((.app (.one rfl) (.nil))) (.nil) rfl ?_
    refine Ops.nil ?_
    refine PT.sub (σ' := ⟨[(0, .val (x0_m2)), (3, .val (x3_m2)), (5, .val (x5_m2)), (6, .val ((decide (x5_m2 < (4 : Int)))))], []⟩) ⟨rfl, rfl, rfl, rfl, trivial⟩ trivial ?_
    refine PT.seq ?_
    refine PT.cond _ rfl (fun hc3 => ?_) (fun hc3 => ?_)
    · replace hφ := if_then hφ hc3
      refine PT.sub (σ' := ⟨[(0, .val (x0_m2)), (3, .val (x3_m2)), (5, .val (x5_m2))], []⟩) ⟨rfl, rfl, rfl, trivial⟩ trivial ?_
      refine PT.skip ?_
      refine PT.seq ?_
      refine PT.block ?_
      refine PT.seq ?_
      refine PT.region ?_
      refine Ops.put rfl rfl (ox_move .tmp) (.one rfl) (.nil) rfl ?_
      refine Ops.put rfl rfl (ox_assign .tmp) (.one rfl) (.nil) rfl ?_
      refine Ops.nil ?_
      refine PT.sub (σ' := ⟨[(0, .val (x0_m2)), (3, .val (x3_m2)), (4, .val (x5_m2)), (5, .val (x5_m2))], []⟩) ⟨rfl, rfl, rfl, rfl, trivial⟩ trivial ?_
      obtain ⟨hb4, hφ⟩ := G_some hφ
      refine PT.region ?_
      refine Ops.put rfl rfl (ox_move .tmp) (.one rfl) (.nil) rfl ?_
      refine Ops.put rfl rfl (ox_mulU .u32 .tmp) ((.app (.nil) (.one rfl))) (.nil) rfl ?_
      refine Ops.put rfl rfl (ox_move .tmp) (.one rfl) (.nil) rfl ?_
      refine Ops.put rfl rfl (ox_move .tmp) (.one rfl) (.nil) rfl ?_
      refine Ops.put rfl rfl (ox_ix s31 .tmp .tmp hb4.1 hb4.2) ((.app (.one rfl) (.one rfl))) (.nil) rfl ?_
      refine Ops.put rfl rfl (ox_load_elem t5) (.one rfl) (.nil) rfl ?_
      refine Ops.put rfl rfl (ox_u8_u32 (by kernel_rfl) .tmp) (.one rfl) (.nil) rfl ?_
      refine Ops.put rfl rfl (ox_addU .tmp .tmp) ((.app (.one rfl) (.one rfl))) (.nil) rfl ?_
      refine Ops.put rfl rfl (ox_assign .tmp) (.one rfl) (.nil) rfl ?_
      refine Ops.nil ?_
      refine PT.sub (σ' := ⟨[(0, .val (x0_m2)), (3, .val ((u32 ((u32 ((⟨256⟩ : U32).n * x3_m2.n)).n + (⟨(((ix x0_m2 x5_m2).toNat : Nat) : Int)⟩ : U32).n)))), (5, .val (x5_m2))], []⟩) ⟨rfl, rfl, rfl, trivial⟩ trivial ?_
      obtain ⟨hb5, hφ⟩ := G_some hφ
      refine PT.region ?_
      refine Ops.put rfl rfl (ox_add .tmp .int hb5) ((.app (.one rfl) (.nil))) (.nil) rfl ?_
      refine Ops.put rfl rfl (ox_move .tmp) (.one rfl) (.nil) rfl ?_
      refine Ops.nil ?_
      refine PT.sub (σ' := ⟨[(0, .val (x0_m2)), (3, .val ((u32 ((u32 ((⟨256⟩ : U32).n * x3_m2.n)).n + (⟨(((ix x0_m2 x5_m2).toNat : Nat) : Int)⟩ : U32).n)))), (5, .val ((x5_m2 + (1 : Int))))], []⟩) ⟨rfl, rfl, rfl, trivial⟩ trivial ?_
      exact PT.next (m2, x0_m2, (u32 ((u32 ((⟨256⟩ : U32).n * x3_m2.n)).n + (⟨(((ix x0_m2 x5_m2).toNat : Nat) : Int)⟩ : U32).n)), (x5_m2 + (1 : Int))) hφ (Nat.lt_succ_self _) ⟨rfl, rfl, rfl, trivial⟩ trivial
    · replace hφ := if_else hφ hc3
      refine PT.sub (σ' := ⟨[(3, .val (x3_m2))], []⟩) ⟨rfl, trivial⟩ trivial ?_
      refine PT.exit ?_
      exact PT.meet (x3_m2) hφ ⟨rfl, trivial⟩ trivial
  · rintro x3_k1 hφ
    subst hk1
    refine PT.sub (σ' := ⟨[(3, .val (x3_k1))], []⟩) ⟨rfl, trivial⟩ trivial ?_
    refine PT.seq ?_
    refine PT.region ?_
    refine Ops.put rfl rfl (ox_move .tmp) (.one rfl) (.nil) rfl ?_
    refine Ops.put rfl rfl (ox_u32_i32 (by kernel_rfl) .tmp) (.one rfl) (.nil) rfl ?_
    refine Ops.put rfl rfl (ox_i32_i64 (by kernel_rfl) .tmp) (.one rfl) (.nil) rfl ?_
    refine Ops.put rfl rfl (ox_assign .tmp) (.one rfl) (.nil) rfl ?_
    refine Ops.nil ?_
    refine PT.sub (σ' := ⟨[(2, .val ((i32 x3_k1.n).n))], []⟩) ⟨rfl, trivial⟩ trivial ?_
    refine PT.ret ?_
    obtain rfl := Option.some.inj hφ
    exact PT.done hw0 rfl (.tmp rfl rfl .nil) rfl

/-- mendkernel/mkref1.ReadRequest -/
theorem c_mkref1_ReadRequest {a0 : List UInt8} {r : (Mk.Request × Int)} (hφ : mkref1_ReadRequest a0 = some r) : Fn Go.Proofs.Try.prog 30 [.val a0] (.tup [.val r.1, .val r.2]) := by
  unfold mkref1_ReadRequest at hφ
  refine Fn.mk' Go.Proofs.Try.func30 rfl (by decide) rfl rfl rfl (fun w0 hw0 => ?_)
  refine PT.seq ?_
  refine PT.region ?_
  refine Ops.putO rfl rfl (ox_alloc (id := 2) z25) (.nil) (.nil) rfl (by kernel_rfl) ?_
  refine Ops.put rfl rfl (ox_assign .int) (.nil) (.nil) rfl ?_
  refine Ops.nil ?_
  refine PT.sub (σ' := ⟨[(0, .val (a0)), (2, _)], [(2, .var (({ Client := (0 : Int), Token := (0 : Int), Call := ({ Kind := (0 : Int), Name := (0 : Int), Other := (0 : Int), N := (0 : Int) } : Mk.Call) } : Mk.Request)) [])]⟩) ⟨rfl, rfl, trivial⟩ ⟨rfl, trivial⟩ ?_
  refine PT.seq ?_
  refine PT.seq ?_
  obtain ⟨hb1, hφ⟩ := G_some hφ
  refine PT.region ?_
  refine Ops.put rfl rfl (ox_move .tmp) (.one rfl) (.nil) rfl ?_
  refine Ops.put rfl rfl (ox_len s31 .tmp) (.one rfl) (.nil) rfl ?_
  refine Ops.put rfl rfl (ox_neq .tmp .int) ((.app (.one rfl) (.nil))) (.nil) rfl ?_
  refine Ops.put rfl rfl (ox_move .tmp) (.one rfl) (.nil) rfl ?_
  refine Ops.guard rfl rfl rfl rfl (.plain .nil) (fun hG => (ox_move .tmp)) ⟨rfl, trivial⟩ (.nil) rfl ?_
  refine Ops.guard rfl rfl rfl rfl (.cond (fun h => h) .nil) (fun hG => (ox_ix s31 .tmp .int (hb1 hG).1 (hb1 hG).2)) ⟨rfl, trivial⟩ (.nil) rfl ?_
  refine Ops.guard rfl rfl rfl rfl (.cond (fun h => h) .nil) (fun hG => (ox_load_elem t5)) ⟨rfl, trivial⟩ (.nil) rfl ?_
  refine Ops.guard rfl rfl rfl rfl (.cond (fun h => h) .nil) (fun hG => (ox_neqU8 .tmp (.u8 (n := 113)))) ⟨rfl, trivial⟩ (.nil) rfl ?_
  refine Ops.put rfl rfl ox_pick_or (⟨rfl, rfl, trivial⟩) (.nil) rfl ?_
  refine Ops.nil ?_
  refine PT.sub (σ' := ⟨[(0, .val (a0)), (2, _), (14, .val (((!decide ((a0.length : Int) = (10 : Int))) || (!decide ((ix a0 (0 : Int)) = (UInt8.ofNat 113))))))], [(2, .var (({ Client := (0 : Int), Token := (0 : Int), Call := ({ Kind := (0 : Int), Name := (0 : Int), Other := (0 : Int), N := (0 : Int) } : Mk.Call) } : Mk.Request)) [])]⟩) ⟨rfl, rfl, rfl, trivial⟩ ⟨rfl, trivial⟩ ?_
  refine PT.cond _ rfl (fun hc2 => ?_) (fun hc2 => ?_)
  · replace hφ := if_then hφ hc2
    refine PT.sub (σ' := ⟨[(2, _)], [(2, .var (({ Client := (0 : Int), Token := (0 : Int), Call := ({ Kind := (0 : Int), Name := (0 : Int), Other := (0 : Int), N := (0 : Int) } : Mk.Call) } : Mk.Request)) [])]⟩) ⟨rfl, trivial⟩ ⟨rfl, trivial⟩ ?_
    refine PT.seq ?_
    refine PT.region ?_
    refine Ops.put rfl rfl (ox_buildB z25 u25 rfl Bld.nil) (.nil) (.nil) rfl ?_
    refine Ops.mute rfl rfl (ox_store_var t25 .tmp) ((.cons rfl (.one rfl))) (.one rfl) ?_
    refine Ops.put rfl rfl (ox_assign .int) (.nil) (.nil) rfl ?_
    refine Ops.nil ?_
    refine PT.sub (σ' := ⟨[(2, _), (3, .val ((2 : Int)))], [(2, .var (({ Client := (0 : Int), Token := (0 : Int), Call := ({ Kind := (0 : Int), Name := (0 : Int), Other := (0 : Int), N := (0 : Int) } : Mk.Call) } : Mk.Request)) [])]⟩) ⟨rfl, rfl, trivial⟩ ⟨rfl, trivial⟩ ?_
    refine PT.ret ?_
    obtain rfl := Option.some.inj hφ
    exact PT.done hw0 rfl (.cell t25 rfl rfl (.tmp rfl rfl .nil)) rfl
  · replace hφ := if_else hφ hc2
    refine PT.sub (σ' := ⟨[(0, .val (a0)), (2, _)], [(2, .var (({ Client := (0 : Int), Token := (0 : Int), Call := ({ Kind := (0 : Int), Name := (0 : Int), Other := (0 : Int), N := (0 : Int) } : Mk.Call) } : Mk.Request)) [])]⟩) ⟨rfl, rfl, trivial⟩ ⟨rfl, trivial⟩ ?_
    refine PT.skip ?_
    refine PT.seq ?_
    obtain ⟨hb3, hφ⟩ := G_some hφ
    obtain ⟨hb4, hφ⟩ := G_some hφ
    obtain ⟨hb5, hφ⟩ := G_some hφ
    obtain ⟨hb6, hφ⟩ := G_some hφ
    obtain ⟨hb7, hφ⟩ := G_some hφ
    obtain ⟨hb8, hφ⟩ := G_some hφ
    obtain ⟨v9, hv9, hφ⟩ := B_some hφ
    refine PT.draw hMixed (
        Segs.cons (Step.put rfl rfl (ox_move .tmp)) ⟨.one rfl, .nil⟩ (by kernel_rfl) rfl <|
        Segs.cons (Step.put rfl rfl (ox_ix s31 .tmp .int hb3.1 hb3.2)) ⟨(.app (.one rfl) (.nil)), .nil⟩ (by kernel_rfl) rfl <|
        Segs.cons (Step.put rfl rfl (ox_load_elem t5)) ⟨.one rfl, .nil⟩ (by kernel_rfl) rfl <|
        Segs.cons (Step.put rfl rfl (ox_u8_i64 (by kernel_rfl) .tmp)) ⟨.one rfl, .nil⟩ (by kernel_rfl) rfl <|
        Segs.cons (Step.put rfl rfl (ox_move .tmp)) ⟨.one rfl, .nil⟩ (by kernel_rfl) rfl <|
        Segs.cons (Step.put rfl rfl (ox_ix s31 .tmp .int hb4.1 hb4.2)) ⟨(.app (.one rfl) (.nil)), .nil⟩ (by kernel_rfl) rfl <|
        Segs.cons (Step.put rfl rfl (ox_load_elem t5)) ⟨.one rfl, .nil⟩ (by kernel_rfl) rfl <|
        Segs.cons (Step.put rfl rfl (ox_u8_i64 (by kernel_rfl) .tmp)) ⟨.one rfl, .nil⟩ (by kernel_rfl) rfl <|
        Segs.cons (Step.put rfl rfl (ox_move .tmp)) ⟨.one rfl, .nil⟩ (by kernel_rfl) rfl <|
        Segs.cons (Step.put rfl rfl (ox_ix s31 .tmp .int hb5.1 hb5.2)) ⟨(.app (.one rfl) (.nil)), .nil⟩ (by kernel_rfl) rfl <|
        Segs.cons (Step.put rfl rfl (ox_load_elem t5)) ⟨.one rfl, .nil⟩ (by kernel_rfl) rfl <|
        Segs.cons (Step.put rfl rfl (ox_u8_i64 (by kernel_rfl) .tmp)) ⟨.one rfl, .nil⟩ (by kernel_rfl) rfl <|
        Segs.cons (Step.put rfl rfl (ox_move .tmp)) ⟨.one rfl, .nil⟩ (by kernel_rfl) rfl <|
        Segs.cons (Step.put rfl rfl (ox_ix s31 .tmp .int hb6.1 hb6.2)) ⟨(.app (.one rfl) (.nil)), .nil⟩ (by kernel_rfl) rfl <|
        Segs.cons (Step.put rfl rfl (ox_load_elem t5)) ⟨.one rfl, .nil⟩ (by kernel_rfl) rfl <|
        Segs.cons (Step.put rfl rfl (ox_u8_i64 (by kernel_rfl) .tmp)) ⟨.one rfl, .nil⟩ (by kernel_rfl) rfl <|
        Segs.cons (Step.put rfl rfl (ox_move .tmp)) ⟨.one rfl, .nil⟩ (by kernel_rfl) rfl <|
        Segs.cons (Step.put rfl rfl (ox_ix s31 .tmp .int hb7.1 hb7.2)) ⟨(.app (.one rfl) (.nil)), .nil⟩ (by kernel_rfl) rfl <|
        Segs.cons (Step.put rfl rfl (ox_load_elem t5)) ⟨.one rfl, .nil⟩ (by kernel_rfl) rfl <|
        Segs.cons (Step.put rfl rfl (ox_u8_i64 (by kernel_rfl) .tmp)) ⟨.one rfl, .nil⟩ (by kernel_rfl) rfl <|
        Segs.cons (Step.put rfl rfl (ox_move .tmp)) ⟨.one rfl, .nil⟩ (by kernel_rfl) rfl <|
        Segs.cons (Step.put rfl rfl (ox_slice s31 .tmp (.some .int) .none hb8.1 hb8.2.1 hb8.2.2)) ⟨(.app (.one rfl) ((.app (.nil) (.nil)))), .nil⟩ (by kernel_rfl) rfl <|
        Segs.cons (Step.put rfl rfl (ox_call (c_mkref1_num hv9) (.cons .tmp .nil))) ⟨(.app (.one rfl) .nil), .nil⟩ (by kernel_rfl) rfl <|
        Segs.cons (Step.put rfl rfl (ox_buildB z23 u23 rfl (.cons Call_Kind f23_0 .tmp (.cons Call_Name f23_1 .tmp (.cons Call_Other f23_2 .tmp (.cons Call_N f23_3 .tmp Bld.nil)))))) ⟨(.app (.one rfl) (.app (.one rfl) (.app (.one rfl) (.app (.one rfl) .nil)))), .nil⟩ (by kernel_rfl) rfl <|
        Segs.cons (Step.put rfl rfl (ox_buildB z25 u25 rfl (.cons Request_Client f25_0 .tmp (.cons Request_Token f25_1 .tmp (.cons Request_Call f25_2 .tmp Bld.nil))))) ⟨(.app (.one rfl) (.app (.one rfl) (.app (.one rfl) .nil))), .nil⟩ (by kernel_rfl) rfl <|
        Segs.cons (Step.put rfl rfl (ox_alloc (id := 4) z25)) ⟨.nil, .nil⟩ (by kernel_rfl) rfl <|
        Segs.cons (Step.mute rfl rfl (ox_store_var t25 .tmp)) ⟨(.cons rfl (.one rfl)), .one rfl⟩ (by kernel_rfl) rfl <|
        Segs.nil) _ [[], [0], [0, 1], [0, 1, 2], [], [4], [4, 5], [4, 5, 6], [], [8], [8, 9], [8, 9, 10], [], [12], [12, 13], [12, 13, 14], [], [16], [16, 17], [16, 17, 18], [], [20], [20, 21], [8, 9, 10, 11, 12, 13, 14, 15, 16, 17, 18, 19, 20, 21, 22], [0, 1, 2, 3, 4, 5, 6, 7, 8, 9, 10, 11, 12, 13, 14, 15, 16, 17, 18, 19, 20, 21, 22, 23], [], [0, 1, 2, 3, 4, 5, 6, 7, 8, 9, 10, 11, 12, 13, 14, 15, 16, 17, 18, 19, 20, 21, 22, 23, 24, 25]] rfl (by kernel_rfl) (by kernel_rfl) ?_
    refine PT.sub (σ' := ⟨[(2, _), (4, _)], [(2, .var (({ Client := (0 : Int), Token := (0 : Int), Call := ({ Kind := (0 : Int), Name := (0 : Int), Other := (0 : Int), N := (0 : Int) } : Mk.Call) } : Mk.Request)) []), (4, .var (({ Client := (((ix a0 (1 : Int)).toNat : Nat) : Int), Token := (((ix a0 (2 : Int)).toNat : Nat) : Int), Call := ({ Kind := (((ix a0 (3 : Int)).toNat : Nat) : Int), Name := (((ix a0 (4 : Int)).toNat : Nat) : Int), Other := (((ix a0 (5 : Int)).toNat : Nat) : Int), N := v9 } : Mk.Call) } : Mk.Request)) [])]⟩) ⟨rfl, rfl, trivial⟩ ⟨rfl, rfl, trivial⟩ ?_
    refine PT.seq ?_
    refine PT.seq ?_
    obtain ⟨v10, hv10, hφ⟩ := B_some hφ
    refine PT.region ?_
    refine Ops.put rfl rfl (ox_load_var t25) (.one rfl) (.one rfl) rfl ?_
    refine Ops.put rfl rfl (ox_call (c_mkref1_WrongRequest hv10) (.cons .tmp .nil)) ((.app (.one rfl) .nil)) (.nil) rfl ?_
    refine Ops.put rfl rfl (ox_assign .tmp) (.one rfl) (.nil) rfl ?_
    refine Ops.nil ?_
    refine PT.sub (σ' := ⟨[(2, _), (4, _), (5, .val (v10))], [(2, .var (({ Client := (0 : Int), Token := (0 : Int), Call := ({ Kind := (0 : Int), Name := (0 : Int), Other := (0 : Int), N := (0 : Int) } : Mk.Call) } : Mk.Request)) []), (4, .var (({ Client := (((ix a0 (1 : Int)).toNat : Nat) : Int), Token := (((ix a0 (2 : Int)).toNat : Nat) : Int), Call := ({ Kind := (((ix a0 (3 : Int)).toNat : Nat) : Int), Name := (((ix a0 (4 : Int)).toNat : Nat) : Int), Other := (((ix a0 (5 : Int)).toNat : Nat) : Int), N := v9 } : Mk.Call) } : Mk.Request)) [])]⟩) ⟨rfl, rfl, rfl, trivial⟩ ⟨rfl, rfl, trivial⟩ ?_
    refine PT.seq ?_
    refine PT.region ?_
    refine Ops.put rfl rfl (ox_move .tmp) (.one rfl) (.nil) rfl ?_
    refine Ops.put rfl rfl (ox_neq .tmp .int) ((.app (.one rfl) (.nil))) (.nil) rfl ?_
    refine Ops.nil ?_
    refine PT.sub (σ' := ⟨[(2, _), (4, _), (5, .val (v10)), (44, .val ((!decide (v10 = (0 : Int)))))], [(2, .var (({ Client := (0 : Int), Token := (0 : Int), Call := ({ Kind := (0 : Int), Name := (0 : Int), Other := (0 : Int), N := (0 : Int) } : Mk.Call) } : Mk.Request)) []), (4, .var (({ Client := (((ix a0 (1 : Int)).toNat : Nat) : Int), Token := (((ix a0 (2 : Int)).toNat : Nat) : Int), Call := ({ Kind := (((ix a0 (3 : Int)).toNat : Nat) : Int), Name := (((ix a0 (4 : Int)).toNat : Nat) : Int), Other := (((ix a0 (5 : Int)).toNat : Nat) : Int), N := v9 } : Mk.Call) } : Mk.Request)) [])]⟩) ⟨rfl, rfl, rfl, rfl, trivial⟩ ⟨rfl, rfl, trivial⟩ ?_
    refine PT.cond _ rfl (fun hc11 => ?_) (fun hc11 => ?_)
    · replace hφ := if_then hφ hc11
      refine PT.sub (σ' := ⟨[(2, _), (5, .val (v10))], [(2, .var (({ Client := (0 : Int), Token := (0 : Int), Call := ({ Kind := (0 : Int), Name := (0 : Int), Other := (0 : Int), N := (0 : Int) } : Mk.Call) } : Mk.Request)) [])]⟩) ⟨rfl, rfl, trivial⟩ ⟨rfl, trivial⟩ ?_
      refine PT.seq ?_
      refine PT.region ?_
      refine Ops.put rfl rfl (ox_buildB z25 u25 rfl Bld.nil) (.nil) (.nil) rfl ?_
      refine Ops.put rfl rfl (ox_move .tmp) (.one rfl) (.nil) rfl ?_
      refine Ops.mute rfl rfl (ox_store_var t25 .tmp) ((.cons rfl (.one rfl))) (.one rfl) ?_
      refine Ops.put rfl rfl (ox_assign .tmp) (.one rfl) (.nil) rfl ?_
      refine Ops.nil ?_
      refine PT.sub (σ' := ⟨[(2, _), (3, .val (v10))], [(2, .var (({ Client := (0 : Int), Token := (0 : Int), Call := ({ Kind := (0 : Int), Name := (0 : Int), Other := (0 : Int), N := (0 : Int) } : Mk.Call) } : Mk.Request)) [])]⟩) ⟨rfl, rfl, trivial⟩ ⟨rfl, trivial⟩ ?_
      refine PT.ret ?_
      obtain rfl := Option.some.inj hφ
      exact PT.done hw0 rfl (.cell t25 rfl rfl (.tmp rfl rfl .nil)) rfl
    · replace hφ := if_else hφ hc11
      refine PT.sub (σ' := ⟨[(2, _), (4, _)], [(2, .var (({ Client := (0 : Int), Token := (0 : Int), Call := ({ Kind := (0 : Int), Name := (0 : Int), Other := (0 : Int), N := (0 : Int) } : Mk.Call) } : Mk.Request)) []), (4, .var (({ Client := (((ix a0 (1 : Int)).toNat : Nat) : Int), Token := (((ix a0 (2 : Int)).toNat : Nat) : Int), Call := ({ Kind := (((ix a0 (3 : Int)).toNat : Nat) : Int), Name := (((ix a0 (4 : Int)).toNat : Nat) : Int), Other := (((ix a0 (5 : Int)).toNat : Nat) : Int), N := v9 } : Mk.Call) } : Mk.Request)) [])]⟩) ⟨rfl, rfl, trivial⟩ ⟨rfl, rfl, trivial⟩ ?_
      refine PT.skip ?_
      refine PT.seq ?_
      refine PT.region ?_
      refine Ops.put rfl rfl (ox_load_var t25) (.one rfl) (.one rfl) rfl ?_
      refine Ops.mute rfl rfl (ox_store_var t25 .tmp) ((.cons rfl (.one rfl))) (.one rfl) ?_
      refine Ops.put rfl rfl (ox_assign .int) (.nil) (.nil) rfl ?_
      refine Ops.nil ?_
      refine PT.sub (σ' := ⟨[(2, _), (3, .val ((0 : Int)))], [(2, .var (({ Client := (((ix a0 (1 : Int)).toNat : Nat) : Int), Token := (((ix a0 (2 : Int)).toNat : Nat) : Int), Call := ({ Kind := (((ix a0 (3 : Int)).toNat : Nat) : Int), Name := (((ix a0 (4 : Int)).toNat : Nat) : Int), Other := (((ix a0 (5 : Int)).toNat : Nat) : Int), N := v9 } : Mk.Call) } : Mk.Request)) [])]⟩) ⟨rfl, rfl, trivial⟩ ⟨rfl, trivial⟩ ?_
      refine PT.ret ?_
      obtain rfl := Option.some.inj hφ
      exact PT.done hw0 rfl (.cell t25 rfl rfl (.tmp rfl rfl .nil)) rfl

/-- mendkernel/wire.ReadAnswer -/
theorem c_wire_ReadAnswer {a0 : List UInt8} {r : (Mk.Answer × Int)} (hφ : wire_ReadAnswer a0 = some r) : Fn Go.Proofs.Try.prog 31 [.val a0] (.tup [.val r.1, .val r.2]) := by
  unfold wire_ReadAnswer at hφ
  refine Fn.mk' Go.Proofs.Try.func31 rfl (by decide) rfl rfl rfl (fun w0 hw0 => ?_)
  refine PT.seq ?_
  refine PT.region ?_
  refine Ops.putO rfl rfl (ox_alloc (id := 2) z30) (.nil) (.nil) rfl (by kernel_rfl) ?_
  refine Ops.put rfl rfl (ox_assign .int) (.nil) (.nil) rfl ?_
  refine Ops.nil ?_
  refine PT.sub (σ' := ⟨[(0, .val (a0)), (2, _)], [(2, .var (({ Client := (0 : Int), Token := (0 : Int), Reply := ({ Err := (0 : Int), N := (0 : Int) } : Mk.Reply) } : Mk.Answer)) [])]⟩) ⟨rfl, rfl, trivial⟩ ⟨rfl, trivial⟩ ?_
  refine PT.seq ?_
  refine PT.seq ?_
  obtain ⟨hb1, hφ⟩ := G_some hφ
  refine PT.region ?_
  refine Ops.put rfl rfl (ox_move .tmp) (.one rfl) (.nil) rfl ?_
  refine Ops.put rfl rfl (ox_len s31 .tmp) (.one rfl) (.nil) rfl ?_
  refine Ops.put rfl rfl (ox_neq .tmp .int) ((.app (.one rfl) (.nil))) (.nil) rfl ?_
  refine Ops.put rfl rfl (ox_move .tmp) (.one rfl) (.nil) rfl ?_
  refine Ops.guard rfl rfl rfl rfl (.plain .nil) (fun hG => (ox_move .tmp)) ⟨rfl, trivial⟩ (.nil) rfl ?_
  refine Ops.guard rfl rfl rfl rfl (.cond (fun h => h) .nil) (fun hG => (ox_ix s31 .tmp .int (hb1 hG).1 (hb1 hG).2)) ⟨rfl, trivial⟩ (.nil) rfl ?_
  refine Ops.guard rfl rfl rfl rfl (.cond (fun h => h) .nil) (fun hG => (ox_load_elem t5)) ⟨rfl, trivial⟩ (.nil) rfl ?_
  refine Ops.guard rfl rfl rfl rfl (.cond (fun h => h) .nil) (fun hG => (ox_neqU8 .tmp (.u8 (n := 97)))) ⟨rfl, trivial⟩ (.nil) rfl ?_
  refine Ops.put rfl rfl ox_pick_or (⟨rfl, rfl, trivial⟩) (.nil) rfl ?_
  refine Ops.nil ?_
  refine PT.sub (σ' := ⟨[(0, .val (a0)), (2, _), (14, .val (((!decide ((a0.length : Int) = (8 : Int))) || (!decide ((ix a0 (0 : Int)) = (UInt8.ofNat 97))))))], [(2, .var (({ Client := (0 : Int), Token := (0 : Int), Reply := ({ Err := (0 : Int), N := (0 : Int) } : Mk.Reply) } : Mk.Answer)) [])]⟩) ⟨rfl, rfl, rfl, trivial⟩ ⟨rfl, trivial⟩ ?_
  refine PT.cond _ rfl (fun hc2 => ?_) (fun hc2 => ?_)
  · replace hφ := if_then hφ hc2
    refine PT.sub (σ' := ⟨[(2, _)], [(2, .var (({ Client := (0 : Int), Token := (0 : Int), Reply := ({ Err := (0 : Int), N := (0 : Int) } : Mk.Reply) } : Mk.Answer)) [])]⟩) ⟨rfl, trivial⟩ ⟨rfl, trivial⟩ ?_
    refine PT.seq ?_
    refine PT.region ?_
    refine Ops.put rfl rfl (ox_buildB z30 u30 rfl Bld.nil) (.nil) (.nil) rfl ?_
    refine Ops.mute rfl rfl (ox_store_var t30 .tmp) ((.cons rfl (.one rfl))) (.one rfl) ?_
    refine Ops.put rfl rfl (ox_assign .int) (.nil) (.nil) rfl ?_
    refine Ops.nil ?_
    refine PT.sub (σ' := ⟨[(2, _), (3, .val ((2 : Int)))], [(2, .var (({ Client := (0 : Int), Token := (0 : Int), Reply := ({ Err := (0 : Int), N := (0 : Int) } : Mk.Reply) } : Mk.Answer)) [])]⟩) ⟨rfl, rfl, trivial⟩ ⟨rfl, trivial⟩ ?_
    refine PT.ret ?_
    obtain rfl := Option.some.inj hφ
    exact PT.done hw0 rfl (.cell t30 rfl rfl (.tmp rfl rfl .nil)) rfl
  · replace hφ := if_else hφ hc2
    refine PT.sub (σ' := ⟨[(0, .val (a0)), (2, _)], [(2, .var (({ Client := (0 : Int), Token := (0 : Int), Reply := ({ Err := (0 : Int), N := (0 : Int) } : Mk.Reply) } : Mk.Answer)) [])]⟩) ⟨rfl, rfl, trivial⟩ ⟨rfl, trivial⟩ ?_
    refine PT.skip ?_
    refine PT.seq ?_
    obtain ⟨hb3, hφ⟩ := G_some hφ
    obtain ⟨hb4, hφ⟩ := G_some hφ
    obtain ⟨hb5, hφ⟩ := G_some hφ
    obtain ⟨hb6, hφ⟩ := G_some hφ
    obtain ⟨v7, hv7, hφ⟩ := B_some hφ
    refine PT.draw hMixed (
        Segs.cons (Step.put rfl rfl (ox_move .tmp)) ⟨.one rfl, .nil⟩ (by kernel_rfl) rfl <|
        Segs.cons (Step.put rfl rfl (ox_ix s31 .tmp .int hb3.1 hb3.2)) ⟨(.app (.one rfl) (.nil)), .nil⟩ (by kernel_rfl) rfl <|
        Segs.cons (Step.put rfl rfl (ox_load_elem t5)) ⟨.one rfl, .nil⟩ (by kernel_rfl) rfl <|
        Segs.cons (Step.put rfl rfl (ox_u8_i64 (by kernel_rfl) .tmp)) ⟨.one rfl, .nil⟩ (by kernel_rfl) rfl <|
        Segs.cons (Step.put rfl rfl (ox_move .tmp)) ⟨.one rfl, .nil⟩ (by kernel_rfl) rfl <|
        Segs.cons (Step.put rfl rfl (ox_ix s31 .tmp .int hb4.1 hb4.2)) ⟨(.app (.one rfl) (.nil)), .nil⟩ (by kernel_rfl) rfl <|
        Segs.cons (Step.put rfl rfl (ox_load_elem t5)) ⟨.one rfl, .nil⟩ (by kernel_rfl) rfl <|
        Segs.cons (Step.put rfl rfl (ox_u8_i64 (by kernel_rfl) .tmp)) ⟨.one rfl, .nil⟩ (by kernel_rfl) rfl <|
        Segs.cons (Step.put rfl rfl (ox_move .tmp)) ⟨.one rfl, .nil⟩ (by kernel_rfl) rfl <|
        Segs.cons (Step.put rfl rfl (ox_ix s31 .tmp .int hb5.1 hb5.2)) ⟨(.app (.one rfl) (.nil)), .nil⟩ (by kernel_rfl) rfl <|
        Segs.cons (Step.put rfl rfl (ox_load_elem t5)) ⟨.one rfl, .nil⟩ (by kernel_rfl) rfl <|
        Segs.cons (Step.put rfl rfl (ox_u8_i64 (by kernel_rfl) .tmp)) ⟨.one rfl, .nil⟩ (by kernel_rfl) rfl <|
        Segs.cons (Step.put rfl rfl (ox_move .tmp)) ⟨.one rfl, .nil⟩ (by kernel_rfl) rfl <|
        Segs.cons (Step.put rfl rfl (ox_slice s31 .tmp (.some .int) .none hb6.1 hb6.2.1 hb6.2.2)) ⟨(.app (.one rfl) ((.app (.nil) (.nil)))), .nil⟩ (by kernel_rfl) rfl <|
        Segs.cons (Step.put rfl rfl (ox_call (c_wire_get hv7) (.cons .tmp .nil))) ⟨(.app (.one rfl) .nil), .nil⟩ (by kernel_rfl) rfl <|
        Segs.cons (Step.put rfl rfl (ox_buildB z28 u28 rfl (.cons Reply_Err f28_0 .tmp (.cons Reply_N f28_1 .tmp Bld.nil)))) ⟨(.app (.one rfl) (.app (.one rfl) .nil)), .nil⟩ (by kernel_rfl) rfl <|
        Segs.cons (Step.put rfl rfl (ox_buildB z30 u30 rfl (.cons Answer_Client f30_0 .tmp (.cons Answer_Token f30_1 .tmp (.cons Answer_Reply f30_2 .tmp Bld.nil))))) ⟨(.app (.one rfl) (.app (.one rfl) (.app (.one rfl) .nil))), .nil⟩ (by kernel_rfl) rfl <|
        Segs.cons (Step.put rfl rfl (ox_alloc (id := 4) z30)) ⟨.nil, .nil⟩ (by kernel_rfl) rfl <|
        Segs.cons (Step.mute rfl rfl (ox_store_var t30 .tmp)) ⟨(.cons rfl (.one rfl)), .one rfl⟩ (by kernel_rfl) rfl <|
        Segs.nil) _ [[], [0], [0, 1], [0, 1, 2], [], [4], [4, 5], [4, 5, 6], [], [8], [8, 9], [8, 9, 10], [], [12], [12, 13], [8, 9, 10, 11, 12, 13, 14], [0, 1, 2, 3, 4, 5, 6, 7, 8, 9, 10, 11, 12, 13, 14, 15], [], [0, 1, 2, 3, 4, 5, 6, 7, 8, 9, 10, 11, 12, 13, 14, 15, 16, 17]] rfl (by kernel_rfl) (by kernel_rfl) ?_
    refine PT.sub (σ' := ⟨[(2, _), (4, _)], [(2, .var (({ Client := (0 : Int), Token := (0 : Int), Reply := ({ Err := (0 : Int), N := (0 : Int) } : Mk.Reply) } : Mk.Answer)) []), (4, .var (({ Client := (((ix a0 (1 : Int)).toNat : Nat) : Int), Token := (((ix a0 (2 : Int)).toNat : Nat) : Int), Reply := ({ Err := (((ix a0 (3 : Int)).toNat : Nat) : Int), N := v7 } : Mk.Reply) } : Mk.Answer)) [])]⟩) ⟨rfl, rfl, trivial⟩ ⟨rfl, rfl, trivial⟩ ?_
    refine PT.seq ?_
    refine PT.seq ?_
    obtain ⟨v8, hv8, hφ⟩ := B_some hφ
    refine PT.region ?_
    refine Ops.put rfl rfl (ox_load_var t30) (.one rfl) (.one rfl) rfl ?_
    refine Ops.put rfl rfl (ox_call (c_wire_WrongAnswer hv8) (.cons .tmp .nil)) ((.app (.one rfl) .nil)) (.nil) rfl ?_
    refine Ops.put rfl rfl (ox_assign .tmp) (.one rfl) (.nil) rfl ?_
    refine Ops.nil ?_
    refine PT.sub (σ' := ⟨[(2, _), (4, _), (5, .val (v8))], [(2, .var (({ Client := (0 : Int), Token := (0 : Int), Reply := ({ Err := (0 : Int), N := (0 : Int) } : Mk.Reply) } : Mk.Answer)) []), (4, .var (({ Client := (((ix a0 (1 : Int)).toNat : Nat) : Int), Token := (((ix a0 (2 : Int)).toNat : Nat) : Int), Reply := ({ Err := (((ix a0 (3 : Int)).toNat : Nat) : Int), N := v7 } : Mk.Reply) } : Mk.Answer)) [])]⟩) ⟨rfl, rfl, rfl, trivial⟩ ⟨rfl, rfl, trivial⟩ ?_
    refine PT.seq ?_
    refine PT.region ?_
    refine Ops.put rfl rfl (ox_move .tmp) (.one rfl) (.nil) rfl ?_
    refine Ops.put rfl rfl (ox_neq .tmp .int) ((.app (.one rfl) (.nil))) (.nil) rfl ?_
    refine Ops.nil ?_
    refine PT.sub (σ' := ⟨[(2, _), (4, _), (5, .val (v8)), (36, .val ((!decide (v8 = (0 : Int)))))], [(2, .var (({ Client := (0 : Int), Token := (0 : Int), Reply := ({ Err := (0 : Int), N := (0 : Int) } : Mk.Reply) } : Mk.Answer)) []), (4, .var (({ Client := (((ix a0 (1 : Int)).toNat : Nat) : Int), Token := (((ix a0 (2 : Int)).toNat : Nat) : Int), Reply := ({ Err := (((ix a0 (3 : Int)).toNat : Nat) : Int), N := v7 } : Mk.Reply) } : Mk.Answer)) [])]⟩) ⟨rfl, rfl, rfl, rfl, trivial⟩ ⟨rfl, rfl, trivial⟩ ?_
    refine PT.cond _ rfl (fun hc9 => ?_) (fun hc9 => ?_)
    · replace hφ := if_then hφ hc9
      refine PT.sub (σ' := ⟨[(2, _), (5, .val (v8))], [(2, .var (({ Client := (0 : Int), Token := (0 : Int), Reply := ({ Err := (0 : Int), N := (0 : Int) } : Mk.Reply) } : Mk.Answer)) [])]⟩) ⟨rfl, rfl, trivial⟩ ⟨rfl, trivial⟩ ?_
      refine PT.seq ?_
      refine PT.region ?_
      refine Ops.put rfl rfl (ox_buildB z30 u30 rfl Bld.nil) (.nil) (.nil) rfl ?_
      refine Ops.put rfl rfl (ox_move .tmp) (.one rfl) (.nil) rfl ?_
      refine Ops.mute rfl rfl (ox_store_var t30 .tmp) ((.cons rfl (.one rfl))) (.one rfl) ?_
      refine Ops.put rfl rfl (ox_assign .tmp) (.one rfl) (.nil) rfl ?_
      refine Ops.nil ?_
      refine PT.sub (σ' := ⟨[(2, _), (3, .val (v8))], [(2, .var (({ Client := (0 : Int), Token := (0 : Int), Reply := ({ Err := (0 : Int), N := (0 : Int) } : Mk.Reply) } : Mk.Answer)) [])]⟩) ⟨rfl, rfl, trivial⟩ ⟨rfl, trivial⟩ ?_
      refine PT.ret ?_
      obtain rfl := Option.some.inj hφ
      exact PT.done hw0 rfl (.cell t30 rfl rfl (.tmp rfl rfl .nil)) rfl
    · replace hφ := if_else hφ hc9
      refine PT.sub (σ' := ⟨[(2, _), (4, _)], [(2, .var (({ Client := (0 : Int), Token := (0 : Int), Reply := ({ Err := (0 : Int), N := (0 : Int) } : Mk.Reply) } : Mk.Answer)) []), (4, .var (({ Client := (((ix a0 (1 : Int)).toNat : Nat) : Int), Token := (((ix a0 (2 : Int)).toNat : Nat) : Int), Reply := ({ Err := (((ix a0 (3 : Int)).toNat : Nat) : Int), N := v7 } : Mk.Reply) } : Mk.Answer)) [])]⟩) ⟨rfl, rfl, trivial⟩ ⟨rfl, rfl, trivial⟩ ?_
      refine PT.skip ?_
      refine PT.seq ?_
      refine PT.region ?_
      refine Ops.put rfl rfl (ox_load_var t30) (.one rfl) (.one rfl) rfl ?_
      refine Ops.mute rfl rfl (ox_store_var t30 .tmp) ((.cons rfl (.one rfl))) (.one rfl) ?_
      refine Ops.put rfl rfl (ox_assign .int) (.nil) (.nil) rfl ?_
      refine Ops.nil ?_
      refine PT.sub (σ' := ⟨[(2, _), (3, .val ((0 : Int)))], [(2, .var (({ Client := (((ix a0 (1 : Int)).toNat : Nat) : Int), Token := (((ix a0 (2 : Int)).toNat : Nat) : Int), Reply := ({ Err := (((ix a0 (3 : Int)).toNat : Nat) : Int), N := v7 } : Mk.Reply) } : Mk.Answer)) [])]⟩) ⟨rfl, rfl, trivial⟩ ⟨rfl, trivial⟩ ?_
      refine PT.ret ?_
      obtain rfl := Option.some.inj hφ
      exact PT.done hw0 rfl (.cell t30 rfl rfl (.tmp rfl rfl .nil)) rfl

/-- mendkernel/mkref1.ReadAnswer -/
theorem c_mkref1_ReadAnswer {a0 : List UInt8} {r : (Mk.Answer × Int)} (hφ : mkref1_ReadAnswer a0 = some r) : Fn Go.Proofs.Try.prog 32 [.val a0] (.tup [.val r.1, .val r.2]) := by
  unfold mkref1_ReadAnswer at hφ
  refine Fn.mk' Go.Proofs.Try.func32 rfl (by decide) rfl rfl rfl (fun w0 hw0 => ?_)
  refine PT.seq ?_
  refine PT.region ?_
  refine Ops.putO rfl rfl (ox_alloc (id := 2) z30) (.nil) (.nil) rfl (by kernel_rfl) ?_
  refine Ops.put rfl rfl (ox_assign .int) (.nil) (.nil) rfl ?_
  refine Ops.nil ?_
  refine PT.sub (σ' := ⟨[(0, .val (a0)), (2, _)], [(2, .var (({ Client := (0 : Int), Token := (0 : Int), Reply := ({ Err := (0 : Int), N := (0 : Int) } : Mk.Reply) } : Mk.Answer)) [])]⟩) ⟨rfl, rfl, trivial⟩ ⟨rfl, trivial⟩ ?_
  refine PT.seq ?_
  refine PT.seq ?_
  obtain ⟨hb1, hφ⟩ := G_some hφ
  refine PT.region ?_
  refine Ops.put rfl rfl (ox_move .tmp) (.one rfl) (.nil) rfl ?_
  refine Ops.put rfl rfl (ox_len s31 .tmp) (.one rfl) (.nil) rfl ?_
  refine Ops.put rfl rfl (ox_neq .tmp .int) ((.app (.one rfl) (.nil))) (.nil) rfl ?_
  refine Ops.put rfl rfl (ox_move .tmp) (.one rfl) (.nil) rfl ?_
  refine Ops.guard rfl rfl rfl rfl (.plain .nil) (fun hG => (ox_move .tmp)) ⟨rfl, trivial⟩ (.nil) rfl ?_
  refine Ops.guard rfl rfl rfl rfl (.cond (fun h => h) .nil) (fun hG => (ox_ix s31 .tmp .int (hb1 hG).1 (hb1 hG).2)) ⟨rfl, trivial⟩ (.nil) rfl ?_
  refine Ops.guard rfl rfl rfl rfl (.cond (fun h => h) .nil) (fun hG => (ox_load_elem t5)) ⟨rfl, trivial⟩ (.nil) rfl ?_
  refine Ops.guard rfl rfl rfl rfl (.cond (fun h => h) .nil) (fun hG => (ox_neqU8 .tmp (.u8 (n := 97)))) ⟨rfl, trivial⟩ (.nil) rfl ?_
  refine Ops.put rfl rfl ox_pick_or (⟨rfl, rfl, trivial⟩) (.nil) rfl ?_
  refine Ops.nil ?_
  refine PT.sub (σ' := ⟨[(0, .val (a0)), (2, _), (14, .val (((!decide ((a0.length : Int) = (8 : Int))) || (!decide ((ix a0 (0 : Int)) = (UInt8.ofNat 97))))))], [(2, .var (({ Client := (0 : Int), Token := (0 : Int), Reply := ({ Err := (0 : Int), N := (0 : Int) } : Mk.Reply) } : Mk.Answer)) [])]⟩) ⟨rfl, rfl, rfl, trivial⟩ ⟨rfl, trivial⟩ ?_
  refine PT.cond _ rfl (fun hc2 => ?_) (fun hc2 => ?_)
  · replace hφ := if_then hφ hc2
    refine PT.sub (σ' := ⟨[(2, _)], [(2, .var (({ Client := (0 : Int), Token := (0 : Int), Reply := ({ Err := (0 : Int), N := (0 : Int) } : Mk.Reply) } : Mk.Answer)) [])]⟩) ⟨rfl, trivial⟩ ⟨rfl, trivial⟩ ?_
    refine PT.seq ?_
    refine PT.region ?_
    refine Ops.put rfl rfl (ox_buildB z30 u30 rfl Bld.nil) (.nil) (.nil) rfl ?_
    refine Ops.mute rfl rfl (ox_store_var t30 .tmp) ((.cons rfl (.one rfl))) (.one rfl) ?_
    refine Ops.put rfl rfl (ox_assign .int) (.nil) (.nil) rfl ?_
    refine Ops.nil ?_
    refine PT.sub (σ' := ⟨[(2, _), (3, .val ((2 : Int)))], [(2, .var (({ Client := (0 : Int), Token := (0 : Int), Reply := ({ Err := (0 : Int), N := (0 : Int) } : Mk.Reply) } : Mk.Answer)) [])]⟩) ⟨rfl, rfl, trivial⟩ ⟨rfl, trivial⟩ ?_
    refine PT.ret ?_
    obtain rfl := Option.some.inj hφ
    exact PT.done hw0 rfl (.cell t30 rfl rfl (.tmp rfl rfl .nil)) rfl
  · replace hφ := if_else hφ hc2
    refine PT.sub (σ' := ⟨[(0, .val (a0)), (2, _)], [(2, .var (({ Client := (0 : Int), Token := (0 : Int), Reply := ({ Err := (0 : Int), N := (0 : Int) } : Mk.Reply) } : Mk.Answer)) [])]⟩) ⟨rfl, rfl, trivial⟩ ⟨rfl, trivial⟩ ?_
    refine PT.skip ?_
    refine PT.seq ?_
    obtain ⟨hb3, hφ⟩ := G_some hφ
    obtain ⟨hb4, hφ⟩ := G_some hφ
    obtain ⟨hb5, hφ⟩ := G_some hφ
    obtain ⟨hb6, hφ⟩ := G_some hφ
    obtain ⟨v7, hv7, hφ⟩ := B_some hφ
    refine PT.draw hMixed (
        Segs.cons (Step.put rfl rfl (ox_move .tmp)) ⟨.one rfl, .nil⟩ (by kernel_rfl) rfl <|
        Segs.cons (Step.put rfl rfl (ox_ix s31 .tmp .int hb3.1 hb3.2)) ⟨(.app (.one rfl) (.nil)), .nil⟩ (by kernel_rfl) rfl <|
        Segs.cons (Step.put rfl rfl (ox_load_elem t5)) ⟨.one rfl, .nil⟩ (by kernel_rfl) rfl <|
        Segs.cons (Step.put rfl rfl (ox_u8_i64 (by kernel_rfl) .tmp)) ⟨.one rfl, .nil⟩ (by kernel_rfl) rfl <|
        Segs.cons (Step.put rfl rfl (ox_move .tmp)) ⟨.one rfl, .nil⟩ (by kernel_rfl) rfl <|
        Segs.cons (Step.put rfl rfl (ox_ix s31 .tmp .int hb4.1 hb4.2)) ⟨(.app (.one rfl) (.nil)), .nil⟩ (by kernel_rfl) rfl <|
        Segs.cons (Step.put rfl rfl (ox_load_elem t5)) ⟨.one rfl, .nil⟩ (by kernel_rfl) rfl <|
        Segs.cons (Step.put rfl rfl (ox_u8_i64 (by kernel_rfl) .tmp)) ⟨.one rfl, .nil⟩ (by kernel_rfl) rfl <|
        Segs.cons (Step.put rfl rfl (ox_move .tmp)) ⟨.one rfl, .nil⟩ (by kernel_rfl) rfl <|
        Segs.cons (Step.put rfl rfl (ox_ix s31 .tmp .int hb5.1 hb5.2)) ⟨(.app (.one rfl) (.nil)), .nil⟩ (by kernel_rfl) rfl <|
        Segs.cons (Step.put rfl rfl (ox_load_elem t5)) ⟨.one rfl, .nil⟩ (by kernel_rfl) rfl <|
        Segs.cons (Step.put rfl rfl (ox_u8_i64 (by kernel_rfl) .tmp)) ⟨.one rfl, .nil⟩ (by kernel_rfl) rfl <|
        Segs.cons (Step.put rfl rfl (ox_move .tmp)) ⟨.one rfl, .nil⟩ (by kernel_rfl) rfl <|
        Segs.cons (Step.put rfl rfl (ox_slice s31 .tmp (.some .int) .none hb6.1 hb6.2.1 hb6.2.2)) ⟨(.app (.one rfl) ((.app (.nil) (.nil)))), .nil⟩ (by kernel_rfl) rfl <|
        Segs.cons (Step.put rfl rfl (ox_call (c_mkref1_num hv7) (.cons .tmp .nil))) ⟨(.app (.one rfl) .nil), .nil⟩ (by kernel_rfl) rfl <|
        Segs.cons (Step.put rfl rfl (ox_buildB z28 u28 rfl (.cons Reply_Err f28_0 .tmp (.cons Reply_N f28_1 .tmp Bld.nil)))) ⟨(.app (.one rfl) (.app (.one rfl) .nil)), .nil⟩ (by kernel_rfl) rfl <|
        Segs.cons (Step.put rfl rfl (ox_buildB z30 u30 rfl (.cons Answer_Client f30_0 .tmp (.cons Answer_Token f30_1 .tmp (.cons Answer_Reply f30_2 .tmp Bld.nil))))) ⟨(.app (.one rfl) (.app (.one rfl) (.app (.one rfl) .nil))), .nil⟩ (by kernel_rfl) rfl <|
        Segs.cons (Step.put rfl rfl (ox_alloc (id := 4) z30)) ⟨.nil, .nil⟩ (by kernel_rfl) rfl <|
        Segs.cons (Step.mute rfl rfl (ox_store_var t30 .tmp)) ⟨(.cons rfl (.one rfl)), .one rfl⟩ (by kernel_rfl) rfl <|
        Segs.nil) _ [[], [0], [0, 1], [0, 1, 2], [], [4], [4, 5], [4, 5, 6], [], [8], [8, 9], [8, 9, 10], [], [12], [12, 13], [8, 9, 10, 11, 12, 13, 14], [0, 1, 2, 3, 4, 5, 6, 7, 8, 9, 10, 11, 12, 13, 14, 15], [], [0, 1, 2, 3, 4, 5, 6, 7, 8, 9, 10, 11, 12, 13, 14, 15, 16, 17]] rfl (by kernel_rfl) (by kernel_rfl) ?_
    refine PT.sub (σ' := ⟨[(2, _), (4, _)], [(2, .var (({ Client := (0 : Int), Token := (0 : Int), Reply := ({ Err := (0 : Int), N := (0 : Int) } : Mk.Reply) } : Mk.Answer)) []), (4, .var (({ Client := (((ix a0 (1 : Int)).toNat : Nat) : Int), Token := (((ix a0 (2 : Int)).toNat : Nat) : Int), Reply := ({ Err := (((ix a0 (3 : Int)).toNat : Nat) : Int), N := v7 } : Mk.Reply) } : Mk.Answer)) [])]⟩) ⟨rfl, rfl, trivial⟩ ⟨rfl, rfl, trivial⟩ ?_
    refine PT.seq ?_
    refine PT.seq ?_
    obtain ⟨v8, hv8, hφ⟩ := B_some hφ
    refine PT.region ?_
    refine Ops.put rfl rfl (ox_load_var t30) (.one rfl) (.one rfl) rfl ?_
    refine Ops.put rfl rfl (ox_call (c_mkref1_WrongAnswer hv8) (.cons .tmp .nil)) ((.app (.one rfl) .nil)) (.nil) rfl ?_
    refine Ops.put rfl rfl (ox_assign .tmp) (.one rfl) (.nil) rfl ?_
    refine Ops.nil ?_
    refine PT.sub (σ' := ⟨[(2, _), (4, _), (5, .val (v8))], [(2, .var (({ Client := (0 : Int), Token := (0 : Int), Reply := ({ Err := (0 : Int), N := (0 : Int) } : Mk.Reply) } : Mk.Answer)) []), (4, .var (({ Client := (((ix a0 (1 : Int)).toNat : Nat) : Int), Token := (((ix a0 (2 : Int)).toNat : Nat) : Int), Reply := ({ Err := (((ix a0 (3 : Int)).toNat : Nat) : Int), N := v7 } : Mk.Reply) } : Mk.Answer)) [])]⟩) ⟨rfl, rfl, rfl, trivial⟩ ⟨rfl, rfl, trivial⟩ ?_
    refine PT.seq ?_
    refine PT.region ?_
    refine Ops.put rfl rfl (ox_move .tmp) (.one rfl) (.nil) rfl ?_
    refine Ops.put rfl rfl (ox_neq .tmp .int) ((.app (.one rfl) (.nil))) (.nil) rfl ?_
    refine Ops.nil ?_
    refine PT.sub (σ' := ⟨[(2, _), (4, _), (5, .val (v8)), (36, .val ((!decide (v8 = (0 : Int)))))], [(2, .var (({ Client := (0 : Int), Token := (0 : Int), Reply := ({ Err := (0 : Int), N := (0 : Int) } : Mk.Reply) } : Mk.Answer)) []), (4, .var (({ Client := (((ix a0 (1 : Int)).toNat : Nat) : Int), Token := (((ix a0 (2 : Int)).toNat : Nat) : Int), Reply := ({ Err := (((ix a0 (3 : Int)).toNat : Nat) : Int), N := v7 } : Mk.Reply) } : Mk.Answer)) [])]⟩) ⟨rfl, rfl, rfl, rfl, trivial⟩ ⟨rfl, rfl, trivial⟩ ?_
    refine PT.cond _ rfl (fun hc9 => ?_) (fun hc9 => ?_)
    · replace hφ := if_then hφ hc9
      refine PT.sub (σ' := ⟨[(2, _), (5, .val (v8))], [(2, .var (({ Client := (0 : Int), Token := (0 : Int), Reply := ({ Err := (0 : Int), N := (0 : Int) } : Mk.Reply) } : Mk.Answer)) [])]⟩) ⟨rfl, rfl, trivial⟩ ⟨rfl, trivial⟩ ?_
      refine PT.seq ?_
      refine PT.region ?_
      refine Ops.put rfl rfl (ox_buildB z30 u30 rfl Bld.nil) (.nil) (.nil) rfl ?_
      refine Ops.put rfl rfl (ox_move .tmp) (.one rfl) (.nil) rfl ?_
      refine Ops.mute rfl rfl (ox_store_var t30 .tmp) ((.cons rfl (.one rfl))) (.one rfl) ?_
      refine Ops.put rfl rfl (ox_assign .tmp) (.one rfl) (.nil) rfl ?_
      refine Ops.nil ?_
      refine PT.sub (σ' := ⟨[(2, _), (3, .val (v8))], [(2, .var (({ Client := (0 : Int), Token := (0 : Int), Reply := ({ Err := (0 : Int), N := (0 : Int) } : Mk.Reply) } : Mk.Answer)) [])]⟩) ⟨rfl, rfl, trivial⟩ ⟨rfl, trivial⟩ ?_
      refine PT.ret ?_
      obtain rfl := Option.some.inj hφ
      exact PT.done hw0 rfl (.cell t30 rfl rfl (.tmp rfl rfl .nil)) rfl
    · replace hφ := if_else hφ hc9
      refine PT.sub (σ' := ⟨[(2, _), (4, _)], [(2, .var (({ Client := (0 : Int), Token := (0 : Int), Reply := ({ Err := (0 : Int), N := (0 : Int) } : Mk.Reply) } : Mk.Answer)) []), (4, .var (({ Client := (((ix a0 (1 : Int)).toNat : Nat) : Int), Token := (((ix a0 (2 : Int)).toNat : Nat) : Int), Reply := ({ Err := (((ix a0 (3 : Int)).toNat : Nat) : Int), N := v7 } : Mk.Reply) } : Mk.Answer)) [])]⟩) ⟨rfl, rfl, trivial⟩ ⟨rfl, rfl, trivial⟩ ?_
      refine PT.skip ?_
      refine PT.seq ?_
      refine PT.region ?_
      refine Ops.put rfl rfl (ox_load_var t30) (.one rfl) (.one rfl) rfl ?_
      refine Ops.mute rfl rfl (ox_store_var t30 .tmp) ((.cons rfl (.one rfl))) (.one rfl) ?_
      refine Ops.put rfl rfl (ox_assign .int) (.nil) (.nil) rfl ?_
      refine Ops.nil ?_
      refine PT.sub (σ' := ⟨[(2, _), (3, .val ((0 : Int)))], [(2, .var (({ Client := (((ix a0 (1 : Int)).toNat : Nat) : Int), Token := (((ix a0 (2 : Int)).toNat : Nat) : Int), Reply := ({ Err := (((ix a0 (3 : Int)).toNat : Nat) : Int), N := v7 } : Mk.Reply) } : Mk.Answer)) [])]⟩) ⟨rfl, rfl, trivial⟩ ⟨rfl, trivial⟩ ?_
      refine PT.ret ?_
      obtain rfl := Option.some.inj hφ
      exact PT.done hw0 rfl (.cell t30 rfl rfl (.tmp rfl rfl .nil)) rfl
end Go.Gx
