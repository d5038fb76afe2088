/- WHAT THE STATEMENTS OF THIS GROUP NEED, part 3: laid together by prune.py out of own texts. -/
import Derived.Test.YtihaabdflfpacaaZLo2
section
namespace Go.Gx
open Sp
set_option linter.unusedVariables false
set_option linter.unusedSimpArgs false
set_option maxRecDepth 20000
set_option maxHeartbeats 4000000
theorem c_mkref1_WrongCall {a0 : Mk.Call} {r : Int} (hφ : mkref1_WrongCall a0 = some r) : Fn Go.Proofs.Try.prog 74 [.val a0] (.val r) := by
  unfold mkref1_WrongCall at hφ
  refine Fn.mk' Go.Proofs.Try.func74 rfl (by decide) rfl rfl rfl (fun w0 hw0 => ?_)
  refine PT.seq ?_
  refine PT.region ?_
  refine Ops.putO rfl rfl (ox_box (id := 1) .tmp) (.one rfl) (.nil) rfl (by kernel_rfl) ?_
  refine Ops.put rfl rfl (ox_assign .int) (.nil) (.nil) rfl ?_
  refine Ops.nil ?_
  refine PT.sub (σ' := ⟨[(1, _)], [(1, .var (a0) [])]⟩) ⟨rfl, trivial⟩ ⟨rfl, trivial⟩ ?_
  refine PT.seq ?_
  refine PT.seq ?_
  refine PT.region ?_
  refine Ops.put rfl rfl (ox_fieldAddr_var Call_Kind f33_0) (.one rfl) (.nil) rfl ?_
  refine Ops.put rfl rfl (ox_load_fld t3) (.one rfl) (.one rfl) rfl ?_
  refine Ops.put rfl rfl (ox_lss .tmp .int) ((.app (.one rfl) (.nil))) (.nil) rfl ?_
  refine Ops.put rfl rfl (ox_move .tmp) (.one rfl) (.nil) rfl ?_
  refine Ops.guard rfl rfl rfl rfl (.plain .nil) (fun hG => (ox_fieldAddr_var Call_Kind f33_0)) ⟨rfl, trivial⟩ (.nil) rfl ?_
  refine Ops.guard rfl rfl rfl rfl (.cond (fun h => h) .nil) (fun hG => (ox_load_fld t3)) ⟨rfl, trivial⟩ (.one rfl) rfl ?_
  refine Ops.guard rfl rfl rfl rfl (.cond (fun h => h) .nil) (fun hG => (ox_gtr .tmp .int)) ⟨rfl, trivial⟩ (.nil) rfl ?_
  refine Ops.put rfl rfl ox_pick_or (⟨rfl, rfl, trivial⟩) (.nil) rfl ?_
  refine Ops.nil ?_
  refine PT.sub (σ' := ⟨[(1, _), (15, .val (((decide (a0.Kind < (1 : Int))) || (decide ((6 : Int) < a0.Kind)))))], [(1, .var (a0) [])]⟩) ⟨rfl, rfl, trivial⟩ ⟨rfl, trivial⟩ ?_
  refine PT.cond _ rfl (fun hc1 => ?_) (fun hc1 => ?_)
  · replace hφ := if_then hφ hc1
    refine PT.sub (σ' := ⟨[], []⟩) trivial trivial ?_
    refine PT.seq ?_
    refine PT.region ?_
    refine Ops.put rfl rfl (ox_assign .int) (.nil) (.nil) rfl ?_
    refine Ops.nil ?_
    refine PT.sub (σ' := ⟨[(2, .val ((1 : Int)))], []⟩) ⟨rfl, trivial⟩ trivial ?_
    refine PT.ret ?_
    obtain rfl := Option.some.inj hφ
    exact PT.done hw0 rfl (.tmp rfl rfl .nil) rfl
  · replace hφ := if_else hφ hc1
    refine PT.sub (σ' := ⟨[(1, _)], [(1, .var (a0) [])]⟩) ⟨rfl, trivial⟩ ⟨rfl, trivial⟩ ?_
    refine PT.skip ?_
    refine PT.seq ?_
    refine PT.region ?_
    refine Ops.put rfl rfl (ox_assign .int) (.nil) (.nil) rfl ?_
    refine Ops.put rfl rfl (ox_assign .int) (.nil) (.nil) rfl ?_
    refine Ops.nil ?_
    refine PT.sub (σ' := ⟨[(1, _), (3, .val ((1 : Int))), (4, .val ((255 : Int)))], [(1, .var (a0) [])]⟩) ⟨rfl, rfl, rfl, trivial⟩ ⟨rfl, trivial⟩ ?_
    obtain ⟨k2, hk2, hφ⟩ := J_some hφ
    refine PT.cut (ι := Int × Int × Mk.Call) (fun p => ⟨[(1, .ptr 1 (Lens.id (α := Mk.Call))), (3, .val (p.1)), (4, .val (p.2.1))], [(1, .var (p.2.2) [])]⟩) (fun p => k2 (p.1) (p.2.1) (p.2.2) = some r) ?_ ?_
    · skip
      refine PT.seq ?_
      refine PT.region ?_
      refine Ops.put rfl rfl (ox_fieldAddr_var Call_Kind f33_0) (.one rfl) (.nil) rfl ?_
      refine Ops.put rfl rfl (ox_load_fld t3) (.one rfl) (.one rfl) rfl ?_
      refine Ops.put rfl rfl (ox_eql .tmp .int) ((.app (.one rfl) (.nil))) (.nil) rfl ?_
      refine Ops.nil ?_
      refine PT.sub (σ' := ⟨[(1, _), (3, .val ((1 : Int))), (4, .val ((255 : Int))), (18, .val ((decide (a0.Kind = (5 : Int)))))], [(1, .var (a0) [])]⟩) ⟨rfl, rfl, rfl, rfl, trivial⟩ ⟨rfl, trivial⟩ ?_
      refine PT.cond _ rfl (fun hc3 => ?_) (fun hc3 => ?_)
      · replace hφ := if_then hφ hc3
        refine PT.sub (σ' := ⟨[(1, _)], [(1, .var (a0) [])]⟩) ⟨rfl, trivial⟩ ⟨rfl, trivial⟩ ?_
        refine PT.region ?_
        refine Ops.put rfl rfl (ox_assign .int) (.nil) (.nil) rfl ?_
        refine Ops.put rfl rfl (ox_assign .int) (.nil) (.nil) rfl ?_
        refine Ops.nil ?_
        refine PT.sub (σ' := ⟨[(1, _), (3, .val ((0 : Int))), (4, .val ((0 : Int)))], [(1, .var (a0) [])]⟩) ⟨rfl, rfl, rfl, trivial⟩ ⟨rfl, trivial⟩ ?_
        exact PT.meet ((0 : Int), (0 : Int), a0) hφ ⟨rfl, rfl, rfl, trivial⟩ ⟨rfl, trivial⟩
      · replace hφ := if_else hφ hc3
        refine PT.sub (σ' := ⟨[(1, _), (3, .val ((1 : Int))), (4, .val ((255 : Int)))], [(1, .var (a0) [])]⟩) ⟨rfl, rfl, rfl, trivial⟩ ⟨rfl, trivial⟩ ?_
        refine PT.skip ?_
        exact PT.meet ((1 : Int), (255 : Int), a0) hφ ⟨rfl, rfl, rfl, trivial⟩ ⟨rfl, trivial⟩
    · rintro ⟨x3_k2, x4_k2, y1_k2⟩ hφ
      subst hk2
      refine PT.sub (σ' := ⟨[(1, .ptr 1 (Lens.id (α := Mk.Call))), (3, .val (x3_k2)), (4, .val (x4_k2))], [(1, .var (y1_k2) [])]⟩) ⟨rfl, rfl, rfl, trivial⟩ ⟨rfl, trivial⟩ ?_
      refine PT.seq ?_
      refine PT.region ?_
      refine Ops.put rfl rfl (ox_assign .int) (.nil) (.nil) rfl ?_
      refine Ops.put rfl rfl (ox_assign .int) (.nil) (.nil) rfl ?_
      refine Ops.nil ?_
      refine PT.sub (σ' := ⟨[(1, _), (3, .val (x3_k2)), (4, .val (x4_k2)), (5, .val ((0 : Int))), (6, .val ((0 : Int)))], [(1, .var (y1_k2) [])]⟩) ⟨rfl, rfl, rfl, rfl, rfl, trivial⟩ ⟨rfl, trivial⟩ ?_
      obtain ⟨k4, hk4, hφ⟩ := J_some hφ
      refine PT.cut (ι := Int × Int × Int × Int × Mk.Call) (fun p => ⟨[(1, .ptr 1 (Lens.id (α := Mk.Call))), (3, .val (p.1)), (4, .val (p.2.1)), (5, .val (p.2.2.1)), (6, .val (p.2.2.2.1))], [(1, .var (p.2.2.2.2) [])]⟩) (fun p => k4 (p.1) (p.2.1) (p.2.2.1) (p.2.2.2.1) (p.2.2.2.2) = some r) ?_ ?_
      · skip
        refine PT.seq ?_
        refine PT.region ?_
        refine Ops.put rfl rfl (ox_fieldAddr_var Call_Kind f33_0) (.one rfl) (.nil) rfl ?_
        refine Ops.put rfl rfl (ox_load_fld t3) (.one rfl) (.one rfl) rfl ?_
        refine Ops.put rfl rfl (ox_eql .tmp .int) ((.app (.one rfl) (.nil))) (.nil) rfl ?_
        refine Ops.nil ?_
        refine PT.sub (σ' := ⟨[(1, _), (3, .val (x3_k2)), (4, .val (x4_k2)), (5, .val ((0 : Int))), (6, .val ((0 : Int))), (21, .val ((decide (y1_k2.Kind = (6 : Int)))))], [(1, .var (y1_k2) [])]⟩) ⟨rfl, rfl, rfl, rfl, rfl, rfl, trivial⟩ ⟨rfl, trivial⟩ ?_
        refine PT.cond _ rfl (fun hc5 => ?_) (fun hc5 => ?_)
        · replace hφ := if_then hφ hc5
          refine PT.sub (σ' := ⟨[(1, _), (3, .val (x3_k2)), (4, .val (x4_k2))], [(1, .var (y1_k2) [])]⟩) ⟨rfl, rfl, rfl, trivial⟩ ⟨rfl, trivial⟩ ?_
          refine PT.region ?_
          refine Ops.put rfl rfl (ox_assign .int) (.nil) (.nil) rfl ?_
          refine Ops.put rfl rfl (ox_assign .int) (.nil) (.nil) rfl ?_
          refine Ops.nil ?_
          refine PT.sub (σ' := ⟨[(1, _), (3, .val (x3_k2)), (4, .val (x4_k2)), (5, .val ((1 : Int))), (6, .val ((255 : Int)))], [(1, .var (y1_k2) [])]⟩) ⟨rfl, rfl, rfl, rfl, rfl, trivial⟩ ⟨rfl, trivial⟩ ?_
          exact PT.meet (x3_k2, x4_k2, (1 : Int), (255 : Int), y1_k2) hφ ⟨rfl, rfl, rfl, rfl, rfl, trivial⟩ ⟨rfl, trivial⟩
        · replace hφ := if_else hφ hc5
          refine PT.sub (σ' := ⟨[(1, _), (3, .val (x3_k2)), (4, .val (x4_k2)), (5, .val ((0 : Int))), (6, .val ((0 : Int)))], [(1, .var (y1_k2) [])]⟩) ⟨rfl, rfl, rfl, rfl, rfl, trivial⟩ ⟨rfl, trivial⟩ ?_
          refine PT.skip ?_
          exact PT.meet (x3_k2, x4_k2, (0 : Int), (0 : Int), y1_k2) hφ ⟨rfl, rfl, rfl, rfl, rfl, trivial⟩ ⟨rfl, trivial⟩
      · rintro ⟨x3_k4, x4_k4, x5_k4, x6_k4, y1_k4⟩ hφ
        subst hk4
        refine PT.sub (σ' := ⟨[(1, .ptr 1 (Lens.id (α := Mk.Call))), (3, .val (x3_k4)), (4, .val (x4_k4)), (5, .val (x5_k4)), (6, .val (x6_k4))], [(1, .var (y1_k4) [])]⟩) ⟨rfl, rfl, rfl, rfl, rfl, trivial⟩ ⟨rfl, trivial⟩ ?_
        refine PT.seq ?_
        refine PT.seq ?_
        refine PT.region ?_
        refine Ops.put rfl rfl (ox_fieldAddr_var Call_Name f33_1) (.one rfl) (.nil) rfl ?_
        refine Ops.put rfl rfl (ox_load_fld t3) (.one rfl) (.one rfl) rfl ?_
        refine Ops.put rfl rfl (ox_move .tmp) (.one rfl) (.nil) rfl ?_
        refine Ops.put rfl rfl (ox_lss .tmp .tmp) ((.app (.one rfl) (.one rfl))) (.nil) rfl ?_
        refine Ops.put rfl rfl (ox_move .tmp) (.one rfl) (.nil) rfl ?_
        refine Ops.guard rfl rfl rfl rfl (.plain .nil) (fun hG => (ox_fieldAddr_var Call_Name f33_1)) ⟨rfl, trivial⟩ (.nil) rfl ?_
        refine Ops.guard rfl rfl rfl rfl (.cond (fun h => h) .nil) (fun hG => (ox_load_fld t3)) ⟨rfl, trivial⟩ (.one rfl) rfl ?_
        refine Ops.guard rfl rfl rfl rfl (.plain .nil) (fun hG => (ox_move .tmp)) ⟨rfl, trivial⟩ (.nil) rfl ?_
        refine Ops.guard rfl rfl rfl rfl (.cond (fun h => h) (.cond (fun h => h) .nil)) (fun hG => (ox_gtr .tmp .tmp)) ⟨rfl, rfl, trivial⟩ (.nil) rfl ?_
        refine Ops.put rfl rfl ox_pick_or (⟨rfl, rfl, trivial⟩) (.nil) rfl ?_
        refine Ops.put rfl rfl (ox_move .tmp) (.one rfl) (.nil) rfl ?_
        refine Ops.guard rfl rfl rfl rfl (.plain .nil) (fun hG => (ox_fieldAddr_var Call_Other f33_2)) ⟨rfl, trivial⟩ (.nil) rfl ?_
        refine Ops.guard rfl rfl rfl rfl (.cond (fun h => h) .nil) (fun hG => (ox_load_fld t3)) ⟨rfl, trivial⟩ (.one rfl) rfl ?_
        refine Ops.guard rfl rfl rfl rfl (.plain .nil) (fun hG => (ox_move .tmp)) ⟨rfl, trivial⟩ (.nil) rfl ?_
        refine Ops.guard rfl rfl rfl rfl (.cond (fun h => h) (.cond (fun h => h) .nil)) (fun hG => (ox_lss .tmp .tmp)) ⟨rfl, rfl, trivial⟩ (.nil) rfl ?_
        refine Ops.put rfl rfl ox_pick_or (⟨rfl, rfl, trivial⟩) (.nil) rfl ?_
        refine Ops.put rfl rfl (ox_move .tmp) (.one rfl) (.nil) rfl ?_
        refine Ops.guard rfl rfl rfl rfl (.plain .nil) (fun hG => (ox_fieldAddr_var Call_Other f33_2)) ⟨rfl, trivial⟩ (.nil) rfl ?_
        refine Ops.guard rfl rfl rfl rfl (.cond (fun h => h) .nil) (fun hG => (ox_load_fld t3)) ⟨rfl, trivial⟩ (.one rfl) rfl ?_
        refine Ops.guard rfl rfl rfl rfl (.plain .nil) (fun hG => (ox_move .tmp)) ⟨rfl, trivial⟩ (.nil) rfl ?_
        refine Ops.guard rfl rfl rfl rfl (.cond (fun h => h) (.cond (fun h => h) .nil)) (fun hG => (ox_gtr .tmp .tmp)) ⟨rfl, rfl, trivial⟩ (.nil) rfl ?_
        refine Ops.put rfl rfl ox_pick_or (⟨rfl, rfl, trivial⟩) (.nil) rfl ?_
        refine Ops.nil ?_
        refine PT.sub (σ' := ⟨[(1, _), (43, .val (((((decide (y1_k4.Name < x3_k4)) || (decide (x4_k4 < y1_k4.Name))) || (decide (y1_k4.Other < x5_k4))) || (decide (x6_k4 < y1_k4.Other)))))], [(1, .var (y1_k4) [])]⟩) ⟨rfl, rfl, trivial⟩ ⟨rfl, trivial⟩ ?_
        refine PT.cond _ rfl (fun hc6 => ?_) (fun hc6 => ?_)
        · replace hφ := if_then hφ hc6
          refine PT.sub (σ' := ⟨[], []⟩) trivial trivial ?_
          refine PT.seq ?_
          refine PT.region ?_
          refine Ops.put rfl rfl (ox_assign .int) (.nil) (.nil) rfl ?_
          refine Ops.nil ?_
          refine PT.sub (σ' := ⟨[(2, .val ((7 : Int)))], []⟩) ⟨rfl, trivial⟩ trivial ?_
          refine PT.ret ?_
          obtain rfl := Option.some.inj hφ
          exact PT.done hw0 rfl (.tmp rfl rfl .nil) rfl
        · replace hφ := if_else hφ hc6
          refine PT.sub (σ' := ⟨[(1, _)], [(1, .var (y1_k4) [])]⟩) ⟨rfl, trivial⟩ ⟨rfl, trivial⟩ ?_
          refine PT.skip ?_
          refine PT.seq ?_
          refine PT.region ?_
          refine Ops.put rfl rfl (ox_assign .int) (.nil) (.nil) rfl ?_
          refine Ops.nil ?_
          refine PT.sub (σ' := ⟨[(1, _), (7, .val ((0 : Int)))], [(1, .var (y1_k4) [])]⟩) ⟨rfl, rfl, trivial⟩ ⟨rfl, trivial⟩ ?_
          obtain ⟨k7, hk7, hφ⟩ := J_some hφ
          refine PT.cut (ι := Int × Mk.Call) (fun p => ⟨[(1, .ptr 1 (Lens.id (α := Mk.Call))), (7, .val (p.1))], [(1, .var (p.2) [])]⟩) (fun p => k7 (p.1) (p.2) = some r) ?_ ?_
          · skip
            refine PT.seq ?_
            refine PT.region ?_
            refine Ops.put rfl rfl (ox_fieldAddr_var Call_Kind f33_0) (.one rfl) (.nil) rfl ?_
            refine Ops.put rfl rfl (ox_load_fld t3) (.one rfl) (.one rfl) rfl ?_
            refine Ops.put rfl rfl (ox_eql .tmp .int) ((.app (.one rfl) (.nil))) (.nil) rfl ?_
            refine Ops.put rfl rfl (ox_move .tmp) (.one rfl) (.nil) rfl ?_
            refine Ops.guard rfl rfl rfl rfl (.plain .nil) (fun hG => (ox_fieldAddr_var Call_Kind f33_0)) ⟨rfl, trivial⟩ (.nil) rfl ?_
            refine Ops.guard rfl rfl rfl rfl (.cond (fun h => h) .nil) (fun hG => (ox_load_fld t3)) ⟨rfl, trivial⟩ (.one rfl) rfl ?_
            refine Ops.guard rfl rfl rfl rfl (.cond (fun h => h) .nil) (fun hG => (ox_eql .tmp .int)) ⟨rfl, trivial⟩ (.nil) rfl ?_
            refine Ops.put rfl rfl ox_pick_or (⟨rfl, rfl, trivial⟩) (.nil) rfl ?_
            refine Ops.nil ?_
            refine PT.sub (σ' := ⟨[(1, _), (7, .val ((0 : Int))), (51, .val (((decide (y1_k4.Kind = (1 : Int))) || (decide (y1_k4.Kind = (4 : Int))))))], [(1, .var (y1_k4) [])]⟩) ⟨rfl, rfl, rfl, trivial⟩ ⟨rfl, trivial⟩ ?_
            refine PT.cond _ rfl (fun hc8 => ?_) (fun hc8 => ?_)
            · replace hφ := if_then hφ hc8
              refine PT.sub (σ' := ⟨[(1, _)], [(1, .var (y1_k4) [])]⟩) ⟨rfl, trivial⟩ ⟨rfl, trivial⟩ ?_
              refine PT.region ?_
              refine Ops.put rfl rfl (ox_assign .int) (.nil) (.nil) rfl ?_
              refine Ops.nil ?_
              refine PT.sub (σ' := ⟨[(1, _), (7, .val ((1073741824 : Int)))], [(1, .var (y1_k4) [])]⟩) ⟨rfl, rfl, trivial⟩ ⟨rfl, trivial⟩ ?_
              exact PT.meet ((1073741824 : Int), y1_k4) hφ ⟨rfl, rfl, trivial⟩ ⟨rfl, trivial⟩
            · replace hφ := if_else hφ hc8
              refine PT.sub (σ' := ⟨[(1, _), (7, .val ((0 : Int)))], [(1, .var (y1_k4) [])]⟩) ⟨rfl, rfl, trivial⟩ ⟨rfl, trivial⟩ ?_
              refine PT.skip ?_
              exact PT.meet ((0 : Int), y1_k4) hφ ⟨rfl, rfl, trivial⟩ ⟨rfl, trivial⟩
          · rintro ⟨x7_k7, y1_k7⟩ hφ
            subst hk7
            refine PT.sub (σ' := ⟨[(1, .ptr 1 (Lens.id (α := Mk.Call))), (7, .val (x7_k7))], [(1, .var (y1_k7) [])]⟩) ⟨rfl, rfl, trivial⟩ ⟨rfl, trivial⟩ ?_
            refine PT.seq ?_
            refine PT.seq ?_
            obtain ⟨hb9, hφ⟩ := G_some hφ
            refine PT.region ?_
            refine Ops.put rfl rfl (ox_fieldAddr_var Call_N f33_3) (.one rfl) (.nil) rfl ?_
            refine Ops.put rfl rfl (ox_load_fld t3) (.one rfl) (.one rfl) rfl ?_
            refine Ops.put rfl rfl (ox_move .tmp) (.one rfl) (.nil) rfl ?_
            refine Ops.put rfl rfl (ox_neg .tmp hb9) (.one rfl) (.nil) rfl ?_
            refine Ops.put rfl rfl (ox_lss .tmp .tmp) ((.app (.one rfl) (.one rfl))) (.nil) rfl ?_
            refine Ops.put rfl rfl (ox_move .tmp) (.one rfl) (.nil) rfl ?_
            refine Ops.guard rfl rfl rfl rfl (.plain .nil) (fun hG => (ox_fieldAddr_var Call_N f33_3)) ⟨rfl, trivial⟩ (.nil) rfl ?_
            refine Ops.guard rfl rfl rfl rfl (.cond (fun h => h) .nil) (fun hG => (ox_load_fld t3)) ⟨rfl, trivial⟩ (.one rfl) rfl ?_
            refine Ops.guard rfl rfl rfl rfl (.plain .nil) (fun hG => (ox_move .tmp)) ⟨rfl, trivial⟩ (.nil) rfl ?_
            refine Ops.guard rfl rfl rfl rfl (.cond (fun h => h) (.cond (fun h => h) .nil)) (fun hG => (ox_gtr .tmp .tmp)) ⟨rfl, rfl, trivial⟩ (.nil) rfl ?_
            refine Ops.put rfl rfl ox_pick_or (⟨rfl, rfl, trivial⟩) (.nil) rfl ?_
            refine Ops.nil ?_
            refine PT.sub (σ' := ⟨[(62, .val (((decide (y1_k7.N < (-x7_k7))) || (decide (x7_k7 < y1_k7.N)))))], []⟩) ⟨rfl, trivial⟩ trivial ?_
            refine PT.cond _ rfl (fun hc10 => ?_) (fun hc10 => ?_)
            · replace hφ := if_then hφ hc10
              refine PT.sub (σ' := ⟨[], []⟩) trivial trivial ?_
              refine PT.seq ?_
              refine PT.region ?_
              refine Ops.put rfl rfl (ox_assign .int) (.nil) (.nil) rfl ?_
              refine Ops.nil ?_
              refine PT.sub (σ' := ⟨[(2, .val ((3 : Int)))], []⟩) ⟨rfl, trivial⟩ trivial ?_
              refine PT.ret ?_
              obtain rfl := Option.some.inj hφ
              exact PT.done hw0 rfl (.tmp rfl rfl .nil) rfl
            · replace hφ := if_else hφ hc10
              refine PT.sub (σ' := ⟨[], []⟩) trivial trivial ?_
              refine PT.skip ?_
              refine PT.seq ?_
              refine PT.region ?_
              refine Ops.put rfl rfl (ox_assign .int) (.nil) (.nil) rfl ?_
              refine Ops.nil ?_
              refine PT.sub (σ' := ⟨[(2, .val ((0 : Int)))], []⟩) ⟨rfl, trivial⟩ trivial ?_
              refine PT.ret ?_
              obtain rfl := Option.some.inj hφ
              exact PT.done hw0 rfl (.tmp rfl rfl .nil) rfl
theorem c_mkref1_Of {a0 : List Int} {r : ((List Mk.Write))} (hφ : mkref1_Of a0 = some r) : Fn Go.Proofs.Try.prog 25 [.val a0] (.val r) := by
  unfold mkref1_Of at hφ
  refine Fn.mk' Go.Proofs.Try.func25 rfl (by decide) rfl rfl rfl (fun w0 hw0 => ?_)
  refine PT.seq ?_
  refine PT.region ?_
  refine Ops.put rfl rfl (ox_assign .nilS) (.nil) (.nil) rfl ?_
  refine Ops.nil ?_
  refine PT.sub (σ' := ⟨[(0, .val (a0))], []⟩) ⟨rfl, trivial⟩ trivial ?_
  refine PT.seq ?_
  refine PT.region ?_
  refine Ops.put rfl rfl (ox_assign .nilS) (.nil) (.nil) rfl ?_
  refine Ops.nil ?_
  refine PT.sub (σ' := ⟨[(0, .val (a0)), (3, .nilS)], []⟩) ⟨rfl, rfl, trivial⟩ trivial ?_
  obtain ⟨k1, hk1, hφ⟩ := J_some hφ
  refine PT.cut (ι := (List Mk.Write)) (fun p => ⟨[(3, .sl 1003)], [(1003, .arr 99 (p))]⟩) (fun p => k1 (p) = some r) ?_ ?_
  · skip
    refine PT.seq ?_
    refine PT.region ?_
    refine Ops.put rfl rfl (ox_assign .int) (.nil) (.nil) rfl ?_
    refine Ops.nil ?_
    refine PT.sub (σ' := ⟨[(0, .val (a0)), (3, .nilS), (4, .val ((1 : Int)))], []⟩) ⟨rfl, rfl, rfl, trivial⟩ trivial ?_
    refine PT.block ?_
    refine PT.nilArr 1003 3 99 (Mk.Write) rfl (by kernel_rfl) ?_
    refine PT.loop (ι := Nat × (List Int) × Int × (List Mk.Write)) (fun p => ⟨[(0, .val (p.2.1)), (3, .sl 1003), (4, .val (p.2.2.1))], [(1003, .arr 99 (p.2.2.2))]⟩) (fun p => mkref1_Of_l1 k1 p.1 (p.2.1) (p.2.2.1) (p.2.2.2) = some r) (fun p => p.1) ((((1 : Int) + ((2 : Int) * (ix a0 (0 : Int)))) - (1 : Int)).toNat + 1, a0, (1 : Int), ([] : List Mk.Write)) hφ ⟨rfl, rfl, rfl, trivial⟩ ⟨rfl, trivial⟩ ?_
    rintro ⟨m2, x0_m2, x4_m2, y1003_m2⟩ (hφ : mkref1_Of_l1 k1 m2 x0_m2 x4_m2 y1003_m2 = some r)
    obtain _ | m2 := m2
    · exact (none_no hφ).elim
    rw [mkref1_Of_l1.eq_2] at hφ
    refine PT.sub (σ' := ⟨[(0, .val (x0_m2)), (3, .sl 1003), (4, .val (x4_m2))], [(1003, .arr 99 (y1003_m2))]⟩) ⟨rfl, rfl, rfl, trivial⟩ ⟨rfl, trivial⟩ ?_
    refine PT.seq ?_
    refine PT.seq ?_
    obtain ⟨hb3, hφ⟩ := G_some hφ
    obtain ⟨hb4, hφ⟩ := G_some hφ
    obtain ⟨hb5, hφ⟩ := G_some hφ
    refine PT.region ?_
    refine Ops.put rfl rfl (ox_move .tmp) (.one rfl) (.nil) rfl ?_
    refine Ops.put rfl rfl (ox_move .tmp) (.one rfl) (.nil) rfl ?_
    refine Ops.put rfl rfl (ox_ix s25 .tmp .int hb3.1 hb3.2) ((.app (.one rfl) (.nil))) (.nil) rfl ?_
    refine Ops.put rfl rfl (ox_load_elem t3) (.one rfl) (.nil) rfl ?_
    refine Ops.put rfl rfl (ox_mul .int .tmp hb4) ((.app (.nil) (.one rfl))) (.nil) rfl ?_
    refine Ops.put rfl rfl (ox_add .int .tmp hb5) ((.app (.nil) (.one rfl))) (.nil) rfl ?_
    refine Ops.put rfl rfl (ox_lss .tmp .tmp) ((.app (.one rfl) (.one rfl))) (.nil) rfl ?_
    refine Ops.nil ?_
    refine PT.sub (σ' := ⟨[(0, .val (x0_m2)), (3, _), (4, .val (x4_m2)), (11, .val ((decide (x4_m2 < ((1 : Int) + ((2 : Int) * (ix x0_m2 (0 : Int))))))))], [(1003, .arr 99 (y1003_m2))]⟩) ⟨rfl, rfl, rfl, rfl, trivial⟩ ⟨rfl, trivial⟩ ?_
    refine PT.cond _ rfl (fun hc6 => ?_) (fun hc6 => ?_)
    · replace hφ := if_then hφ hc6
      refine PT.sub (σ' := ⟨[(0, .val (x0_m2)), (3, _), (4, .val (x4_m2))], [(1003, .arr 99 (y1003_m2))]⟩) ⟨rfl, rfl, rfl, trivial⟩ ⟨rfl, trivial⟩ ?_
      refine PT.skip ?_
      refine PT.seq ?_
      refine PT.block ?_
      obtain ⟨hb7, hφ⟩ := G_some hφ
      obtain ⟨hb8, hφ⟩ := G_some hφ
      obtain ⟨hb9, hφ⟩ := G_some hφ
      obtain ⟨hb10, hφ⟩ := G_some hφ
      refine PT.draw hMixed (
          Segs.cons (Step.put rfl rfl (ox_move .tmp)) ⟨.one rfl, .nil⟩ (by kernel_rfl) rfl <|
          Segs.cons (Step.put rfl rfl (ox_move .tmp)) ⟨.one rfl, .nil⟩ (by kernel_rfl) rfl <|
          Segs.cons (Step.put rfl rfl (ox_move .tmp)) ⟨.one rfl, .nil⟩ (by kernel_rfl) rfl <|
          Segs.cons (Step.put rfl rfl (ox_ix s25 .tmp .tmp hb7.1 hb7.2)) ⟨(.app (.one rfl) (.one rfl)), .nil⟩ (by kernel_rfl) rfl <|
          Segs.cons (Step.put rfl rfl (ox_load_elem t3)) ⟨.one rfl, .nil⟩ (by kernel_rfl) rfl <|
          Segs.cons (Step.put rfl rfl (ox_move .tmp)) ⟨.one rfl, .nil⟩ (by kernel_rfl) rfl <|
          Segs.cons (Step.put rfl rfl (ox_move .tmp)) ⟨.one rfl, .nil⟩ (by kernel_rfl) rfl <|
          Segs.cons (Step.put rfl rfl (ox_add .tmp .int hb8)) ⟨(.app (.one rfl) (.nil)), .nil⟩ (by kernel_rfl) rfl <|
          Segs.cons (Step.put rfl rfl (ox_ix s25 .tmp .tmp hb9.1 hb9.2)) ⟨(.app (.one rfl) (.one rfl)), .nil⟩ (by kernel_rfl) rfl <|
          Segs.cons (Step.put rfl rfl (ox_load_elem t3)) ⟨.one rfl, .nil⟩ (by kernel_rfl) rfl <|
          Segs.cons (Step.put rfl rfl (ox_buildB z99 u99 rfl (.cons Write_At f99_0 .tmp (.cons Write_N f99_1 .tmp Bld.nil)))) ⟨(.app (.one rfl) (.app (.one rfl) .nil)), .nil⟩ (by kernel_rfl) rfl <|
          Segs.cons (Step.put rfl rfl (ox_buildSlice_val s26 z99 (.cons .tmp Parts.nil) rfl (by decide))) ⟨(.app (.one rfl) .nil), .nil⟩ (by kernel_rfl) rfl <|
          Segs.cons (Step.putK [3, 14] rfl rfl (ox_append a26 .tmp .tmp hb10.1 hb10.2)) ⟨(.app (.one rfl) (.one rfl)), .one rfl⟩ (by kernel_rfl) rfl <|
          Segs.cons (Step.put rfl rfl (ox_assign .tmp)) ⟨.one rfl, .nil⟩ (by kernel_rfl) rfl <|
          Segs.nil) _ [[], [], [], [1, 2], [1, 2, 3], [], [], [6], [5, 6, 7], [5, 6, 7, 8], [1, 2, 3, 4, 5, 6, 7, 8, 9], [1, 2, 3, 4, 5, 6, 7, 8, 9, 10], [0, 1, 2, 3, 4, 5, 6, 7, 8, 9, 10, 11], [0, 1, 2, 3, 4, 5, 6, 7, 8, 9, 10, 11, 12]] rfl (by kernel_rfl) (by kernel_rfl) ?_
      refine PT.sub (σ' := ⟨[(0, .val (x0_m2)), (3, _), (4, .val (x4_m2))], [(1003, .arr 99 ((y1003_m2 ++ ([({ At := (ix x0_m2 x4_m2), N := (ix x0_m2 (x4_m2 + (1 : Int))) } : Mk.Write)] : List Mk.Write))))]⟩) ⟨rfl, rfl, rfl, trivial⟩ ⟨rfl, trivial⟩ ?_
      obtain ⟨hb11, hφ⟩ := G_some hφ
      refine PT.region ?_
      refine Ops.put rfl rfl (ox_move .tmp) (.one rfl) (.nil) rfl ?_
      refine Ops.put rfl rfl (ox_add .tmp .int hb11) ((.app (.one rfl) (.nil))) (.nil) rfl ?_
      refine Ops.put rfl rfl (ox_assign .tmp) (.one rfl) (.nil) rfl ?_
      refine Ops.nil ?_
      refine PT.sub (σ' := ⟨[(0, .val (x0_m2)), (3, _), (4, .val ((x4_m2 + (2 : Int))))], [(1003, .arr 99 ((y1003_m2 ++ ([({ At := (ix x0_m2 x4_m2), N := (ix x0_m2 (x4_m2 + (1 : Int))) } : Mk.Write)] : List Mk.Write))))]⟩) ⟨rfl, rfl, rfl, trivial⟩ ⟨rfl, trivial⟩ ?_
      exact PT.next (m2, x0_m2, (x4_m2 + (2 : Int)), (y1003_m2 ++ ([({ At := (ix x0_m2 x4_m2), N := (ix x0_m2 (x4_m2 + (1 : Int))) } : Mk.Write)] : List Mk.Write))) hφ (Nat.lt_succ_self _) ⟨rfl, rfl, rfl, trivial⟩ ⟨rfl, trivial⟩
    · replace hφ := if_else hφ hc6
      refine PT.sub (σ' := ⟨[(3, _)], [(1003, .arr 99 (y1003_m2))]⟩) ⟨rfl, trivial⟩ ⟨rfl, trivial⟩ ?_
      refine PT.exit ?_
      exact PT.meet (y1003_m2) hφ ⟨rfl, trivial⟩ ⟨rfl, trivial⟩
  · rintro y1003_k1 hφ
    subst hk1
    refine PT.sub (σ' := ⟨[(3, .sl 1003)], [(1003, .arr 99 (y1003_k1))]⟩) ⟨rfl, trivial⟩ ⟨rfl, trivial⟩ ?_
    refine PT.seq ?_
    refine PT.region ?_
    refine Ops.put rfl rfl (ox_move .tmp) (.one rfl) (.nil) rfl ?_
    refine Ops.put rfl rfl (ox_assign .tmp) (.one rfl) (.nil) rfl ?_
    refine Ops.nil ?_
    refine PT.sub (σ' := ⟨[(2, _)], [(1003, .arr 99 (y1003_k1))]⟩) ⟨rfl, trivial⟩ ⟨rfl, trivial⟩ ?_
    refine PT.ret ?_
    refine PT.freeze 1003 [2] rfl ⟨rfl, trivial⟩ ?_
    obtain rfl := Option.some.inj hφ
    exact PT.done hw0 rfl (.tmp rfl rfl .nil) rfl
theorem c_mkref1_get {a0 : List Mk.Write} {a1 : Int} {r : (Int × Bool)} (hφ : mkref1_get a0 a1 = some r) : Fn Go.Proofs.Try.prog 76 [.val a0, .val a1] (.tup [.val r.1, .val r.2]) := by
  unfold mkref1_get at hφ
  refine Fn.mk' Go.Proofs.Try.func76 rfl (by decide) rfl rfl rfl (fun w0 hw0 => ?_)
  refine PT.seq ?_
  refine PT.region ?_
  refine Ops.put rfl rfl (ox_assign .int) (.nil) (.nil) rfl ?_
  refine Ops.put rfl rfl (ox_assign .bool) (.nil) (.nil) rfl ?_
  refine Ops.nil ?_
  refine PT.sub (σ' := ⟨[(0, .val (a0)), (1, .val (a1))], []⟩) ⟨rfl, rfl, trivial⟩ trivial ?_
  obtain ⟨k1, hk1, hφ⟩ := J_some hφ
  refine PT.cut (ι := Unit) (fun p => ⟨[], []⟩) (fun p => k1 () = some r) ?_ ?_
  · skip
    refine PT.seq ?_
    refine PT.region ?_
    refine Ops.put rfl rfl (ox_move .tmp) (.one rfl) (.nil) rfl ?_
    refine Ops.put rfl rfl (ox_len s26 .tmp) (.one rfl) (.nil) rfl ?_
    refine Ops.put rfl rfl (ox_move .int) (.nil) (.nil) rfl ?_
    refine Ops.nil ?_
    refine PT.sub (σ' := ⟨[(1, .val (a1)), (8, .val (a0)), (9, .val ((a0.length : Int))), (10, .val ((0 : Int)))], []⟩) ⟨rfl, rfl, rfl, rfl, trivial⟩ trivial ?_
    refine PT.block ?_
    refine PT.loop (ι := Nat × Int × (List Mk.Write) × Int × Int) (fun p => ⟨[(1, .val (p.2.1)), (8, .val (p.2.2.1)), (9, .val (p.2.2.2.1)), (10, .val (p.2.2.2.2))], []⟩) (fun p => mkref1_get_l1 k1 p.1 (p.2.1) (p.2.2.1) (p.2.2.2.1) (p.2.2.2.2) = some r) (fun p => p.1) (((a0.length : Int) - (0 : Int)).toNat + 1, a1, a0, (a0.length : Int), (0 : Int)) hφ ⟨rfl, rfl, rfl, rfl, trivial⟩ trivial ?_
    rintro ⟨m2, x1_m2, x8_m2, x9_m2, x10_m2⟩ (hφ : mkref1_get_l1 k1 m2 x1_m2 x8_m2 x9_m2 x10_m2 = some r)
    obtain _ | m2 := m2
    · exact (none_no hφ).elim
    rw [mkref1_get_l1.eq_2] at hφ
    refine PT.sub (σ' := ⟨[(1, .val (x1_m2)), (8, .val (x8_m2)), (9, .val (x9_m2)), (10, .val (x10_m2))], []⟩) ⟨rfl, rfl, rfl, rfl, trivial⟩ trivial ?_
    refine PT.seq ?_
    refine PT.region ?_
    refine Ops.put rfl rfl (ox_lss .tmp .tmp) ((.app (.one rfl) (.one rfl))) (.nil) rfl ?_
    refine Ops.nil ?_
    refine PT.sub (σ' := ⟨[(1, .val (x1_m2)), (8, .val (x8_m2)), (9, .val (x9_m2)), (10, .val (x10_m2)), (11, .val ((decide (x10_m2 < x9_m2))))], []⟩) ⟨rfl, rfl, rfl, rfl, rfl, trivial⟩ trivial ?_
    refine PT.seq ?_
    refine PT.cond _ rfl (fun hc3 => ?_) (fun hc3 => ?_)
    · replace hφ := if_then hφ hc3
      refine PT.sub (σ' := ⟨[(1, .val (x1_m2)), (8, .val (x8_m2)), (9, .val (x9_m2)), (10, .val (x10_m2))], []⟩) ⟨rfl, rfl, rfl, rfl, trivial⟩ trivial ?_
      refine PT.skip ?_
      refine PT.seq ?_
      refine PT.block ?_
      refine PT.seq ?_
      obtain ⟨hb4, hφ⟩ := G_some hφ
      refine PT.region ?_
      refine Ops.put rfl rfl (ox_ix s26 .tmp .tmp hb4.1 hb4.2) ((.app (.one rfl) (.one rfl))) (.nil) rfl ?_
      refine Ops.put rfl rfl (ox_load_elem t99) (.one rfl) (.nil) rfl ?_
      refine Ops.putO rfl rfl (ox_alloc (id := 7) z99) (.nil) (.nil) rfl (by kernel_rfl) ?_
      refine Ops.mute rfl rfl (ox_store_var t99 .tmp) ((.cons rfl (.one rfl))) (.one rfl) ?_
      refine Ops.nil ?_
      refine PT.sub (σ' := ⟨[(1, .val (x1_m2)), (7, _), (8, .val (x8_m2)), (9, .val (x9_m2)), (10, .val (x10_m2))], [(7, .var ((ix x8_m2 x10_m2)) [])]⟩) ⟨rfl, rfl, rfl, rfl, rfl, trivial⟩ ⟨rfl, trivial⟩ ?_
      refine PT.seq ?_
      refine PT.region ?_
      refine Ops.put rfl rfl (ox_fieldAddr_var Write_At f99_0) (.one rfl) (.nil) rfl ?_
      refine Ops.put rfl rfl (ox_load_fld t3) (.one rfl) (.one rfl) rfl ?_
      refine Ops.put rfl rfl (ox_move .tmp) (.one rfl) (.nil) rfl ?_
      refine Ops.put rfl rfl (ox_eql .tmp .tmp) ((.app (.one rfl) (.one rfl))) (.nil) rfl ?_
      refine Ops.nil ?_
      refine PT.sub (σ' := ⟨[(1, .val (x1_m2)), (7, _), (8, .val (x8_m2)), (9, .val (x9_m2)), (10, .val (x10_m2)), (17, .val ((decide ((ix x8_m2 x10_m2).At = x1_m2))))], [(7, .var ((ix x8_m2 x10_m2)) [])]⟩) ⟨rfl, rfl, rfl, rfl, rfl, rfl, trivial⟩ ⟨rfl, trivial⟩ ?_
      refine PT.cond _ rfl (fun hc5 => ?_) (fun hc5 => ?_)
      · replace hφ := if_then hφ hc5
        refine PT.sub (σ' := ⟨[(7, _)], [(7, .var ((ix x8_m2 x10_m2)) [])]⟩) ⟨rfl, trivial⟩ ⟨rfl, trivial⟩ ?_
        refine PT.seq ?_
        refine PT.region ?_
        refine Ops.put rfl rfl (ox_fieldAddr_var Write_N f99_1) (.one rfl) (.nil) rfl ?_
        refine Ops.put rfl rfl (ox_load_fld t3) (.one rfl) (.one rfl) rfl ?_
        refine Ops.put rfl rfl (ox_assign .tmp) (.one rfl) (.nil) rfl ?_
        refine Ops.put rfl rfl (ox_assign .bool) (.nil) (.nil) rfl ?_
        refine Ops.nil ?_
        refine PT.sub (σ' := ⟨[(4, .val ((ix x8_m2 x10_m2).N)), (5, .val (true))], []⟩) ⟨rfl, rfl, trivial⟩ trivial ?_
        refine PT.ret ?_
        obtain rfl := Option.some.inj hφ
        exact PT.done hw0 rfl (.tmp rfl rfl (.tmp rfl rfl .nil)) rfl
      · replace hφ := if_else hφ hc5
        refine PT.sub (σ' := ⟨[(1, .val (x1_m2)), (8, .val (x8_m2)), (9, .val (x9_m2)), (10, .val (x10_m2))], []⟩) ⟨rfl, rfl, rfl, rfl, trivial⟩ trivial ?_
        refine PT.skip ?_
        obtain ⟨hb6, hφ⟩ := G_some hφ
        refine PT.region ?_
        refine Ops.put rfl rfl (ox_add .tmp .int hb6) ((.app (.one rfl) (.nil))) (.nil) rfl ?_
        refine Ops.put rfl rfl (ox_move .tmp) (.one rfl) (.nil) rfl ?_
        refine Ops.nil ?_
        refine PT.sub (σ' := ⟨[(1, .val (x1_m2)), (8, .val (x8_m2)), (9, .val (x9_m2)), (10, .val ((x10_m2 + (1 : Int))))], []⟩) ⟨rfl, rfl, rfl, rfl, trivial⟩ trivial ?_
        exact PT.next (m2, x1_m2, x8_m2, x9_m2, (x10_m2 + (1 : Int))) hφ (Nat.lt_succ_self _) ⟨rfl, rfl, rfl, rfl, trivial⟩ trivial
    · replace hφ := if_else hφ hc3
      refine PT.sub (σ' := ⟨[], []⟩) trivial trivial ?_
      refine PT.exit ?_
      exact PT.meet () hφ trivial trivial
  · rintro ⟨⟩ hφ
    subst hk1
    refine PT.sub (σ' := ⟨[], []⟩) trivial trivial ?_
    refine PT.seq ?_
    refine PT.region ?_
    refine Ops.put rfl rfl (ox_assign .int) (.nil) (.nil) rfl ?_
    refine Ops.put rfl rfl (ox_assign .bool) (.nil) (.nil) rfl ?_
    refine Ops.nil ?_
    refine PT.sub (σ' := ⟨[(4, .val ((0 : Int))), (5, .val (false))], []⟩) ⟨rfl, rfl, trivial⟩ trivial ?_
    refine PT.ret ?_
    obtain rfl := Option.some.inj hφ
    exact PT.done hw0 rfl (.tmp rfl rfl (.tmp rfl rfl .nil)) rfl
theorem c_mkref1_Do_1 {a0 : Int} {a1 : List Mk.Write} {r : ((List Mk.Write) × Mk.Reply)} (hφ : mkref1_Do_1 a0 a1 = some r) : Fn Go.Proofs.Try.prog 77 [.val a0, .elem a1] (.tup [.val r.1, .val r.2]) := by
  unfold mkref1_Do_1 at hφ
  refine Fn.mk' Go.Proofs.Try.func77 rfl (by decide) rfl rfl rfl (fun w0 hw0 => ?_)
  refine PT.seq ?_
  refine PT.region ?_
  refine Ops.put rfl rfl (ox_assign .nilS) (.nil) (.nil) rfl ?_
  refine Ops.putO rfl rfl (ox_alloc (id := 4) z38) (.nil) (.nil) rfl (by kernel_rfl) ?_
  refine Ops.nil ?_
  refine PT.sub (σ' := ⟨[(0, .val (a0)), (1, .elem (a1)), (4, _)], [(4, .var (({ Err := (0 : Int), N := (0 : Int) } : Mk.Reply)) [])]⟩) ⟨rfl, rfl, rfl, trivial⟩ ⟨rfl, trivial⟩ ?_
  refine PT.seq ?_
  refine PT.region ?_
  refine Ops.put rfl rfl (ox_load_elem t26) (.one rfl) (.nil) rfl ?_
  refine Ops.put rfl rfl (ox_move .tmp) (.one rfl) (.nil) rfl ?_
  refine Ops.put rfl rfl (ox_buildB z38 u38 rfl (.cons Reply_Err f38_0 .tmp Bld.nil)) ((.app (.one rfl) .nil)) (.nil) rfl ?_
  refine Ops.put rfl rfl (ox_assign .tmp) (.one rfl) (.nil) rfl ?_
  refine Ops.mute rfl rfl (ox_store_var t38 .tmp) ((.cons rfl (.one rfl))) (.one rfl) ?_
  refine Ops.nil ?_
  refine PT.sub (σ' := ⟨[(3, .val (a1)), (4, _)], [(4, .var (({ Err := a0, N := (0 : Int) } : Mk.Reply)) [])]⟩) ⟨rfl, rfl, trivial⟩ ⟨rfl, trivial⟩ ?_
  refine PT.ret ?_
  obtain rfl := Option.some.inj hφ
  exact PT.done hw0 rfl (.tmp rfl rfl (.cell t38 rfl rfl .nil)) rfl
theorem c_mkref1_set {a0 : List Mk.Write} {a1 : Int} {a2 : Int} {r : ((List Mk.Write))} (hφ : mkref1_set a0 a1 a2 = some r) : Fn Go.Proofs.Try.prog 78 [.val a0, .val a1, .val a2] (.val r) := by
  unfold mkref1_set at hφ
  refine Fn.mk' Go.Proofs.Try.func78 rfl (by decide) rfl rfl rfl (fun w0 hw0 => ?_)
  refine PT.seq ?_
  refine PT.region ?_
  refine Ops.put rfl rfl (ox_assign .nilS) (.nil) (.nil) rfl ?_
  refine Ops.nil ?_
  refine PT.sub (σ' := ⟨[(0, .val (a0)), (1, .val (a1)), (2, .val (a2))], []⟩) ⟨rfl, rfl, rfl, trivial⟩ trivial ?_
  refine PT.seq ?_
  refine PT.region ?_
  refine Ops.put rfl rfl (ox_assign .nilS) (.nil) (.nil) rfl ?_
  refine Ops.nil ?_
  refine PT.sub (σ' := ⟨[(0, .val (a0)), (1, .val (a1)), (2, .val (a2)), (7, .nilS)], []⟩) ⟨rfl, rfl, rfl, rfl, trivial⟩ trivial ?_
  refine PT.seq ?_
  refine PT.region ?_
  refine Ops.put rfl rfl (ox_assign .bool) (.nil) (.nil) rfl ?_
  refine Ops.nil ?_
  refine PT.sub (σ' := ⟨[(0, .val (a0)), (1, .val (a1)), (2, .val (a2)), (7, .nilS), (8, .val (false))], []⟩) ⟨rfl, rfl, rfl, rfl, rfl, trivial⟩ trivial ?_
  obtain ⟨k1, hk1, hφ⟩ := J_some hφ
  refine PT.cut (ι := Int × Int × Bool × (List Mk.Write)) (fun p => ⟨[(1, .val (p.1)), (2, .val (p.2.1)), (7, .sl 1007), (8, .val (p.2.2.1))], [(1007, .arr 99 (p.2.2.2))]⟩) (fun p => k1 (p.1) (p.2.1) (p.2.2.1) (p.2.2.2) = some r) ?_ ?_
  · skip
    refine PT.seq ?_
    refine PT.region ?_
    refine Ops.put rfl rfl (ox_move .tmp) (.one rfl) (.nil) rfl ?_
    refine Ops.put rfl rfl (ox_len s26 .tmp) (.one rfl) (.nil) rfl ?_
    refine Ops.put rfl rfl (ox_move .int) (.nil) (.nil) rfl ?_
    refine Ops.nil ?_
    refine PT.sub (σ' := ⟨[(1, .val (a1)), (2, .val (a2)), (7, .nilS), (8, .val (false)), (11, .val (a0)), (12, .val ((a0.length : Int))), (13, .val ((0 : Int)))], []⟩) ⟨rfl, rfl, rfl, rfl, rfl, rfl, rfl, trivial⟩ trivial ?_
    refine PT.block ?_
    refine PT.nilArr 1007 7 99 (Mk.Write) rfl (by kernel_rfl) ?_
    refine PT.loop (ι := Nat × Int × Int × Bool × (List Mk.Write) × Int × Int × (List Mk.Write)) (fun p => ⟨[(1, .val (p.2.1)), (2, .val (p.2.2.1)), (7, .sl 1007), (8, .val (p.2.2.2.1)), (11, .val (p.2.2.2.2.1)), (12, .val (p.2.2.2.2.2.1)), (13, .val (p.2.2.2.2.2.2.1))], [(1007, .arr 99 (p.2.2.2.2.2.2.2))]⟩) (fun p => mkref1_set_l1 k1 p.1 (p.2.1) (p.2.2.1) (p.2.2.2.1) (p.2.2.2.2.1) (p.2.2.2.2.2.1) (p.2.2.2.2.2.2.1) (p.2.2.2.2.2.2.2) = some r) (fun p => p.1) (((a0.length : Int) - (0 : Int)).toNat + 1, a1, a2, false, a0, (a0.length : Int), (0 : Int), ([] : List Mk.Write)) hφ ⟨rfl, rfl, rfl, rfl, rfl, rfl, rfl, trivial⟩ ⟨rfl, trivial⟩ ?_
    rintro ⟨m2, x1_m2, x2_m2, x8_m2, x11_m2, x12_m2, x13_m2, y1007_m2⟩ (hφ : mkref1_set_l1 k1 m2 x1_m2 x2_m2 x8_m2 x11_m2 x12_m2 x13_m2 y1007_m2 = some r)
    obtain _ | m2 := m2
    · exact (none_no hφ).elim
    rw [mkref1_set_l1.eq_2] at hφ
    refine PT.sub (σ' := ⟨[(1, .val (x1_m2)), (2, .val (x2_m2)), (7, .sl 1007), (8, .val (x8_m2)), (11, .val (x11_m2)), (12, .val (x12_m2)), (13, .val (x13_m2))], [(1007, .arr 99 (y1007_m2))]⟩) ⟨rfl, rfl, rfl, rfl, rfl, rfl, rfl, trivial⟩ ⟨rfl, trivial⟩ ?_
    refine PT.seq ?_
    refine PT.region ?_
    refine Ops.put rfl rfl (ox_lss .tmp .tmp) ((.app (.one rfl) (.one rfl))) (.nil) rfl ?_
    refine Ops.nil ?_
    refine PT.sub (σ' := ⟨[(1, .val (x1_m2)), (2, .val (x2_m2)), (7, _), (8, .val (x8_m2)), (11, .val (x11_m2)), (12, .val (x12_m2)), (13, .val (x13_m2)), (14, .val ((decide (x13_m2 < x12_m2))))], [(1007, .arr 99 (y1007_m2))]⟩) ⟨rfl, rfl, rfl, rfl, rfl, rfl, rfl, rfl, trivial⟩ ⟨rfl, trivial⟩ ?_
    refine PT.seq ?_
    refine PT.cond _ rfl (fun hc3 => ?_) (fun hc3 => ?_)
    · replace hφ := if_then hφ hc3
      refine PT.sub (σ' := ⟨[(1, .val (x1_m2)), (2, .val (x2_m2)), (7, _), (8, .val (x8_m2)), (11, .val (x11_m2)), (12, .val (x12_m2)), (13, .val (x13_m2))], [(1007, .arr 99 (y1007_m2))]⟩) ⟨rfl, rfl, rfl, rfl, rfl, rfl, rfl, trivial⟩ ⟨rfl, trivial⟩ ?_
      refine PT.skip ?_
      refine PT.seq ?_
      refine PT.block ?_
      refine PT.seq ?_
      obtain ⟨hb4, hφ⟩ := G_some hφ
      refine PT.region ?_
      refine Ops.put rfl rfl (ox_ix s26 .tmp .tmp hb4.1 hb4.2) ((.app (.one rfl) (.one rfl))) (.nil) rfl ?_
      refine Ops.put rfl rfl (ox_load_elem t99) (.one rfl) (.nil) rfl ?_
      refine Ops.putO rfl rfl (ox_alloc (id := 10) z99) (.nil) (.nil) rfl (by kernel_rfl) ?_
      refine Ops.mute rfl rfl (ox_store_var t99 .tmp) ((.cons rfl (.one rfl))) (.one rfl) ?_
      refine Ops.nil ?_
      refine PT.sub (σ' := ⟨[(1, .val (x1_m2)), (2, .val (x2_m2)), (7, _), (8, .val (x8_m2)), (10, _), (11, .val (x11_m2)), (12, .val (x12_m2)), (13, .val (x13_m2))], [(10, .var ((ix x11_m2 x13_m2)) []), (1007, .arr 99 (y1007_m2))]⟩) ⟨rfl, rfl, rfl, rfl, rfl, rfl, rfl, rfl, trivial⟩ ⟨rfl, rfl, trivial⟩ ?_
      obtain ⟨k5, hk5, hφ⟩ := J_some hφ
      refine PT.cut (ι := Int × Int × Bool × (List Mk.Write) × Int × Int × Mk.Write × (List Mk.Write)) (fun p => ⟨[(1, .val (p.1)), (2, .val (p.2.1)), (7, .sl 1007), (8, .val (p.2.2.1)), (10, .ptr 10 (Lens.id (α := Mk.Write))), (11, .val (p.2.2.2.1)), (12, .val (p.2.2.2.2.1)), (13, .val (p.2.2.2.2.2.1))], [(10, .var (p.2.2.2.2.2.2.1) []), (1007, .arr 99 (p.2.2.2.2.2.2.2))]⟩) (fun p => k5 (p.1) (p.2.1) (p.2.2.1) (p.2.2.2.1) (p.2.2.2.2.1) (p.2.2.2.2.2.1) (p.2.2.2.2.2.2.1) (p.2.2.2.2.2.2.2) = some r) ?_ ?_
      · skip
        refine PT.seq ?_
        refine PT.region ?_
        refine Ops.put rfl rfl (ox_fieldAddr_var Write_At f99_0) (.one rfl) (.nil) rfl ?_
        refine Ops.put rfl rfl (ox_load_fld t3) (.one rfl) (.one rfl) rfl ?_
        refine Ops.put rfl rfl (ox_move .tmp) (.one rfl) (.nil) rfl ?_
        refine Ops.put rfl rfl (ox_eql .tmp .tmp) ((.app (.one rfl) (.one rfl))) (.nil) rfl ?_
        refine Ops.nil ?_
        refine PT.sub (σ' := ⟨[(1, .val (x1_m2)), (2, .val (x2_m2)), (7, _), (8, .val (x8_m2)), (10, _), (11, .val (x11_m2)), (12, .val (x12_m2)), (13, .val (x13_m2)), (20, .val ((decide ((ix x11_m2 x13_m2).At = x1_m2))))], [(10, .var ((ix x11_m2 x13_m2)) []), (1007, .arr 99 (y1007_m2))]⟩) ⟨rfl, rfl, rfl, rfl, rfl, rfl, rfl, rfl, rfl, trivial⟩ ⟨rfl, rfl, trivial⟩ ?_
        refine PT.cond _ rfl (fun hc6 => ?_) (fun hc6 => ?_)
        · replace hφ := if_then hφ hc6
          refine PT.sub (σ' := ⟨[(1, .val (x1_m2)), (2, .val (x2_m2)), (7, _), (10, _), (11, .val (x11_m2)), (12, .val (x12_m2)), (13, .val (x13_m2))], [(10, .var ((ix x11_m2 x13_m2)) []), (1007, .arr 99 (y1007_m2))]⟩) ⟨rfl, rfl, rfl, rfl, rfl, rfl, rfl, trivial⟩ ⟨rfl, rfl, trivial⟩ ?_
          refine PT.seq ?_
          refine PT.region ?_
          refine Ops.put rfl rfl (ox_move .tmp) (.one rfl) (.nil) rfl ?_
          refine Ops.put rfl rfl (ox_fieldAddr_var Write_N f99_1) (.one rfl) (.nil) rfl ?_
          refine Ops.mute rfl rfl (ox_store_fld t3 .tmp) ((.cons rfl (.one rfl))) (.one rfl) ?_
          refine Ops.nil ?_
          refine PT.sub (σ' := ⟨[(1, .val (x1_m2)), (2, .val (x2_m2)), (7, _), (10, _), (11, .val (x11_m2)), (12, .val (x12_m2)), (13, .val (x13_m2))], [(10, .var ({ (ix x11_m2 x13_m2) with N := x2_m2 }) []), (1007, .arr 99 (y1007_m2))]⟩) ⟨rfl, rfl, rfl, rfl, rfl, rfl, rfl, trivial⟩ ⟨rfl, rfl, trivial⟩ ?_
          refine PT.region ?_
          refine Ops.put rfl rfl (ox_assign .bool) (.nil) (.nil) rfl ?_
          refine Ops.nil ?_
          refine PT.sub (σ' := ⟨[(1, .val (x1_m2)), (2, .val (x2_m2)), (7, _), (8, .val (true)), (10, _), (11, .val (x11_m2)), (12, .val (x12_m2)), (13, .val (x13_m2))], [(10, .var ({ (ix x11_m2 x13_m2) with N := x2_m2 }) []), (1007, .arr 99 (y1007_m2))]⟩) ⟨rfl, rfl, rfl, rfl, rfl, rfl, rfl, rfl, trivial⟩ ⟨rfl, rfl, trivial⟩ ?_
          exact PT.meet (x1_m2, x2_m2, true, x11_m2, x12_m2, x13_m2, { (ix x11_m2 x13_m2) with N := x2_m2 }, y1007_m2) hφ ⟨rfl, rfl, rfl, rfl, rfl, rfl, rfl, rfl, trivial⟩ ⟨rfl, rfl, trivial⟩
        · replace hφ := if_else hφ hc6
          refine PT.sub (σ' := ⟨[(1, .val (x1_m2)), (2, .val (x2_m2)), (7, _), (8, .val (x8_m2)), (10, _), (11, .val (x11_m2)), (12, .val (x12_m2)), (13, .val (x13_m2))], [(10, .var ((ix x11_m2 x13_m2)) []), (1007, .arr 99 (y1007_m2))]⟩) ⟨rfl, rfl, rfl, rfl, rfl, rfl, rfl, rfl, trivial⟩ ⟨rfl, rfl, trivial⟩ ?_
          refine PT.skip ?_
          exact PT.meet (x1_m2, x2_m2, x8_m2, x11_m2, x12_m2, x13_m2, (ix x11_m2 x13_m2), y1007_m2) hφ ⟨rfl, rfl, rfl, rfl, rfl, rfl, rfl, rfl, trivial⟩ ⟨rfl, rfl, trivial⟩
      · rintro ⟨x1_k5, x2_k5, x8_k5, x11_k5, x12_k5, x13_k5, y10_k5, y1007_k5⟩ hφ
        subst hk5
        refine PT.sub (σ' := ⟨[(1, .val (x1_k5)), (2, .val (x2_k5)), (7, .sl 1007), (8, .val (x8_k5)), (10, .ptr 10 (Lens.id (α := Mk.Write))), (11, .val (x11_k5)), (12, .val (x12_k5)), (13, .val (x13_k5))], [(10, .var (y10_k5) []), (1007, .arr 99 (y1007_k5))]⟩) ⟨rfl, rfl, rfl, rfl, rfl, rfl, rfl, rfl, trivial⟩ ⟨rfl, rfl, trivial⟩ ?_
        obtain ⟨hb7, hφ⟩ := G_some hφ
        refine PT.region ?_
        refine Ops.put rfl rfl (ox_move .tmp) (.one rfl) (.nil) rfl ?_
        refine Ops.put rfl rfl (ox_load_var t99) (.one rfl) (.one rfl) rfl ?_
        refine Ops.put rfl rfl (ox_buildSlice_val s26 z99 (.cons .tmp Parts.nil) rfl (by decide)) ((.app (.one rfl) .nil)) (.nil) rfl ?_
        refine Ops.putK [7, 23] rfl rfl (ox_append a26 .tmp .tmp hb7.1 hb7.2) ((.app (.one rfl) (.one rfl))) (.one rfl) rfl (by kernel_rfl) ?_
        refine Ops.put rfl rfl (ox_assign .tmp) (.one rfl) (.nil) rfl ?_
        refine Ops.nil ?_
        refine PT.sub (σ' := ⟨[(1, .val (x1_k5)), (2, .val (x2_k5)), (7, _), (8, .val (x8_k5)), (11, .val (x11_k5)), (12, .val (x12_k5)), (13, .val (x13_k5))], [(1007, .arr 99 ((y1007_k5 ++ ([y10_k5] : List Mk.Write))))]⟩) ⟨rfl, rfl, rfl, rfl, rfl, rfl, rfl, trivial⟩ ⟨rfl, trivial⟩ ?_
        obtain ⟨hb8, hφ⟩ := G_some hφ
        refine PT.region ?_
        refine Ops.put rfl rfl (ox_add .tmp .int hb8) ((.app (.one rfl) (.nil))) (.nil) rfl ?_
        refine Ops.put rfl rfl (ox_move .tmp) (.one rfl) (.nil) rfl ?_
        refine Ops.nil ?_
        refine PT.sub (σ' := ⟨[(1, .val (x1_k5)), (2, .val (x2_k5)), (7, _), (8, .val (x8_k5)), (11, .val (x11_k5)), (12, .val (x12_k5)), (13, .val ((x13_k5 + (1 : Int))))], [(1007, .arr 99 ((y1007_k5 ++ ([y10_k5] : List Mk.Write))))]⟩) ⟨rfl, rfl, rfl, rfl, rfl, rfl, rfl, trivial⟩ ⟨rfl, trivial⟩ ?_
        exact PT.next (m2, x1_k5, x2_k5, x8_k5, x11_k5, x12_k5, (x13_k5 + (1 : Int)), (y1007_k5 ++ ([y10_k5] : List Mk.Write))) hφ (Nat.lt_succ_self _) ⟨rfl, rfl, rfl, rfl, rfl, rfl, rfl, trivial⟩ ⟨rfl, trivial⟩
    · replace hφ := if_else hφ hc3
      refine PT.sub (σ' := ⟨[(1, .val (x1_m2)), (2, .val (x2_m2)), (7, _), (8, .val (x8_m2))], [(1007, .arr 99 (y1007_m2))]⟩) ⟨rfl, rfl, rfl, rfl, trivial⟩ ⟨rfl, trivial⟩ ?_
      refine PT.exit ?_
      exact PT.meet (x1_m2, x2_m2, x8_m2, y1007_m2) hφ ⟨rfl, rfl, rfl, rfl, trivial⟩ ⟨rfl, trivial⟩
  · rintro ⟨x1_k1, x2_k1, x8_k1, y1007_k1⟩ hφ
    subst hk1
    refine PT.sub (σ' := ⟨[(1, .val (x1_k1)), (2, .val (x2_k1)), (7, .sl 1007), (8, .val (x8_k1))], [(1007, .arr 99 (y1007_k1))]⟩) ⟨rfl, rfl, rfl, rfl, trivial⟩ ⟨rfl, trivial⟩ ?_
    obtain ⟨k9, hk9, hφ⟩ := J_some hφ
    refine PT.cut (ι := (List Mk.Write)) (fun p => ⟨[(7, .sl 1007)], [(1007, .arr 99 (p))]⟩) (fun p => k9 (p) = some r) ?_ ?_
    · skip
      refine PT.seq ?_
      refine PT.region ?_
      refine Ops.put rfl rfl (ox_move .tmp) (.one rfl) (.nil) rfl ?_
      refine Ops.put rfl rfl (ox_not .tmp) (.one rfl) (.nil) rfl ?_
      refine Ops.nil ?_
      refine PT.sub (σ' := ⟨[(1, .val (x1_k1)), (2, .val (x2_k1)), (7, _), (29, .val ((!x8_k1)))], [(1007, .arr 99 (y1007_k1))]⟩) ⟨rfl, rfl, rfl, rfl, trivial⟩ ⟨rfl, trivial⟩ ?_
      refine PT.cond _ rfl (fun hc10 => ?_) (fun hc10 => ?_)
      · replace hφ := if_then hφ hc10
        refine PT.sub (σ' := ⟨[(1, .val (x1_k1)), (2, .val (x2_k1)), (7, _)], [(1007, .arr 99 (y1007_k1))]⟩) ⟨rfl, rfl, rfl, trivial⟩ ⟨rfl, trivial⟩ ?_
        obtain ⟨hb11, hφ⟩ := G_some hφ
        refine PT.region ?_
        refine Ops.put rfl rfl (ox_move .tmp) (.one rfl) (.nil) rfl ?_
        refine Ops.put rfl rfl (ox_move .tmp) (.one rfl) (.nil) rfl ?_
        refine Ops.put rfl rfl (ox_move .tmp) (.one rfl) (.nil) rfl ?_
        refine Ops.put rfl rfl (ox_buildB z99 u99 rfl (.cons Write_At f99_0 .tmp (.cons Write_N f99_1 .tmp Bld.nil))) ((.app (.one rfl) (.app (.one rfl) .nil))) (.nil) rfl ?_
        refine Ops.put rfl rfl (ox_buildSlice_val s26 z99 (.cons .tmp Parts.nil) rfl (by decide)) ((.app (.one rfl) .nil)) (.nil) rfl ?_
        refine Ops.putK [7, 30] rfl rfl (ox_append a26 .tmp .tmp hb11.1 hb11.2) ((.app (.one rfl) (.one rfl))) (.one rfl) rfl (by kernel_rfl) ?_
        refine Ops.put rfl rfl (ox_assign .tmp) (.one rfl) (.nil) rfl ?_
        refine Ops.nil ?_
        refine PT.sub (σ' := ⟨[(7, _)], [(1007, .arr 99 ((y1007_k1 ++ ([({ At := x1_k1, N := x2_k1 } : Mk.Write)] : List Mk.Write))))]⟩) ⟨rfl, trivial⟩ ⟨rfl, trivial⟩ ?_
        exact PT.meet ((y1007_k1 ++ ([({ At := x1_k1, N := x2_k1 } : Mk.Write)] : List Mk.Write))) hφ ⟨rfl, trivial⟩ ⟨rfl, trivial⟩
      · replace hφ := if_else hφ hc10
        refine PT.sub (σ' := ⟨[(7, _)], [(1007, .arr 99 (y1007_k1))]⟩) ⟨rfl, trivial⟩ ⟨rfl, trivial⟩ ?_
        refine PT.skip ?_
        exact PT.meet (y1007_k1) hφ ⟨rfl, trivial⟩ ⟨rfl, trivial⟩
    · rintro y1007_k9 hφ
      subst hk9
      refine PT.sub (σ' := ⟨[(7, .sl 1007)], [(1007, .arr 99 (y1007_k9))]⟩) ⟨rfl, trivial⟩ ⟨rfl, trivial⟩ ?_
      refine PT.seq ?_
      refine PT.region ?_
      refine Ops.put rfl rfl (ox_move .tmp) (.one rfl) (.nil) rfl ?_
      refine Ops.put rfl rfl (ox_assign .tmp) (.one rfl) (.nil) rfl ?_
      refine Ops.nil ?_
      refine PT.sub (σ' := ⟨[(6, _)], [(1007, .arr 99 (y1007_k9))]⟩) ⟨rfl, trivial⟩ ⟨rfl, trivial⟩ ?_
      refine PT.ret ?_
      refine PT.freeze 1007 [6] rfl ⟨rfl, trivial⟩ ?_
      obtain rfl := Option.some.inj hφ
      exact PT.done hw0 rfl (.tmp rfl rfl .nil) rfl
theorem c_mkref1_Do {a0 : List Mk.Write} {a1 : Mk.Call} {r : ((List Mk.Write) × Mk.Reply)} (hφ : mkref1_Do a0 a1 = some r) : Fn Go.Proofs.Try.prog 41 [.val a0, .val a1] (.tup [.val r.1, .val r.2]) := by
  unfold mkref1_Do at hφ
  refine Fn.mk' Go.Proofs.Try.func41 rfl (by decide) rfl rfl rfl (fun w0 hw0 => ?_)
  refine PT.seq ?_
  refine PT.region ?_
  refine Ops.putO rfl rfl (ox_box (id := 2) .tmp) (.one rfl) (.nil) rfl (by kernel_rfl) ?_
  refine Ops.putO rfl rfl (ox_box (id := 3) .tmp) (.one rfl) (.nil) rfl (by kernel_rfl) ?_
  refine Ops.put rfl rfl (ox_assign .nilS) (.nil) (.nil) rfl ?_
  refine Ops.putO rfl rfl (ox_alloc (id := 5) z38) (.nil) (.nil) rfl (by kernel_rfl) ?_
  refine Ops.nil ?_
  refine PT.sub (σ' := ⟨[(2, _), (3, _), (5, _)], [(2, .var (a0) []), (3, .var (a1) []), (5, .var (({ Err := (0 : Int), N := (0 : Int) } : Mk.Reply)) [])]⟩) ⟨rfl, rfl, rfl, trivial⟩ ⟨rfl, rfl, rfl, trivial⟩ ?_
  refine PT.seq ?_
  obtain ⟨v1, hv1, hφ⟩ := B_some hφ
  refine PT.region ?_
  refine Ops.put rfl rfl (ox_load_var t26) (.one rfl) (.one rfl) rfl ?_
  refine Ops.put rfl rfl (ox_fieldAddr_var Call_Name f33_1) (.one rfl) (.nil) rfl ?_
  refine Ops.put rfl rfl (ox_load_fld t3) (.one rfl) (.one rfl) rfl ?_
  refine Ops.put rfl rfl (ox_call (c_mkref1_get hv1) (.cons .tmp (.cons .tmp .nil))) ((.app (.one rfl) (.app (.one rfl) .nil))) (.nil) rfl ?_
  refine Ops.put rfl rfl (ox_move .tmp) (.one rfl) (.nil) rfl ?_
  refine Ops.put rfl rfl (ox_extract rfl) (.one rfl) (.nil) rfl ?_
  refine Ops.put rfl rfl (ox_extract rfl) (.one rfl) (.nil) rfl ?_
  refine Ops.put rfl rfl (ox_assign .tmp) (.one rfl) (.nil) rfl ?_
  refine Ops.put rfl rfl (ox_assign .tmp) (.one rfl) (.nil) rfl ?_
  refine Ops.nil ?_
  refine PT.sub (σ' := ⟨[(2, _), (3, _), (5, _), (6, .val (v1.1)), (7, .val (v1.2))], [(2, .var (a0) []), (3, .var (a1) []), (5, .var (({ Err := (0 : Int), N := (0 : Int) } : Mk.Reply)) [])]⟩) ⟨rfl, rfl, rfl, rfl, rfl, trivial⟩ ⟨rfl, rfl, rfl, trivial⟩ ?_
  refine PT.seq ?_
  refine PT.freezeVar 2 [2] rfl ⟨rfl, trivial⟩ ?_
  refine PT.region ?_
  refine Ops.put rfl rfl (ox_makeFunc (.cons .tmp .nil)) ((.app (.one rfl) .nil)) (.nil) rfl ?_
  refine Ops.put rfl rfl (ox_assign .tmp) (.one rfl) (.nil) rfl ?_
  refine Ops.nil ?_
  refine PT.sub (σ' := ⟨[(2, .elem (a0)), (3, _), (5, _), (6, .val (v1.1)), (7, .val (v1.2)), (8, _)], [(3, .var (a1) []), (5, .var (({ Err := (0 : Int), N := (0 : Int) } : Mk.Reply)) [])]⟩) ⟨rfl, rfl, rfl, rfl, rfl, rfl, trivial⟩ ⟨rfl, rfl, trivial⟩ ?_
  refine PT.seq ?_
  refine PT.block ?_
  refine PT.seq ?_
  refine PT.region ?_
  refine Ops.put rfl rfl (ox_fieldAddr_var Call_Kind f33_0) (.one rfl) (.nil) rfl ?_
  refine Ops.put rfl rfl (ox_load_fld t3) (.one rfl) (.one rfl) rfl ?_
  refine Ops.put rfl rfl (ox_eql .tmp .int) ((.app (.one rfl) (.nil))) (.nil) rfl ?_
  refine Ops.put rfl rfl (ox_assign .tmp) (.one rfl) (.nil) rfl ?_
  refine Ops.nil ?_
  refine PT.sub (σ' := ⟨[(2, .elem (a0)), (3, _), (5, _), (6, .val (v1.1)), (7, .val (v1.2)), (8, _), (21, .val ((decide (a1.Kind = (5 : Int)))))], [(3, .var (a1) []), (5, .var (({ Err := (0 : Int), N := (0 : Int) } : Mk.Reply)) [])]⟩) ⟨rfl, rfl, rfl, rfl, rfl, rfl, rfl, trivial⟩ ⟨rfl, rfl, trivial⟩ ?_
  refine PT.cond _ rfl (fun hc2 => ?_) (fun hc2 => ?_)
  · replace hφ := if_then hφ hc2
    refine PT.sub (σ' := ⟨[(2, .elem (a0)), (5, _)], [(5, .var (({ Err := (0 : Int), N := (0 : Int) } : Mk.Reply)) [])]⟩) ⟨rfl, rfl, trivial⟩ ⟨rfl, trivial⟩ ?_
    refine PT.seq ?_
    refine PT.draw hMixed (
        Segs.cons (Step.put rfl rfl (ox_load_elem t26)) ⟨.one rfl, .nil⟩ (by kernel_rfl) rfl <|
        Segs.cons (Step.put rfl rfl (ox_load_elem t26)) ⟨.one rfl, .nil⟩ (by kernel_rfl) rfl <|
        Segs.cons (Step.put rfl rfl (ox_len s26 .tmp)) ⟨.one rfl, .nil⟩ (by kernel_rfl) rfl <|
        Segs.cons (Step.put rfl rfl (ox_buildB z38 u38 rfl (.cons Reply_N f38_1 .tmp Bld.nil))) ⟨(.app (.one rfl) .nil), .nil⟩ (by kernel_rfl) rfl <|
        Segs.cons (Step.put rfl rfl (ox_assign .tmp)) ⟨.one rfl, .nil⟩ (by kernel_rfl) rfl <|
        Segs.cons (Step.mute rfl rfl (ox_store_var t38 .tmp)) ⟨(.cons rfl (.one rfl)), .one rfl⟩ (by kernel_rfl) rfl <|
        Segs.nil) _ [[], [], [1], [1, 2], [0], [0, 1, 2, 3, 4]] rfl (by kernel_rfl) (by kernel_rfl) ?_
    refine PT.sub (σ' := ⟨[(4, .val (a0)), (5, _)], [(5, .var (({ Err := (0 : Int), N := (a0.length : Int) } : Mk.Reply)) [])]⟩) ⟨rfl, rfl, trivial⟩ ⟨rfl, trivial⟩ ?_
    refine PT.ret ?_
    obtain rfl := Option.some.inj hφ
    exact PT.done hw0 rfl (.tmp rfl rfl (.cell t38 rfl rfl .nil)) rfl
  · replace hφ := if_else hφ hc2
    refine PT.sub (σ' := ⟨[(2, .elem (a0)), (3, _), (5, _), (6, .val (v1.1)), (7, .val (v1.2)), (8, _)], [(3, .var (a1) []), (5, .var (({ Err := (0 : Int), N := (0 : Int) } : Mk.Reply)) [])]⟩) ⟨rfl, rfl, rfl, rfl, rfl, rfl, trivial⟩ ⟨rfl, rfl, trivial⟩ ?_
    refine PT.seq ?_
    refine PT.region ?_
    refine Ops.put rfl rfl (ox_fieldAddr_var Call_Kind f33_0) (.one rfl) (.nil) rfl ?_
    refine Ops.put rfl rfl (ox_load_fld t3) (.one rfl) (.one rfl) rfl ?_
    refine Ops.put rfl rfl (ox_eql .tmp .int) ((.app (.one rfl) (.nil))) (.nil) rfl ?_
    refine Ops.put rfl rfl (ox_move .tmp) (.one rfl) (.nil) rfl ?_
    refine Ops.guard rfl rfl rfl rfl (.plain .nil) (fun hG => (ox_move .tmp)) ⟨rfl, trivial⟩ (.nil) rfl ?_
    refine Ops.guard rfl rfl rfl rfl (.cond (fun h => h) .nil) (fun hG => (ox_not .tmp)) ⟨rfl, trivial⟩ (.nil) rfl ?_
    refine Ops.put rfl rfl ox_pick_and (⟨rfl, rfl, trivial⟩) (.nil) rfl ?_
    refine Ops.put rfl rfl (ox_move .tmp) (.one rfl) (.nil) rfl ?_
    refine Ops.guard rfl rfl rfl rfl (.plain .nil) (fun hG => (ox_load_elem t26)) ⟨rfl, trivial⟩ (.nil) rfl ?_
    refine Ops.guard rfl rfl rfl rfl (.cond (fun h => h) .nil) (fun hG => (ox_len s26 .tmp)) ⟨rfl, trivial⟩ (.nil) rfl ?_
    refine Ops.guard rfl rfl rfl rfl (.cond (fun h => h) .nil) (fun hG => (ox_geq .tmp .int)) ⟨rfl, trivial⟩ (.nil) rfl ?_
    refine Ops.put rfl rfl ox_pick_and (⟨rfl, rfl, trivial⟩) (.nil) rfl ?_
    refine Ops.put rfl rfl (ox_assign .tmp) (.one rfl) (.nil) rfl ?_
    refine Ops.nil ?_
    refine PT.sub (σ' := ⟨[(2, .elem (a0)), (3, _), (5, _), (6, .val (v1.1)), (7, .val (v1.2)), (8, _), (29, .val ((((decide (a1.Kind = (1 : Int))) && (!v1.2)) && (decide ((5 : Int) ≤ (a0.length : Int))))))], [(3, .var (a1) []), (5, .var (({ Err := (0 : Int), N := (0 : Int) } : Mk.Reply)) [])]⟩) ⟨rfl, rfl, rfl, rfl, rfl, rfl, rfl, trivial⟩ ⟨rfl, rfl, trivial⟩ ?_
    refine PT.cond _ rfl (fun hc3 => ?_) (fun hc3 => ?_)
    · replace hφ := if_then hφ hc3
      refine PT.sub (σ' := ⟨[(5, _), (8, _)], [(5, .var (({ Err := (0 : Int), N := (0 : Int) } : Mk.Reply)) [])]⟩) ⟨rfl, rfl, trivial⟩ ⟨rfl, trivial⟩ ?_
      refine PT.seq ?_
      obtain ⟨v4, hv4, hφ⟩ := B_some hφ
      refine PT.region ?_
      refine Ops.put rfl rfl (ox_move .tmp) (.one rfl) (.nil) rfl ?_
      refine Ops.put rfl rfl (ox_callv (c_mkref1_Do_1 hv4) (.cons .int .nil)) ((.cons rfl ((.app (.nil) .nil)))) (.nil) rfl ?_
      refine Ops.put rfl rfl (ox_extract rfl) (.one rfl) (.nil) rfl ?_
      refine Ops.put rfl rfl (ox_extract rfl) (.one rfl) (.nil) rfl ?_
      refine Ops.put rfl rfl (ox_assign .tmp) (.one rfl) (.nil) rfl ?_
      refine Ops.mute rfl rfl (ox_store_var t38 .tmp) ((.cons rfl (.one rfl))) (.one rfl) ?_
      refine Ops.nil ?_
      refine PT.sub (σ' := ⟨[(4, .val (v4.1)), (5, _)], [(5, .var (v4.2) [])]⟩) ⟨rfl, rfl, trivial⟩ ⟨rfl, trivial⟩ ?_
      refine PT.ret ?_
      obtain rfl := Option.some.inj hφ
      exact PT.done hw0 rfl (.tmp rfl rfl (.cell t38 rfl rfl .nil)) rfl
    · replace hφ := if_else hφ hc3
      refine PT.sub (σ' := ⟨[(2, .elem (a0)), (3, _), (5, _), (6, .val (v1.1)), (7, .val (v1.2)), (8, _)], [(3, .var (a1) []), (5, .var (({ Err := (0 : Int), N := (0 : Int) } : Mk.Reply)) [])]⟩) ⟨rfl, rfl, rfl, rfl, rfl, rfl, trivial⟩ ⟨rfl, rfl, trivial⟩ ?_
      refine PT.seq ?_
      refine PT.region ?_
      refine Ops.put rfl rfl (ox_fieldAddr_var Call_Kind f33_0) (.one rfl) (.nil) rfl ?_
      refine Ops.put rfl rfl (ox_load_fld t3) (.one rfl) (.one rfl) rfl ?_
      refine Ops.put rfl rfl (ox_eql .tmp .int) ((.app (.one rfl) (.nil))) (.nil) rfl ?_
      refine Ops.put rfl rfl (ox_assign .tmp) (.one rfl) (.nil) rfl ?_
      refine Ops.nil ?_
      refine PT.sub (σ' := ⟨[(2, .elem (a0)), (3, _), (5, _), (6, .val (v1.1)), (7, .val (v1.2)), (8, _), (46, .val ((decide (a1.Kind = (1 : Int)))))], [(3, .var (a1) []), (5, .var (({ Err := (0 : Int), N := (0 : Int) } : Mk.Reply)) [])]⟩) ⟨rfl, rfl, rfl, rfl, rfl, rfl, rfl, trivial⟩ ⟨rfl, rfl, trivial⟩ ?_
      refine PT.cond _ rfl (fun hc5 => ?_) (fun hc5 => ?_)
      · replace hφ := if_then hφ hc5
        refine PT.sub (σ' := ⟨[(2, .elem (a0)), (3, _), (5, _), (6, .val (v1.1))], [(3, .var (a1) []), (5, .var (({ Err := (0 : Int), N := (0 : Int) } : Mk.Reply)) [])]⟩) ⟨rfl, rfl, rfl, rfl, trivial⟩ ⟨rfl, rfl, trivial⟩ ?_
        refine PT.seq ?_
        obtain ⟨v6, hv6, hφ⟩ := B_some hφ
        refine PT.region ?_
        refine Ops.put rfl rfl (ox_load_elem t26) (.one rfl) (.nil) rfl ?_
        refine Ops.put rfl rfl (ox_fieldAddr_var Call_Name f33_1) (.one rfl) (.nil) rfl ?_
        refine Ops.put rfl rfl (ox_load_fld t3) (.one rfl) (.one rfl) rfl ?_
        refine Ops.put rfl rfl (ox_fieldAddr_var Call_N f33_3) (.one rfl) (.nil) rfl ?_
        refine Ops.put rfl rfl (ox_load_fld t3) (.one rfl) (.one rfl) rfl ?_
        refine Ops.put rfl rfl (ox_call (c_mkref1_set hv6) (.cons .tmp (.cons .tmp (.cons .tmp .nil)))) ((.app (.one rfl) (.app (.one rfl) (.app (.one rfl) .nil)))) (.nil) rfl ?_
        refine Ops.put rfl rfl (ox_move .tmp) (.one rfl) (.nil) rfl ?_
        refine Ops.put rfl rfl (ox_buildB z38 u38 rfl (.cons Reply_N f38_1 .tmp Bld.nil)) ((.app (.one rfl) .nil)) (.nil) rfl ?_
        refine Ops.put rfl rfl (ox_assign .tmp) (.one rfl) (.nil) rfl ?_
        refine Ops.mute rfl rfl (ox_store_var t38 .tmp) ((.cons rfl (.one rfl))) (.one rfl) ?_
        refine Ops.nil ?_
        refine PT.sub (σ' := ⟨[(4, .val (v6)), (5, _)], [(5, .var (({ Err := (0 : Int), N := v1.1 } : Mk.Reply)) [])]⟩) ⟨rfl, rfl, trivial⟩ ⟨rfl, trivial⟩ ?_
        refine PT.ret ?_
        obtain rfl := Option.some.inj hφ
        exact PT.done hw0 rfl (.tmp rfl rfl (.cell t38 rfl rfl .nil)) rfl
      · replace hφ := if_else hφ hc5
        refine PT.sub (σ' := ⟨[(2, .elem (a0)), (3, _), (5, _), (6, .val (v1.1)), (7, .val (v1.2)), (8, _)], [(3, .var (a1) []), (5, .var (({ Err := (0 : Int), N := (0 : Int) } : Mk.Reply)) [])]⟩) ⟨rfl, rfl, rfl, rfl, rfl, rfl, trivial⟩ ⟨rfl, rfl, trivial⟩ ?_
        refine PT.seq ?_
        refine PT.region ?_
        refine Ops.put rfl rfl (ox_move .tmp) (.one rfl) (.nil) rfl ?_
        refine Ops.put rfl rfl (ox_not .tmp) (.one rfl) (.nil) rfl ?_
        refine Ops.put rfl rfl (ox_assign .tmp) (.one rfl) (.nil) rfl ?_
        refine Ops.nil ?_
        refine PT.sub (σ' := ⟨[(2, .elem (a0)), (3, _), (5, _), (6, .val (v1.1)), (8, _), (58, .val ((!v1.2)))], [(3, .var (a1) []), (5, .var (({ Err := (0 : Int), N := (0 : Int) } : Mk.Reply)) [])]⟩) ⟨rfl, rfl, rfl, rfl, rfl, rfl, trivial⟩ ⟨rfl, rfl, trivial⟩ ?_
        refine PT.cond _ rfl (fun hc7 => ?_) (fun hc7 => ?_)
        · replace hφ := if_then hφ hc7
          refine PT.sub (σ' := ⟨[(5, _), (8, _)], [(5, .var (({ Err := (0 : Int), N := (0 : Int) } : Mk.Reply)) [])]⟩) ⟨rfl, rfl, trivial⟩ ⟨rfl, trivial⟩ ?_
          refine PT.seq ?_
          obtain ⟨v8, hv8, hφ⟩ := B_some hφ
          refine PT.region ?_
          refine Ops.put rfl rfl (ox_move .tmp) (.one rfl) (.nil) rfl ?_
          refine Ops.put rfl rfl (ox_callv (c_mkref1_Do_1 hv8) (.cons .int .nil)) ((.cons rfl ((.app (.nil) .nil)))) (.nil) rfl ?_
          refine Ops.put rfl rfl (ox_extract rfl) (.one rfl) (.nil) rfl ?_
          refine Ops.put rfl rfl (ox_extract rfl) (.one rfl) (.nil) rfl ?_
          refine Ops.put rfl rfl (ox_assign .tmp) (.one rfl) (.nil) rfl ?_
          refine Ops.mute rfl rfl (ox_store_var t38 .tmp) ((.cons rfl (.one rfl))) (.one rfl) ?_
          refine Ops.nil ?_
          refine PT.sub (σ' := ⟨[(4, .val (v8.1)), (5, _)], [(5, .var (v8.2) [])]⟩) ⟨rfl, rfl, trivial⟩ ⟨rfl, trivial⟩ ?_
          refine PT.ret ?_
          obtain rfl := Option.some.inj hφ
          exact PT.done hw0 rfl (.tmp rfl rfl (.cell t38 rfl rfl .nil)) rfl
        · replace hφ := if_else hφ hc7
          refine PT.sub (σ' := ⟨[(2, .elem (a0)), (3, _), (5, _), (6, .val (v1.1)), (8, _)], [(3, .var (a1) []), (5, .var (({ Err := (0 : Int), N := (0 : Int) } : Mk.Reply)) [])]⟩) ⟨rfl, rfl, rfl, rfl, rfl, trivial⟩ ⟨rfl, rfl, trivial⟩ ?_
          refine PT.seq ?_
          refine PT.region ?_
          refine Ops.put rfl rfl (ox_fieldAddr_var Call_Kind f33_0) (.one rfl) (.nil) rfl ?_
          refine Ops.put rfl rfl (ox_load_fld t3) (.one rfl) (.one rfl) rfl ?_
          refine Ops.put rfl rfl (ox_eql .tmp .int) ((.app (.one rfl) (.nil))) (.nil) rfl ?_
          refine Ops.put rfl rfl (ox_assign .tmp) (.one rfl) (.nil) rfl ?_
          refine Ops.nil ?_
          refine PT.sub (σ' := ⟨[(2, .elem (a0)), (3, _), (5, _), (6, .val (v1.1)), (8, _), (65, .val ((decide (a1.Kind = (2 : Int)))))], [(3, .var (a1) []), (5, .var (({ Err := (0 : Int), N := (0 : Int) } : Mk.Reply)) [])]⟩) ⟨rfl, rfl, rfl, rfl, rfl, rfl, trivial⟩ ⟨rfl, rfl, trivial⟩ ?_
          refine PT.cond _ rfl (fun hc9 => ?_) (fun hc9 => ?_)
          · replace hφ := if_then hφ hc9
            refine PT.sub (σ' := ⟨[(2, .elem (a0)), (5, _), (6, .val (v1.1))], [(5, .var (({ Err := (0 : Int), N := (0 : Int) } : Mk.Reply)) [])]⟩) ⟨rfl, rfl, rfl, trivial⟩ ⟨rfl, trivial⟩ ?_
            refine PT.seq ?_
            refine PT.region ?_
            refine Ops.put rfl rfl (ox_load_elem t26) (.one rfl) (.nil) rfl ?_
            refine Ops.put rfl rfl (ox_move .tmp) (.one rfl) (.nil) rfl ?_
            refine Ops.put rfl rfl (ox_buildB z38 u38 rfl (.cons Reply_N f38_1 .tmp Bld.nil)) ((.app (.one rfl) .nil)) (.nil) rfl ?_
            refine Ops.put rfl rfl (ox_assign .tmp) (.one rfl) (.nil) rfl ?_
            refine Ops.mute rfl rfl (ox_store_var t38 .tmp) ((.cons rfl (.one rfl))) (.one rfl) ?_
            refine Ops.nil ?_
            refine PT.sub (σ' := ⟨[(4, .val (a0)), (5, _)], [(5, .var (({ Err := (0 : Int), N := v1.1 } : Mk.Reply)) [])]⟩) ⟨rfl, rfl, trivial⟩ ⟨rfl, trivial⟩ ?_
            refine PT.ret ?_
            obtain rfl := Option.some.inj hφ
            exact PT.done hw0 rfl (.tmp rfl rfl (.cell t38 rfl rfl .nil)) rfl
          · replace hφ := if_else hφ hc9
            refine PT.sub (σ' := ⟨[(2, .elem (a0)), (3, _), (5, _), (6, .val (v1.1)), (8, _)], [(3, .var (a1) []), (5, .var (({ Err := (0 : Int), N := (0 : Int) } : Mk.Reply)) [])]⟩) ⟨rfl, rfl, rfl, rfl, rfl, trivial⟩ ⟨rfl, rfl, trivial⟩ ?_
            refine PT.seq ?_
            refine PT.region ?_
            refine Ops.put rfl rfl (ox_fieldAddr_var Call_Kind f33_0) (.one rfl) (.nil) rfl ?_
            refine Ops.put rfl rfl (ox_load_fld t3) (.one rfl) (.one rfl) rfl ?_
            refine Ops.put rfl rfl (ox_eql .tmp .int) ((.app (.one rfl) (.nil))) (.nil) rfl ?_
            refine Ops.put rfl rfl (ox_assign .tmp) (.one rfl) (.nil) rfl ?_
            refine Ops.nil ?_
            refine PT.sub (σ' := ⟨[(2, .elem (a0)), (3, _), (5, _), (6, .val (v1.1)), (8, _), (72, .val ((decide (a1.Kind = (3 : Int)))))], [(3, .var (a1) []), (5, .var (({ Err := (0 : Int), N := (0 : Int) } : Mk.Reply)) [])]⟩) ⟨rfl, rfl, rfl, rfl, rfl, rfl, trivial⟩ ⟨rfl, rfl, trivial⟩ ?_
            refine PT.cond _ rfl (fun hc10 => ?_) (fun hc10 => ?_)
            · replace hφ := if_then hφ hc10
              refine PT.sub (σ' := ⟨[(2, .elem (a0)), (3, _), (5, _), (6, .val (v1.1))], [(3, .var (a1) []), (5, .var (({ Err := (0 : Int), N := (0 : Int) } : Mk.Reply)) [])]⟩) ⟨rfl, rfl, rfl, rfl, trivial⟩ ⟨rfl, rfl, trivial⟩ ?_
              refine PT.seq ?_
              refine PT.region ?_
              refine Ops.put rfl rfl (ox_assign .nilS) (.nil) (.nil) rfl ?_
              refine Ops.nil ?_
              refine PT.sub (σ' := ⟨[(2, .elem (a0)), (3, _), (5, _), (6, .val (v1.1)), (9, .nilS)], [(3, .var (a1) []), (5, .var (({ Err := (0 : Int), N := (0 : Int) } : Mk.Reply)) [])]⟩) ⟨rfl, rfl, rfl, rfl, rfl, trivial⟩ ⟨rfl, rfl, trivial⟩ ?_
              obtain ⟨k11, hk11, hφ⟩ := J_some hφ
              refine PT.cut (ι := Int × Mk.Reply × (List Mk.Write)) (fun p => ⟨[(5, .ptr 5 (Lens.id (α := Mk.Reply))), (6, .val (p.1)), (9, .sl 1009)], [(5, .var (p.2.1) []), (1009, .arr 99 (p.2.2))]⟩) (fun p => k11 (p.1) (p.2.1) (p.2.2) = some r) ?_ ?_
              · skip
                refine PT.seq ?_
                refine PT.region ?_
                refine Ops.put rfl rfl (ox_load_elem t26) (.one rfl) (.nil) rfl ?_
                refine Ops.put rfl rfl (ox_len s26 .tmp) (.one rfl) (.nil) rfl ?_
                refine Ops.put rfl rfl (ox_move .int) (.nil) (.nil) rfl ?_
                refine Ops.nil ?_
                refine PT.sub (σ' := ⟨[(2, .elem (a0)), (3, _), (5, _), (6, .val (v1.1)), (9, .nilS), (76, .val (a0)), (77, .val ((a0.length : Int))), (78, .val ((0 : Int)))], [(3, .var (a1) []), (5, .var (({ Err := (0 : Int), N := (0 : Int) } : Mk.Reply)) [])]⟩) ⟨rfl, rfl, rfl, rfl, rfl, rfl, rfl, rfl, trivial⟩ ⟨rfl, rfl, trivial⟩ ?_
                refine PT.block ?_
                refine PT.nilArr 1009 9 99 (Mk.Write) rfl (by kernel_rfl) ?_
                refine PT.loop (ι := Nat × (List Mk.Write) × Int × (List Mk.Write) × Int × Int × Mk.Call × Mk.Reply × (List Mk.Write)) (fun p => ⟨[(2, .elem (p.2.1)), (3, .ptr 3 (Lens.id (α := Mk.Call))), (5, .ptr 5 (Lens.id (α := Mk.Reply))), (6, .val (p.2.2.1)), (9, .sl 1009), (76, .val (p.2.2.2.1)), (77, .val (p.2.2.2.2.1)), (78, .val (p.2.2.2.2.2.1))], [(3, .var (p.2.2.2.2.2.2.1) []), (5, .var (p.2.2.2.2.2.2.2.1) []), (1009, .arr 99 (p.2.2.2.2.2.2.2.2))]⟩) (fun p => mkref1_Do_l1 k11 p.1 (p.2.1) (p.2.2.1) (p.2.2.2.1) (p.2.2.2.2.1) (p.2.2.2.2.2.1) (p.2.2.2.2.2.2.1) (p.2.2.2.2.2.2.2.1) (p.2.2.2.2.2.2.2.2) = some r) (fun p => p.1) (((a0.length : Int) - (0 : Int)).toNat + 1, a0, v1.1, a0, (a0.length : Int), (0 : Int), a1, ({ Err := (0 : Int), N := (0 : Int) } : Mk.Reply), ([] : List Mk.Write)) hφ ⟨rfl, rfl, rfl, rfl, rfl, rfl, rfl, rfl, trivial⟩ ⟨rfl, rfl, rfl, trivial⟩ ?_
                rintro ⟨m12, x2_m12, x6_m12, x76_m12, x77_m12, x78_m12, y3_m12, y5_m12, y1009_m12⟩ (hφ : mkref1_Do_l1 k11 m12 x2_m12 x6_m12 x76_m12 x77_m12 x78_m12 y3_m12 y5_m12 y1009_m12 = some r)
                obtain _ | m12 := m12
                · exact (none_no hφ).elim
                rw [mkref1_Do_l1.eq_2] at hφ
                refine PT.sub (σ' := ⟨[(2, .elem (x2_m12)), (3, .ptr 3 (Lens.id (α := Mk.Call))), (5, .ptr 5 (Lens.id (α := Mk.Reply))), (6, .val (x6_m12)), (9, .sl 1009), (76, .val (x76_m12)), (77, .val (x77_m12)), (78, .val (x78_m12))], [(3, .var (y3_m12) []), (5, .var (y5_m12) []), (1009, .arr 99 (y1009_m12))]⟩) ⟨rfl, rfl, rfl, rfl, rfl, rfl, rfl, rfl, trivial⟩ ⟨rfl, rfl, rfl, trivial⟩ ?_
                refine PT.seq ?_
                refine PT.region ?_
                refine Ops.put rfl rfl (ox_lss .tmp .tmp) ((.app (.one rfl) (.one rfl))) (.nil) rfl ?_
                refine Ops.nil ?_
                refine PT.sub (σ' := ⟨[(2, .elem (x2_m12)), (3, _), (5, _), (6, .val (x6_m12)), (9, _), (76, .val (x76_m12)), (77, .val (x77_m12)), (78, .val (x78_m12)), (79, .val ((decide (x78_m12 < x77_m12))))], [(3, .var (y3_m12) []), (5, .var (y5_m12) []), (1009, .arr 99 (y1009_m12))]⟩) ⟨rfl, rfl, rfl, rfl, rfl, rfl, rfl, rfl, rfl, trivial⟩ ⟨rfl, rfl, rfl, trivial⟩ ?_
                refine PT.seq ?_
                refine PT.cond _ rfl (fun hc13 => ?_) (fun hc13 => ?_)
                · replace hφ := if_then hφ hc13
                  refine PT.sub (σ' := ⟨[(2, .elem (x2_m12)), (3, _), (5, _), (6, .val (x6_m12)), (9, _), (76, .val (x76_m12)), (77, .val (x77_m12)), (78, .val (x78_m12))], [(3, .var (y3_m12) []), (5, .var (y5_m12) []), (1009, .arr 99 (y1009_m12))]⟩) ⟨rfl, rfl, rfl, rfl, rfl, rfl, rfl, rfl, trivial⟩ ⟨rfl, rfl, rfl, trivial⟩ ?_
                  refine PT.skip ?_
                  obtain ⟨k14, hk14, hφ⟩ := J_some hφ
                  refine PT.cut (ι := (List Mk.Write) × Int × (List Mk.Write) × Int × Int × Mk.Call × Mk.Reply × (List Mk.Write)) (fun p => ⟨[(2, .elem (p.1)), (3, .ptr 3 (Lens.id (α := Mk.Call))), (5, .ptr 5 (Lens.id (α := Mk.Reply))), (6, .val (p.2.1)), (9, .sl 1009), (76, .val (p.2.2.1)), (77, .val (p.2.2.2.1)), (78, .val (p.2.2.2.2.1))], [(3, .var (p.2.2.2.2.2.1) []), (5, .var (p.2.2.2.2.2.2.1) []), (1009, .arr 99 (p.2.2.2.2.2.2.2))]⟩) (fun p => k14 (p.1) (p.2.1) (p.2.2.1) (p.2.2.2.1) (p.2.2.2.2.1) (p.2.2.2.2.2.1) (p.2.2.2.2.2.2.1) (p.2.2.2.2.2.2.2) = some r) ?_ ?_
                  · skip
                    refine PT.block ?_
                    refine PT.seq ?_
                    obtain ⟨hb15, hφ⟩ := G_some hφ
                    refine PT.region ?_
                    refine Ops.put rfl rfl (ox_move .tmp) (.one rfl) (.nil) rfl ?_
                    refine Ops.put rfl rfl (ox_ix s26 .tmp .tmp hb15.1 hb15.2) ((.app (.one rfl) (.one rfl))) (.nil) rfl ?_
                    refine Ops.put rfl rfl (ox_load_elem t99) (.one rfl) (.nil) rfl ?_
                    refine Ops.putO rfl rfl (ox_alloc (id := 11) z99) (.nil) (.nil) rfl (by kernel_rfl) ?_
                    refine Ops.put rfl rfl (ox_assign .tmp) (.one rfl) (.nil) rfl ?_
                    refine Ops.mute rfl rfl (ox_store_var t99 .tmp) ((.cons rfl (.one rfl))) (.one rfl) ?_
                    refine Ops.nil ?_
                    refine PT.sub (σ' := ⟨[(2, .elem (x2_m12)), (3, _), (5, _), (6, .val (x6_m12)), (9, _), (10, .val (x78_m12)), (11, _), (76, .val (x76_m12)), (77, .val (x77_m12)), (78, .val (x78_m12))], [(3, .var (y3_m12) []), (5, .var (y5_m12) []), (11, .var ((ix x76_m12 x78_m12)) []), (1009, .arr 99 (y1009_m12))]⟩) ⟨rfl, rfl, rfl, rfl, rfl, rfl, rfl, rfl, rfl, rfl, trivial⟩ ⟨rfl, rfl, rfl, rfl, trivial⟩ ?_
                    obtain ⟨k16, hk16, hφ⟩ := J_some hφ
                    refine PT.cut (ι := (List Mk.Write) × Int × Int × (List Mk.Write) × Int × Int × Mk.Call × Mk.Reply × Mk.Write × (List Mk.Write)) (fun p => ⟨[(2, .elem (p.1)), (3, .ptr 3 (Lens.id (α := Mk.Call))), (5, .ptr 5 (Lens.id (α := Mk.Reply))), (6, .val (p.2.1)), (9, .sl 1009), (10, .val (p.2.2.1)), (11, .ptr 11 (Lens.id (α := Mk.Write))), (76, .val (p.2.2.2.1)), (77, .val (p.2.2.2.2.1)), (78, .val (p.2.2.2.2.2.1))], [(3, .var (p.2.2.2.2.2.2.1) []), (5, .var (p.2.2.2.2.2.2.2.1) []), (11, .var (p.2.2.2.2.2.2.2.2.1) []), (1009, .arr 99 (p.2.2.2.2.2.2.2.2.2))]⟩) (fun p => k16 (p.1) (p.2.1) (p.2.2.1) (p.2.2.2.1) (p.2.2.2.2.1) (p.2.2.2.2.2.1) (p.2.2.2.2.2.2.1) (p.2.2.2.2.2.2.2.1) (p.2.2.2.2.2.2.2.2.1) (p.2.2.2.2.2.2.2.2.2) = some r) ?_ ?_
                    · skip
                      refine PT.seq ?_
                      refine PT.region ?_
                      refine Ops.put rfl rfl (ox_fieldAddr_var Write_At f99_0) (.one rfl) (.nil) rfl ?_
                      refine Ops.put rfl rfl (ox_load_fld t3) (.one rfl) (.one rfl) rfl ?_
                      refine Ops.put rfl rfl (ox_fieldAddr_var Call_Name f33_1) (.one rfl) (.nil) rfl ?_
                      refine Ops.put rfl rfl (ox_load_fld t3) (.one rfl) (.one rfl) rfl ?_
                      refine Ops.put rfl rfl (ox_eql .tmp .tmp) ((.app (.one rfl) (.one rfl))) (.nil) rfl ?_
                      refine Ops.nil ?_
                      refine PT.sub (σ' := ⟨[(2, .elem (x2_m12)), (3, _), (5, _), (6, .val (x6_m12)), (9, _), (10, .val (x78_m12)), (11, _), (76, .val (x76_m12)), (77, .val (x77_m12)), (78, .val (x78_m12)), (87, .val ((decide ((ix x76_m12 x78_m12).At = y3_m12.Name))))], [(3, .var (y3_m12) []), (5, .var (y5_m12) []), (11, .var ((ix x76_m12 x78_m12)) []), (1009, .arr 99 (y1009_m12))]⟩) ⟨rfl, rfl, rfl, rfl, rfl, rfl, rfl, rfl, rfl, rfl, rfl, trivial⟩ ⟨rfl, rfl, rfl, rfl, trivial⟩ ?_
                      refine PT.cond _ rfl (fun hc17 => ?_) (fun hc17 => ?_)
                      · replace hφ := if_then hφ hc17
                        refine PT.sub (σ' := ⟨[(2, .elem (x2_m12)), (3, _), (5, _), (6, .val (x6_m12)), (9, _), (10, .val (x78_m12)), (11, _), (76, .val (x76_m12)), (77, .val (x77_m12)), (78, .val (x78_m12))], [(3, .var (y3_m12) []), (5, .var (y5_m12) []), (11, .var ((ix x76_m12 x78_m12)) []), (1009, .arr 99 (y1009_m12))]⟩) ⟨rfl, rfl, rfl, rfl, rfl, rfl, rfl, rfl, rfl, rfl, trivial⟩ ⟨rfl, rfl, rfl, rfl, trivial⟩ ?_
                        obtain ⟨hb18, hφ⟩ := G_some hφ
                        obtain ⟨hb19, hφ⟩ := G_some hφ
                        refine PT.region ?_
                        refine Ops.put rfl rfl (ox_load_elem t26) (.one rfl) (.nil) rfl ?_
                        refine Ops.put rfl rfl (ox_load_elem t26) (.one rfl) (.nil) rfl ?_
                        refine Ops.put rfl rfl (ox_len s26 .tmp) (.one rfl) (.nil) rfl ?_
                        refine Ops.put rfl rfl (ox_sub .tmp .int hb18) ((.app (.one rfl) (.nil))) (.nil) rfl ?_
                        refine Ops.put rfl rfl (ox_ix s26 .tmp .tmp hb19.1 hb19.2) ((.app (.one rfl) (.one rfl))) (.nil) rfl ?_
                        refine Ops.put rfl rfl (ox_load_elem t99) (.one rfl) (.nil) rfl ?_
                        refine Ops.mute rfl rfl (ox_store_var t99 .tmp) ((.cons rfl (.one rfl))) (.one rfl) ?_
                        refine Ops.nil ?_
                        refine PT.sub (σ' := ⟨[(2, .elem (x2_m12)), (3, _), (5, _), (6, .val (x6_m12)), (9, _), (10, .val (x78_m12)), (11, _), (76, .val (x76_m12)), (77, .val (x77_m12)), (78, .val (x78_m12))], [(3, .var (y3_m12) []), (5, .var (y5_m12) []), (11, .var ((ix x2_m12 ((x2_m12.length : Int) - (1 : Int)))) []), (1009, .arr 99 (y1009_m12))]⟩) ⟨rfl, rfl, rfl, rfl, rfl, rfl, rfl, rfl, rfl, rfl, trivial⟩ ⟨rfl, rfl, rfl, rfl, trivial⟩ ?_
                        exact PT.meet (x2_m12, x6_m12, x78_m12, x76_m12, x77_m12, x78_m12, y3_m12, y5_m12, (ix x2_m12 ((x2_m12.length : Int) - (1 : Int))), y1009_m12) hφ ⟨rfl, rfl, rfl, rfl, rfl, rfl, rfl, rfl, rfl, rfl, trivial⟩ ⟨rfl, rfl, rfl, rfl, trivial⟩
                      · replace hφ := if_else hφ hc17
                        refine PT.sub (σ' := ⟨[(2, .elem (x2_m12)), (3, _), (5, _), (6, .val (x6_m12)), (9, _), (10, .val (x78_m12)), (11, _), (76, .val (x76_m12)), (77, .val (x77_m12)), (78, .val (x78_m12))], [(3, .var (y3_m12) []), (5, .var (y5_m12) []), (11, .var ((ix x76_m12 x78_m12)) []), (1009, .arr 99 (y1009_m12))]⟩) ⟨rfl, rfl, rfl, rfl, rfl, rfl, rfl, rfl, rfl, rfl, trivial⟩ ⟨rfl, rfl, rfl, rfl, trivial⟩ ?_
                        refine PT.skip ?_
                        exact PT.meet (x2_m12, x6_m12, x78_m12, x76_m12, x77_m12, x78_m12, y3_m12, y5_m12, (ix x76_m12 x78_m12), y1009_m12) hφ ⟨rfl, rfl, rfl, rfl, rfl, rfl, rfl, rfl, rfl, rfl, trivial⟩ ⟨rfl, rfl, rfl, rfl, trivial⟩
                    · rintro ⟨x2_k16, x6_k16, x10_k16, x76_k16, x77_k16, x78_k16, y3_k16, y5_k16, y11_k16, y1009_k16⟩ hφ
                      subst hk16
                      refine PT.sub (σ' := ⟨[(2, .elem (x2_k16)), (3, .ptr 3 (Lens.id (α := Mk.Call))), (5, .ptr 5 (Lens.id (α := Mk.Reply))), (6, .val (x6_k16)), (9, .sl 1009), (10, .val (x10_k16)), (11, .ptr 11 (Lens.id (α := Mk.Write))), (76, .val (x76_k16)), (77, .val (x77_k16)), (78, .val (x78_k16))], [(3, .var (y3_k16) []), (5, .var (y5_k16) []), (11, .var (y11_k16) []), (1009, .arr 99 (y1009_k16))]⟩) ⟨rfl, rfl, rfl, rfl, rfl, rfl, rfl, rfl, rfl, rfl, trivial⟩ ⟨rfl, rfl, rfl, rfl, trivial⟩ ?_
                      refine PT.seq ?_
                      obtain ⟨hb20, hφ⟩ := G_some hφ
                      refine PT.region ?_
                      refine Ops.put rfl rfl (ox_move .tmp) (.one rfl) (.nil) rfl ?_
                      refine Ops.put rfl rfl (ox_load_elem t26) (.one rfl) (.nil) rfl ?_
                      refine Ops.put rfl rfl (ox_len s26 .tmp) (.one rfl) (.nil) rfl ?_
                      refine Ops.put rfl rfl (ox_sub .tmp .int hb20) ((.app (.one rfl) (.nil))) (.nil) rfl ?_
                      refine Ops.put rfl rfl (ox_lss .tmp .tmp) ((.app (.one rfl) (.one rfl))) (.nil) rfl ?_
                      refine Ops.nil ?_
                      refine PT.sub (σ' := ⟨[(2, .elem (x2_k16)), (3, _), (5, _), (6, .val (x6_k16)), (9, _), (11, _), (76, .val (x76_k16)), (77, .val (x77_k16)), (78, .val (x78_k16)), (98, .val ((decide (x10_k16 < ((x2_k16.length : Int) - (1 : Int))))))], [(3, .var (y3_k16) []), (5, .var (y5_k16) []), (11, .var (y11_k16) []), (1009, .arr 99 (y1009_k16))]⟩) ⟨rfl, rfl, rfl, rfl, rfl, rfl, rfl, rfl, rfl, rfl, trivial⟩ ⟨rfl, rfl, rfl, rfl, trivial⟩ ?_
                      refine PT.cond _ rfl (fun hc21 => ?_) (fun hc21 => ?_)
                      · replace hφ := if_then hφ hc21
                        refine PT.sub (σ' := ⟨[(2, .elem (x2_k16)), (3, _), (5, _), (6, .val (x6_k16)), (9, _), (11, _), (76, .val (x76_k16)), (77, .val (x77_k16)), (78, .val (x78_k16))], [(3, .var (y3_k16) []), (5, .var (y5_k16) []), (11, .var (y11_k16) []), (1009, .arr 99 (y1009_k16))]⟩) ⟨rfl, rfl, rfl, rfl, rfl, rfl, rfl, rfl, rfl, trivial⟩ ⟨rfl, rfl, rfl, rfl, trivial⟩ ?_
                        obtain ⟨hb22, hφ⟩ := G_some hφ
                        refine PT.region ?_
                        refine Ops.put rfl rfl (ox_move .tmp) (.one rfl) (.nil) rfl ?_
                        refine Ops.put rfl rfl (ox_load_var t99) (.one rfl) (.one rfl) rfl ?_
                        refine Ops.put rfl rfl (ox_buildSlice_val s26 z99 (.cons .tmp Parts.nil) rfl (by decide)) ((.app (.one rfl) .nil)) (.nil) rfl ?_
                        refine Ops.putK [9, 99] rfl rfl (ox_append a26 .tmp .tmp hb22.1 hb22.2) ((.app (.one rfl) (.one rfl))) (.one rfl) rfl (by kernel_rfl) ?_
                        refine Ops.put rfl rfl (ox_assign .tmp) (.one rfl) (.nil) rfl ?_
                        refine Ops.nil ?_
                        refine PT.sub (σ' := ⟨[(2, .elem (x2_k16)), (3, _), (5, _), (6, .val (x6_k16)), (9, _), (76, .val (x76_k16)), (77, .val (x77_k16)), (78, .val (x78_k16))], [(3, .var (y3_k16) []), (5, .var (y5_k16) []), (1009, .arr 99 ((y1009_k16 ++ ([y11_k16] : List Mk.Write))))]⟩) ⟨rfl, rfl, rfl, rfl, rfl, rfl, rfl, rfl, trivial⟩ ⟨rfl, rfl, rfl, trivial⟩ ?_
                        exact PT.meet (x2_k16, x6_k16, x76_k16, x77_k16, x78_k16, y3_k16, y5_k16, (y1009_k16 ++ ([y11_k16] : List Mk.Write))) hφ ⟨rfl, rfl, rfl, rfl, rfl, rfl, rfl, rfl, trivial⟩ ⟨rfl, rfl, rfl, trivial⟩
                      · replace hφ := if_else hφ hc21
                        refine PT.sub (σ' := ⟨[(2, .elem (x2_k16)), (3, _), (5, _), (6, .val (x6_k16)), (9, _), (76, .val (x76_k16)), (77, .val (x77_k16)), (78, .val (x78_k16))], [(3, .var (y3_k16) []), (5, .var (y5_k16) []), (1009, .arr 99 (y1009_k16))]⟩) ⟨rfl, rfl, rfl, rfl, rfl, rfl, rfl, rfl, trivial⟩ ⟨rfl, rfl, rfl, trivial⟩ ?_
                        refine PT.skip ?_
                        exact PT.meet (x2_k16, x6_k16, x76_k16, x77_k16, x78_k16, y3_k16, y5_k16, y1009_k16) hφ ⟨rfl, rfl, rfl, rfl, rfl, rfl, rfl, rfl, trivial⟩ ⟨rfl, rfl, rfl, trivial⟩
                  · rintro ⟨x2_k14, x6_k14, x76_k14, x77_k14, x78_k14, y3_k14, y5_k14, y1009_k14⟩ hφ
                    subst hk14
                    refine PT.sub (σ' := ⟨[(2, .elem (x2_k14)), (3, .ptr 3 (Lens.id (α := Mk.Call))), (5, .ptr 5 (Lens.id (α := Mk.Reply))), (6, .val (x6_k14)), (9, .sl 1009), (76, .val (x76_k14)), (77, .val (x77_k14)), (78, .val (x78_k14))], [(3, .var (y3_k14) []), (5, .var (y5_k14) []), (1009, .arr 99 (y1009_k14))]⟩) ⟨rfl, rfl, rfl, rfl, rfl, rfl, rfl, rfl, trivial⟩ ⟨rfl, rfl, rfl, trivial⟩ ?_
                    obtain ⟨hb23, hφ⟩ := G_some hφ
                    refine PT.region ?_
                    refine Ops.put rfl rfl (ox_add .tmp .int hb23) ((.app (.one rfl) (.nil))) (.nil) rfl ?_
                    refine Ops.put rfl rfl (ox_move .tmp) (.one rfl) (.nil) rfl ?_
                    refine Ops.nil ?_
                    refine PT.sub (σ' := ⟨[(2, .elem (x2_k14)), (3, _), (5, _), (6, .val (x6_k14)), (9, _), (76, .val (x76_k14)), (77, .val (x77_k14)), (78, .val ((x78_k14 + (1 : Int))))], [(3, .var (y3_k14) []), (5, .var (y5_k14) []), (1009, .arr 99 (y1009_k14))]⟩) ⟨rfl, rfl, rfl, rfl, rfl, rfl, rfl, rfl, trivial⟩ ⟨rfl, rfl, rfl, trivial⟩ ?_
                    exact PT.next (m12, x2_k14, x6_k14, x76_k14, x77_k14, (x78_k14 + (1 : Int)), y3_k14, y5_k14, y1009_k14) hφ (Nat.lt_succ_self _) ⟨rfl, rfl, rfl, rfl, rfl, rfl, rfl, rfl, trivial⟩ ⟨rfl, rfl, rfl, trivial⟩
                · replace hφ := if_else hφ hc13
                  refine PT.sub (σ' := ⟨[(5, _), (6, .val (x6_m12)), (9, _)], [(5, .var (y5_m12) []), (1009, .arr 99 (y1009_m12))]⟩) ⟨rfl, rfl, rfl, trivial⟩ ⟨rfl, rfl, trivial⟩ ?_
                  refine PT.exit ?_
                  exact PT.meet (x6_m12, y5_m12, y1009_m12) hφ ⟨rfl, rfl, rfl, trivial⟩ ⟨rfl, rfl, trivial⟩
              · rintro ⟨x6_k11, y5_k11, y1009_k11⟩ hφ
                subst hk11
                refine PT.sub (σ' := ⟨[(5, .ptr 5 (Lens.id (α := Mk.Reply))), (6, .val (x6_k11)), (9, .sl 1009)], [(5, .var (y5_k11) []), (1009, .arr 99 (y1009_k11))]⟩) ⟨rfl, rfl, rfl, trivial⟩ ⟨rfl, rfl, trivial⟩ ?_
                refine PT.seq ?_
                refine PT.region ?_
                refine Ops.put rfl rfl (ox_move .tmp) (.one rfl) (.nil) rfl ?_
                refine Ops.put rfl rfl (ox_move .tmp) (.one rfl) (.nil) rfl ?_
                refine Ops.put rfl rfl (ox_buildB z38 u38 rfl (.cons Reply_N f38_1 .tmp Bld.nil)) ((.app (.one rfl) .nil)) (.nil) rfl ?_
                refine Ops.put rfl rfl (ox_assign .tmp) (.one rfl) (.nil) rfl ?_
                refine Ops.mute rfl rfl (ox_store_var t38 .tmp) ((.cons rfl (.one rfl))) (.one rfl) ?_
                refine Ops.nil ?_
                refine PT.sub (σ' := ⟨[(4, _), (5, _)], [(5, .var (({ Err := (0 : Int), N := x6_k11 } : Mk.Reply)) []), (1009, .arr 99 (y1009_k11))]⟩) ⟨rfl, rfl, trivial⟩ ⟨rfl, rfl, trivial⟩ ?_
                refine PT.ret ?_
                refine PT.freeze 1009 [4] rfl ⟨rfl, trivial⟩ ?_
                obtain rfl := Option.some.inj hφ
                exact PT.done hw0 rfl (.tmp rfl rfl (.cell t38 rfl rfl .nil)) rfl
            · replace hφ := if_else hφ hc10
              refine PT.sub (σ' := ⟨[(2, .elem (a0)), (3, _), (5, _), (6, .val (v1.1)), (8, _)], [(3, .var (a1) []), (5, .var (({ Err := (0 : Int), N := (0 : Int) } : Mk.Reply)) [])]⟩) ⟨rfl, rfl, rfl, rfl, rfl, trivial⟩ ⟨rfl, rfl, trivial⟩ ?_
              refine PT.seq ?_
              refine PT.region ?_
              refine Ops.put rfl rfl (ox_fieldAddr_var Call_Kind f33_0) (.one rfl) (.nil) rfl ?_
              refine Ops.put rfl rfl (ox_load_fld t3) (.one rfl) (.one rfl) rfl ?_
              refine Ops.put rfl rfl (ox_eql .tmp .int) ((.app (.one rfl) (.nil))) (.nil) rfl ?_
              refine Ops.put rfl rfl (ox_assign .tmp) (.one rfl) (.nil) rfl ?_
              refine Ops.nil ?_
              refine PT.sub (σ' := ⟨[(2, .elem (a0)), (3, _), (5, _), (6, .val (v1.1)), (8, _), (107, .val ((decide (a1.Kind = (4 : Int)))))], [(3, .var (a1) []), (5, .var (({ Err := (0 : Int), N := (0 : Int) } : Mk.Reply)) [])]⟩) ⟨rfl, rfl, rfl, rfl, rfl, rfl, trivial⟩ ⟨rfl, rfl, trivial⟩ ?_
              refine PT.cond _ rfl (fun hc24 => ?_) (fun hc24 => ?_)
              · replace hφ := if_then hφ hc24
                refine PT.sub (σ' := ⟨[(2, .elem (a0)), (3, _), (5, _), (6, .val (v1.1)), (8, _)], [(3, .var (a1) []), (5, .var (({ Err := (0 : Int), N := (0 : Int) } : Mk.Reply)) [])]⟩) ⟨rfl, rfl, rfl, rfl, rfl, trivial⟩ ⟨rfl, rfl, trivial⟩ ?_
                refine PT.seq ?_
                refine PT.seq ?_
                obtain ⟨hb25, hφ⟩ := G_some hφ
                obtain ⟨hb26, hφ⟩ := G_some hφ
                refine PT.region ?_
                refine Ops.put rfl rfl (ox_move .tmp) (.one rfl) (.nil) rfl ?_
                refine Ops.put rfl rfl (ox_fieldAddr_var Call_N f33_3) (.one rfl) (.nil) rfl ?_
                refine Ops.put rfl rfl (ox_load_fld t3) (.one rfl) (.one rfl) rfl ?_
                refine Ops.put rfl rfl (ox_add .tmp .tmp hb25) ((.app (.one rfl) (.one rfl))) (.nil) rfl ?_
                refine Ops.put rfl rfl (ox_gtr .tmp .int) ((.app (.one rfl) (.nil))) (.nil) rfl ?_
                refine Ops.put rfl rfl (ox_move .tmp) (.one rfl) (.nil) rfl ?_
                refine Ops.guard rfl rfl rfl rfl (.plain .nil) (fun hG => (ox_move .tmp)) ⟨rfl, trivial⟩ (.nil) rfl ?_
                refine Ops.guard rfl rfl rfl rfl (.plain .nil) (fun hG => (ox_fieldAddr_var Call_N f33_3)) ⟨rfl, trivial⟩ (.nil) rfl ?_
                refine Ops.guard rfl rfl rfl rfl (.cond (fun h => h) .nil) (fun hG => (ox_load_fld t3)) ⟨rfl, trivial⟩ (.one rfl) rfl ?_
                refine Ops.guard rfl rfl rfl rfl (.cond (fun h => h) (.cond (fun h => h) .nil)) (fun hG => (ox_add .tmp .tmp (hb26 hG))) ⟨rfl, rfl, trivial⟩ (.nil) rfl ?_
                refine Ops.guard rfl rfl rfl rfl (.cond (fun h => h) .nil) (fun hG => (ox_lss .tmp .int)) ⟨rfl, trivial⟩ (.nil) rfl ?_
                refine Ops.put rfl rfl ox_pick_or (⟨rfl, rfl, trivial⟩) (.nil) rfl ?_
                refine Ops.nil ?_
                refine PT.sub (σ' := ⟨[(2, .elem (a0)), (3, _), (5, _), (6, .val (v1.1)), (8, _), (122, .val (((decide ((1073741824 : Int) < (v1.1 + a1.N))) || (decide ((v1.1 + a1.N) < (-1073741824 : Int))))))], [(3, .var (a1) []), (5, .var (({ Err := (0 : Int), N := (0 : Int) } : Mk.Reply)) [])]⟩) ⟨rfl, rfl, rfl, rfl, rfl, rfl, trivial⟩ ⟨rfl, rfl, trivial⟩ ?_
                refine PT.cond _ rfl (fun hc27 => ?_) (fun hc27 => ?_)
                · replace hφ := if_then hφ hc27
                  refine PT.sub (σ' := ⟨[(5, _), (8, _)], [(5, .var (({ Err := (0 : Int), N := (0 : Int) } : Mk.Reply)) [])]⟩) ⟨rfl, rfl, trivial⟩ ⟨rfl, trivial⟩ ?_
                  refine PT.seq ?_
                  obtain ⟨v28, hv28, hφ⟩ := B_some hφ
                  refine PT.region ?_
                  refine Ops.put rfl rfl (ox_move .tmp) (.one rfl) (.nil) rfl ?_
                  refine Ops.put rfl rfl (ox_callv (c_mkref1_Do_1 hv28) (.cons .int .nil)) ((.cons rfl ((.app (.nil) .nil)))) (.nil) rfl ?_
                  refine Ops.put rfl rfl (ox_extract rfl) (.one rfl) (.nil) rfl ?_
                  refine Ops.put rfl rfl (ox_extract rfl) (.one rfl) (.nil) rfl ?_
                  refine Ops.put rfl rfl (ox_assign .tmp) (.one rfl) (.nil) rfl ?_
                  refine Ops.mute rfl rfl (ox_store_var t38 .tmp) ((.cons rfl (.one rfl))) (.one rfl) ?_
                  refine Ops.nil ?_
                  refine PT.sub (σ' := ⟨[(4, .val (v28.1)), (5, _)], [(5, .var (v28.2) [])]⟩) ⟨rfl, rfl, trivial⟩ ⟨rfl, trivial⟩ ?_
                  refine PT.ret ?_
                  obtain rfl := Option.some.inj hφ
                  exact PT.done hw0 rfl (.tmp rfl rfl (.cell t38 rfl rfl .nil)) rfl
                · replace hφ := if_else hφ hc27
                  refine PT.sub (σ' := ⟨[(2, .elem (a0)), (3, _), (5, _), (6, .val (v1.1))], [(3, .var (a1) []), (5, .var (({ Err := (0 : Int), N := (0 : Int) } : Mk.Reply)) [])]⟩) ⟨rfl, rfl, rfl, rfl, trivial⟩ ⟨rfl, rfl, trivial⟩ ?_
                  refine PT.skip ?_
                  refine PT.seq ?_
                  obtain ⟨hb29, hφ⟩ := G_some hφ
                  obtain ⟨v30, hv30, hφ⟩ := B_some hφ
                  obtain ⟨hb31, hφ⟩ := G_some hφ
                  refine PT.draw hMixed (
                      Segs.cons (Step.put rfl rfl (ox_load_elem t26)) ⟨.one rfl, .nil⟩ (by kernel_rfl) rfl <|
                      Segs.cons (Step.put rfl rfl (ox_fieldAddr_var Call_Name f33_1)) ⟨.one rfl, .nil⟩ (by kernel_rfl) rfl <|
                      Segs.cons (Step.put rfl rfl (ox_load_fld t3)) ⟨.one rfl, .one rfl⟩ (by kernel_rfl) rfl <|
                      Segs.cons (Step.put rfl rfl (ox_move .tmp)) ⟨.one rfl, .nil⟩ (by kernel_rfl) rfl <|
                      Segs.cons (Step.put rfl rfl (ox_fieldAddr_var Call_N f33_3)) ⟨.one rfl, .nil⟩ (by kernel_rfl) rfl <|
                      Segs.cons (Step.put rfl rfl (ox_load_fld t3)) ⟨.one rfl, .one rfl⟩ (by kernel_rfl) rfl <|
                      Segs.cons (Step.put rfl rfl (ox_add .tmp .tmp hb29)) ⟨(.app (.one rfl) (.one rfl)), .nil⟩ (by kernel_rfl) rfl <|
                      Segs.cons (Step.put rfl rfl (ox_call (c_mkref1_set hv30) (.cons .tmp (.cons .tmp (.cons .tmp .nil))))) ⟨(.app (.one rfl) (.app (.one rfl) (.app (.one rfl) .nil))), .nil⟩ (by kernel_rfl) rfl <|
                      Segs.cons (Step.put rfl rfl (ox_move .tmp)) ⟨.one rfl, .nil⟩ (by kernel_rfl) rfl <|
                      Segs.cons (Step.put rfl rfl (ox_fieldAddr_var Call_N f33_3)) ⟨.one rfl, .nil⟩ (by kernel_rfl) rfl <|
                      Segs.cons (Step.put rfl rfl (ox_load_fld t3)) ⟨.one rfl, .one rfl⟩ (by kernel_rfl) rfl <|
                      Segs.cons (Step.put rfl rfl (ox_add .tmp .tmp hb31)) ⟨(.app (.one rfl) (.one rfl)), .nil⟩ (by kernel_rfl) rfl <|
                      Segs.cons (Step.put rfl rfl (ox_buildB z38 u38 rfl (.cons Reply_N f38_1 .tmp Bld.nil))) ⟨(.app (.one rfl) .nil), .nil⟩ (by kernel_rfl) rfl <|
                      Segs.cons (Step.put rfl rfl (ox_assign .tmp)) ⟨.one rfl, .nil⟩ (by kernel_rfl) rfl <|
                      Segs.cons (Step.mute rfl rfl (ox_store_var t38 .tmp)) ⟨(.cons rfl (.one rfl)), .one rfl⟩ (by kernel_rfl) rfl <|
                      Segs.nil) _ [[], [], [1], [], [], [4], [3, 4, 5], [0, 1, 2, 3, 4, 5, 6], [], [], [9], [8, 9, 10], [8, 9, 10, 11], [0, 1, 2, 3, 4, 5, 6, 7], [0, 1, 2, 3, 4, 5, 6, 7, 8, 9, 10, 11, 12, 13]] rfl (by kernel_rfl) (by kernel_rfl) ?_
                  refine PT.sub (σ' := ⟨[(4, .val (v30)), (5, _)], [(5, .var (({ Err := (0 : Int), N := (v1.1 + a1.N) } : Mk.Reply)) [])]⟩) ⟨rfl, rfl, trivial⟩ ⟨rfl, trivial⟩ ?_
                  refine PT.ret ?_
                  obtain rfl := Option.some.inj hφ
                  exact PT.done hw0 rfl (.tmp rfl rfl (.cell t38 rfl rfl .nil)) rfl
              · replace hφ := if_else hφ hc24
                refine PT.sub (σ' := ⟨[(2, .elem (a0)), (3, _), (5, _), (6, .val (v1.1)), (8, _)], [(3, .var (a1) []), (5, .var (({ Err := (0 : Int), N := (0 : Int) } : Mk.Reply)) [])]⟩) ⟨rfl, rfl, rfl, rfl, rfl, trivial⟩ ⟨rfl, rfl, trivial⟩ ?_
                refine PT.skip ?_
                refine PT.seq ?_
                obtain ⟨v32, hv32, hφ⟩ := B_some hφ
                refine PT.region ?_
                refine Ops.put rfl rfl (ox_load_elem t26) (.one rfl) (.nil) rfl ?_
                refine Ops.put rfl rfl (ox_fieldAddr_var Call_Other f33_2) (.one rfl) (.nil) rfl ?_
                refine Ops.put rfl rfl (ox_load_fld t3) (.one rfl) (.one rfl) rfl ?_
                refine Ops.put rfl rfl (ox_call (c_mkref1_get hv32) (.cons .tmp (.cons .tmp .nil))) ((.app (.one rfl) (.app (.one rfl) .nil))) (.nil) rfl ?_
                refine Ops.put rfl rfl (ox_move .tmp) (.one rfl) (.nil) rfl ?_
                refine Ops.put rfl rfl (ox_extract rfl) (.one rfl) (.nil) rfl ?_
                refine Ops.put rfl rfl (ox_extract rfl) (.one rfl) (.nil) rfl ?_
                refine Ops.put rfl rfl (ox_assign .tmp) (.one rfl) (.nil) rfl ?_
                refine Ops.put rfl rfl (ox_assign .tmp) (.one rfl) (.nil) rfl ?_
                refine Ops.nil ?_
                refine PT.sub (σ' := ⟨[(2, .elem (a0)), (3, _), (5, _), (6, .val (v1.1)), (7, .val (v32.2)), (8, _), (12, .val (v32.1))], [(3, .var (a1) []), (5, .var (({ Err := (0 : Int), N := (0 : Int) } : Mk.Reply)) [])]⟩) ⟨rfl, rfl, rfl, rfl, rfl, rfl, rfl, trivial⟩ ⟨rfl, rfl, trivial⟩ ?_
                refine PT.seq ?_
                refine PT.seq ?_
                refine PT.region ?_
                refine Ops.put rfl rfl (ox_move .tmp) (.one rfl) (.nil) rfl ?_
                refine Ops.put rfl rfl (ox_not .tmp) (.one rfl) (.nil) rfl ?_
                refine Ops.nil ?_
                refine PT.sub (σ' := ⟨[(2, .elem (a0)), (3, _), (5, _), (6, .val (v1.1)), (8, _), (12, .val (v32.1)), (148, .val ((!v32.2)))], [(3, .var (a1) []), (5, .var (({ Err := (0 : Int), N := (0 : Int) } : Mk.Reply)) [])]⟩) ⟨rfl, rfl, rfl, rfl, rfl, rfl, rfl, trivial⟩ ⟨rfl, rfl, trivial⟩ ?_
                refine PT.cond _ rfl (fun hc33 => ?_) (fun hc33 => ?_)
                · replace hφ := if_then hφ hc33
                  refine PT.sub (σ' := ⟨[(5, _), (8, _)], [(5, .var (({ Err := (0 : Int), N := (0 : Int) } : Mk.Reply)) [])]⟩) ⟨rfl, rfl, trivial⟩ ⟨rfl, trivial⟩ ?_
                  refine PT.seq ?_
                  obtain ⟨v34, hv34, hφ⟩ := B_some hφ
                  refine PT.region ?_
                  refine Ops.put rfl rfl (ox_move .tmp) (.one rfl) (.nil) rfl ?_
                  refine Ops.put rfl rfl (ox_callv (c_mkref1_Do_1 hv34) (.cons .int .nil)) ((.cons rfl ((.app (.nil) .nil)))) (.nil) rfl ?_
                  refine Ops.put rfl rfl (ox_extract rfl) (.one rfl) (.nil) rfl ?_
                  refine Ops.put rfl rfl (ox_extract rfl) (.one rfl) (.nil) rfl ?_
                  refine Ops.put rfl rfl (ox_assign .tmp) (.one rfl) (.nil) rfl ?_
                  refine Ops.mute rfl rfl (ox_store_var t38 .tmp) ((.cons rfl (.one rfl))) (.one rfl) ?_
                  refine Ops.nil ?_
                  refine PT.sub (σ' := ⟨[(4, .val (v34.1)), (5, _)], [(5, .var (v34.2) [])]⟩) ⟨rfl, rfl, trivial⟩ ⟨rfl, trivial⟩ ?_
                  refine PT.ret ?_
                  obtain rfl := Option.some.inj hφ
                  exact PT.done hw0 rfl (.tmp rfl rfl (.cell t38 rfl rfl .nil)) rfl
                · replace hφ := if_else hφ hc33
                  refine PT.sub (σ' := ⟨[(2, .elem (a0)), (3, _), (5, _), (6, .val (v1.1)), (12, .val (v32.1))], [(3, .var (a1) []), (5, .var (({ Err := (0 : Int), N := (0 : Int) } : Mk.Reply)) [])]⟩) ⟨rfl, rfl, rfl, rfl, rfl, trivial⟩ ⟨rfl, rfl, trivial⟩ ?_
                  refine PT.skip ?_
                  refine PT.seq ?_
                  obtain ⟨v35, hv35, hφ⟩ := B_some hφ
                  obtain ⟨v36, hv36, hφ⟩ := B_some hφ
                  refine PT.draw hMixed (
                      Segs.cons (Step.put rfl rfl (ox_load_elem t26)) ⟨.one rfl, .nil⟩ (by kernel_rfl) rfl <|
                      Segs.cons (Step.put rfl rfl (ox_fieldAddr_var Call_Name f33_1)) ⟨.one rfl, .nil⟩ (by kernel_rfl) rfl <|
                      Segs.cons (Step.put rfl rfl (ox_load_fld t3)) ⟨.one rfl, .one rfl⟩ (by kernel_rfl) rfl <|
                      Segs.cons (Step.put rfl rfl (ox_move .tmp)) ⟨.one rfl, .nil⟩ (by kernel_rfl) rfl <|
                      Segs.cons (Step.put rfl rfl (ox_call (c_mkref1_set hv35) (.cons .tmp (.cons .tmp (.cons .tmp .nil))))) ⟨(.app (.one rfl) (.app (.one rfl) (.app (.one rfl) .nil))), .nil⟩ (by kernel_rfl) rfl <|
                      Segs.cons (Step.put rfl rfl (ox_fieldAddr_var Call_Other f33_2)) ⟨.one rfl, .nil⟩ (by kernel_rfl) rfl <|
                      Segs.cons (Step.put rfl rfl (ox_load_fld t3)) ⟨.one rfl, .one rfl⟩ (by kernel_rfl) rfl <|
                      Segs.cons (Step.put rfl rfl (ox_move .tmp)) ⟨.one rfl, .nil⟩ (by kernel_rfl) rfl <|
                      Segs.cons (Step.put rfl rfl (ox_call (c_mkref1_set hv36) (.cons .tmp (.cons .tmp (.cons .tmp .nil))))) ⟨(.app (.one rfl) (.app (.one rfl) (.app (.one rfl) .nil))), .nil⟩ (by kernel_rfl) rfl <|
                      Segs.cons (Step.put rfl rfl (ox_move .tmp)) ⟨.one rfl, .nil⟩ (by kernel_rfl) rfl <|
                      Segs.cons (Step.put rfl rfl (ox_buildB z38 u38 rfl (.cons Reply_N f38_1 .tmp Bld.nil))) ⟨(.app (.one rfl) .nil), .nil⟩ (by kernel_rfl) rfl <|
                      Segs.cons (Step.put rfl rfl (ox_assign .tmp)) ⟨.one rfl, .nil⟩ (by kernel_rfl) rfl <|
                      Segs.cons (Step.mute rfl rfl (ox_store_var t38 .tmp)) ⟨(.cons rfl (.one rfl)), .one rfl⟩ (by kernel_rfl) rfl <|
                      Segs.nil) _ [[], [], [1], [], [0, 1, 2, 3], [], [5], [], [0, 1, 2, 3, 4, 5, 6, 7], [], [9], [0, 1, 2, 3, 4, 5, 6, 7, 8], [0, 1, 2, 3, 4, 5, 6, 7, 8, 9, 10, 11]] rfl (by kernel_rfl) (by kernel_rfl) ?_
                  refine PT.sub (σ' := ⟨[(4, .val (v36)), (5, _)], [(5, .var (({ Err := (0 : Int), N := v32.1 } : Mk.Reply)) [])]⟩) ⟨rfl, rfl, trivial⟩ ⟨rfl, trivial⟩ ?_
                  refine PT.ret ?_
                  obtain rfl := Option.some.inj hφ
                  exact PT.done hw0 rfl (.tmp rfl rfl (.cell t38 rfl rfl .nil)) rfl
theorem c_mkref1_Find {a0 : List Int} {a1 : Int} {r : Int} (hφ : mkref1_Find a0 a1 = some r) : Fn Go.Proofs.Try.prog 105 [.val a0, .val a1] (.val r) := by
  unfold mkref1_Find at hφ
  refine Fn.mk' Go.Proofs.Try.func105 rfl (by decide) rfl rfl rfl (fun w0 hw0 => ?_)
  refine PT.seq ?_
  refine PT.region ?_
  refine Ops.put rfl rfl (ox_assign .int) (.nil) (.nil) rfl ?_
  refine Ops.nil ?_
  refine PT.sub (σ' := ⟨[(0, .val (a0)), (1, .val (a1))], []⟩) ⟨rfl, rfl, trivial⟩ trivial ?_
  obtain ⟨k1, hk1, hφ⟩ := J_some hφ
  refine PT.cut (ι := Unit) (fun p => ⟨[], []⟩) (fun p => k1 () = some r) ?_ ?_
  · skip
    refine PT.seq ?_
    refine PT.region ?_
    refine Ops.put rfl rfl (ox_assign .int) (.nil) (.nil) rfl ?_
    refine Ops.nil ?_
    refine PT.sub (σ' := ⟨[(0, .val (a0)), (1, .val (a1)), (5, .val ((1 : Int)))], []⟩) ⟨rfl, rfl, rfl, trivial⟩ trivial ?_
    refine PT.block ?_
    refine PT.loop (ι := Nat × (List Int) × Int × Int) (fun p => ⟨[(0, .val (p.2.1)), (1, .val (p.2.2.1)), (5, .val (p.2.2.2))], []⟩) (fun p => mkref1_Find_l1 k1 p.1 (p.2.1) (p.2.2.1) (p.2.2.2) = some r) (fun p => p.1) ((((1 : Int) + ((2 : Int) * (ix a0 (0 : Int)))) - (1 : Int)).toNat + 1, a0, a1, (1 : Int)) hφ ⟨rfl, rfl, rfl, trivial⟩ trivial ?_
    rintro ⟨m2, x0_m2, x1_m2, x5_m2⟩ (hφ : mkref1_Find_l1 k1 m2 x0_m2 x1_m2 x5_m2 = some r)
    obtain _ | m2 := m2
    · exact (none_no hφ).elim
    rw [mkref1_Find_l1.eq_2] at hφ
    refine PT.sub (σ' := ⟨[(0, .val (x0_m2)), (1, .val (x1_m2)), (5, .val (x5_m2))], []⟩) ⟨rfl, rfl, rfl, trivial⟩ trivial ?_
    refine PT.seq ?_
    refine PT.seq ?_
    obtain ⟨hb3, hφ⟩ := G_some hφ
    obtain ⟨hb4, hφ⟩ := G_some hφ
    obtain ⟨hb5, hφ⟩ := G_some hφ
    refine PT.region ?_
    refine Ops.put rfl rfl (ox_move .tmp) (.one rfl) (.nil) rfl ?_
    refine Ops.put rfl rfl (ox_move .tmp) (.one rfl) (.nil) rfl ?_
    refine Ops.put rfl rfl (ox_ix s25 .tmp .int hb3.1 hb3.2) ((.app (.one rfl) (.nil))) (.nil) rfl ?_
    refine Ops.put rfl rfl (ox_load_elem t3) (.one rfl) (.nil) rfl ?_
    refine Ops.put rfl rfl (ox_mul .int .tmp hb4) ((.app (.nil) (.one rfl))) (.nil) rfl ?_
    refine Ops.put rfl rfl (ox_add .int .tmp hb5) ((.app (.nil) (.one rfl))) (.nil) rfl ?_
    refine Ops.put rfl rfl (ox_lss .tmp .tmp) ((.app (.one rfl) (.one rfl))) (.nil) rfl ?_
    refine Ops.nil ?_
    refine PT.sub (σ' := ⟨[(0, .val (x0_m2)), (1, .val (x1_m2)), (5, .val (x5_m2)), (12, .val ((decide (x5_m2 < ((1 : Int) + ((2 : Int) * (ix x0_m2 (0 : Int))))))))], []⟩) ⟨rfl, rfl, rfl, rfl, trivial⟩ trivial ?_
    refine PT.cond _ rfl (fun hc6 => ?_) (fun hc6 => ?_)
    · replace hφ := if_then hφ hc6
      refine PT.sub (σ' := ⟨[(0, .val (x0_m2)), (1, .val (x1_m2)), (5, .val (x5_m2))], []⟩) ⟨rfl, rfl, rfl, trivial⟩ trivial ?_
      refine PT.skip ?_
      refine PT.seq ?_
      refine PT.block ?_
      refine PT.seq ?_
      obtain ⟨hb7, hφ⟩ := G_some hφ
      refine PT.region ?_
      refine Ops.put rfl rfl (ox_move .tmp) (.one rfl) (.nil) rfl ?_
      refine Ops.put rfl rfl (ox_move .tmp) (.one rfl) (.nil) rfl ?_
      refine Ops.put rfl rfl (ox_ix s25 .tmp .tmp hb7.1 hb7.2) ((.app (.one rfl) (.one rfl))) (.nil) rfl ?_
      refine Ops.put rfl rfl (ox_load_elem t3) (.one rfl) (.nil) rfl ?_
      refine Ops.put rfl rfl (ox_move .tmp) (.one rfl) (.nil) rfl ?_
      refine Ops.put rfl rfl (ox_eql .tmp .tmp) ((.app (.one rfl) (.one rfl))) (.nil) rfl ?_
      refine Ops.nil ?_
      refine PT.sub (σ' := ⟨[(0, .val (x0_m2)), (1, .val (x1_m2)), (5, .val (x5_m2)), (20, .val ((decide ((ix x0_m2 x5_m2) = x1_m2))))], []⟩) ⟨rfl, rfl, rfl, rfl, trivial⟩ trivial ?_
      refine PT.cond _ rfl (fun hc8 => ?_) (fun hc8 => ?_)
      · replace hφ := if_then hφ hc8
        refine PT.sub (σ' := ⟨[(5, .val (x5_m2))], []⟩) ⟨rfl, trivial⟩ trivial ?_
        refine PT.seq ?_
        obtain ⟨hb9, hφ⟩ := G_some hφ
        refine PT.region ?_
        refine Ops.put rfl rfl (ox_move .tmp) (.one rfl) (.nil) rfl ?_
        refine Ops.put rfl rfl (ox_quo .tmp .int hb9) ((.app (.one rfl) (.nil))) (.nil) rfl ?_
        refine Ops.put rfl rfl (ox_assign .tmp) (.one rfl) (.nil) rfl ?_
        refine Ops.nil ?_
        refine PT.sub (σ' := ⟨[(4, .val ((Int.tdiv x5_m2 (2 : Int))))], []⟩) ⟨rfl, trivial⟩ trivial ?_
        refine PT.ret ?_
        obtain rfl := Option.some.inj hφ
        exact PT.done hw0 rfl (.tmp rfl rfl .nil) rfl
      · replace hφ := if_else hφ hc8
        refine PT.sub (σ' := ⟨[(0, .val (x0_m2)), (1, .val (x1_m2)), (5, .val (x5_m2))], []⟩) ⟨rfl, rfl, rfl, trivial⟩ trivial ?_
        refine PT.skip ?_
        obtain ⟨hb10, hφ⟩ := G_some hφ
        refine PT.region ?_
        refine Ops.put rfl rfl (ox_move .tmp) (.one rfl) (.nil) rfl ?_
        refine Ops.put rfl rfl (ox_add .tmp .int hb10) ((.app (.one rfl) (.nil))) (.nil) rfl ?_
        refine Ops.put rfl rfl (ox_assign .tmp) (.one rfl) (.nil) rfl ?_
        refine Ops.nil ?_
        refine PT.sub (σ' := ⟨[(0, .val (x0_m2)), (1, .val (x1_m2)), (5, .val ((x5_m2 + (2 : Int))))], []⟩) ⟨rfl, rfl, rfl, trivial⟩ trivial ?_
        exact PT.next (m2, x0_m2, x1_m2, (x5_m2 + (2 : Int))) hφ (Nat.lt_succ_self _) ⟨rfl, rfl, rfl, trivial⟩ trivial
    · replace hφ := if_else hφ hc6
      refine PT.sub (σ' := ⟨[], []⟩) trivial trivial ?_
      refine PT.exit ?_
      exact PT.meet () hφ trivial trivial
  · rintro ⟨⟩ hφ
    subst hk1
    refine PT.sub (σ' := ⟨[], []⟩) trivial trivial ?_
    refine PT.seq ?_
    refine PT.region ?_
    refine Ops.put rfl rfl (ox_assign .int) (.nil) (.nil) rfl ?_
    refine Ops.nil ?_
    refine PT.sub (σ' := ⟨[(4, .val ((-1 : Int)))], []⟩) ⟨rfl, trivial⟩ trivial ?_
    refine PT.ret ?_
    obtain rfl := Option.some.inj hφ
    exact PT.done hw0 rfl (.tmp rfl rfl .nil) rfl
theorem c_mkref1_Plan {a0 : List Int} {a1 : Mk.Call} {r : ((List Mk.Write) × Mk.Reply)} (hφ : mkref1_Plan a0 a1 = some r) : Fn Go.Proofs.Try.prog 71 [.val a0, .val a1] (.tup [.val r.1, .val r.2]) := by
  unfold mkref1_Plan at hφ
  refine Fn.mk' Go.Proofs.Try.func71 rfl (by decide) rfl rfl rfl (fun w0 hw0 => ?_)
  refine PT.seq ?_
  refine PT.region ?_
  refine Ops.putO rfl rfl (ox_box (id := 3) .tmp) (.one rfl) (.nil) rfl (by kernel_rfl) ?_
  refine Ops.put rfl rfl (ox_assign .nilS) (.nil) (.nil) rfl ?_
  refine Ops.putO rfl rfl (ox_alloc (id := 5) z38) (.nil) (.nil) rfl (by kernel_rfl) ?_
  refine Ops.nil ?_
  refine PT.sub (σ' := ⟨[(0, .val (a0)), (3, _), (5, _)], [(3, .var (a1) []), (5, .var (({ Err := (0 : Int), N := (0 : Int) } : Mk.Reply)) [])]⟩) ⟨rfl, rfl, rfl, trivial⟩ ⟨rfl, rfl, trivial⟩ ?_
  refine PT.seq ?_
  obtain ⟨v1, hv1, hφ⟩ := B_some hφ
  refine PT.region ?_
  refine Ops.put rfl rfl (ox_move .tmp) (.one rfl) (.nil) rfl ?_
  refine Ops.put rfl rfl (ox_call (c_mkref1_Of hv1) (.cons .tmp .nil)) ((.app (.one rfl) .nil)) (.nil) rfl ?_
  refine Ops.put rfl rfl (ox_assign .tmp) (.one rfl) (.nil) rfl ?_
  refine Ops.nil ?_
  refine PT.sub (σ' := ⟨[(0, .val (a0)), (3, _), (5, _), (6, .val (v1))], [(3, .var (a1) []), (5, .var (({ Err := (0 : Int), N := (0 : Int) } : Mk.Reply)) [])]⟩) ⟨rfl, rfl, rfl, rfl, trivial⟩ ⟨rfl, rfl, trivial⟩ ?_
  refine PT.seq ?_
  obtain ⟨v2, hv2, hφ⟩ := B_some hφ
  refine PT.region ?_
  refine Ops.put rfl rfl (ox_move .tmp) (.one rfl) (.nil) rfl ?_
  refine Ops.put rfl rfl (ox_load_var t33) (.one rfl) (.one rfl) rfl ?_
  refine Ops.put rfl rfl (ox_call (c_mkref1_Do hv2) (.cons .tmp (.cons .tmp .nil))) ((.app (.one rfl) (.app (.one rfl) .nil))) (.nil) rfl ?_
  refine Ops.put rfl rfl (ox_move .tmp) (.one rfl) (.nil) rfl ?_
  refine Ops.put rfl rfl (ox_extract rfl) (.one rfl) (.nil) rfl ?_
  refine Ops.put rfl rfl (ox_extract rfl) (.one rfl) (.nil) rfl ?_
  refine Ops.putO rfl rfl (ox_alloc (id := 8) z38) (.nil) (.nil) rfl (by kernel_rfl) ?_
  refine Ops.put rfl rfl (ox_assign .tmp) (.one rfl) (.nil) rfl ?_
  refine Ops.mute rfl rfl (ox_store_var t38 .tmp) ((.cons rfl (.one rfl))) (.one rfl) ?_
  refine Ops.nil ?_
  refine PT.sub (σ' := ⟨[(0, .val (a0)), (3, _), (5, _), (6, .val (v1)), (7, .val (v2.1)), (8, _)], [(3, .var (a1) []), (5, .var (({ Err := (0 : Int), N := (0 : Int) } : Mk.Reply)) []), (8, .var (v2.2) [])]⟩) ⟨rfl, rfl, rfl, rfl, rfl, rfl, trivial⟩ ⟨rfl, rfl, rfl, trivial⟩ ?_
  refine PT.seq ?_
  refine PT.region ?_
  refine Ops.put rfl rfl (ox_assign .nilS) (.nil) (.nil) rfl ?_
  refine Ops.nil ?_
  refine PT.sub (σ' := ⟨[(0, .val (a0)), (3, _), (5, _), (6, .val (v1)), (7, .val (v2.1)), (8, _), (9, .nilS)], [(3, .var (a1) []), (5, .var (({ Err := (0 : Int), N := (0 : Int) } : Mk.Reply)) []), (8, .var (v2.2) [])]⟩) ⟨rfl, rfl, rfl, rfl, rfl, rfl, rfl, trivial⟩ ⟨rfl, rfl, rfl, trivial⟩ ?_
  refine PT.seq ?_
  refine PT.seq ?_
  refine PT.region ?_
  refine Ops.put rfl rfl (ox_fieldAddr_var Reply_Err f38_0) (.one rfl) (.nil) rfl ?_
  refine Ops.put rfl rfl (ox_load_fld t36) (.one rfl) (.one rfl) rfl ?_
  refine Ops.put rfl rfl (ox_neq .tmp .int) ((.app (.one rfl) (.nil))) (.nil) rfl ?_
  refine Ops.nil ?_
  refine PT.sub (σ' := ⟨[(0, .val (a0)), (3, _), (5, _), (6, .val (v1)), (7, .val (v2.1)), (8, _), (9, .nilS), (22, .val ((!decide (v2.2.Err = (0 : Int)))))], [(3, .var (a1) []), (5, .var (({ Err := (0 : Int), N := (0 : Int) } : Mk.Reply)) []), (8, .var (v2.2) [])]⟩) ⟨rfl, rfl, rfl, rfl, rfl, rfl, rfl, rfl, trivial⟩ ⟨rfl, rfl, rfl, trivial⟩ ?_
  refine PT.cond _ rfl (fun hc3 => ?_) (fun hc3 => ?_)
  · replace hφ := if_then hφ hc3
    refine PT.sub (σ' := ⟨[(5, _), (8, _)], [(5, .var (({ Err := (0 : Int), N := (0 : Int) } : Mk.Reply)) []), (8, .var (v2.2) [])]⟩) ⟨rfl, rfl, trivial⟩ ⟨rfl, rfl, trivial⟩ ?_
    refine PT.seq ?_
    refine PT.draw hMixed (
        Segs.cons (Step.put rfl rfl (ox_load_var t38)) ⟨.one rfl, .one rfl⟩ (by kernel_rfl) rfl <|
        Segs.cons (Step.put rfl rfl (ox_assign .nilS)) ⟨.nil, .nil⟩ (by kernel_rfl) rfl <|
        Segs.cons (Step.mute rfl rfl (ox_store_var t38 .tmp)) ⟨(.cons rfl (.one rfl)), .one rfl⟩ (by kernel_rfl) rfl <|
        Segs.nil) _ [[], [], [0, 1]] rfl (by kernel_rfl) (by kernel_rfl) ?_
    refine PT.sub (σ' := ⟨[(4, .nilS), (5, _)], [(5, .var (v2.2) [])]⟩) ⟨rfl, rfl, trivial⟩ ⟨rfl, trivial⟩ ?_
    refine PT.ret ?_
    refine PT.asNil 4 (Mk.Write) rfl ?_
    obtain rfl := Option.some.inj hφ
    exact PT.done hw0 rfl (.tmp rfl rfl (.cell t38 rfl rfl .nil)) rfl
  · replace hφ := if_else hφ hc3
    refine PT.sub (σ' := ⟨[(0, .val (a0)), (3, _), (5, _), (6, .val (v1)), (7, .val (v2.1)), (8, _), (9, .nilS)], [(3, .var (a1) []), (5, .var (({ Err := (0 : Int), N := (0 : Int) } : Mk.Reply)) []), (8, .var (v2.2) [])]⟩) ⟨rfl, rfl, rfl, rfl, rfl, rfl, rfl, trivial⟩ ⟨rfl, rfl, rfl, trivial⟩ ?_
    refine PT.skip ?_
    refine PT.seq ?_
    obtain ⟨v4, hv4, hφ⟩ := B_some hφ
    refine PT.region ?_
    refine Ops.put rfl rfl (ox_move .tmp) (.one rfl) (.nil) rfl ?_
    refine Ops.put rfl rfl (ox_fieldAddr_var Call_Name f33_1) (.one rfl) (.nil) rfl ?_
    refine Ops.put rfl rfl (ox_load_fld t3) (.one rfl) (.one rfl) rfl ?_
    refine Ops.put rfl rfl (ox_call (c_mkref1_Find hv4) (.cons .tmp (.cons .tmp .nil))) ((.app (.one rfl) (.app (.one rfl) .nil))) (.nil) rfl ?_
    refine Ops.put rfl rfl (ox_assign .tmp) (.one rfl) (.nil) rfl ?_
    refine Ops.nil ?_
    refine PT.sub (σ' := ⟨[(0, .val (a0)), (3, _), (5, _), (6, .val (v1)), (7, .val (v2.1)), (8, _), (9, .nilS), (10, .val (v4))], [(3, .var (a1) []), (5, .var (({ Err := (0 : Int), N := (0 : Int) } : Mk.Reply)) []), (8, .var (v2.2) [])]⟩) ⟨rfl, rfl, rfl, rfl, rfl, rfl, rfl, rfl, trivial⟩ ⟨rfl, rfl, rfl, trivial⟩ ?_
    obtain ⟨k5, hk5, hφ⟩ := J_some hφ
    refine PT.cut (ι := (List Mk.Write) × (List Mk.Write) × Mk.Reply × Mk.Reply × (List Mk.Write)) (fun p => ⟨[(5, .ptr 5 (Lens.id (α := Mk.Reply))), (6, .val (p.1)), (7, .val (p.2.1)), (8, .ptr 8 (Lens.id (α := Mk.Reply))), (9, .sl 1009)], [(5, .var (p.2.2.1) []), (8, .var (p.2.2.2.1) []), (1009, .arr 99 (p.2.2.2.2))]⟩) (fun p => k5 (p.1) (p.2.1) (p.2.2.1) (p.2.2.2.1) (p.2.2.2.2) = some r) ?_ ?_
    · skip
      refine PT.block ?_
      refine PT.seq ?_
      refine PT.region ?_
      refine Ops.put rfl rfl (ox_fieldAddr_var Call_Kind f33_0) (.one rfl) (.nil) rfl ?_
      refine Ops.put rfl rfl (ox_load_fld t3) (.one rfl) (.one rfl) rfl ?_
      refine Ops.put rfl rfl (ox_eql .tmp .int) ((.app (.one rfl) (.nil))) (.nil) rfl ?_
      refine Ops.put rfl rfl (ox_assign .tmp) (.one rfl) (.nil) rfl ?_
      refine Ops.nil ?_
      refine PT.sub (σ' := ⟨[(0, .val (a0)), (3, _), (5, _), (6, .val (v1)), (7, .val (v2.1)), (8, _), (9, .nilS), (10, .val (v4)), (28, .val ((decide (a1.Kind = (6 : Int)))))], [(3, .var (a1) []), (5, .var (({ Err := (0 : Int), N := (0 : Int) } : Mk.Reply)) []), (8, .var (v2.2) [])]⟩) ⟨rfl, rfl, rfl, rfl, rfl, rfl, rfl, rfl, rfl, trivial⟩ ⟨rfl, rfl, rfl, trivial⟩ ?_
      refine PT.cond _ rfl (fun hc6 => ?_) (fun hc6 => ?_)
      · replace hφ := if_then hφ hc6
        refine PT.sub (σ' := ⟨[(0, .val (a0)), (3, _), (5, _), (7, .val (v2.1)), (8, _), (10, .val (v4))], [(3, .var (a1) []), (5, .var (({ Err := (0 : Int), N := (0 : Int) } : Mk.Reply)) []), (8, .var (v2.2) [])]⟩) ⟨rfl, rfl, rfl, rfl, rfl, rfl, trivial⟩ ⟨rfl, rfl, rfl, trivial⟩ ?_
        refine PT.seq ?_
        obtain ⟨v7, hv7, hφ⟩ := B_some hφ
        refine PT.region ?_
        refine Ops.put rfl rfl (ox_move .tmp) (.one rfl) (.nil) rfl ?_
        refine Ops.put rfl rfl (ox_fieldAddr_var Call_Other f33_2) (.one rfl) (.nil) rfl ?_
        refine Ops.put rfl rfl (ox_load_fld t3) (.one rfl) (.one rfl) rfl ?_
        refine Ops.put rfl rfl (ox_call (c_mkref1_Find hv7) (.cons .tmp (.cons .tmp .nil))) ((.app (.one rfl) (.app (.one rfl) .nil))) (.nil) rfl ?_
        refine Ops.put rfl rfl (ox_assign .tmp) (.one rfl) (.nil) rfl ?_
        refine Ops.nil ?_
        refine PT.sub (σ' := ⟨[(5, _), (7, .val (v2.1)), (8, _), (10, .val (v4)), (11, .val (v7))], [(5, .var (({ Err := (0 : Int), N := (0 : Int) } : Mk.Reply)) []), (8, .var (v2.2) [])]⟩) ⟨rfl, rfl, rfl, rfl, rfl, trivial⟩ ⟨rfl, rfl, trivial⟩ ?_
        refine PT.seq ?_
        obtain ⟨hb8, hφ⟩ := G_some hφ
        obtain ⟨hb9, hφ⟩ := G_some hφ
        obtain ⟨hb10, hφ⟩ := G_some hφ
        obtain ⟨hb11, hφ⟩ := G_some hφ
        obtain ⟨hb12, hφ⟩ := G_some hφ
        obtain ⟨hb13, hφ⟩ := G_some hφ
        refine PT.draw hMixed (
            Segs.cons (Step.put rfl rfl (ox_move .tmp)) ⟨.one rfl, .nil⟩ (by kernel_rfl) rfl <|
            Segs.cons (Step.put rfl rfl (ox_mul .int .tmp hb8)) ⟨(.app (.nil) (.one rfl)), .nil⟩ (by kernel_rfl) rfl <|
            Segs.cons (Step.put rfl rfl (ox_add .int .tmp hb9)) ⟨(.app (.nil) (.one rfl)), .nil⟩ (by kernel_rfl) rfl <|
            Segs.cons (Step.put rfl rfl (ox_move .tmp)) ⟨.one rfl, .nil⟩ (by kernel_rfl) rfl <|
            Segs.cons (Step.put rfl rfl (ox_move .tmp)) ⟨.one rfl, .nil⟩ (by kernel_rfl) rfl <|
            Segs.cons (Step.put rfl rfl (ox_ix s26 .tmp .tmp hb10.1 hb10.2)) ⟨(.app (.one rfl) (.one rfl)), .nil⟩ (by kernel_rfl) rfl <|
            Segs.cons (Step.put rfl rfl (ox_fieldAddr_elem Write_N f99_1)) ⟨.one rfl, .nil⟩ (by kernel_rfl) rfl <|
            Segs.cons (Step.put rfl rfl (ox_load_elem t3)) ⟨.one rfl, .nil⟩ (by kernel_rfl) rfl <|
            Segs.cons (Step.put rfl rfl (ox_buildB z99 u99 rfl (.cons Write_At f99_0 .tmp (.cons Write_N f99_1 .tmp Bld.nil)))) ⟨(.app (.one rfl) (.app (.one rfl) .nil)), .nil⟩ (by kernel_rfl) rfl <|
            Segs.cons (Step.put rfl rfl (ox_move .tmp)) ⟨.one rfl, .nil⟩ (by kernel_rfl) rfl <|
            Segs.cons (Step.put rfl rfl (ox_mul .int .tmp hb11)) ⟨(.app (.nil) (.one rfl)), .nil⟩ (by kernel_rfl) rfl <|
            Segs.cons (Step.put rfl rfl (ox_add .int .tmp hb12)) ⟨(.app (.nil) (.one rfl)), .nil⟩ (by kernel_rfl) rfl <|
            Segs.cons (Step.put rfl rfl (ox_move .tmp)) ⟨.one rfl, .nil⟩ (by kernel_rfl) rfl <|
            Segs.cons (Step.put rfl rfl (ox_move .tmp)) ⟨.one rfl, .nil⟩ (by kernel_rfl) rfl <|
            Segs.cons (Step.put rfl rfl (ox_ix s26 .tmp .tmp hb13.1 hb13.2)) ⟨(.app (.one rfl) (.one rfl)), .nil⟩ (by kernel_rfl) rfl <|
            Segs.cons (Step.put rfl rfl (ox_fieldAddr_elem Write_N f99_1)) ⟨.one rfl, .nil⟩ (by kernel_rfl) rfl <|
            Segs.cons (Step.put rfl rfl (ox_load_elem t3)) ⟨.one rfl, .nil⟩ (by kernel_rfl) rfl <|
            Segs.cons (Step.put rfl rfl (ox_buildB z99 u99 rfl (.cons Write_At f99_0 .tmp (.cons Write_N f99_1 .tmp Bld.nil)))) ⟨(.app (.one rfl) (.app (.one rfl) .nil)), .nil⟩ (by kernel_rfl) rfl <|
            Segs.cons (Step.put rfl rfl (ox_buildSlice_val s26 z99 (.cons .tmp (.cons .tmp Parts.nil)) rfl (by decide))) ⟨(.app (.one rfl) (.app (.one rfl) .nil)), .nil⟩ (by kernel_rfl) rfl <|
            Segs.cons (Step.put rfl rfl (ox_load_var t38)) ⟨.one rfl, .one rfl⟩ (by kernel_rfl) rfl <|
            Segs.cons (Step.put rfl rfl (ox_assign .tmp)) ⟨.one rfl, .nil⟩ (by kernel_rfl) rfl <|
            Segs.cons (Step.mute rfl rfl (ox_store_var t38 .tmp)) ⟨(.cons rfl (.one rfl)), .one rfl⟩ (by kernel_rfl) rfl <|
            Segs.nil) _ [[], [0], [0, 1], [], [], [3, 4], [3, 4, 5], [3, 4, 5, 6], [0, 1, 2, 3, 4, 5, 6, 7], [], [9], [9, 10], [], [], [12, 13], [12, 13, 14], [12, 13, 14, 15], [9, 10, 11, 12, 13, 14, 15, 16], [0, 1, 2, 3, 4, 5, 6, 7, 8, 9, 10, 11, 12, 13, 14, 15, 16, 17], [], [0, 1, 2, 3, 4, 5, 6, 7, 8, 9, 10, 11, 12, 13, 14, 15, 16, 17, 18], [0, 1, 2, 3, 4, 5, 6, 7, 8, 9, 10, 11, 12, 13, 14, 15, 16, 17, 18, 19, 20]] rfl (by kernel_rfl) (by kernel_rfl) ?_
        refine PT.sub (σ' := ⟨[(4, .val (([({ At := ((2 : Int) + ((2 : Int) * v4)), N := (ix v2.1 v4).N } : Mk.Write), ({ At := ((2 : Int) + ((2 : Int) * v7)), N := (ix v2.1 v7).N } : Mk.Write)] : List Mk.Write))), (5, _)], [(5, .var (v2.2) [])]⟩) ⟨rfl, rfl, trivial⟩ ⟨rfl, trivial⟩ ?_
        refine PT.ret ?_
        obtain rfl := Option.some.inj hφ
        exact PT.done hw0 rfl (.tmp rfl rfl (.cell t38 rfl rfl .nil)) rfl
      · replace hφ := if_else hφ hc6
        refine PT.sub (σ' := ⟨[(3, _), (5, _), (6, .val (v1)), (7, .val (v2.1)), (8, _), (9, .nilS), (10, .val (v4))], [(3, .var (a1) []), (5, .var (({ Err := (0 : Int), N := (0 : Int) } : Mk.Reply)) []), (8, .var (v2.2) [])]⟩) ⟨rfl, rfl, rfl, rfl, rfl, rfl, rfl, trivial⟩ ⟨rfl, rfl, rfl, trivial⟩ ?_
        refine PT.seq ?_
        refine PT.region ?_
        refine Ops.put rfl rfl (ox_fieldAddr_var Call_Kind f33_0) (.one rfl) (.nil) rfl ?_
        refine Ops.put rfl rfl (ox_load_fld t3) (.one rfl) (.one rfl) rfl ?_
        refine Ops.put rfl rfl (ox_eql .tmp .int) ((.app (.one rfl) (.nil))) (.nil) rfl ?_
        refine Ops.put rfl rfl (ox_move .tmp) (.one rfl) (.nil) rfl ?_
        refine Ops.guard rfl rfl rfl rfl (.plain .nil) (fun hG => (ox_move .tmp)) ⟨rfl, trivial⟩ (.nil) rfl ?_
        refine Ops.guard rfl rfl rfl rfl (.plain .nil) (fun hG => (ox_move .tmp)) ⟨rfl, trivial⟩ (.nil) rfl ?_
        refine Ops.guard rfl rfl rfl rfl (.cond (fun h => h) .nil) (fun hG => (ox_len s26 .tmp)) ⟨rfl, trivial⟩ (.nil) rfl ?_
        refine Ops.guard rfl rfl rfl rfl (.cond (fun h => h) (.cond (fun h => h) .nil)) (fun hG => (ox_lss .tmp .tmp)) ⟨rfl, rfl, trivial⟩ (.nil) rfl ?_
        refine Ops.put rfl rfl ox_pick_and (⟨rfl, rfl, trivial⟩) (.nil) rfl ?_
        refine Ops.put rfl rfl (ox_assign .tmp) (.one rfl) (.nil) rfl ?_
        refine Ops.nil ?_
        refine PT.sub (σ' := ⟨[(3, _), (5, _), (6, .val (v1)), (7, .val (v2.1)), (8, _), (9, .nilS), (10, .val (v4)), (56, .val (((decide (a1.Kind = (3 : Int))) && (decide (v4 < (v2.1.length : Int))))))], [(3, .var (a1) []), (5, .var (({ Err := (0 : Int), N := (0 : Int) } : Mk.Reply)) []), (8, .var (v2.2) [])]⟩) ⟨rfl, rfl, rfl, rfl, rfl, rfl, rfl, rfl, trivial⟩ ⟨rfl, rfl, rfl, trivial⟩ ?_
        refine PT.cond _ rfl (fun hc14 => ?_) (fun hc14 => ?_)
        · replace hφ := if_then hφ hc14
          refine PT.sub (σ' := ⟨[(5, _), (6, .val (v1)), (7, .val (v2.1)), (8, _), (10, .val (v4))], [(5, .var (({ Err := (0 : Int), N := (0 : Int) } : Mk.Reply)) []), (8, .var (v2.2) [])]⟩) ⟨rfl, rfl, rfl, rfl, rfl, trivial⟩ ⟨rfl, rfl, trivial⟩ ?_
          obtain ⟨hb15, hφ⟩ := G_some hφ
          obtain ⟨hb16, hφ⟩ := G_some hφ
          obtain ⟨hb17, hφ⟩ := G_some hφ
          obtain ⟨hb18, hφ⟩ := G_some hφ
          obtain ⟨hb19, hφ⟩ := G_some hφ
          obtain ⟨hb20, hφ⟩ := G_some hφ
          refine PT.draw hMixed (
              Segs.cons (Step.put rfl rfl (ox_move .tmp)) ⟨.one rfl, .nil⟩ (by kernel_rfl) rfl <|
              Segs.cons (Step.put rfl rfl (ox_mul .int .tmp hb15)) ⟨(.app (.nil) (.one rfl)), .nil⟩ (by kernel_rfl) rfl <|
              Segs.cons (Step.put rfl rfl (ox_add .int .tmp hb16)) ⟨(.app (.nil) (.one rfl)), .nil⟩ (by kernel_rfl) rfl <|
              Segs.cons (Step.put rfl rfl (ox_move .tmp)) ⟨.one rfl, .nil⟩ (by kernel_rfl) rfl <|
              Segs.cons (Step.put rfl rfl (ox_move .tmp)) ⟨.one rfl, .nil⟩ (by kernel_rfl) rfl <|
              Segs.cons (Step.put rfl rfl (ox_ix s26 .tmp .tmp hb17.1 hb17.2)) ⟨(.app (.one rfl) (.one rfl)), .nil⟩ (by kernel_rfl) rfl <|
              Segs.cons (Step.put rfl rfl (ox_fieldAddr_elem Write_At f99_0)) ⟨.one rfl, .nil⟩ (by kernel_rfl) rfl <|
              Segs.cons (Step.put rfl rfl (ox_load_elem t3)) ⟨.one rfl, .nil⟩ (by kernel_rfl) rfl <|
              Segs.cons (Step.put rfl rfl (ox_buildB z99 u99 rfl (.cons Write_At f99_0 .tmp (.cons Write_N f99_1 .tmp Bld.nil)))) ⟨(.app (.one rfl) (.app (.one rfl) .nil)), .nil⟩ (by kernel_rfl) rfl <|
              Segs.cons (Step.put rfl rfl (ox_move .tmp)) ⟨.one rfl, .nil⟩ (by kernel_rfl) rfl <|
              Segs.cons (Step.put rfl rfl (ox_mul .int .tmp hb18)) ⟨(.app (.nil) (.one rfl)), .nil⟩ (by kernel_rfl) rfl <|
              Segs.cons (Step.put rfl rfl (ox_add .int .tmp hb19)) ⟨(.app (.nil) (.one rfl)), .nil⟩ (by kernel_rfl) rfl <|
              Segs.cons (Step.put rfl rfl (ox_move .tmp)) ⟨.one rfl, .nil⟩ (by kernel_rfl) rfl <|
              Segs.cons (Step.put rfl rfl (ox_move .tmp)) ⟨.one rfl, .nil⟩ (by kernel_rfl) rfl <|
              Segs.cons (Step.put rfl rfl (ox_ix s26 .tmp .tmp hb20.1 hb20.2)) ⟨(.app (.one rfl) (.one rfl)), .nil⟩ (by kernel_rfl) rfl <|
              Segs.cons (Step.put rfl rfl (ox_fieldAddr_elem Write_N f99_1)) ⟨.one rfl, .nil⟩ (by kernel_rfl) rfl <|
              Segs.cons (Step.put rfl rfl (ox_load_elem t3)) ⟨.one rfl, .nil⟩ (by kernel_rfl) rfl <|
              Segs.cons (Step.put rfl rfl (ox_buildB z99 u99 rfl (.cons Write_At f99_0 .tmp (.cons Write_N f99_1 .tmp Bld.nil)))) ⟨(.app (.one rfl) (.app (.one rfl) .nil)), .nil⟩ (by kernel_rfl) rfl <|
              Segs.cons (Step.put rfl rfl (ox_buildSlice_arr (id := 1009) s26 z99 (.cons .tmp (.cons .tmp Parts.nil)) rfl (by decide))) ⟨(.app (.one rfl) (.app (.one rfl) .nil)), .nil⟩ (by kernel_rfl) rfl <|
              Segs.cons (Step.put rfl rfl (ox_assign .tmp)) ⟨.one rfl, .nil⟩ (by kernel_rfl) rfl <|
              Segs.nil) _ [[], [0], [0, 1], [], [], [3, 4], [3, 4, 5], [3, 4, 5, 6], [0, 1, 2, 3, 4, 5, 6, 7], [], [9], [9, 10], [], [], [12, 13], [12, 13, 14], [12, 13, 14, 15], [9, 10, 11, 12, 13, 14, 15, 16], [0, 1, 2, 3, 4, 5, 6, 7, 8, 9, 10, 11, 12, 13, 14, 15, 16, 17], [0, 1, 2, 3, 4, 5, 6, 7, 8, 9, 10, 11, 12, 13, 14, 15, 16, 17, 18]] rfl (by kernel_rfl) (by kernel_rfl) ?_
          refine PT.sub (σ' := ⟨[(5, _), (6, .val (v1)), (7, .val (v2.1)), (8, _), (9, _)], [(5, .var (({ Err := (0 : Int), N := (0 : Int) } : Mk.Reply)) []), (8, .var (v2.2) []), (1009, .arr 99 (([({ At := ((1 : Int) + ((2 : Int) * v4)), N := (ix v2.1 v4).At } : Mk.Write), ({ At := ((2 : Int) + ((2 : Int) * v4)), N := (ix v2.1 v4).N } : Mk.Write)] : List Mk.Write)))]⟩) ⟨rfl, rfl, rfl, rfl, rfl, trivial⟩ ⟨rfl, rfl, rfl, trivial⟩ ?_
          exact PT.meet (v1, v2.1, ({ Err := (0 : Int), N := (0 : Int) } : Mk.Reply), v2.2, ([({ At := ((1 : Int) + ((2 : Int) * v4)), N := (ix v2.1 v4).At } : Mk.Write), ({ At := ((2 : Int) + ((2 : Int) * v4)), N := (ix v2.1 v4).N } : Mk.Write)] : List Mk.Write)) hφ ⟨rfl, rfl, rfl, rfl, rfl, trivial⟩ ⟨rfl, rfl, rfl, trivial⟩
        · replace hφ := if_else hφ hc14
          refine PT.sub (σ' := ⟨[(3, _), (5, _), (6, .val (v1)), (7, .val (v2.1)), (8, _), (9, .nilS), (10, .val (v4))], [(3, .var (a1) []), (5, .var (({ Err := (0 : Int), N := (0 : Int) } : Mk.Reply)) []), (8, .var (v2.2) [])]⟩) ⟨rfl, rfl, rfl, rfl, rfl, rfl, rfl, trivial⟩ ⟨rfl, rfl, rfl, trivial⟩ ?_
          refine PT.seq ?_
          refine PT.region ?_
          refine Ops.put rfl rfl (ox_fieldAddr_var Call_Kind f33_0) (.one rfl) (.nil) rfl ?_
          refine Ops.put rfl rfl (ox_load_fld t3) (.one rfl) (.one rfl) rfl ?_
          refine Ops.put rfl rfl (ox_eql .tmp .int) ((.app (.one rfl) (.nil))) (.nil) rfl ?_
          refine Ops.put rfl rfl (ox_move .tmp) (.one rfl) (.nil) rfl ?_
          refine Ops.guard rfl rfl rfl rfl (.plain .nil) (fun hG => (ox_move .tmp)) ⟨rfl, trivial⟩ (.nil) rfl ?_
          refine Ops.guard rfl rfl rfl rfl (.cond (fun h => h) .nil) (fun hG => (ox_lss .tmp .int)) ⟨rfl, trivial⟩ (.nil) rfl ?_
          refine Ops.put rfl rfl ox_pick_and (⟨rfl, rfl, trivial⟩) (.nil) rfl ?_
          refine Ops.put rfl rfl (ox_assign .tmp) (.one rfl) (.nil) rfl ?_
          refine Ops.nil ?_
          refine PT.sub (σ' := ⟨[(3, _), (5, _), (6, .val (v1)), (7, .val (v2.1)), (8, _), (9, .nilS), (10, .val (v4)), (85, .val (((decide (a1.Kind = (1 : Int))) && (decide (v4 < (0 : Int))))))], [(3, .var (a1) []), (5, .var (({ Err := (0 : Int), N := (0 : Int) } : Mk.Reply)) []), (8, .var (v2.2) [])]⟩) ⟨rfl, rfl, rfl, rfl, rfl, rfl, rfl, rfl, trivial⟩ ⟨rfl, rfl, rfl, trivial⟩ ?_
          refine PT.cond _ rfl (fun hc21 => ?_) (fun hc21 => ?_)
          · replace hφ := if_then hφ hc21
            refine PT.sub (σ' := ⟨[(3, _), (5, _), (6, .val (v1)), (7, .val (v2.1)), (8, _)], [(3, .var (a1) []), (5, .var (({ Err := (0 : Int), N := (0 : Int) } : Mk.Reply)) []), (8, .var (v2.2) [])]⟩) ⟨rfl, rfl, rfl, rfl, rfl, trivial⟩ ⟨rfl, rfl, rfl, trivial⟩ ?_
            obtain ⟨hb22, hφ⟩ := G_some hφ
            obtain ⟨hb23, hφ⟩ := G_some hφ
            obtain ⟨hb24, hφ⟩ := G_some hφ
            refine PT.region ?_
            refine Ops.put rfl rfl (ox_move .tmp) (.one rfl) (.nil) rfl ?_
            refine Ops.put rfl rfl (ox_len s26 .tmp) (.one rfl) (.nil) rfl ?_
            refine Ops.put rfl rfl (ox_mul .int .tmp hb22) ((.app (.nil) (.one rfl))) (.nil) rfl ?_
            refine Ops.put rfl rfl (ox_sub .tmp .int hb23) ((.app (.one rfl) (.nil))) (.nil) rfl ?_
            refine Ops.put rfl rfl (ox_fieldAddr_var Call_Name f33_1) (.one rfl) (.nil) rfl ?_
            refine Ops.put rfl rfl (ox_load_fld t3) (.one rfl) (.one rfl) rfl ?_
            refine Ops.put rfl rfl (ox_buildB z99 u99 rfl (.cons Write_At f99_0 .tmp (.cons Write_N f99_1 .tmp Bld.nil))) ((.app (.one rfl) (.app (.one rfl) .nil))) (.nil) rfl ?_
            refine Ops.put rfl rfl (ox_move .tmp) (.one rfl) (.nil) rfl ?_
            refine Ops.put rfl rfl (ox_len s26 .tmp) (.one rfl) (.nil) rfl ?_
            refine Ops.put rfl rfl (ox_mul .int .tmp hb24) ((.app (.nil) (.one rfl))) (.nil) rfl ?_
            refine Ops.put rfl rfl (ox_fieldAddr_var Call_N f33_3) (.one rfl) (.nil) rfl ?_
            refine Ops.put rfl rfl (ox_load_fld t3) (.one rfl) (.one rfl) rfl ?_
            refine Ops.put rfl rfl (ox_buildB z99 u99 rfl (.cons Write_At f99_0 .tmp (.cons Write_N f99_1 .tmp Bld.nil))) ((.app (.one rfl) (.app (.one rfl) .nil))) (.nil) rfl ?_
            refine Ops.putO rfl rfl (ox_buildSlice_arr (id := 1009) s26 z99 (.cons .tmp (.cons .tmp Parts.nil)) rfl (by decide)) ((.app (.one rfl) (.app (.one rfl) .nil))) (.nil) rfl (by kernel_rfl) ?_
            refine Ops.put rfl rfl (ox_assign .tmp) (.one rfl) (.nil) rfl ?_
            refine Ops.nil ?_
            refine PT.sub (σ' := ⟨[(5, _), (6, .val (v1)), (7, .val (v2.1)), (8, _), (9, _)], [(5, .var (({ Err := (0 : Int), N := (0 : Int) } : Mk.Reply)) []), (8, .var (v2.2) []), (1009, .arr 99 (([({ At := (((2 : Int) * (v2.1.length : Int)) - (1 : Int)), N := a1.Name } : Mk.Write), ({ At := ((2 : Int) * (v2.1.length : Int)), N := a1.N } : Mk.Write)] : List Mk.Write)))]⟩) ⟨rfl, rfl, rfl, rfl, rfl, trivial⟩ ⟨rfl, rfl, rfl, trivial⟩ ?_
            exact PT.meet (v1, v2.1, ({ Err := (0 : Int), N := (0 : Int) } : Mk.Reply), v2.2, ([({ At := (((2 : Int) * (v2.1.length : Int)) - (1 : Int)), N := a1.Name } : Mk.Write), ({ At := ((2 : Int) * (v2.1.length : Int)), N := a1.N } : Mk.Write)] : List Mk.Write)) hφ ⟨rfl, rfl, rfl, rfl, rfl, trivial⟩ ⟨rfl, rfl, rfl, trivial⟩
          · replace hφ := if_else hφ hc21
            refine PT.sub (σ' := ⟨[(3, _), (5, _), (6, .val (v1)), (7, .val (v2.1)), (8, _), (9, .nilS), (10, .val (v4))], [(3, .var (a1) []), (5, .var (({ Err := (0 : Int), N := (0 : Int) } : Mk.Reply)) []), (8, .var (v2.2) [])]⟩) ⟨rfl, rfl, rfl, rfl, rfl, rfl, rfl, trivial⟩ ⟨rfl, rfl, rfl, trivial⟩ ?_
            refine PT.seq ?_
            refine PT.region ?_
            refine Ops.put rfl rfl (ox_fieldAddr_var Call_Kind f33_0) (.one rfl) (.nil) rfl ?_
            refine Ops.put rfl rfl (ox_load_fld t3) (.one rfl) (.one rfl) rfl ?_
            refine Ops.put rfl rfl (ox_eql .tmp .int) ((.app (.one rfl) (.nil))) (.nil) rfl ?_
            refine Ops.put rfl rfl (ox_move .tmp) (.one rfl) (.nil) rfl ?_
            refine Ops.guard rfl rfl rfl rfl (.plain .nil) (fun hG => (ox_fieldAddr_var Call_Kind f33_0)) ⟨rfl, trivial⟩ (.nil) rfl ?_
            refine Ops.guard rfl rfl rfl rfl (.cond (fun h => h) .nil) (fun hG => (ox_load_fld t3)) ⟨rfl, trivial⟩ (.one rfl) rfl ?_
            refine Ops.guard rfl rfl rfl rfl (.cond (fun h => h) .nil) (fun hG => (ox_eql .tmp .int)) ⟨rfl, trivial⟩ (.nil) rfl ?_
            refine Ops.put rfl rfl ox_pick_or (⟨rfl, rfl, trivial⟩) (.nil) rfl ?_
            refine Ops.put rfl rfl (ox_assign .tmp) (.one rfl) (.nil) rfl ?_
            refine Ops.nil ?_
            refine PT.sub (σ' := ⟨[(5, _), (6, .val (v1)), (7, .val (v2.1)), (8, _), (9, .nilS), (10, .val (v4)), (107, .val (((decide (a1.Kind = (1 : Int))) || (decide (a1.Kind = (4 : Int))))))], [(5, .var (({ Err := (0 : Int), N := (0 : Int) } : Mk.Reply)) []), (8, .var (v2.2) [])]⟩) ⟨rfl, rfl, rfl, rfl, rfl, rfl, rfl, trivial⟩ ⟨rfl, rfl, trivial⟩ ?_
            refine PT.cond _ rfl (fun hc25 => ?_) (fun hc25 => ?_)
            · replace hφ := if_then hφ hc25
              refine PT.sub (σ' := ⟨[(5, _), (7, .val (v2.1)), (8, _), (10, .val (v4))], [(5, .var (({ Err := (0 : Int), N := (0 : Int) } : Mk.Reply)) []), (8, .var (v2.2) [])]⟩) ⟨rfl, rfl, rfl, rfl, trivial⟩ ⟨rfl, rfl, trivial⟩ ?_
              refine PT.seq ?_
              obtain ⟨hb26, hφ⟩ := G_some hφ
              obtain ⟨hb27, hφ⟩ := G_some hφ
              obtain ⟨hb28, hφ⟩ := G_some hφ
              refine PT.draw hMixed (
                  Segs.cons (Step.put rfl rfl (ox_move .tmp)) ⟨.one rfl, .nil⟩ (by kernel_rfl) rfl <|
                  Segs.cons (Step.put rfl rfl (ox_mul .int .tmp hb26)) ⟨(.app (.nil) (.one rfl)), .nil⟩ (by kernel_rfl) rfl <|
                  Segs.cons (Step.put rfl rfl (ox_add .int .tmp hb27)) ⟨(.app (.nil) (.one rfl)), .nil⟩ (by kernel_rfl) rfl <|
                  Segs.cons (Step.put rfl rfl (ox_move .tmp)) ⟨.one rfl, .nil⟩ (by kernel_rfl) rfl <|
                  Segs.cons (Step.put rfl rfl (ox_move .tmp)) ⟨.one rfl, .nil⟩ (by kernel_rfl) rfl <|
                  Segs.cons (Step.put rfl rfl (ox_ix s26 .tmp .tmp hb28.1 hb28.2)) ⟨(.app (.one rfl) (.one rfl)), .nil⟩ (by kernel_rfl) rfl <|
                  Segs.cons (Step.put rfl rfl (ox_fieldAddr_elem Write_N f99_1)) ⟨.one rfl, .nil⟩ (by kernel_rfl) rfl <|
                  Segs.cons (Step.put rfl rfl (ox_load_elem t3)) ⟨.one rfl, .nil⟩ (by kernel_rfl) rfl <|
                  Segs.cons (Step.put rfl rfl (ox_buildB z99 u99 rfl (.cons Write_At f99_0 .tmp (.cons Write_N f99_1 .tmp Bld.nil)))) ⟨(.app (.one rfl) (.app (.one rfl) .nil)), .nil⟩ (by kernel_rfl) rfl <|
                  Segs.cons (Step.put rfl rfl (ox_buildSlice_val s26 z99 (.cons .tmp Parts.nil) rfl (by decide))) ⟨(.app (.one rfl) .nil), .nil⟩ (by kernel_rfl) rfl <|
                  Segs.cons (Step.put rfl rfl (ox_load_var t38)) ⟨.one rfl, .one rfl⟩ (by kernel_rfl) rfl <|
                  Segs.cons (Step.put rfl rfl (ox_assign .tmp)) ⟨.one rfl, .nil⟩ (by kernel_rfl) rfl <|
                  Segs.cons (Step.mute rfl rfl (ox_store_var t38 .tmp)) ⟨(.cons rfl (.one rfl)), .one rfl⟩ (by kernel_rfl) rfl <|
                  Segs.nil) _ [[], [0], [0, 1], [], [], [3, 4], [3, 4, 5], [3, 4, 5, 6], [0, 1, 2, 3, 4, 5, 6, 7], [0, 1, 2, 3, 4, 5, 6, 7, 8], [], [0, 1, 2, 3, 4, 5, 6, 7, 8, 9], [0, 1, 2, 3, 4, 5, 6, 7, 8, 9, 10, 11]] rfl (by kernel_rfl) (by kernel_rfl) ?_
              refine PT.sub (σ' := ⟨[(4, .val (([({ At := ((2 : Int) + ((2 : Int) * v4)), N := (ix v2.1 v4).N } : Mk.Write)] : List Mk.Write))), (5, _)], [(5, .var (v2.2) [])]⟩) ⟨rfl, rfl, trivial⟩ ⟨rfl, trivial⟩ ?_
              refine PT.ret ?_
              obtain rfl := Option.some.inj hφ
              exact PT.done hw0 rfl (.tmp rfl rfl (.cell t38 rfl rfl .nil)) rfl
            · replace hφ := if_else hφ hc25
              refine PT.sub (σ' := ⟨[(5, _), (6, .val (v1)), (7, .val (v2.1)), (8, _), (9, .nilS)], [(5, .var (({ Err := (0 : Int), N := (0 : Int) } : Mk.Reply)) []), (8, .var (v2.2) [])]⟩) ⟨rfl, rfl, rfl, rfl, rfl, trivial⟩ ⟨rfl, rfl, trivial⟩ ?_
              refine PT.skip ?_
              refine PT.nilArr 1009 9 99 (Mk.Write) rfl (by kernel_rfl) ?_
              exact PT.meet (v1, v2.1, ({ Err := (0 : Int), N := (0 : Int) } : Mk.Reply), v2.2, ([] : List Mk.Write)) hφ ⟨rfl, rfl, rfl, rfl, rfl, trivial⟩ ⟨rfl, rfl, rfl, trivial⟩
    · rintro ⟨x6_k5, x7_k5, y5_k5, y8_k5, y1009_k5⟩ hφ
      subst hk5
      refine PT.sub (σ' := ⟨[(5, .ptr 5 (Lens.id (α := Mk.Reply))), (6, .val (x6_k5)), (7, .val (x7_k5)), (8, .ptr 8 (Lens.id (α := Mk.Reply))), (9, .sl 1009)], [(5, .var (y5_k5) []), (8, .var (y8_k5) []), (1009, .arr 99 (y1009_k5))]⟩) ⟨rfl, rfl, rfl, rfl, rfl, trivial⟩ ⟨rfl, rfl, rfl, trivial⟩ ?_
      obtain ⟨k29, hk29, hφ⟩ := J_some hφ
      refine PT.cut (ι := Mk.Reply × Mk.Reply × (List Mk.Write)) (fun p => ⟨[(5, .ptr 5 (Lens.id (α := Mk.Reply))), (8, .ptr 8 (Lens.id (α := Mk.Reply))), (9, .sl 1009)], [(5, .var (p.1) []), (8, .var (p.2.1) []), (1009, .arr 99 (p.2.2))]⟩) (fun p => k29 (p.1) (p.2.1) (p.2.2) = some r) ?_ ?_
      · skip
        refine PT.seq ?_
        refine PT.region ?_
        refine Ops.put rfl rfl (ox_move .tmp) (.one rfl) (.nil) rfl ?_
        refine Ops.put rfl rfl (ox_len s26 .tmp) (.one rfl) (.nil) rfl ?_
        refine Ops.put rfl rfl (ox_move .tmp) (.one rfl) (.nil) rfl ?_
        refine Ops.put rfl rfl (ox_len s26 .tmp) (.one rfl) (.nil) rfl ?_
        refine Ops.put rfl rfl (ox_neq .tmp .tmp) ((.app (.one rfl) (.one rfl))) (.nil) rfl ?_
        refine Ops.nil ?_
        refine PT.sub (σ' := ⟨[(5, _), (7, .val (x7_k5)), (8, _), (9, _), (131, .val ((!decide ((x7_k5.length : Int) = (x6_k5.length : Int)))))], [(5, .var (y5_k5) []), (8, .var (y8_k5) []), (1009, .arr 99 (y1009_k5))]⟩) ⟨rfl, rfl, rfl, rfl, rfl, trivial⟩ ⟨rfl, rfl, rfl, trivial⟩ ?_
        refine PT.cond _ rfl (fun hc30 => ?_) (fun hc30 => ?_)
        · replace hφ := if_then hφ hc30
          refine PT.sub (σ' := ⟨[(5, _), (7, .val (x7_k5)), (8, _), (9, _)], [(5, .var (y5_k5) []), (8, .var (y8_k5) []), (1009, .arr 99 (y1009_k5))]⟩) ⟨rfl, rfl, rfl, rfl, trivial⟩ ⟨rfl, rfl, rfl, trivial⟩ ?_
          obtain ⟨hb31, hφ⟩ := G_some hφ
          refine PT.region ?_
          refine Ops.put rfl rfl (ox_move .tmp) (.one rfl) (.nil) rfl ?_
          refine Ops.put rfl rfl (ox_move .tmp) (.one rfl) (.nil) rfl ?_
          refine Ops.put rfl rfl (ox_len s26 .tmp) (.one rfl) (.nil) rfl ?_
          refine Ops.put rfl rfl (ox_buildB z99 u99 rfl (.cons Write_N f99_1 .tmp Bld.nil)) ((.app (.one rfl) .nil)) (.nil) rfl ?_
          refine Ops.put rfl rfl (ox_buildSlice_val s26 z99 (.cons .tmp Parts.nil) rfl (by decide)) ((.app (.one rfl) .nil)) (.nil) rfl ?_
          refine Ops.putK [9, 132] rfl rfl (ox_append a26 .tmp .tmp hb31.1 hb31.2) ((.app (.one rfl) (.one rfl))) (.one rfl) rfl (by kernel_rfl) ?_
          refine Ops.put rfl rfl (ox_assign .tmp) (.one rfl) (.nil) rfl ?_
          refine Ops.nil ?_
          refine PT.sub (σ' := ⟨[(5, _), (8, _), (9, _)], [(5, .var (y5_k5) []), (8, .var (y8_k5) []), (1009, .arr 99 ((y1009_k5 ++ ([({ At := (0 : Int), N := (x7_k5.length : Int) } : Mk.Write)] : List Mk.Write))))]⟩) ⟨rfl, rfl, rfl, trivial⟩ ⟨rfl, rfl, rfl, trivial⟩ ?_
          exact PT.meet (y5_k5, y8_k5, (y1009_k5 ++ ([({ At := (0 : Int), N := (x7_k5.length : Int) } : Mk.Write)] : List Mk.Write))) hφ ⟨rfl, rfl, rfl, trivial⟩ ⟨rfl, rfl, rfl, trivial⟩
        · replace hφ := if_else hφ hc30
          refine PT.sub (σ' := ⟨[(5, _), (8, _), (9, _)], [(5, .var (y5_k5) []), (8, .var (y8_k5) []), (1009, .arr 99 (y1009_k5))]⟩) ⟨rfl, rfl, rfl, trivial⟩ ⟨rfl, rfl, rfl, trivial⟩ ?_
          refine PT.skip ?_
          exact PT.meet (y5_k5, y8_k5, y1009_k5) hφ ⟨rfl, rfl, rfl, trivial⟩ ⟨rfl, rfl, rfl, trivial⟩
      · rintro ⟨y5_k29, y8_k29, y1009_k29⟩ hφ
        subst hk29
        refine PT.sub (σ' := ⟨[(5, .ptr 5 (Lens.id (α := Mk.Reply))), (8, .ptr 8 (Lens.id (α := Mk.Reply))), (9, .sl 1009)], [(5, .var (y5_k29) []), (8, .var (y8_k29) []), (1009, .arr 99 (y1009_k29))]⟩) ⟨rfl, rfl, rfl, trivial⟩ ⟨rfl, rfl, rfl, trivial⟩ ?_
        refine PT.seq ?_
        refine PT.draw hMixed (
            Segs.cons (Step.put rfl rfl (ox_move .tmp)) ⟨.one rfl, .nil⟩ (by kernel_rfl) rfl <|
            Segs.cons (Step.put rfl rfl (ox_load_var t38)) ⟨.one rfl, .one rfl⟩ (by kernel_rfl) rfl <|
            Segs.cons (Step.put rfl rfl (ox_assign .tmp)) ⟨.one rfl, .nil⟩ (by kernel_rfl) rfl <|
            Segs.cons (Step.mute rfl rfl (ox_store_var t38 .tmp)) ⟨(.cons rfl (.one rfl)), .one rfl⟩ (by kernel_rfl) rfl <|
            Segs.nil) _ [[], [], [0], [0, 1, 2]] rfl (by kernel_rfl) (by kernel_rfl) ?_
        refine PT.sub (σ' := ⟨[(4, _), (5, _)], [(5, .var (y8_k29) []), (1009, .arr 99 (y1009_k29))]⟩) ⟨rfl, rfl, trivial⟩ ⟨rfl, rfl, trivial⟩ ?_
        refine PT.ret ?_
        refine PT.freeze 1009 [4] rfl ⟨rfl, trivial⟩ ?_
        obtain rfl := Option.some.inj hφ
        exact PT.done hw0 rfl (.tmp rfl rfl (.cell t38 rfl rfl .nil)) rfl
theorem c_mkref1_SameWrites {a0 : List Mk.Write} {a1 : List Mk.Write} {r : Bool} (hφ : mkref1_SameWrites a0 a1 = some r) : Fn Go.Proofs.Try.prog 23 [.val a0, .val a1] (.val r) := by
  unfold mkref1_SameWrites at hφ
  refine Fn.mk' Go.Proofs.Try.func23 rfl (by decide) rfl rfl rfl (fun w0 hw0 => ?_)
  refine PT.seq ?_
  refine PT.region ?_
  refine Ops.put rfl rfl (ox_assign .bool) (.nil) (.nil) rfl ?_
  refine Ops.nil ?_
  refine PT.sub (σ' := ⟨[(0, .val (a0)), (1, .val (a1))], []⟩) ⟨rfl, rfl, trivial⟩ trivial ?_
  refine PT.seq ?_
  refine PT.seq ?_
  refine PT.region ?_
  refine Ops.put rfl rfl (ox_move .tmp) (.one rfl) (.nil) rfl ?_
  refine Ops.put rfl rfl (ox_len s26 .tmp) (.one rfl) (.nil) rfl ?_
  refine Ops.put rfl rfl (ox_move .tmp) (.one rfl) (.nil) rfl ?_
  refine Ops.put rfl rfl (ox_len s26 .tmp) (.one rfl) (.nil) rfl ?_
  refine Ops.put rfl rfl (ox_neq .tmp .tmp) ((.app (.one rfl) (.one rfl))) (.nil) rfl ?_
  refine Ops.nil ?_
  refine PT.sub (σ' := ⟨[(0, .val (a0)), (1, .val (a1)), (10, .val ((!decide ((a0.length : Int) = (a1.length : Int)))))], []⟩) ⟨rfl, rfl, rfl, trivial⟩ trivial ?_
  refine PT.cond _ rfl (fun hc1 => ?_) (fun hc1 => ?_)
  · replace hφ := if_then hφ hc1
    refine PT.sub (σ' := ⟨[], []⟩) trivial trivial ?_
    refine PT.seq ?_
    refine PT.region ?_
    refine Ops.put rfl rfl (ox_assign .bool) (.nil) (.nil) rfl ?_
    refine Ops.nil ?_
    refine PT.sub (σ' := ⟨[(4, .val (false))], []⟩) ⟨rfl, trivial⟩ trivial ?_
    refine PT.ret ?_
    obtain rfl := Option.some.inj hφ
    exact PT.done hw0 rfl (.tmp rfl rfl .nil) rfl
  · replace hφ := if_else hφ hc1
    refine PT.sub (σ' := ⟨[(0, .val (a0)), (1, .val (a1))], []⟩) ⟨rfl, rfl, trivial⟩ trivial ?_
    refine PT.skip ?_
    obtain ⟨k2, hk2, hφ⟩ := J_some hφ
    refine PT.cut (ι := Unit) (fun p => ⟨[], []⟩) (fun p => k2 () = some r) ?_ ?_
    · skip
      refine PT.seq ?_
      refine PT.region ?_
      refine Ops.put rfl rfl (ox_move .tmp) (.one rfl) (.nil) rfl ?_
      refine Ops.put rfl rfl (ox_len s26 .tmp) (.one rfl) (.nil) rfl ?_
      refine Ops.put rfl rfl (ox_move .int) (.nil) (.nil) rfl ?_
      refine Ops.nil ?_
      refine PT.sub (σ' := ⟨[(0, .val (a0)), (1, .val (a1)), (12, .val ((a0.length : Int))), (13, .val ((0 : Int)))], []⟩) ⟨rfl, rfl, rfl, rfl, trivial⟩ trivial ?_
      refine PT.block ?_
      refine PT.loop (ι := Nat × (List Mk.Write) × (List Mk.Write) × Int × Int) (fun p => ⟨[(0, .val (p.2.1)), (1, .val (p.2.2.1)), (12, .val (p.2.2.2.1)), (13, .val (p.2.2.2.2))], []⟩) (fun p => mkref1_SameWrites_l1 k2 p.1 (p.2.1) (p.2.2.1) (p.2.2.2.1) (p.2.2.2.2) = some r) (fun p => p.1) (((a0.length : Int) - (0 : Int)).toNat + 1, a0, a1, (a0.length : Int), (0 : Int)) hφ ⟨rfl, rfl, rfl, rfl, trivial⟩ trivial ?_
      rintro ⟨m3, x0_m3, x1_m3, x12_m3, x13_m3⟩ (hφ : mkref1_SameWrites_l1 k2 m3 x0_m3 x1_m3 x12_m3 x13_m3 = some r)
      obtain _ | m3 := m3
      · exact (none_no hφ).elim
      rw [mkref1_SameWrites_l1.eq_2] at hφ
      refine PT.sub (σ' := ⟨[(0, .val (x0_m3)), (1, .val (x1_m3)), (12, .val (x12_m3)), (13, .val (x13_m3))], []⟩) ⟨rfl, rfl, rfl, rfl, trivial⟩ trivial ?_
      refine PT.seq ?_
      refine PT.region ?_
      refine Ops.put rfl rfl (ox_lss .tmp .tmp) ((.app (.one rfl) (.one rfl))) (.nil) rfl ?_
      refine Ops.nil ?_
      refine PT.sub (σ' := ⟨[(0, .val (x0_m3)), (1, .val (x1_m3)), (12, .val (x12_m3)), (13, .val (x13_m3)), (14, .val ((decide (x13_m3 < x12_m3))))], []⟩) ⟨rfl, rfl, rfl, rfl, rfl, trivial⟩ trivial ?_
      refine PT.seq ?_
      refine PT.cond _ rfl (fun hc4 => ?_) (fun hc4 => ?_)
      · replace hφ := if_then hφ hc4
        refine PT.sub (σ' := ⟨[(0, .val (x0_m3)), (1, .val (x1_m3)), (12, .val (x12_m3)), (13, .val (x13_m3))], []⟩) ⟨rfl, rfl, rfl, rfl, trivial⟩ trivial ?_
        refine PT.skip ?_
        refine PT.seq ?_
        refine PT.block ?_
        refine PT.seq ?_
        refine PT.region ?_
        refine Ops.put rfl rfl (ox_move .tmp) (.one rfl) (.nil) rfl ?_
        refine Ops.put rfl rfl (ox_assign .tmp) (.one rfl) (.nil) rfl ?_
        refine Ops.nil ?_
        refine PT.sub (σ' := ⟨[(0, .val (x0_m3)), (1, .val (x1_m3)), (5, .val (x13_m3)), (12, .val (x12_m3)), (13, .val (x13_m3))], []⟩) ⟨rfl, rfl, rfl, rfl, rfl, trivial⟩ trivial ?_
        refine PT.seq ?_
        obtain ⟨hb5, hφ⟩ := G_some hφ
        obtain ⟨hb6, hφ⟩ := G_some hφ
        refine PT.draw hMixed (
            Segs.cons (Step.put rfl rfl (ox_move .tmp)) ⟨.one rfl, .nil⟩ (by kernel_rfl) rfl <|
            Segs.cons (Step.put rfl rfl (ox_move .tmp)) ⟨.one rfl, .nil⟩ (by kernel_rfl) rfl <|
            Segs.cons (Step.put rfl rfl (ox_ix s26 .tmp .tmp hb5.1 hb5.2)) ⟨(.app (.one rfl) (.one rfl)), .nil⟩ (by kernel_rfl) rfl <|
            Segs.cons (Step.put rfl rfl (ox_load_elem t99)) ⟨.one rfl, .nil⟩ (by kernel_rfl) rfl <|
            Segs.cons (Step.put rfl rfl (ox_move .tmp)) ⟨.one rfl, .nil⟩ (by kernel_rfl) rfl <|
            Segs.cons (Step.put rfl rfl (ox_move .tmp)) ⟨.one rfl, .nil⟩ (by kernel_rfl) rfl <|
            Segs.cons (Step.put rfl rfl (ox_ix s26 .tmp .tmp hb6.1 hb6.2)) ⟨(.app (.one rfl) (.one rfl)), .nil⟩ (by kernel_rfl) rfl <|
            Segs.cons (Step.put rfl rfl (ox_load_elem t99)) ⟨.one rfl, .nil⟩ (by kernel_rfl) rfl <|
            Segs.cons (Step.put rfl rfl (ox_neqT e99 .tmp .tmp)) ⟨(.app (.one rfl) (.one rfl)), .nil⟩ (by kernel_rfl) rfl <|
            Segs.nil) _ [[], [], [0, 1], [0, 1, 2], [], [], [4, 5], [4, 5, 6], [0, 1, 2, 3, 4, 5, 6, 7]] rfl (by kernel_rfl) (by kernel_rfl) ?_
        refine PT.sub (σ' := ⟨[(0, .val (x0_m3)), (1, .val (x1_m3)), (12, .val (x12_m3)), (13, .val (x13_m3)), (24, .val ((!decide ((ix x0_m3 x13_m3) = (ix x1_m3 x13_m3)))))], []⟩) ⟨rfl, rfl, rfl, rfl, rfl, trivial⟩ trivial ?_
        refine PT.cond _ rfl (fun hc7 => ?_) (fun hc7 => ?_)
        · replace hφ := if_then hφ hc7
          refine PT.sub (σ' := ⟨[], []⟩) trivial trivial ?_
          refine PT.seq ?_
          refine PT.region ?_
          refine Ops.put rfl rfl (ox_assign .bool) (.nil) (.nil) rfl ?_
          refine Ops.nil ?_
          refine PT.sub (σ' := ⟨[(4, .val (false))], []⟩) ⟨rfl, trivial⟩ trivial ?_
          refine PT.ret ?_
          obtain rfl := Option.some.inj hφ
          exact PT.done hw0 rfl (.tmp rfl rfl .nil) rfl
        · replace hφ := if_else hφ hc7
          refine PT.sub (σ' := ⟨[(0, .val (x0_m3)), (1, .val (x1_m3)), (12, .val (x12_m3)), (13, .val (x13_m3))], []⟩) ⟨rfl, rfl, rfl, rfl, trivial⟩ trivial ?_
          refine PT.skip ?_
          obtain ⟨hb8, hφ⟩ := G_some hφ
          refine PT.region ?_
          refine Ops.put rfl rfl (ox_add .tmp .int hb8) ((.app (.one rfl) (.nil))) (.nil) rfl ?_
          refine Ops.put rfl rfl (ox_move .tmp) (.one rfl) (.nil) rfl ?_
          refine Ops.nil ?_
          refine PT.sub (σ' := ⟨[(0, .val (x0_m3)), (1, .val (x1_m3)), (12, .val (x12_m3)), (13, .val ((x13_m3 + (1 : Int))))], []⟩) ⟨rfl, rfl, rfl, rfl, trivial⟩ trivial ?_
          exact PT.next (m3, x0_m3, x1_m3, x12_m3, (x13_m3 + (1 : Int))) hφ (Nat.lt_succ_self _) ⟨rfl, rfl, rfl, rfl, trivial⟩ trivial
      · replace hφ := if_else hφ hc4
        refine PT.sub (σ' := ⟨[], []⟩) trivial trivial ?_
        refine PT.exit ?_
        exact PT.meet () hφ trivial trivial
    · rintro ⟨⟩ hφ
      subst hk2
      refine PT.sub (σ' := ⟨[], []⟩) trivial trivial ?_
      refine PT.seq ?_
      refine PT.region ?_
      refine Ops.put rfl rfl (ox_assign .bool) (.nil) (.nil) rfl ?_
      refine Ops.nil ?_
      refine PT.sub (σ' := ⟨[(4, .val (true))], []⟩) ⟨rfl, trivial⟩ trivial ?_
      refine PT.ret ?_
      obtain rfl := Option.some.inj hφ
      exact PT.done hw0 rfl (.tmp rfl rfl .nil) rfl
theorem c_mkref1_Set {a0 : List Int} {a1 : List Mk.Write} {r : ((List Int))} (hφ : mkref1_Set a0 a1 = some r) : Fn Go.Proofs.Try.prog 95 [.val a0, .val a1] (.val r) := by
  unfold mkref1_Set at hφ
  refine Fn.mk' Go.Proofs.Try.func95 rfl (by decide) rfl rfl rfl (fun w0 hw0 => ?_)
  refine PT.seq ?_
  refine PT.region ?_
  refine Ops.put rfl rfl (ox_assign .nilS) (.nil) (.nil) rfl ?_
  refine Ops.nil ?_
  refine PT.sub (σ' := ⟨[(0, .val (a0)), (1, .val (a1))], []⟩) ⟨rfl, rfl, trivial⟩ trivial ?_
  refine PT.seq ?_
  refine PT.region ?_
  refine Ops.put rfl rfl (ox_assign .nilS) (.nil) (.nil) rfl ?_
  refine Ops.nil ?_
  refine PT.sub (σ' := ⟨[(0, .val (a0)), (1, .val (a1)), (5, .nilS)], []⟩) ⟨rfl, rfl, rfl, trivial⟩ trivial ?_
  obtain ⟨k1, hk1, hφ⟩ := J_some hφ
  refine PT.cut (ι := (List Int)) (fun p => ⟨[(5, .sl 1005)], [(1005, .arr 3 (p))]⟩) (fun p => k1 (p) = some r) ?_ ?_
  · skip
    refine PT.seq ?_
    refine PT.region ?_
    refine Ops.put rfl rfl (ox_move .tmp) (.one rfl) (.nil) rfl ?_
    refine Ops.put rfl rfl (ox_len s25 .tmp) (.one rfl) (.nil) rfl ?_
    refine Ops.put rfl rfl (ox_move .int) (.nil) (.nil) rfl ?_
    refine Ops.nil ?_
    refine PT.sub (σ' := ⟨[(1, .val (a1)), (5, .nilS), (10, .val (a0)), (11, .val ((a0.length : Int))), (12, .val ((0 : Int)))], []⟩) ⟨rfl, rfl, rfl, rfl, rfl, trivial⟩ trivial ?_
    refine PT.block ?_
    refine PT.nilArr 1005 5 3 (Int) rfl (by kernel_rfl) ?_
    refine PT.loop (ι := Nat × (List Mk.Write) × (List Int) × Int × Int × (List Int)) (fun p => ⟨[(1, .val (p.2.1)), (5, .sl 1005), (10, .val (p.2.2.1)), (11, .val (p.2.2.2.1)), (12, .val (p.2.2.2.2.1))], [(1005, .arr 3 (p.2.2.2.2.2))]⟩) (fun p => mkref1_Set_l1 k1 p.1 (p.2.1) (p.2.2.1) (p.2.2.2.1) (p.2.2.2.2.1) (p.2.2.2.2.2) = some r) (fun p => p.1) (((a0.length : Int) - (0 : Int)).toNat + 1, a1, a0, (a0.length : Int), (0 : Int), ([] : List Int)) hφ ⟨rfl, rfl, rfl, rfl, rfl, trivial⟩ ⟨rfl, trivial⟩ ?_
    rintro ⟨m2, x1_m2, x10_m2, x11_m2, x12_m2, y1005_m2⟩ (hφ : mkref1_Set_l1 k1 m2 x1_m2 x10_m2 x11_m2 x12_m2 y1005_m2 = some r)
    obtain _ | m2 := m2
    · exact (none_no hφ).elim
    rw [mkref1_Set_l1.eq_2] at hφ
    refine PT.sub (σ' := ⟨[(1, .val (x1_m2)), (5, .sl 1005), (10, .val (x10_m2)), (11, .val (x11_m2)), (12, .val (x12_m2))], [(1005, .arr 3 (y1005_m2))]⟩) ⟨rfl, rfl, rfl, rfl, rfl, trivial⟩ ⟨rfl, trivial⟩ ?_
    refine PT.seq ?_
    refine PT.region ?_
    refine Ops.put rfl rfl (ox_lss .tmp .tmp) ((.app (.one rfl) (.one rfl))) (.nil) rfl ?_
    refine Ops.nil ?_
    refine PT.sub (σ' := ⟨[(1, .val (x1_m2)), (5, _), (10, .val (x10_m2)), (11, .val (x11_m2)), (12, .val (x12_m2)), (13, .val ((decide (x12_m2 < x11_m2))))], [(1005, .arr 3 (y1005_m2))]⟩) ⟨rfl, rfl, rfl, rfl, rfl, rfl, trivial⟩ ⟨rfl, trivial⟩ ?_
    refine PT.seq ?_
    refine PT.cond _ rfl (fun hc3 => ?_) (fun hc3 => ?_)
    · replace hφ := if_then hφ hc3
      refine PT.sub (σ' := ⟨[(1, .val (x1_m2)), (5, _), (10, .val (x10_m2)), (11, .val (x11_m2)), (12, .val (x12_m2))], [(1005, .arr 3 (y1005_m2))]⟩) ⟨rfl, rfl, rfl, rfl, rfl, trivial⟩ ⟨rfl, trivial⟩ ?_
      refine PT.skip ?_
      refine PT.seq ?_
      refine PT.block ?_
      refine PT.seq ?_
      obtain ⟨hb4, hφ⟩ := G_some hφ
      refine PT.region ?_
      refine Ops.put rfl rfl (ox_move .tmp) (.one rfl) (.nil) rfl ?_
      refine Ops.put rfl rfl (ox_ix s25 .tmp .tmp hb4.1 hb4.2) ((.app (.one rfl) (.one rfl))) (.nil) rfl ?_
      refine Ops.put rfl rfl (ox_load_elem t3) (.one rfl) (.nil) rfl ?_
      refine Ops.put rfl rfl (ox_assign .tmp) (.one rfl) (.nil) rfl ?_
      refine Ops.put rfl rfl (ox_assign .tmp) (.one rfl) (.nil) rfl ?_
      refine Ops.nil ?_
      refine PT.sub (σ' := ⟨[(1, .val (x1_m2)), (5, _), (6, .val (x12_m2)), (7, .val ((ix x10_m2 x12_m2))), (10, .val (x10_m2)), (11, .val (x11_m2)), (12, .val (x12_m2))], [(1005, .arr 3 (y1005_m2))]⟩) ⟨rfl, rfl, rfl, rfl, rfl, rfl, rfl, trivial⟩ ⟨rfl, trivial⟩ ?_
      obtain ⟨k5, hk5, hφ⟩ := J_some hφ
      refine PT.cut (ι := (List Mk.Write) × Int × (List Int) × Int × Int × (List Int)) (fun p => ⟨[(1, .val (p.1)), (5, .sl 1005), (7, .val (p.2.1)), (10, .val (p.2.2.1)), (11, .val (p.2.2.2.1)), (12, .val (p.2.2.2.2.1))], [(1005, .arr 3 (p.2.2.2.2.2))]⟩) (fun p => k5 (p.1) (p.2.1) (p.2.2.1) (p.2.2.2.1) (p.2.2.2.2.1) (p.2.2.2.2.2) = some r) ?_ ?_
      · skip
        refine PT.seq ?_
        refine PT.region ?_
        refine Ops.put rfl rfl (ox_move .tmp) (.one rfl) (.nil) rfl ?_
        refine Ops.put rfl rfl (ox_len s26 .tmp) (.one rfl) (.nil) rfl ?_
        refine Ops.put rfl rfl (ox_move .int) (.nil) (.nil) rfl ?_
        refine Ops.nil ?_
        refine PT.sub (σ' := ⟨[(1, .val (x1_m2)), (5, _), (6, .val (x12_m2)), (7, .val ((ix x10_m2 x12_m2))), (10, .val (x10_m2)), (11, .val (x11_m2)), (12, .val (x12_m2)), (17, .val (x1_m2)), (18, .val ((x1_m2.length : Int))), (19, .val ((0 : Int)))], [(1005, .arr 3 (y1005_m2))]⟩) ⟨rfl, rfl, rfl, rfl, rfl, rfl, rfl, rfl, rfl, rfl, trivial⟩ ⟨rfl, trivial⟩ ?_
        refine PT.block ?_
        refine PT.loop (ι := Nat × (List Mk.Write) × Int × Int × (List Int) × Int × Int × (List Mk.Write) × Int × Int × (List Int)) (fun p => ⟨[(1, .val (p.2.1)), (5, .sl 1005), (6, .val (p.2.2.1)), (7, .val (p.2.2.2.1)), (10, .val (p.2.2.2.2.1)), (11, .val (p.2.2.2.2.2.1)), (12, .val (p.2.2.2.2.2.2.1)), (17, .val (p.2.2.2.2.2.2.2.1)), (18, .val (p.2.2.2.2.2.2.2.2.1)), (19, .val (p.2.2.2.2.2.2.2.2.2.1))], [(1005, .arr 3 (p.2.2.2.2.2.2.2.2.2.2))]⟩) (fun p => mkref1_Set_l2 k5 p.1 (p.2.1) (p.2.2.1) (p.2.2.2.1) (p.2.2.2.2.1) (p.2.2.2.2.2.1) (p.2.2.2.2.2.2.1) (p.2.2.2.2.2.2.2.1) (p.2.2.2.2.2.2.2.2.1) (p.2.2.2.2.2.2.2.2.2.1) (p.2.2.2.2.2.2.2.2.2.2) = some r) (fun p => p.1) (((x1_m2.length : Int) - (0 : Int)).toNat + 1, x1_m2, x12_m2, (ix x10_m2 x12_m2), x10_m2, x11_m2, x12_m2, x1_m2, (x1_m2.length : Int), (0 : Int), y1005_m2) hφ ⟨rfl, rfl, rfl, rfl, rfl, rfl, rfl, rfl, rfl, rfl, trivial⟩ ⟨rfl, trivial⟩ ?_
        rintro ⟨m6, x1_m6, x6_m6, x7_m6, x10_m6, x11_m6, x12_m6, x17_m6, x18_m6, x19_m6, y1005_m6⟩ (hφ : mkref1_Set_l2 k5 m6 x1_m6 x6_m6 x7_m6 x10_m6 x11_m6 x12_m6 x17_m6 x18_m6 x19_m6 y1005_m6 = some r)
        obtain _ | m6 := m6
        · exact (none_no hφ).elim
        rw [mkref1_Set_l2.eq_2] at hφ
        refine PT.sub (σ' := ⟨[(1, .val (x1_m6)), (5, .sl 1005), (6, .val (x6_m6)), (7, .val (x7_m6)), (10, .val (x10_m6)), (11, .val (x11_m6)), (12, .val (x12_m6)), (17, .val (x17_m6)), (18, .val (x18_m6)), (19, .val (x19_m6))], [(1005, .arr 3 (y1005_m6))]⟩) ⟨rfl, rfl, rfl, rfl, rfl, rfl, rfl, rfl, rfl, rfl, trivial⟩ ⟨rfl, trivial⟩ ?_
        refine PT.seq ?_
        refine PT.region ?_
        refine Ops.put rfl rfl (ox_lss .tmp .tmp) ((.app (.one rfl) (.one rfl))) (.nil) rfl ?_
        refine Ops.nil ?_
        refine PT.sub (σ' := ⟨[(1, .val (x1_m6)), (5, _), (6, .val (x6_m6)), (7, .val (x7_m6)), (10, .val (x10_m6)), (11, .val (x11_m6)), (12, .val (x12_m6)), (17, .val (x17_m6)), (18, .val (x18_m6)), (19, .val (x19_m6)), (20, .val ((decide (x19_m6 < x18_m6))))], [(1005, .arr 3 (y1005_m6))]⟩) ⟨rfl, rfl, rfl, rfl, rfl, rfl, rfl, rfl, rfl, rfl, rfl, trivial⟩ ⟨rfl, trivial⟩ ?_
        refine PT.seq ?_
        refine PT.cond _ rfl (fun hc7 => ?_) (fun hc7 => ?_)
        · replace hφ := if_then hφ hc7
          refine PT.sub (σ' := ⟨[(1, .val (x1_m6)), (5, _), (6, .val (x6_m6)), (7, .val (x7_m6)), (10, .val (x10_m6)), (11, .val (x11_m6)), (12, .val (x12_m6)), (17, .val (x17_m6)), (18, .val (x18_m6)), (19, .val (x19_m6))], [(1005, .arr 3 (y1005_m6))]⟩) ⟨rfl, rfl, rfl, rfl, rfl, rfl, rfl, rfl, rfl, rfl, trivial⟩ ⟨rfl, trivial⟩ ?_
          refine PT.skip ?_
          obtain ⟨k8, hk8, hφ⟩ := J_some hφ
          refine PT.cut (ι := (List Mk.Write) × Int × Int × (List Int) × Int × Int × (List Mk.Write) × Int × Int × (List Int)) (fun p => ⟨[(1, .val (p.1)), (5, .sl 1005), (6, .val (p.2.1)), (7, .val (p.2.2.1)), (10, .val (p.2.2.2.1)), (11, .val (p.2.2.2.2.1)), (12, .val (p.2.2.2.2.2.1)), (17, .val (p.2.2.2.2.2.2.1)), (18, .val (p.2.2.2.2.2.2.2.1)), (19, .val (p.2.2.2.2.2.2.2.2.1))], [(1005, .arr 3 (p.2.2.2.2.2.2.2.2.2))]⟩) (fun p => k8 (p.1) (p.2.1) (p.2.2.1) (p.2.2.2.1) (p.2.2.2.2.1) (p.2.2.2.2.2.1) (p.2.2.2.2.2.2.1) (p.2.2.2.2.2.2.2.1) (p.2.2.2.2.2.2.2.2.1) (p.2.2.2.2.2.2.2.2.2) = some r) ?_ ?_
          · skip
            refine PT.block ?_
            refine PT.seq ?_
            obtain ⟨hb9, hφ⟩ := G_some hφ
            refine PT.region ?_
            refine Ops.put rfl rfl (ox_ix s26 .tmp .tmp hb9.1 hb9.2) ((.app (.one rfl) (.one rfl))) (.nil) rfl ?_
            refine Ops.put rfl rfl (ox_load_elem t99) (.one rfl) (.nil) rfl ?_
            refine Ops.putO rfl rfl (ox_alloc (id := 9) z99) (.nil) (.nil) rfl (by kernel_rfl) ?_
            refine Ops.mute rfl rfl (ox_store_var t99 .tmp) ((.cons rfl (.one rfl))) (.one rfl) ?_
            refine Ops.nil ?_
            refine PT.sub (σ' := ⟨[(1, .val (x1_m6)), (5, _), (6, .val (x6_m6)), (7, .val (x7_m6)), (9, _), (10, .val (x10_m6)), (11, .val (x11_m6)), (12, .val (x12_m6)), (17, .val (x17_m6)), (18, .val (x18_m6)), (19, .val (x19_m6))], [(9, .var ((ix x17_m6 x19_m6)) []), (1005, .arr 3 (y1005_m6))]⟩) ⟨rfl, rfl, rfl, rfl, rfl, rfl, rfl, rfl, rfl, rfl, rfl, trivial⟩ ⟨rfl, rfl, trivial⟩ ?_
            refine PT.seq ?_
            refine PT.region ?_
            refine Ops.put rfl rfl (ox_fieldAddr_var Write_At f99_0) (.one rfl) (.nil) rfl ?_
            refine Ops.put rfl rfl (ox_load_fld t3) (.one rfl) (.one rfl) rfl ?_
            refine Ops.put rfl rfl (ox_move .tmp) (.one rfl) (.nil) rfl ?_
            refine Ops.put rfl rfl (ox_eql .tmp .tmp) ((.app (.one rfl) (.one rfl))) (.nil) rfl ?_
            refine Ops.nil ?_
            refine PT.sub (σ' := ⟨[(1, .val (x1_m6)), (5, _), (6, .val (x6_m6)), (7, .val (x7_m6)), (9, _), (10, .val (x10_m6)), (11, .val (x11_m6)), (12, .val (x12_m6)), (17, .val (x17_m6)), (18, .val (x18_m6)), (19, .val (x19_m6)), (26, .val ((decide ((ix x17_m6 x19_m6).At = x6_m6))))], [(9, .var ((ix x17_m6 x19_m6)) []), (1005, .arr 3 (y1005_m6))]⟩) ⟨rfl, rfl, rfl, rfl, rfl, rfl, rfl, rfl, rfl, rfl, rfl, rfl, trivial⟩ ⟨rfl, rfl, trivial⟩ ?_
            refine PT.cond _ rfl (fun hc10 => ?_) (fun hc10 => ?_)
            · replace hφ := if_then hφ hc10
              refine PT.sub (σ' := ⟨[(1, .val (x1_m6)), (5, _), (6, .val (x6_m6)), (9, _), (10, .val (x10_m6)), (11, .val (x11_m6)), (12, .val (x12_m6)), (17, .val (x17_m6)), (18, .val (x18_m6)), (19, .val (x19_m6))], [(9, .var ((ix x17_m6 x19_m6)) []), (1005, .arr 3 (y1005_m6))]⟩) ⟨rfl, rfl, rfl, rfl, rfl, rfl, rfl, rfl, rfl, rfl, trivial⟩ ⟨rfl, rfl, trivial⟩ ?_
              refine PT.region ?_
              refine Ops.put rfl rfl (ox_fieldAddr_var Write_N f99_1) (.one rfl) (.nil) rfl ?_
              refine Ops.put rfl rfl (ox_load_fld t3) (.one rfl) (.one rfl) rfl ?_
              refine Ops.put rfl rfl (ox_assign .tmp) (.one rfl) (.nil) rfl ?_
              refine Ops.nil ?_
              refine PT.sub (σ' := ⟨[(1, .val (x1_m6)), (5, _), (6, .val (x6_m6)), (7, .val ((ix x17_m6 x19_m6).N)), (10, .val (x10_m6)), (11, .val (x11_m6)), (12, .val (x12_m6)), (17, .val (x17_m6)), (18, .val (x18_m6)), (19, .val (x19_m6))], [(1005, .arr 3 (y1005_m6))]⟩) ⟨rfl, rfl, rfl, rfl, rfl, rfl, rfl, rfl, rfl, rfl, trivial⟩ ⟨rfl, trivial⟩ ?_
              exact PT.meet (x1_m6, x6_m6, (ix x17_m6 x19_m6).N, x10_m6, x11_m6, x12_m6, x17_m6, x18_m6, x19_m6, y1005_m6) hφ ⟨rfl, rfl, rfl, rfl, rfl, rfl, rfl, rfl, rfl, rfl, trivial⟩ ⟨rfl, trivial⟩
            · replace hφ := if_else hφ hc10
              refine PT.sub (σ' := ⟨[(1, .val (x1_m6)), (5, _), (6, .val (x6_m6)), (7, .val (x7_m6)), (10, .val (x10_m6)), (11, .val (x11_m6)), (12, .val (x12_m6)), (17, .val (x17_m6)), (18, .val (x18_m6)), (19, .val (x19_m6))], [(1005, .arr 3 (y1005_m6))]⟩) ⟨rfl, rfl, rfl, rfl, rfl, rfl, rfl, rfl, rfl, rfl, trivial⟩ ⟨rfl, trivial⟩ ?_
              refine PT.skip ?_
              exact PT.meet (x1_m6, x6_m6, x7_m6, x10_m6, x11_m6, x12_m6, x17_m6, x18_m6, x19_m6, y1005_m6) hφ ⟨rfl, rfl, rfl, rfl, rfl, rfl, rfl, rfl, rfl, rfl, trivial⟩ ⟨rfl, trivial⟩
          · rintro ⟨x1_k8, x6_k8, x7_k8, x10_k8, x11_k8, x12_k8, x17_k8, x18_k8, x19_k8, y1005_k8⟩ hφ
            subst hk8
            refine PT.sub (σ' := ⟨[(1, .val (x1_k8)), (5, .sl 1005), (6, .val (x6_k8)), (7, .val (x7_k8)), (10, .val (x10_k8)), (11, .val (x11_k8)), (12, .val (x12_k8)), (17, .val (x17_k8)), (18, .val (x18_k8)), (19, .val (x19_k8))], [(1005, .arr 3 (y1005_k8))]⟩) ⟨rfl, rfl, rfl, rfl, rfl, rfl, rfl, rfl, rfl, rfl, trivial⟩ ⟨rfl, trivial⟩ ?_
            obtain ⟨hb11, hφ⟩ := G_some hφ
            refine PT.region ?_
            refine Ops.put rfl rfl (ox_add .tmp .int hb11) ((.app (.one rfl) (.nil))) (.nil) rfl ?_
            refine Ops.put rfl rfl (ox_move .tmp) (.one rfl) (.nil) rfl ?_
            refine Ops.nil ?_
            refine PT.sub (σ' := ⟨[(1, .val (x1_k8)), (5, _), (6, .val (x6_k8)), (7, .val (x7_k8)), (10, .val (x10_k8)), (11, .val (x11_k8)), (12, .val (x12_k8)), (17, .val (x17_k8)), (18, .val (x18_k8)), (19, .val ((x19_k8 + (1 : Int))))], [(1005, .arr 3 (y1005_k8))]⟩) ⟨rfl, rfl, rfl, rfl, rfl, rfl, rfl, rfl, rfl, rfl, trivial⟩ ⟨rfl, trivial⟩ ?_
            exact PT.next (m6, x1_k8, x6_k8, x7_k8, x10_k8, x11_k8, x12_k8, x17_k8, x18_k8, (x19_k8 + (1 : Int)), y1005_k8) hφ (Nat.lt_succ_self _) ⟨rfl, rfl, rfl, rfl, rfl, rfl, rfl, rfl, rfl, rfl, trivial⟩ ⟨rfl, trivial⟩
        · replace hφ := if_else hφ hc7
          refine PT.sub (σ' := ⟨[(1, .val (x1_m6)), (5, _), (7, .val (x7_m6)), (10, .val (x10_m6)), (11, .val (x11_m6)), (12, .val (x12_m6))], [(1005, .arr 3 (y1005_m6))]⟩) ⟨rfl, rfl, rfl, rfl, rfl, rfl, trivial⟩ ⟨rfl, trivial⟩ ?_
          refine PT.exit ?_
          exact PT.meet (x1_m6, x7_m6, x10_m6, x11_m6, x12_m6, y1005_m6) hφ ⟨rfl, rfl, rfl, rfl, rfl, rfl, trivial⟩ ⟨rfl, trivial⟩
      · rintro ⟨x1_k5, x7_k5, x10_k5, x11_k5, x12_k5, y1005_k5⟩ hφ
        subst hk5
        refine PT.sub (σ' := ⟨[(1, .val (x1_k5)), (5, .sl 1005), (7, .val (x7_k5)), (10, .val (x10_k5)), (11, .val (x11_k5)), (12, .val (x12_k5))], [(1005, .arr 3 (y1005_k5))]⟩) ⟨rfl, rfl, rfl, rfl, rfl, rfl, trivial⟩ ⟨rfl, trivial⟩ ?_
        obtain ⟨hb12, hφ⟩ := G_some hφ
        refine PT.region ?_
        refine Ops.put rfl rfl (ox_move .tmp) (.one rfl) (.nil) rfl ?_
        refine Ops.put rfl rfl (ox_move .tmp) (.one rfl) (.nil) rfl ?_
        refine Ops.put rfl rfl (ox_buildSlice_val s25 z3 (.cons .tmp Parts.nil) rfl (by decide)) ((.app (.one rfl) .nil)) (.nil) rfl ?_
        refine Ops.putK [5, 30] rfl rfl (ox_append a25 .tmp .tmp hb12.1 hb12.2) ((.app (.one rfl) (.one rfl))) (.one rfl) rfl (by kernel_rfl) ?_
        refine Ops.put rfl rfl (ox_assign .tmp) (.one rfl) (.nil) rfl ?_
        refine Ops.nil ?_
        refine PT.sub (σ' := ⟨[(1, .val (x1_k5)), (5, _), (10, .val (x10_k5)), (11, .val (x11_k5)), (12, .val (x12_k5))], [(1005, .arr 3 ((y1005_k5 ++ ([x7_k5] : List Int))))]⟩) ⟨rfl, rfl, rfl, rfl, rfl, trivial⟩ ⟨rfl, trivial⟩ ?_
        obtain ⟨hb13, hφ⟩ := G_some hφ
        refine PT.region ?_
        refine Ops.put rfl rfl (ox_add .tmp .int hb13) ((.app (.one rfl) (.nil))) (.nil) rfl ?_
        refine Ops.put rfl rfl (ox_move .tmp) (.one rfl) (.nil) rfl ?_
        refine Ops.nil ?_
        refine PT.sub (σ' := ⟨[(1, .val (x1_k5)), (5, _), (10, .val (x10_k5)), (11, .val (x11_k5)), (12, .val ((x12_k5 + (1 : Int))))], [(1005, .arr 3 ((y1005_k5 ++ ([x7_k5] : List Int))))]⟩) ⟨rfl, rfl, rfl, rfl, rfl, trivial⟩ ⟨rfl, trivial⟩ ?_
        exact PT.next (m2, x1_k5, x10_k5, x11_k5, (x12_k5 + (1 : Int)), (y1005_k5 ++ ([x7_k5] : List Int))) hφ (Nat.lt_succ_self _) ⟨rfl, rfl, rfl, rfl, rfl, trivial⟩ ⟨rfl, trivial⟩
    · replace hφ := if_else hφ hc3
      refine PT.sub (σ' := ⟨[(5, _)], [(1005, .arr 3 (y1005_m2))]⟩) ⟨rfl, trivial⟩ ⟨rfl, trivial⟩ ?_
      refine PT.exit ?_
      exact PT.meet (y1005_m2) hφ ⟨rfl, trivial⟩ ⟨rfl, trivial⟩
  · rintro y1005_k1 hφ
    subst hk1
    refine PT.sub (σ' := ⟨[(5, .sl 1005)], [(1005, .arr 3 (y1005_k1))]⟩) ⟨rfl, trivial⟩ ⟨rfl, trivial⟩ ?_
    refine PT.seq ?_
    refine PT.region ?_
    refine Ops.put rfl rfl (ox_move .tmp) (.one rfl) (.nil) rfl ?_
    refine Ops.put rfl rfl (ox_assign .tmp) (.one rfl) (.nil) rfl ?_
    refine Ops.nil ?_
    refine PT.sub (σ' := ⟨[(4, _)], [(1005, .arr 3 (y1005_k1))]⟩) ⟨rfl, trivial⟩ ⟨rfl, trivial⟩ ?_
    refine PT.ret ?_
    refine PT.freeze 1005 [4] rfl ⟨rfl, trivial⟩ ?_
    obtain rfl := Option.some.inj hφ
    exact PT.done hw0 rfl (.tmp rfl rfl .nil) rfl
theorem c_mkref1_Set2 {a0 : List Int} {a1 : List Mk.Write} {r : ((List Int))} (hφ : mkref1_Set2 a0 a1 = some r) : Fn Go.Proofs.Try.prog 57 [.val a0, .val a1] (.val r) := by
  unfold mkref1_Set2 at hφ
  refine Fn.mk' Go.Proofs.Try.func57 rfl (by decide) rfl rfl rfl (fun w0 hw0 => ?_)
  refine PT.seq ?_
  refine PT.region ?_
  refine Ops.put rfl rfl (ox_assign .nilS) (.nil) (.nil) rfl ?_
  refine Ops.nil ?_
  refine PT.sub (σ' := ⟨[(0, .val (a0)), (1, .val (a1))], []⟩) ⟨rfl, rfl, trivial⟩ trivial ?_
  obtain ⟨k1, hk1, hφ⟩ := J_some hφ
  refine PT.cut (ι := (List Int)) (fun p => ⟨[(0, .val (p))], []⟩) (fun p => k1 (p) = some r) ?_ ?_
  · skip
    refine PT.seq ?_
    refine PT.region ?_
    refine Ops.put rfl rfl (ox_move .tmp) (.one rfl) (.nil) rfl ?_
    refine Ops.put rfl rfl (ox_len s26 .tmp) (.one rfl) (.nil) rfl ?_
    refine Ops.put rfl rfl (ox_move .int) (.nil) (.nil) rfl ?_
    refine Ops.nil ?_
    refine PT.sub (σ' := ⟨[(0, .val (a0)), (7, .val (a1)), (8, .val ((a1.length : Int))), (9, .val ((0 : Int)))], []⟩) ⟨rfl, rfl, rfl, rfl, trivial⟩ trivial ?_
    refine PT.block ?_
    refine PT.loop (ι := Nat × (List Int) × (List Mk.Write) × Int × Int) (fun p => ⟨[(0, .val (p.2.1)), (7, .val (p.2.2.1)), (8, .val (p.2.2.2.1)), (9, .val (p.2.2.2.2))], []⟩) (fun p => mkref1_Set2_l1 k1 p.1 (p.2.1) (p.2.2.1) (p.2.2.2.1) (p.2.2.2.2) = some r) (fun p => p.1) (((a1.length : Int) - (0 : Int)).toNat + 1, a0, a1, (a1.length : Int), (0 : Int)) hφ ⟨rfl, rfl, rfl, rfl, trivial⟩ trivial ?_
    rintro ⟨m2, x0_m2, x7_m2, x8_m2, x9_m2⟩ (hφ : mkref1_Set2_l1 k1 m2 x0_m2 x7_m2 x8_m2 x9_m2 = some r)
    obtain _ | m2 := m2
    · exact (none_no hφ).elim
    rw [mkref1_Set2_l1.eq_2] at hφ
    refine PT.sub (σ' := ⟨[(0, .val (x0_m2)), (7, .val (x7_m2)), (8, .val (x8_m2)), (9, .val (x9_m2))], []⟩) ⟨rfl, rfl, rfl, rfl, trivial⟩ trivial ?_
    refine PT.seq ?_
    refine PT.region ?_
    refine Ops.put rfl rfl (ox_lss .tmp .tmp) ((.app (.one rfl) (.one rfl))) (.nil) rfl ?_
    refine Ops.nil ?_
    refine PT.sub (σ' := ⟨[(0, .val (x0_m2)), (7, .val (x7_m2)), (8, .val (x8_m2)), (9, .val (x9_m2)), (10, .val ((decide (x9_m2 < x8_m2))))], []⟩) ⟨rfl, rfl, rfl, rfl, rfl, trivial⟩ trivial ?_
    refine PT.seq ?_
    refine PT.cond _ rfl (fun hc3 => ?_) (fun hc3 => ?_)
    · replace hφ := if_then hφ hc3
      refine PT.sub (σ' := ⟨[(0, .val (x0_m2)), (7, .val (x7_m2)), (8, .val (x8_m2)), (9, .val (x9_m2))], []⟩) ⟨rfl, rfl, rfl, rfl, trivial⟩ trivial ?_
      refine PT.skip ?_
      refine PT.seq ?_
      refine PT.block ?_
      refine PT.seq ?_
      obtain ⟨hb4, hφ⟩ := G_some hφ
      refine PT.region ?_
      refine Ops.put rfl rfl (ox_ix s26 .tmp .tmp hb4.1 hb4.2) ((.app (.one rfl) (.one rfl))) (.nil) rfl ?_
      refine Ops.put rfl rfl (ox_load_elem t99) (.one rfl) (.nil) rfl ?_
      refine Ops.putO rfl rfl (ox_alloc (id := 6) z99) (.nil) (.nil) rfl (by kernel_rfl) ?_
      refine Ops.mute rfl rfl (ox_store_var t99 .tmp) ((.cons rfl (.one rfl))) (.one rfl) ?_
      refine Ops.nil ?_
      refine PT.sub (σ' := ⟨[(0, .val (x0_m2)), (6, _), (7, .val (x7_m2)), (8, .val (x8_m2)), (9, .val (x9_m2))], [(6, .var ((ix x7_m2 x9_m2)) [])]⟩) ⟨rfl, rfl, rfl, rfl, rfl, trivial⟩ ⟨rfl, trivial⟩ ?_
      obtain ⟨v5, hv5, hφ⟩ := B_some hφ
      refine PT.region ?_
      refine Ops.put rfl rfl (ox_move .tmp) (.one rfl) (.nil) rfl ?_
      refine Ops.put rfl rfl (ox_load_var t99) (.one rfl) (.one rfl) rfl ?_
      refine Ops.put rfl rfl (ox_buildSlice_val s26 z99 (.cons .tmp Parts.nil) rfl (by decide)) ((.app (.one rfl) .nil)) (.nil) rfl ?_
      refine Ops.put rfl rfl (ox_call (c_mkref1_Set hv5) (.cons .tmp (.cons .tmp .nil))) ((.app (.one rfl) (.app (.one rfl) .nil))) (.nil) rfl ?_
      refine Ops.put rfl rfl (ox_assign .tmp) (.one rfl) (.nil) rfl ?_
      refine Ops.nil ?_
      refine PT.sub (σ' := ⟨[(0, .val (v5)), (7, .val (x7_m2)), (8, .val (x8_m2)), (9, .val (x9_m2))], []⟩) ⟨rfl, rfl, rfl, rfl, trivial⟩ trivial ?_
      obtain ⟨hb6, hφ⟩ := G_some hφ
      refine PT.region ?_
      refine Ops.put rfl rfl (ox_add .tmp .int hb6) ((.app (.one rfl) (.nil))) (.nil) rfl ?_
      refine Ops.put rfl rfl (ox_move .tmp) (.one rfl) (.nil) rfl ?_
      refine Ops.nil ?_
      refine PT.sub (σ' := ⟨[(0, .val (v5)), (7, .val (x7_m2)), (8, .val (x8_m2)), (9, .val ((x9_m2 + (1 : Int))))], []⟩) ⟨rfl, rfl, rfl, rfl, trivial⟩ trivial ?_
      exact PT.next (m2, v5, x7_m2, x8_m2, (x9_m2 + (1 : Int))) hφ (Nat.lt_succ_self _) ⟨rfl, rfl, rfl, rfl, trivial⟩ trivial
    · replace hφ := if_else hφ hc3
      refine PT.sub (σ' := ⟨[(0, .val (x0_m2))], []⟩) ⟨rfl, trivial⟩ trivial ?_
      refine PT.exit ?_
      exact PT.meet (x0_m2) hφ ⟨rfl, trivial⟩ trivial
  · rintro x0_k1 hφ
    subst hk1
    refine PT.sub (σ' := ⟨[(0, .val (x0_k1))], []⟩) ⟨rfl, trivial⟩ trivial ?_
    refine PT.seq ?_
    refine PT.region ?_
    refine Ops.put rfl rfl (ox_move .tmp) (.one rfl) (.nil) rfl ?_
    refine Ops.put rfl rfl (ox_assign .tmp) (.one rfl) (.nil) rfl ?_
    refine Ops.nil ?_
    refine PT.sub (σ' := ⟨[(4, .val (x0_k1))], []⟩) ⟨rfl, trivial⟩ trivial ?_
    refine PT.ret ?_
    obtain rfl := Option.some.inj hφ
    exact PT.done hw0 rfl (.tmp rfl rfl .nil) rfl
end Go.Gx
end
section
namespace Go.Gx
open Sp
set_option linter.unusedVariables false
set_option linter.unusedSimpArgs false
set_option maxRecDepth 20000
set_option maxHeartbeats 4000000
theorem c_slices_Clone___int_int_ {a0 : List Int} {r : ((List Int))} (hφ : slices_Clone___int_int_ a0 = some r) : Fn Go.Proofs.Try.prog 96 [.val a0] (.val r) := by
  unfold slices_Clone___int_int_ at hφ
  refine Fn.mk' Go.Proofs.Try.func96 rfl (by decide) rfl rfl rfl (fun w0 hw0 => ?_)
  refine PT.seq ?_
  refine PT.region ?_
  refine Ops.put rfl rfl (ox_assign .nilS) (.nil) (.nil) rfl ?_
  refine Ops.nil ?_
  refine PT.sub (σ' := ⟨[(0, .val (a0))], []⟩) ⟨rfl, trivial⟩ trivial ?_
  refine PT.seq ?_
  refine PT.seq ?_
  refine PT.region ?_
  refine Ops.put rfl rfl (ox_move .tmp) (.one rfl) (.nil) rfl ?_
  refine Ops.put rfl rfl (ox_isNil (by kernel_rfl) .tmp .nilS) ((.app (.one rfl) (.nil))) (.nil) rfl ?_
  refine Ops.nil ?_
  refine PT.sub (σ' := ⟨[(0, .val (a0)), (4, _)], []⟩) ⟨rfl, rfl, trivial⟩ trivial ?_
  refine PT.condB _ rfl (fun hc1 => ?_) (fun _ => ?_)
  · have hc1e := hc1 rfl
    refine PT.sub (σ' := ⟨[], []⟩) trivial trivial ?_
    refine PT.seq ?_
    refine PT.region ?_
    refine Ops.put rfl rfl (ox_assign .nilS) (.nil) (.nil) rfl ?_
    refine Ops.nil ?_
    refine PT.sub (σ' := ⟨[(2, .nilS)], []⟩) ⟨rfl, trivial⟩ trivial ?_
    refine PT.ret ?_
    refine PT.asNil 2 (Int) rfl ?_
    rw [hc1e] at hφ
    obtain ⟨_, hφ⟩ := G_some hφ
    obtain rfl := Option.some.inj hφ
    exact PT.done hw0 rfl (.tmp rfl rfl .nil) rfl
  · skip
    refine PT.sub (σ' := ⟨[(0, .val (a0))], []⟩) ⟨rfl, trivial⟩ trivial ?_
    refine PT.skip ?_
    refine PT.seq ?_
    obtain ⟨hb2, hφ⟩ := G_some hφ
    refine PT.region ?_
    refine Ops.putO rfl rfl (ox_buildSlice_arr (id := 5) s25 z3 Parts.nil rfl (by decide)) (.nil) (.nil) rfl (by kernel_rfl) ?_
    refine Ops.put rfl rfl (ox_move .tmp) (.one rfl) (.nil) rfl ?_
    refine Ops.putK [5] rfl rfl (ox_append a25 .tmp .tmp hb2.1 hb2.2) ((.app (.one rfl) (.one rfl))) (.one rfl) rfl (by kernel_rfl) ?_
    refine Ops.put rfl rfl (ox_assign .tmp) (.one rfl) (.nil) rfl ?_
    refine Ops.nil ?_
    refine PT.sub (σ' := ⟨[(2, _)], [(5, .arr 3 ((([] : List Int) ++ a0)))]⟩) ⟨rfl, trivial⟩ ⟨rfl, trivial⟩ ?_
    refine PT.ret ?_
    refine PT.freeze 5 [2] rfl ⟨rfl, trivial⟩ ?_
    obtain rfl := Option.some.inj hφ
    exact PT.done hw0 rfl (.tmp rfl rfl .nil) rfl
theorem x_slices_Clone___int_int_ {a0 : List Int} {r : ((List Int))} (hφ : slices_Clone___int_int_ a0 = some r) : FnX Go.Proofs.Try.prog 96 [.val a0] [] (.sl 5) [(5, .arr 3 r)] [] := by
  unfold slices_Clone___int_int_ at hφ
  refine FnX.mk' Go.Proofs.Try.func96 rfl (by decide) rfl (fun w0 m0 => ?_)
  refine PT.seq ?_
  refine PT.region ?_
  refine Ops.put rfl rfl (ox_assign .nilS) (.nil) (.nil) rfl ?_
  refine Ops.nil ?_
  refine PT.sub (σ' := ⟨[(0, .val (a0))], []⟩) ⟨rfl, trivial⟩ trivial ?_
  refine PT.seq ?_
  refine PT.seq ?_
  refine PT.region ?_
  refine Ops.put rfl rfl (ox_move .tmp) (.one rfl) (.nil) rfl ?_
  refine Ops.put rfl rfl (ox_isNil (by kernel_rfl) .tmp .nilS) ((.app (.one rfl) (.nil))) (.nil) rfl ?_
  refine Ops.nil ?_
  refine PT.sub (σ' := ⟨[(0, .val (a0)), (4, _)], []⟩) ⟨rfl, rfl, trivial⟩ trivial ?_
  refine PT.condB _ rfl (fun hc1 => ?_) (fun _ => ?_)
  · have hc1e := hc1 rfl
    refine PT.sub (σ' := ⟨[], []⟩) trivial trivial ?_
    refine PT.seq ?_
    refine PT.region ?_
    refine Ops.put rfl rfl (ox_assign .nilS) (.nil) (.nil) rfl ?_
    refine Ops.nil ?_
    refine PT.sub (σ' := ⟨[(2, .nilS)], []⟩) ⟨rfl, trivial⟩ trivial ?_
    refine PT.ret ?_
    refine PT.nilArr 5 2 3 (Int) rfl (by kernel_rfl) ?_
    rw [hc1e] at hφ
    obtain ⟨_, hφ⟩ := G_some hφ
    obtain rfl := Option.some.inj hφ
    exact PT.doneX rfl (.tmp rfl .nil) rfl ⟨rfl, trivial⟩ trivial
  · skip
    refine PT.sub (σ' := ⟨[(0, .val (a0))], []⟩) ⟨rfl, trivial⟩ trivial ?_
    refine PT.skip ?_
    refine PT.seq ?_
    obtain ⟨hb2, hφ⟩ := G_some hφ
    refine PT.region ?_
    refine Ops.putO rfl rfl (ox_buildSlice_arr (id := 5) s25 z3 Parts.nil rfl (by decide)) (.nil) (.nil) rfl (by kernel_rfl) ?_
    refine Ops.put rfl rfl (ox_move .tmp) (.one rfl) (.nil) rfl ?_
    refine Ops.putK [5] rfl rfl (ox_append a25 .tmp .tmp hb2.1 hb2.2) ((.app (.one rfl) (.one rfl))) (.one rfl) rfl (by kernel_rfl) ?_
    refine Ops.put rfl rfl (ox_assign .tmp) (.one rfl) (.nil) rfl ?_
    refine Ops.nil ?_
    refine PT.sub (σ' := ⟨[(2, _)], [(5, .arr 3 ((([] : List Int) ++ a0)))]⟩) ⟨rfl, trivial⟩ ⟨rfl, trivial⟩ ?_
    refine PT.ret ?_
    obtain rfl := Option.some.inj hφ
    exact PT.doneX rfl (.tmp rfl .nil) rfl ⟨rfl, trivial⟩ trivial
theorem c_slices_Clone___api_Write_api_Write_ {a0 : List Mk.Write} {r : ((List Mk.Write))} (hφ : slices_Clone___api_Write_api_Write_ a0 = some r) : Fn Go.Proofs.Try.prog 62 [.val a0] (.val r) := by
  unfold slices_Clone___api_Write_api_Write_ at hφ
  refine Fn.mk' Go.Proofs.Try.func62 rfl (by decide) rfl rfl rfl (fun w0 hw0 => ?_)
  refine PT.seq ?_
  refine PT.region ?_
  refine Ops.put rfl rfl (ox_assign .nilS) (.nil) (.nil) rfl ?_
  refine Ops.nil ?_
  refine PT.sub (σ' := ⟨[(0, .val (a0))], []⟩) ⟨rfl, trivial⟩ trivial ?_
  refine PT.seq ?_
  refine PT.seq ?_
  refine PT.region ?_
  refine Ops.put rfl rfl (ox_move .tmp) (.one rfl) (.nil) rfl ?_
  refine Ops.put rfl rfl (ox_isNil (by kernel_rfl) .tmp .nilS) ((.app (.one rfl) (.nil))) (.nil) rfl ?_
  refine Ops.nil ?_
  refine PT.sub (σ' := ⟨[(0, .val (a0)), (4, _)], []⟩) ⟨rfl, rfl, trivial⟩ trivial ?_
  refine PT.condB _ rfl (fun hc1 => ?_) (fun _ => ?_)
  · have hc1e := hc1 rfl
    refine PT.sub (σ' := ⟨[], []⟩) trivial trivial ?_
    refine PT.seq ?_
    refine PT.region ?_
    refine Ops.put rfl rfl (ox_assign .nilS) (.nil) (.nil) rfl ?_
    refine Ops.nil ?_
    refine PT.sub (σ' := ⟨[(2, .nilS)], []⟩) ⟨rfl, trivial⟩ trivial ?_
    refine PT.ret ?_
    refine PT.asNil 2 (Mk.Write) rfl ?_
    rw [hc1e] at hφ
    obtain ⟨_, hφ⟩ := G_some hφ
    obtain rfl := Option.some.inj hφ
    exact PT.done hw0 rfl (.tmp rfl rfl .nil) rfl
  · skip
    refine PT.sub (σ' := ⟨[(0, .val (a0))], []⟩) ⟨rfl, trivial⟩ trivial ?_
    refine PT.skip ?_
    refine PT.seq ?_
    obtain ⟨hb2, hφ⟩ := G_some hφ
    refine PT.region ?_
    refine Ops.putO rfl rfl (ox_buildSlice_arr (id := 5) s26 z99 Parts.nil rfl (by decide)) (.nil) (.nil) rfl (by kernel_rfl) ?_
    refine Ops.put rfl rfl (ox_move .tmp) (.one rfl) (.nil) rfl ?_
    refine Ops.putK [5] rfl rfl (ox_append a26 .tmp .tmp hb2.1 hb2.2) ((.app (.one rfl) (.one rfl))) (.one rfl) rfl (by kernel_rfl) ?_
    refine Ops.put rfl rfl (ox_assign .tmp) (.one rfl) (.nil) rfl ?_
    refine Ops.nil ?_
    refine PT.sub (σ' := ⟨[(2, _)], [(5, .arr 99 ((([] : List Mk.Write) ++ a0)))]⟩) ⟨rfl, trivial⟩ ⟨rfl, trivial⟩ ?_
    refine PT.ret ?_
    refine PT.freeze 5 [2] rfl ⟨rfl, trivial⟩ ?_
    obtain rfl := Option.some.inj hφ
    exact PT.done hw0 rfl (.tmp rfl rfl .nil) rfl
theorem x_slices_Clone___api_Write_api_Write_ {a0 : List Mk.Write} {r : ((List Mk.Write))} (hφ : slices_Clone___api_Write_api_Write_ a0 = some r) : FnX Go.Proofs.Try.prog 62 [.val a0] [] (.sl 5) [(5, .arr 99 r)] [] := by
  unfold slices_Clone___api_Write_api_Write_ at hφ
  refine FnX.mk' Go.Proofs.Try.func62 rfl (by decide) rfl (fun w0 m0 => ?_)
  refine PT.seq ?_
  refine PT.region ?_
  refine Ops.put rfl rfl (ox_assign .nilS) (.nil) (.nil) rfl ?_
  refine Ops.nil ?_
  refine PT.sub (σ' := ⟨[(0, .val (a0))], []⟩) ⟨rfl, trivial⟩ trivial ?_
  refine PT.seq ?_
  refine PT.seq ?_
  refine PT.region ?_
  refine Ops.put rfl rfl (ox_move .tmp) (.one rfl) (.nil) rfl ?_
  refine Ops.put rfl rfl (ox_isNil (by kernel_rfl) .tmp .nilS) ((.app (.one rfl) (.nil))) (.nil) rfl ?_
  refine Ops.nil ?_
  refine PT.sub (σ' := ⟨[(0, .val (a0)), (4, _)], []⟩) ⟨rfl, rfl, trivial⟩ trivial ?_
  refine PT.condB _ rfl (fun hc1 => ?_) (fun _ => ?_)
  · have hc1e := hc1 rfl
    refine PT.sub (σ' := ⟨[], []⟩) trivial trivial ?_
    refine PT.seq ?_
    refine PT.region ?_
    refine Ops.put rfl rfl (ox_assign .nilS) (.nil) (.nil) rfl ?_
    refine Ops.nil ?_
    refine PT.sub (σ' := ⟨[(2, .nilS)], []⟩) ⟨rfl, trivial⟩ trivial ?_
    refine PT.ret ?_
    refine PT.nilArr 5 2 99 (Mk.Write) rfl (by kernel_rfl) ?_
    rw [hc1e] at hφ
    obtain ⟨_, hφ⟩ := G_some hφ
    obtain rfl := Option.some.inj hφ
    exact PT.doneX rfl (.tmp rfl .nil) rfl ⟨rfl, trivial⟩ trivial
  · skip
    refine PT.sub (σ' := ⟨[(0, .val (a0))], []⟩) ⟨rfl, trivial⟩ trivial ?_
    refine PT.skip ?_
    refine PT.seq ?_
    obtain ⟨hb2, hφ⟩ := G_some hφ
    refine PT.region ?_
    refine Ops.putO rfl rfl (ox_buildSlice_arr (id := 5) s26 z99 Parts.nil rfl (by decide)) (.nil) (.nil) rfl (by kernel_rfl) ?_
    refine Ops.put rfl rfl (ox_move .tmp) (.one rfl) (.nil) rfl ?_
    refine Ops.putK [5] rfl rfl (ox_append a26 .tmp .tmp hb2.1 hb2.2) ((.app (.one rfl) (.one rfl))) (.one rfl) rfl (by kernel_rfl) ?_
    refine Ops.put rfl rfl (ox_assign .tmp) (.one rfl) (.nil) rfl ?_
    refine Ops.nil ?_
    refine PT.sub (σ' := ⟨[(2, _)], [(5, .arr 99 ((([] : List Mk.Write) ++ a0)))]⟩) ⟨rfl, trivial⟩ ⟨rfl, trivial⟩ ?_
    refine PT.ret ?_
    obtain rfl := Option.some.inj hφ
    exact PT.doneX rfl (.tmp rfl .nil) rfl ⟨rfl, trivial⟩ trivial
theorem c_cell_Set {a0 : List Int} {a1 : List Mk.Write} {r : ((List Int))} (hφ : cell_Set a0 a1 = some r) : Fn Go.Proofs.Try.prog 94 [.val a0, .val a1] (.val r) := by
  unfold cell_Set at hφ
  refine Fn.mk' Go.Proofs.Try.func94 rfl (by decide) rfl rfl rfl (fun w0 hw0 => ?_)
  refine PT.seq ?_
  refine PT.region ?_
  refine Ops.put rfl rfl (ox_assign .nilS) (.nil) (.nil) rfl ?_
  refine Ops.nil ?_
  refine PT.sub (σ' := ⟨[(0, .val (a0)), (1, .val (a1))], []⟩) ⟨rfl, rfl, trivial⟩ trivial ?_
  refine PT.seq ?_
  obtain ⟨v1, hv1, hφ⟩ := B_some hφ
  refine PT.region ?_
  refine Ops.put rfl rfl (ox_move .tmp) (.one rfl) (.nil) rfl ?_
  refine Ops.putO rfl rfl (ox_callX (x_slices_Clone___int_int_ hv1) [] [(5, 9)] [(5, 9)] [] (.cons .tmp .nil) rfl rfl rfl rfl rfl rfl rfl rfl trivial rfl rfl rfl rfl) ((.app (.one rfl) .nil)) (.nil) rfl (by kernel_rfl) ?_
  refine Ops.put rfl rfl (ox_assign .tmp) (.one rfl) (.nil) rfl ?_
  refine Ops.nil ?_
  refine PT.sub (σ' := ⟨[(1, .val (a1)), (5, _)], [(9, .arr 3 (v1))]⟩) ⟨rfl, rfl, trivial⟩ ⟨rfl, trivial⟩ ?_
  obtain ⟨k2, hk2, hφ⟩ := J_some hφ
  refine PT.cut (ι := (List Int)) (fun p => ⟨[(5, .sl 9)], [(9, .arr 3 (p))]⟩) (fun p => k2 (p) = some r) ?_ ?_
  · skip
    refine PT.seq ?_
    refine PT.region ?_
    refine Ops.put rfl rfl (ox_move .tmp) (.one rfl) (.nil) rfl ?_
    refine Ops.put rfl rfl (ox_len s26 .tmp) (.one rfl) (.nil) rfl ?_
    refine Ops.put rfl rfl (ox_move .int) (.nil) (.nil) rfl ?_
    refine Ops.nil ?_
    refine PT.sub (σ' := ⟨[(5, _), (10, .val (a1)), (11, .val ((a1.length : Int))), (12, .val ((0 : Int)))], [(9, .arr 3 (v1))]⟩) ⟨rfl, rfl, rfl, rfl, trivial⟩ ⟨rfl, trivial⟩ ?_
    refine PT.block ?_
    refine PT.loop (ι := Nat × (List Mk.Write) × Int × Int × (List Int)) (fun p => ⟨[(5, .sl 9), (10, .val (p.2.1)), (11, .val (p.2.2.1)), (12, .val (p.2.2.2.1))], [(9, .arr 3 (p.2.2.2.2))]⟩) (fun p => cell_Set_l1 k2 p.1 (p.2.1) (p.2.2.1) (p.2.2.2.1) (p.2.2.2.2) = some r) (fun p => p.1) (((a1.length : Int) - (0 : Int)).toNat + 1, a1, (a1.length : Int), (0 : Int), v1) hφ ⟨rfl, rfl, rfl, rfl, trivial⟩ ⟨rfl, trivial⟩ ?_
    rintro ⟨m3, x10_m3, x11_m3, x12_m3, y9_m3⟩ (hφ : cell_Set_l1 k2 m3 x10_m3 x11_m3 x12_m3 y9_m3 = some r)
    obtain _ | m3 := m3
    · exact (none_no hφ).elim
    rw [cell_Set_l1.eq_2] at hφ
    refine PT.sub (σ' := ⟨[(5, .sl 9), (10, .val (x10_m3)), (11, .val (x11_m3)), (12, .val (x12_m3))], [(9, .arr 3 (y9_m3))]⟩) ⟨rfl, rfl, rfl, rfl, trivial⟩ ⟨rfl, trivial⟩ ?_
    refine PT.seq ?_
    refine PT.region ?_
    refine Ops.put rfl rfl (ox_lss .tmp .tmp) ((.app (.one rfl) (.one rfl))) (.nil) rfl ?_
    refine Ops.nil ?_
    refine PT.sub (σ' := ⟨[(5, _), (10, .val (x10_m3)), (11, .val (x11_m3)), (12, .val (x12_m3)), (13, .val ((decide (x12_m3 < x11_m3))))], [(9, .arr 3 (y9_m3))]⟩) ⟨rfl, rfl, rfl, rfl, rfl, trivial⟩ ⟨rfl, trivial⟩ ?_
    refine PT.seq ?_
    refine PT.cond _ rfl (fun hc4 => ?_) (fun hc4 => ?_)
    · replace hφ := if_then hφ hc4
      refine PT.sub (σ' := ⟨[(5, _), (10, .val (x10_m3)), (11, .val (x11_m3)), (12, .val (x12_m3))], [(9, .arr 3 (y9_m3))]⟩) ⟨rfl, rfl, rfl, rfl, trivial⟩ ⟨rfl, trivial⟩ ?_
      refine PT.skip ?_
      obtain ⟨k5, hk5, hφ⟩ := J_some hφ
      refine PT.cut (ι := (List Mk.Write) × Int × Int × (List Int)) (fun p => ⟨[(5, .sl 9), (10, .val (p.1)), (11, .val (p.2.1)), (12, .val (p.2.2.1))], [(9, .arr 3 (p.2.2.2))]⟩) (fun p => k5 (p.1) (p.2.1) (p.2.2.1) (p.2.2.2) = some r) ?_ ?_
      · skip
        refine PT.block ?_
        refine PT.seq ?_
        obtain ⟨hb6, hφ⟩ := G_some hφ
        refine PT.region ?_
        refine Ops.put rfl rfl (ox_ix s26 .tmp .tmp hb6.1 hb6.2) ((.app (.one rfl) (.one rfl))) (.nil) rfl ?_
        refine Ops.put rfl rfl (ox_load_elem t99) (.one rfl) (.nil) rfl ?_
        refine Ops.putO rfl rfl (ox_alloc (id := 7) z99) (.nil) (.nil) rfl (by kernel_rfl) ?_
        refine Ops.mute rfl rfl (ox_store_var t99 .tmp) ((.cons rfl (.one rfl))) (.one rfl) ?_
        refine Ops.nil ?_
        refine PT.sub (σ' := ⟨[(5, _), (7, _), (10, .val (x10_m3)), (11, .val (x11_m3)), (12, .val (x12_m3))], [(7, .var ((ix x10_m3 x12_m3)) []), (9, .arr 3 (y9_m3))]⟩) ⟨rfl, rfl, rfl, rfl, rfl, trivial⟩ ⟨rfl, rfl, trivial⟩ ?_
        refine PT.seq ?_
        refine PT.region ?_
        refine Ops.put rfl rfl (ox_fieldAddr_var Write_At f99_0) (.one rfl) (.nil) rfl ?_
        refine Ops.put rfl rfl (ox_load_fld t3) (.one rfl) (.one rfl) rfl ?_
        refine Ops.put rfl rfl (ox_geq .tmp .int) ((.app (.one rfl) (.nil))) (.nil) rfl ?_
        refine Ops.put rfl rfl (ox_move .tmp) (.one rfl) (.nil) rfl ?_
        refine Ops.guard rfl rfl rfl rfl (.plain .nil) (fun hG => (ox_fieldAddr_var Write_At f99_0)) ⟨rfl, trivial⟩ (.nil) rfl ?_
        refine Ops.guard rfl rfl rfl rfl (.cond (fun h => h) .nil) (fun hG => (ox_load_fld t3)) ⟨rfl, trivial⟩ (.one rfl) rfl ?_
        refine Ops.guard rfl rfl rfl rfl (.plain .nil) (fun hG => (ox_move .tmp)) ⟨rfl, trivial⟩ (.nil) rfl ?_
        refine Ops.guard rfl rfl rfl rfl (.cond (fun h => h) .nil) (fun hG => (ox_len_arr s25 .tmp)) ⟨rfl, trivial⟩ (.one rfl) rfl ?_
        refine Ops.guard rfl rfl rfl rfl (.cond (fun h => h) (.cond (fun h => h) .nil)) (fun hG => (ox_lss .tmp .tmp)) ⟨rfl, rfl, trivial⟩ (.nil) rfl ?_
        refine Ops.put rfl rfl ox_pick_and (⟨rfl, rfl, trivial⟩) (.nil) rfl ?_
        refine Ops.nil ?_
        refine PT.sub (σ' := ⟨[(5, _), (7, _), (10, .val (x10_m3)), (11, .val (x11_m3)), (12, .val (x12_m3)), (25, .val (((decide ((0 : Int) ≤ (ix x10_m3 x12_m3).At)) && (decide ((ix x10_m3 x12_m3).At < (y9_m3.length : Int))))))], [(7, .var ((ix x10_m3 x12_m3)) []), (9, .arr 3 (y9_m3))]⟩) ⟨rfl, rfl, rfl, rfl, rfl, rfl, trivial⟩ ⟨rfl, rfl, trivial⟩ ?_
        refine PT.cond _ rfl (fun hc7 => ?_) (fun hc7 => ?_)
        · replace hφ := if_then hφ hc7
          refine PT.sub (σ' := ⟨[(5, _), (7, _), (10, .val (x10_m3)), (11, .val (x11_m3)), (12, .val (x12_m3))], [(7, .var ((ix x10_m3 x12_m3)) []), (9, .arr 3 (y9_m3))]⟩) ⟨rfl, rfl, rfl, rfl, rfl, trivial⟩ ⟨rfl, rfl, trivial⟩ ?_
          obtain ⟨hb8, hφ⟩ := G_some hφ
          refine PT.region ?_
          refine Ops.put rfl rfl (ox_move .tmp) (.one rfl) (.nil) rfl ?_
          refine Ops.put rfl rfl (ox_fieldAddr_var Write_At f99_0) (.one rfl) (.nil) rfl ?_
          refine Ops.put rfl rfl (ox_load_fld t3) (.one rfl) (.one rfl) rfl ?_
          refine Ops.put rfl rfl (ox_fieldAddr_var Write_N f99_1) (.one rfl) (.nil) rfl ?_
          refine Ops.put rfl rfl (ox_load_fld t3) (.one rfl) (.one rfl) rfl ?_
          refine Ops.put rfl rfl (ox_index_arr s25 .tmp .tmp hb8.1 hb8.2) ((.app (.one rfl) (.one rfl))) (.one rfl) rfl ?_
          refine Ops.mute rfl rfl (ox_store_ax t3 .tmp hb8) ((.cons rfl (.one rfl))) (.one rfl) ?_
          refine Ops.nil ?_
          refine PT.sub (σ' := ⟨[(5, _), (10, .val (x10_m3)), (11, .val (x11_m3)), (12, .val (x12_m3))], [(9, .arr 3 ((up y9_m3 (ix x10_m3 x12_m3).At (ix x10_m3 x12_m3).N)))]⟩) ⟨rfl, rfl, rfl, rfl, trivial⟩ ⟨rfl, trivial⟩ ?_
          exact PT.meet (x10_m3, x11_m3, x12_m3, (up y9_m3 (ix x10_m3 x12_m3).At (ix x10_m3 x12_m3).N)) hφ ⟨rfl, rfl, rfl, rfl, trivial⟩ ⟨rfl, trivial⟩
        · replace hφ := if_else hφ hc7
          refine PT.sub (σ' := ⟨[(5, _), (10, .val (x10_m3)), (11, .val (x11_m3)), (12, .val (x12_m3))], [(9, .arr 3 (y9_m3))]⟩) ⟨rfl, rfl, rfl, rfl, trivial⟩ ⟨rfl, trivial⟩ ?_
          refine PT.skip ?_
          exact PT.meet (x10_m3, x11_m3, x12_m3, y9_m3) hφ ⟨rfl, rfl, rfl, rfl, trivial⟩ ⟨rfl, trivial⟩
      · rintro ⟨x10_k5, x11_k5, x12_k5, y9_k5⟩ hφ
        subst hk5
        refine PT.sub (σ' := ⟨[(5, .sl 9), (10, .val (x10_k5)), (11, .val (x11_k5)), (12, .val (x12_k5))], [(9, .arr 3 (y9_k5))]⟩) ⟨rfl, rfl, rfl, rfl, trivial⟩ ⟨rfl, trivial⟩ ?_
        obtain ⟨hb9, hφ⟩ := G_some hφ
        refine PT.region ?_
        refine Ops.put rfl rfl (ox_add .tmp .int hb9) ((.app (.one rfl) (.nil))) (.nil) rfl ?_
        refine Ops.put rfl rfl (ox_move .tmp) (.one rfl) (.nil) rfl ?_
        refine Ops.nil ?_
        refine PT.sub (σ' := ⟨[(5, _), (10, .val (x10_k5)), (11, .val (x11_k5)), (12, .val ((x12_k5 + (1 : Int))))], [(9, .arr 3 (y9_k5))]⟩) ⟨rfl, rfl, rfl, rfl, trivial⟩ ⟨rfl, trivial⟩ ?_
        exact PT.next (m3, x10_k5, x11_k5, (x12_k5 + (1 : Int)), y9_k5) hφ (Nat.lt_succ_self _) ⟨rfl, rfl, rfl, rfl, trivial⟩ ⟨rfl, trivial⟩
    · replace hφ := if_else hφ hc4
      refine PT.sub (σ' := ⟨[(5, _)], [(9, .arr 3 (y9_m3))]⟩) ⟨rfl, trivial⟩ ⟨rfl, trivial⟩ ?_
      refine PT.exit ?_
      exact PT.meet (y9_m3) hφ ⟨rfl, trivial⟩ ⟨rfl, trivial⟩
  · rintro y9_k2 hφ
    subst hk2
    refine PT.sub (σ' := ⟨[(5, .sl 9)], [(9, .arr 3 (y9_k2))]⟩) ⟨rfl, trivial⟩ ⟨rfl, trivial⟩ ?_
    refine PT.seq ?_
    refine PT.region ?_
    refine Ops.put rfl rfl (ox_move .tmp) (.one rfl) (.nil) rfl ?_
    refine Ops.put rfl rfl (ox_assign .tmp) (.one rfl) (.nil) rfl ?_
    refine Ops.nil ?_
    refine PT.sub (σ' := ⟨[(4, _)], [(9, .arr 3 (y9_k2))]⟩) ⟨rfl, trivial⟩ ⟨rfl, trivial⟩ ?_
    refine PT.ret ?_
    refine PT.freeze 9 [4] rfl ⟨rfl, trivial⟩ ?_
    obtain rfl := Option.some.inj hφ
    exact PT.done hw0 rfl (.tmp rfl rfl .nil) rfl
end Go.Gx
end
section
namespace Go.Gx
open Sp
set_option linter.unusedVariables false
set_option linter.unusedSimpArgs false
set_option maxRecDepth 20000
set_option maxHeartbeats 4000000
theorem c_mkref1_who {a0 : Int} {a1 : Int} {r : Bool} (hφ : mkref1_who a0 a1 = some r) : Fn Go.Proofs.Try.prog 73 [.val a0, .val a1] (.val r) := by
  unfold mkref1_who at hφ
  refine Fn.mk' Go.Proofs.Try.func73 rfl (by decide) rfl rfl rfl (fun w0 hw0 => ?_)
  refine PT.seq ?_
  refine PT.region ?_
  refine Ops.put rfl rfl (ox_assign .bool) (.nil) (.nil) rfl ?_
  refine Ops.nil ?_
  refine PT.sub (σ' := ⟨[(0, .val (a0)), (1, .val (a1))], []⟩) ⟨rfl, rfl, trivial⟩ trivial ?_
  refine PT.seq ?_
  refine PT.region ?_
  refine Ops.put rfl rfl (ox_move .tmp) (.one rfl) (.nil) rfl ?_
  refine Ops.put rfl rfl (ox_geq .tmp .int) ((.app (.one rfl) (.nil))) (.nil) rfl ?_
  refine Ops.put rfl rfl (ox_move .tmp) (.one rfl) (.nil) rfl ?_
  refine Ops.guard rfl rfl rfl rfl (.plain .nil) (fun hG => (ox_move .tmp)) ⟨rfl, trivial⟩ (.nil) rfl ?_
  refine Ops.guard rfl rfl rfl rfl (.cond (fun h => h) .nil) (fun hG => (ox_lss .tmp .int)) ⟨rfl, trivial⟩ (.nil) rfl ?_
  refine Ops.put rfl rfl ox_pick_and (⟨rfl, rfl, trivial⟩) (.nil) rfl ?_
  refine Ops.put rfl rfl (ox_move .tmp) (.one rfl) (.nil) rfl ?_
  refine Ops.guard rfl rfl rfl rfl (.plain .nil) (fun hG => (ox_move .tmp)) ⟨rfl, trivial⟩ (.nil) rfl ?_
  refine Ops.guard rfl rfl rfl rfl (.cond (fun h => h) .nil) (fun hG => (ox_geq .tmp .int)) ⟨rfl, trivial⟩ (.nil) rfl ?_
  refine Ops.put rfl rfl ox_pick_and (⟨rfl, rfl, trivial⟩) (.nil) rfl ?_
  refine Ops.put rfl rfl (ox_move .tmp) (.one rfl) (.nil) rfl ?_
  refine Ops.guard rfl rfl rfl rfl (.plain .nil) (fun hG => (ox_move .tmp)) ⟨rfl, trivial⟩ (.nil) rfl ?_
  refine Ops.guard rfl rfl rfl rfl (.cond (fun h => h) .nil) (fun hG => (ox_lss .tmp .int)) ⟨rfl, trivial⟩ (.nil) rfl ?_
  refine Ops.put rfl rfl ox_pick_and (⟨rfl, rfl, trivial⟩) (.nil) rfl ?_
  refine Ops.put rfl rfl (ox_assign .tmp) (.one rfl) (.nil) rfl ?_
  refine Ops.nil ?_
  refine PT.sub (σ' := ⟨[(4, .val (((((decide ((0 : Int) ≤ a0)) && (decide (a0 < (3 : Int)))) && (decide ((0 : Int) ≤ a1))) && (decide (a1 < (8 : Int))))))], []⟩) ⟨rfl, trivial⟩ trivial ?_
  refine PT.ret ?_
  obtain rfl := Option.some.inj hφ
  exact PT.done hw0 rfl (.tmp rfl rfl .nil) rfl
theorem c_mkref1_WrongRequest {a0 : Mk.Request} {r : Int} (hφ : mkref1_WrongRequest a0 = some r) : Fn Go.Proofs.Try.prog 37 [.val a0] (.val r) := by
  unfold mkref1_WrongRequest at hφ
  refine Fn.mk' Go.Proofs.Try.func37 rfl (by decide) rfl rfl rfl (fun w0 hw0 => ?_)
  refine PT.seq ?_
  refine PT.region ?_
  refine Ops.putO rfl rfl (ox_box (id := 1) .tmp) (.one rfl) (.nil) rfl (by kernel_rfl) ?_
  refine Ops.put rfl rfl (ox_assign .int) (.nil) (.nil) rfl ?_
  refine Ops.nil ?_
  refine PT.sub (σ' := ⟨[(1, _)], [(1, .var (a0) [])]⟩) ⟨rfl, trivial⟩ ⟨rfl, trivial⟩ ?_
  refine PT.seq ?_
  refine PT.seq ?_
  obtain ⟨v1, hv1, hφ⟩ := B_some hφ
  refine PT.region ?_
  refine Ops.put rfl rfl (ox_fieldAddr_var Request_Client f35_0) (.one rfl) (.nil) rfl ?_
  refine Ops.put rfl rfl (ox_load_fld t3) (.one rfl) (.one rfl) rfl ?_
  refine Ops.put rfl rfl (ox_fieldAddr_var Request_Token f35_1) (.one rfl) (.nil) rfl ?_
  refine Ops.put rfl rfl (ox_load_fld t3) (.one rfl) (.one rfl) rfl ?_
  refine Ops.put rfl rfl (ox_call (c_mkref1_who hv1) (.cons .tmp (.cons .tmp .nil))) ((.app (.one rfl) (.app (.one rfl) .nil))) (.nil) rfl ?_
  refine Ops.put rfl rfl (ox_not .tmp) (.one rfl) (.nil) rfl ?_
  refine Ops.nil ?_
  refine PT.sub (σ' := ⟨[(1, _), (8, .val ((!v1)))], [(1, .var (a0) [])]⟩) ⟨rfl, rfl, trivial⟩ ⟨rfl, trivial⟩ ?_
  refine PT.cond _ rfl (fun hc2 => ?_) (fun hc2 => ?_)
  · replace hφ := if_then hφ hc2
    refine PT.sub (σ' := ⟨[], []⟩) trivial trivial ?_
    refine PT.seq ?_
    refine PT.region ?_
    refine Ops.put rfl rfl (ox_assign .int) (.nil) (.nil) rfl ?_
    refine Ops.nil ?_
    refine PT.sub (σ' := ⟨[(2, .val ((3 : Int)))], []⟩) ⟨rfl, trivial⟩ trivial ?_
    refine PT.ret ?_
    obtain rfl := Option.some.inj hφ
    exact PT.done hw0 rfl (.tmp rfl rfl .nil) rfl
  · replace hφ := if_else hφ hc2
    refine PT.sub (σ' := ⟨[(1, _)], [(1, .var (a0) [])]⟩) ⟨rfl, trivial⟩ ⟨rfl, trivial⟩ ?_
    refine PT.skip ?_
    refine PT.seq ?_
    obtain ⟨v3, hv3, hφ⟩ := B_some hφ
    refine PT.region ?_
    refine Ops.put rfl rfl (ox_fieldAddr_var Request_Call f35_2) (.one rfl) (.nil) rfl ?_
    refine Ops.put rfl rfl (ox_load_fld t33) (.one rfl) (.one rfl) rfl ?_
    refine Ops.put rfl rfl (ox_call (c_mkref1_WrongCall hv3) (.cons .tmp .nil)) ((.app (.one rfl) .nil)) (.nil) rfl ?_
    refine Ops.put rfl rfl (ox_assign .tmp) (.one rfl) (.nil) rfl ?_
    refine Ops.nil ?_
    refine PT.sub (σ' := ⟨[(2, .val (v3))], []⟩) ⟨rfl, trivial⟩ trivial ?_
    refine PT.ret ?_
    obtain rfl := Option.some.inj hφ
    exact PT.done hw0 rfl (.tmp rfl rfl .nil) rfl
theorem c_mkref1_WrongAnswer {a0 : Mk.Answer} {r : Int} (hφ : mkref1_WrongAnswer a0 = some r) : Fn Go.Proofs.Try.prog 128 [.val a0] (.val r) := by
  unfold mkref1_WrongAnswer at hφ
  refine Fn.mk' Go.Proofs.Try.func128 rfl (by decide) rfl rfl rfl (fun w0 hw0 => ?_)
  refine PT.seq ?_
  refine PT.region ?_
  refine Ops.putO rfl rfl (ox_box (id := 1) .tmp) (.one rfl) (.nil) rfl (by kernel_rfl) ?_
  refine Ops.put rfl rfl (ox_assign .int) (.nil) (.nil) rfl ?_
  refine Ops.nil ?_
  refine PT.sub (σ' := ⟨[(1, _)], [(1, .var (a0) [])]⟩) ⟨rfl, trivial⟩ ⟨rfl, trivial⟩ ?_
  refine PT.seq ?_
  refine PT.region ?_
  refine Ops.put rfl rfl (ox_fieldAddr_var Answer_Reply f74_2) (.one rfl) (.nil) rfl ?_
  refine Ops.put rfl rfl (ox_load_fld t38) (.one rfl) (.one rfl) rfl ?_
  refine Ops.putO rfl rfl (ox_alloc (id := 3) z38) (.nil) (.nil) rfl (by kernel_rfl) ?_
  refine Ops.mute rfl rfl (ox_store_var t38 .tmp) ((.cons rfl (.one rfl))) (.one rfl) ?_
  refine Ops.nil ?_
  refine PT.sub (σ' := ⟨[(1, _), (3, _)], [(1, .var (a0) []), (3, .var (a0.Reply) [])]⟩) ⟨rfl, rfl, trivial⟩ ⟨rfl, rfl, trivial⟩ ?_
  refine PT.seq ?_
  refine PT.seq ?_
  obtain ⟨v1, hv1, hφ⟩ := B_some hφ
  refine PT.region ?_
  refine Ops.put rfl rfl (ox_fieldAddr_var Answer_Client f74_0) (.one rfl) (.nil) rfl ?_
  refine Ops.put rfl rfl (ox_load_fld t3) (.one rfl) (.one rfl) rfl ?_
  refine Ops.put rfl rfl (ox_fieldAddr_var Answer_Token f74_1) (.one rfl) (.nil) rfl ?_
  refine Ops.put rfl rfl (ox_load_fld t3) (.one rfl) (.one rfl) rfl ?_
  refine Ops.put rfl rfl (ox_call (c_mkref1_who hv1) (.cons .tmp (.cons .tmp .nil))) ((.app (.one rfl) (.app (.one rfl) .nil))) (.nil) rfl ?_
  refine Ops.put rfl rfl (ox_not .tmp) (.one rfl) (.nil) rfl ?_
  refine Ops.put rfl rfl (ox_move .tmp) (.one rfl) (.nil) rfl ?_
  refine Ops.guard rfl rfl rfl rfl (.plain .nil) (fun hG => (ox_fieldAddr_var Reply_Err f38_0)) ⟨rfl, trivial⟩ (.nil) rfl ?_
  refine Ops.guard rfl rfl rfl rfl (.cond (fun h => h) .nil) (fun hG => (ox_load_fld t36)) ⟨rfl, trivial⟩ (.one rfl) rfl ?_
  refine Ops.guard rfl rfl rfl rfl (.cond (fun h => h) .nil) (fun hG => (ox_lss .tmp .int)) ⟨rfl, trivial⟩ (.nil) rfl ?_
  refine Ops.put rfl rfl ox_pick_or (⟨rfl, rfl, trivial⟩) (.nil) rfl ?_
  refine Ops.put rfl rfl (ox_move .tmp) (.one rfl) (.nil) rfl ?_
  refine Ops.guard rfl rfl rfl rfl (.plain .nil) (fun hG => (ox_fieldAddr_var Reply_Err f38_0)) ⟨rfl, trivial⟩ (.nil) rfl ?_
  refine Ops.guard rfl rfl rfl rfl (.cond (fun h => h) .nil) (fun hG => (ox_load_fld t36)) ⟨rfl, trivial⟩ (.one rfl) rfl ?_
  refine Ops.guard rfl rfl rfl rfl (.cond (fun h => h) .nil) (fun hG => (ox_gtr .tmp .int)) ⟨rfl, trivial⟩ (.nil) rfl ?_
  refine Ops.put rfl rfl ox_pick_or (⟨rfl, rfl, trivial⟩) (.nil) rfl ?_
  refine Ops.put rfl rfl (ox_move .tmp) (.one rfl) (.nil) rfl ?_
  refine Ops.guard rfl rfl rfl rfl (.plain .nil) (fun hG => (ox_fieldAddr_var Reply_N f38_1)) ⟨rfl, trivial⟩ (.nil) rfl ?_
  refine Ops.guard rfl rfl rfl rfl (.cond (fun h => h) .nil) (fun hG => (ox_load_fld t3)) ⟨rfl, trivial⟩ (.one rfl) rfl ?_
  refine Ops.guard rfl rfl rfl rfl (.cond (fun h => h) .nil) (fun hG => (ox_gtr .tmp .int)) ⟨rfl, trivial⟩ (.nil) rfl ?_
  refine Ops.put rfl rfl ox_pick_or (⟨rfl, rfl, trivial⟩) (.nil) rfl ?_
  refine Ops.put rfl rfl (ox_move .tmp) (.one rfl) (.nil) rfl ?_
  refine Ops.guard rfl rfl rfl rfl (.plain .nil) (fun hG => (ox_fieldAddr_var Reply_N f38_1)) ⟨rfl, trivial⟩ (.nil) rfl ?_
  refine Ops.guard rfl rfl rfl rfl (.cond (fun h => h) .nil) (fun hG => (ox_load_fld t3)) ⟨rfl, trivial⟩ (.one rfl) rfl ?_
  refine Ops.guard rfl rfl rfl rfl (.cond (fun h => h) .nil) (fun hG => (ox_lss .tmp .int)) ⟨rfl, trivial⟩ (.nil) rfl ?_
  refine Ops.put rfl rfl ox_pick_or (⟨rfl, rfl, trivial⟩) (.nil) rfl ?_
  refine Ops.put rfl rfl (ox_move .tmp) (.one rfl) (.nil) rfl ?_
  refine Ops.guard rfl rfl rfl rfl (.plain .nil) (fun hG => (ox_fieldAddr_var Reply_Err f38_0)) ⟨rfl, trivial⟩ (.nil) rfl ?_
  refine Ops.guard rfl rfl rfl rfl (.cond (fun h => h) .nil) (fun hG => (ox_load_fld t36)) ⟨rfl, trivial⟩ (.one rfl) rfl ?_
  refine Ops.guard rfl rfl rfl rfl (.cond (fun h => h) .nil) (fun hG => (ox_gtr .tmp .int)) ⟨rfl, trivial⟩ (.nil) rfl ?_
  refine Ops.guard rfl rfl rfl rfl (.cond (fun h => h) .nil) (fun hG => (ox_move .tmp)) ⟨rfl, trivial⟩ (.nil) rfl ?_
  refine Ops.guard2 rfl rfl rfl rfl (.plain .nil) (fun hG => (ox_fieldAddr_var Reply_N f38_1)) ⟨rfl, trivial⟩ (.nil) rfl ?_
  refine Ops.guard2 rfl rfl rfl rfl (.cond (fun h => h) .nil) (fun hG => (ox_load_fld t3)) ⟨rfl, trivial⟩ (.one rfl) rfl ?_
  refine Ops.guard2 rfl rfl rfl rfl (.cond (fun h => h) .nil) (fun hG => (ox_neq .tmp .int)) ⟨rfl, trivial⟩ (.nil) rfl ?_
  refine Ops.guard rfl rfl rfl rfl (.cond (fun h => h) (.part (fun h => h) .nil)) (fun hG => ox_pick_and) ⟨rfl, rfl, trivial⟩ (.nil) rfl ?_
  refine Ops.put rfl rfl ox_pick_or (⟨rfl, rfl, trivial⟩) (.nil) rfl ?_
  refine Ops.nil ?_
  refine PT.sub (σ' := ⟨[(41, .val (((((((!v1) || (decide (a0.Reply.Err < (0 : Int)))) || (decide ((12 : Int) < a0.Reply.Err))) || (decide ((1073741824 : Int) < a0.Reply.N))) || (decide (a0.Reply.N < (-1073741824 : Int)))) || ((decide ((0 : Int) < a0.Reply.Err)) && (!decide (a0.Reply.N = (0 : Int)))))))], []⟩) ⟨rfl, trivial⟩ trivial ?_
  refine PT.cond _ rfl (fun hc2 => ?_) (fun hc2 => ?_)
  · replace hφ := if_then hφ hc2
    refine PT.sub (σ' := ⟨[], []⟩) trivial trivial ?_
    refine PT.seq ?_
    refine PT.region ?_
    refine Ops.put rfl rfl (ox_assign .int) (.nil) (.nil) rfl ?_
    refine Ops.nil ?_
    refine PT.sub (σ' := ⟨[(2, .val ((3 : Int)))], []⟩) ⟨rfl, trivial⟩ trivial ?_
    refine PT.ret ?_
    obtain rfl := Option.some.inj hφ
    exact PT.done hw0 rfl (.tmp rfl rfl .nil) rfl
  · replace hφ := if_else hφ hc2
    refine PT.sub (σ' := ⟨[], []⟩) trivial trivial ?_
    refine PT.skip ?_
    refine PT.seq ?_
    refine PT.region ?_
    refine Ops.put rfl rfl (ox_assign .int) (.nil) (.nil) rfl ?_
    refine Ops.nil ?_
    refine PT.sub (σ' := ⟨[(2, .val ((0 : Int)))], []⟩) ⟨rfl, trivial⟩ trivial ?_
    refine PT.ret ?_
    obtain rfl := Option.some.inj hφ
    exact PT.done hw0 rfl (.tmp rfl rfl .nil) rfl
theorem c_mkref1_four {a0 : Int} {r : ByteArray} (hφ : mkref1_four a0 = some r) : Fn Go.Proofs.Try.prog 75 [.val a0] (.val r) := by
  unfold mkref1_four at hφ
  refine Fn.mk' Go.Proofs.Try.func75 rfl (by decide) rfl rfl rfl (fun w0 hw0 => ?_)
  refine PT.seq ?_
  refine PT.region ?_
  refine Ops.put rfl rfl (ox_assign (.str (by decide))) (.nil) (.nil) rfl ?_
  refine Ops.nil ?_
  refine PT.sub (σ' := ⟨[(0, .val (a0))], []⟩) ⟨rfl, trivial⟩ trivial ?_
  refine PT.seq ?_
  refine PT.region ?_
  refine Ops.put rfl rfl (ox_move .tmp) (.one rfl) (.nil) rfl ?_
  refine Ops.put rfl rfl (ox_i64_u32 (by kernel_rfl) .tmp) (.one rfl) (.nil) rfl ?_
  refine Ops.put rfl rfl (ox_assign .tmp) (.one rfl) (.nil) rfl ?_
  refine Ops.nil ?_
  refine PT.sub (σ' := ⟨[(3, .val ((u32 a0)))], []⟩) ⟨rfl, trivial⟩ trivial ?_
  refine PT.seq ?_
  refine PT.region ?_
  refine Ops.put rfl rfl (ox_move .tmp) (.one rfl) (.nil) rfl ?_
  refine Ops.put rfl rfl (ox_quoU .tmp .u32 (by decide)) ((.app (.one rfl) (.nil))) (.nil) rfl ?_
  refine Ops.put rfl rfl (ox_u32_u8 (by kernel_rfl) .tmp) (.one rfl) (.nil) rfl ?_
  refine Ops.put rfl rfl (ox_move .tmp) (.one rfl) (.nil) rfl ?_
  refine Ops.put rfl rfl (ox_quoU .tmp .u32 (by decide)) ((.app (.one rfl) (.nil))) (.nil) rfl ?_
  refine Ops.put rfl rfl (ox_remU .tmp .u32 (by decide)) ((.app (.one rfl) (.nil))) (.nil) rfl ?_
  refine Ops.put rfl rfl (ox_u32_u8 (by kernel_rfl) .tmp) (.one rfl) (.nil) rfl ?_
  refine Ops.put rfl rfl (ox_move .tmp) (.one rfl) (.nil) rfl ?_
  refine Ops.put rfl rfl (ox_quoU .tmp .u32 (by decide)) ((.app (.one rfl) (.nil))) (.nil) rfl ?_
  refine Ops.put rfl rfl (ox_remU .tmp .u32 (by decide)) ((.app (.one rfl) (.nil))) (.nil) rfl ?_
  refine Ops.put rfl rfl (ox_u32_u8 (by kernel_rfl) .tmp) (.one rfl) (.nil) rfl ?_
  refine Ops.put rfl rfl (ox_move .tmp) (.one rfl) (.nil) rfl ?_
  refine Ops.put rfl rfl (ox_remU .tmp .u32 (by decide)) ((.app (.one rfl) (.nil))) (.nil) rfl ?_
  refine Ops.put rfl rfl (ox_u32_u8 (by kernel_rfl) .tmp) (.one rfl) (.nil) rfl ?_
  refine Ops.put rfl rfl (ox_buildSlice_val s63 z5 (.cons .tmp (.cons .tmp (.cons .tmp (.cons .tmp Parts.nil)))) rfl (by decide)) ((.app (.one rfl) (.app (.one rfl) (.app (.one rfl) (.app (.one rfl) .nil))))) (.nil) rfl ?_
  refine Ops.put rfl rfl (ox_bts (e := 5) (by kernel_rfl) .tmp) (.one rfl) (.nil) rfl ?_
  refine Ops.put rfl rfl (ox_assign .tmp) (.one rfl) (.nil) rfl ?_
  refine Ops.nil ?_
  refine PT.sub (σ' := ⟨[(2, .val ((bts ([(u8 (u32 (Int.tdiv (u32 a0).n (⟨16777216⟩ : U32).n)).n), (u8 (⟨Int.tmod (u32 (Int.tdiv (u32 a0).n (⟨65536⟩ : U32).n)).n (⟨256⟩ : U32).n⟩ : U32).n), (u8 (⟨Int.tmod (u32 (Int.tdiv (u32 a0).n (⟨256⟩ : U32).n)).n (⟨256⟩ : U32).n⟩ : U32).n), (u8 (⟨Int.tmod (u32 a0).n (⟨256⟩ : U32).n⟩ : U32).n)] : List UInt8))))], []⟩) ⟨rfl, trivial⟩ trivial ?_
  refine PT.ret ?_
  obtain rfl := Option.some.inj hφ
  exact PT.done hw0 rfl (.tmp rfl rfl .nil) rfl
theorem c_mkref1_RequestBytes {a0 : Mk.Request} {r : ((List UInt8))} (hφ : mkref1_RequestBytes a0 = some r) : Fn Go.Proofs.Try.prog 39 [.val a0] (.val r) := by
  unfold mkref1_RequestBytes at hφ
  refine Fn.mk' Go.Proofs.Try.func39 rfl (by decide) rfl rfl rfl (fun w0 hw0 => ?_)
  refine PT.seq ?_
  refine PT.region ?_
  refine Ops.putO rfl rfl (ox_box (id := 1) .tmp) (.one rfl) (.nil) rfl (by kernel_rfl) ?_
  refine Ops.put rfl rfl (ox_assign .nilS) (.nil) (.nil) rfl ?_
  refine Ops.nil ?_
  refine PT.sub (σ' := ⟨[(1, _)], [(1, .var (a0) [])]⟩) ⟨rfl, trivial⟩ ⟨rfl, trivial⟩ ?_
  refine PT.seq ?_
  obtain ⟨hb1, hφ⟩ := G_some hφ
  obtain ⟨v2, hv2, hφ⟩ := B_some hφ
  obtain ⟨hb3, hφ⟩ := G_some hφ
  refine PT.draw hMixed (
      Segs.cons (Step.put rfl rfl (ox_fieldAddr_var Request_Client f35_0)) ⟨.one rfl, .nil⟩ (by kernel_rfl) rfl <|
      Segs.cons (Step.put rfl rfl (ox_load_fld t3)) ⟨.one rfl, .one rfl⟩ (by kernel_rfl) rfl <|
      Segs.cons (Step.put rfl rfl (ox_i64_u8 (by kernel_rfl) .tmp)) ⟨.one rfl, .nil⟩ (by kernel_rfl) rfl <|
      Segs.cons (Step.put rfl rfl (ox_fieldAddr_var Request_Token f35_1)) ⟨.one rfl, .nil⟩ (by kernel_rfl) rfl <|
      Segs.cons (Step.put rfl rfl (ox_load_fld t3)) ⟨.one rfl, .one rfl⟩ (by kernel_rfl) rfl <|
      Segs.cons (Step.put rfl rfl (ox_i64_u8 (by kernel_rfl) .tmp)) ⟨.one rfl, .nil⟩ (by kernel_rfl) rfl <|
      Segs.cons (Step.put rfl rfl (ox_fieldAddr_var Request_Call f35_2)) ⟨.one rfl, .nil⟩ (by kernel_rfl) rfl <|
      Segs.cons (Step.put rfl rfl (ox_fieldAddr_ptr Call_Kind f33_0)) ⟨.one rfl, .nil⟩ (by kernel_rfl) rfl <|
      Segs.cons (Step.put rfl rfl (ox_load_fld t3)) ⟨.one rfl, .one rfl⟩ (by kernel_rfl) rfl <|
      Segs.cons (Step.put rfl rfl (ox_i64_u8 (by kernel_rfl) .tmp)) ⟨.one rfl, .nil⟩ (by kernel_rfl) rfl <|
      Segs.cons (Step.put rfl rfl (ox_fieldAddr_var Request_Call f35_2)) ⟨.one rfl, .nil⟩ (by kernel_rfl) rfl <|
      Segs.cons (Step.put rfl rfl (ox_fieldAddr_ptr Call_Name f33_1)) ⟨.one rfl, .nil⟩ (by kernel_rfl) rfl <|
      Segs.cons (Step.put rfl rfl (ox_load_fld t3)) ⟨.one rfl, .one rfl⟩ (by kernel_rfl) rfl <|
      Segs.cons (Step.put rfl rfl (ox_i64_u8 (by kernel_rfl) .tmp)) ⟨.one rfl, .nil⟩ (by kernel_rfl) rfl <|
      Segs.cons (Step.put rfl rfl (ox_fieldAddr_var Request_Call f35_2)) ⟨.one rfl, .nil⟩ (by kernel_rfl) rfl <|
      Segs.cons (Step.put rfl rfl (ox_fieldAddr_ptr Call_Other f33_2)) ⟨.one rfl, .nil⟩ (by kernel_rfl) rfl <|
      Segs.cons (Step.put rfl rfl (ox_load_fld t3)) ⟨.one rfl, .one rfl⟩ (by kernel_rfl) rfl <|
      Segs.cons (Step.put rfl rfl (ox_i64_u8 (by kernel_rfl) .tmp)) ⟨.one rfl, .nil⟩ (by kernel_rfl) rfl <|
      Segs.cons (Step.put rfl rfl (ox_buildSlice_val s63 z5 (.cons .tmp (.cons .tmp (.cons .tmp (.cons .tmp (.cons .tmp Parts.nil))))) rfl (by decide))) ⟨(.app (.one rfl) (.app (.one rfl) (.app (.one rfl) (.app (.one rfl) (.app (.one rfl) .nil))))), .nil⟩ (by kernel_rfl) rfl <|
      Segs.cons (Step.put rfl rfl (ox_bts (e := 5) (by kernel_rfl) .tmp)) ⟨.one rfl, .nil⟩ (by kernel_rfl) rfl <|
      Segs.cons (Step.put rfl rfl (ox_addStr (.str (by decide)) .tmp hb1)) ⟨(.app (.nil) (.one rfl)), .nil⟩ (by kernel_rfl) rfl <|
      Segs.cons (Step.put rfl rfl (ox_fieldAddr_var Request_Call f35_2)) ⟨.one rfl, .nil⟩ (by kernel_rfl) rfl <|
      Segs.cons (Step.put rfl rfl (ox_fieldAddr_ptr Call_N f33_3)) ⟨.one rfl, .nil⟩ (by kernel_rfl) rfl <|
      Segs.cons (Step.put rfl rfl (ox_load_fld t3)) ⟨.one rfl, .one rfl⟩ (by kernel_rfl) rfl <|
      Segs.cons (Step.put rfl rfl (ox_call (c_mkref1_four hv2) (.cons .tmp .nil))) ⟨(.app (.one rfl) .nil), .nil⟩ (by kernel_rfl) rfl <|
      Segs.cons (Step.put rfl rfl (ox_addStr .tmp .tmp hb3)) ⟨(.app (.one rfl) (.one rfl)), .nil⟩ (by kernel_rfl) rfl <|
      Segs.cons (Step.put rfl rfl (ox_stb (e := 5) (by kernel_rfl) .tmp)) ⟨.one rfl, .nil⟩ (by kernel_rfl) rfl <|
      Segs.cons (Step.put rfl rfl (ox_assign .tmp)) ⟨.one rfl, .nil⟩ (by kernel_rfl) rfl <|
      Segs.nil) _ [[], [0], [0, 1], [], [3], [3, 4], [], [6], [6, 7], [6, 7, 8], [], [10], [10, 11], [10, 11, 12], [], [14], [14, 15], [14, 15, 16], [0, 1, 2, 3, 4, 5, 6, 7, 8, 9, 10, 11, 12, 13, 14, 15, 16, 17], [0, 1, 2, 3, 4, 5, 6, 7, 8, 9, 10, 11, 12, 13, 14, 15, 16, 17, 18], [0, 1, 2, 3, 4, 5, 6, 7, 8, 9, 10, 11, 12, 13, 14, 15, 16, 17, 18, 19], [], [21], [21, 22], [21, 22, 23], [0, 1, 2, 3, 4, 5, 6, 7, 8, 9, 10, 11, 12, 13, 14, 15, 16, 17, 18, 19, 20, 21, 22, 23, 24], [0, 1, 2, 3, 4, 5, 6, 7, 8, 9, 10, 11, 12, 13, 14, 15, 16, 17, 18, 19, 20, 21, 22, 23, 24, 25], [0, 1, 2, 3, 4, 5, 6, 7, 8, 9, 10, 11, 12, 13, 14, 15, 16, 17, 18, 19, 20, 21, 22, 23, 24, 25, 26]] rfl (by kernel_rfl) (by kernel_rfl) ?_
  refine PT.sub (σ' := ⟨[(2, .val ((stb (((⟨#[113]⟩ : ByteArray) ++ (bts ([(u8 a0.Client), (u8 a0.Token), (u8 a0.Call.Kind), (u8 a0.Call.Name), (u8 a0.Call.Other)] : List UInt8))) ++ v2))))], []⟩) ⟨rfl, trivial⟩ trivial ?_
  refine PT.ret ?_
  obtain rfl := Option.some.inj hφ
  exact PT.done hw0 rfl (.tmp rfl rfl .nil) rfl
theorem c_mkref1_AnswerBytes {a0 : Mk.Answer} {r : ((List UInt8))} (hφ : mkref1_AnswerBytes a0 = some r) : Fn Go.Proofs.Try.prog 40 [.val a0] (.val r) := by
  unfold mkref1_AnswerBytes at hφ
  refine Fn.mk' Go.Proofs.Try.func40 rfl (by decide) rfl rfl rfl (fun w0 hw0 => ?_)
  refine PT.seq ?_
  refine PT.region ?_
  refine Ops.putO rfl rfl (ox_box (id := 1) .tmp) (.one rfl) (.nil) rfl (by kernel_rfl) ?_
  refine Ops.put rfl rfl (ox_assign .nilS) (.nil) (.nil) rfl ?_
  refine Ops.nil ?_
  refine PT.sub (σ' := ⟨[(1, _)], [(1, .var (a0) [])]⟩) ⟨rfl, trivial⟩ ⟨rfl, trivial⟩ ?_
  refine PT.seq ?_
  obtain ⟨hb1, hφ⟩ := G_some hφ
  obtain ⟨v2, hv2, hφ⟩ := B_some hφ
  obtain ⟨hb3, hφ⟩ := G_some hφ
  refine PT.draw hMixed (
      Segs.cons (Step.put rfl rfl (ox_fieldAddr_var Answer_Client f74_0)) ⟨.one rfl, .nil⟩ (by kernel_rfl) rfl <|
      Segs.cons (Step.put rfl rfl (ox_load_fld t3)) ⟨.one rfl, .one rfl⟩ (by kernel_rfl) rfl <|
      Segs.cons (Step.put rfl rfl (ox_i64_u8 (by kernel_rfl) .tmp)) ⟨.one rfl, .nil⟩ (by kernel_rfl) rfl <|
      Segs.cons (Step.put rfl rfl (ox_fieldAddr_var Answer_Token f74_1)) ⟨.one rfl, .nil⟩ (by kernel_rfl) rfl <|
      Segs.cons (Step.put rfl rfl (ox_load_fld t3)) ⟨.one rfl, .one rfl⟩ (by kernel_rfl) rfl <|
      Segs.cons (Step.put rfl rfl (ox_i64_u8 (by kernel_rfl) .tmp)) ⟨.one rfl, .nil⟩ (by kernel_rfl) rfl <|
      Segs.cons (Step.put rfl rfl (ox_fieldAddr_var Answer_Reply f74_2)) ⟨.one rfl, .nil⟩ (by kernel_rfl) rfl <|
      Segs.cons (Step.put rfl rfl (ox_fieldAddr_ptr Reply_Err f38_0)) ⟨.one rfl, .nil⟩ (by kernel_rfl) rfl <|
      Segs.cons (Step.put rfl rfl (ox_load_fld t36)) ⟨.one rfl, .one rfl⟩ (by kernel_rfl) rfl <|
      Segs.cons (Step.put rfl rfl (ox_i64_u8 (by kernel_rfl) .tmp)) ⟨.one rfl, .nil⟩ (by kernel_rfl) rfl <|
      Segs.cons (Step.put rfl rfl (ox_buildSlice_val s63 z5 (.cons .tmp (.cons .tmp (.cons .tmp Parts.nil))) rfl (by decide))) ⟨(.app (.one rfl) (.app (.one rfl) (.app (.one rfl) .nil))), .nil⟩ (by kernel_rfl) rfl <|
      Segs.cons (Step.put rfl rfl (ox_bts (e := 5) (by kernel_rfl) .tmp)) ⟨.one rfl, .nil⟩ (by kernel_rfl) rfl <|
      Segs.cons (Step.put rfl rfl (ox_addStr (.str (by decide)) .tmp hb1)) ⟨(.app (.nil) (.one rfl)), .nil⟩ (by kernel_rfl) rfl <|
      Segs.cons (Step.put rfl rfl (ox_fieldAddr_var Answer_Reply f74_2)) ⟨.one rfl, .nil⟩ (by kernel_rfl) rfl <|
      Segs.cons (Step.put rfl rfl (ox_fieldAddr_ptr Reply_N f38_1)) ⟨.one rfl, .nil⟩ (by kernel_rfl) rfl <|
      Segs.cons (Step.put rfl rfl (ox_load_fld t3)) ⟨.one rfl, .one rfl⟩ (by kernel_rfl) rfl <|
      Segs.cons (Step.put rfl rfl (ox_call (c_mkref1_four hv2) (.cons .tmp .nil))) ⟨(.app (.one rfl) .nil), .nil⟩ (by kernel_rfl) rfl <|
      Segs.cons (Step.put rfl rfl (ox_addStr .tmp .tmp hb3)) ⟨(.app (.one rfl) (.one rfl)), .nil⟩ (by kernel_rfl) rfl <|
      Segs.cons (Step.put rfl rfl (ox_stb (e := 5) (by kernel_rfl) .tmp)) ⟨.one rfl, .nil⟩ (by kernel_rfl) rfl <|
      Segs.cons (Step.put rfl rfl (ox_assign .tmp)) ⟨.one rfl, .nil⟩ (by kernel_rfl) rfl <|
      Segs.nil) _ [[], [0], [0, 1], [], [3], [3, 4], [], [6], [6, 7], [6, 7, 8], [0, 1, 2, 3, 4, 5, 6, 7, 8, 9], [0, 1, 2, 3, 4, 5, 6, 7, 8, 9, 10], [0, 1, 2, 3, 4, 5, 6, 7, 8, 9, 10, 11], [], [13], [13, 14], [13, 14, 15], [0, 1, 2, 3, 4, 5, 6, 7, 8, 9, 10, 11, 12, 13, 14, 15, 16], [0, 1, 2, 3, 4, 5, 6, 7, 8, 9, 10, 11, 12, 13, 14, 15, 16, 17], [0, 1, 2, 3, 4, 5, 6, 7, 8, 9, 10, 11, 12, 13, 14, 15, 16, 17, 18]] rfl (by kernel_rfl) (by kernel_rfl) ?_
  refine PT.sub (σ' := ⟨[(2, .val ((stb (((⟨#[97]⟩ : ByteArray) ++ (bts ([(u8 a0.Client), (u8 a0.Token), (u8 a0.Reply.Err)] : List UInt8))) ++ v2))))], []⟩) ⟨rfl, trivial⟩ trivial ?_
  refine PT.ret ?_
  obtain rfl := Option.some.inj hφ
  exact PT.done hw0 rfl (.tmp rfl rfl .nil) rfl
theorem c_mkref1_num {a0 : List UInt8} {r : Int} (hφ : mkref1_num a0 = some r) : Fn Go.Proofs.Try.prog 104 [.val a0] (.val r) := by
  unfold mkref1_num at hφ
  refine Fn.mk' Go.Proofs.Try.func104 rfl (by decide) rfl rfl rfl (fun w0 hw0 => ?_)
  refine PT.seq ?_
  refine PT.region ?_
  refine Ops.put rfl rfl (ox_assign .int) (.nil) (.nil) rfl ?_
  refine Ops.nil ?_
  refine PT.sub (σ' := ⟨[(0, .val (a0))], []⟩) ⟨rfl, trivial⟩ trivial ?_
  refine PT.seq ?_
  refine PT.region ?_
  refine Ops.put rfl rfl (ox_assign .u32) (.nil) (.nil) rfl ?_
  refine Ops.nil ?_
  refine PT.sub (σ' := ⟨[(0, .val (a0)), (3, .val ((⟨0⟩ : U32)))], []⟩) ⟨rfl, rfl, trivial⟩ trivial ?_
  obtain ⟨k1, hk1, hφ⟩ := J_some hφ
  refine PT.cut (ι := U32) (fun p => ⟨[(3, .val (p))], []⟩) (fun p => k1 (p) = some r) ?_ ?_
  · skip
    refine PT.seq ?_
    refine PT.region ?_
    refine Ops.put rfl rfl (ox_move .int) (.nil) (.nil) rfl ?_
    refine Ops.nil ?_
    refine PT.sub (σ' := ⟨[(0, .val (a0)), (3, .val ((⟨0⟩ : U32))), (5, .val ((0 : Int)))], []⟩) ⟨rfl, rfl, rfl, trivial⟩ trivial ?_
    refine PT.block ?_
    refine PT.loop (ι := Nat × (List UInt8) × U32 × Int) (fun p => ⟨[(0, .val (p.2.1)), (3, .val (p.2.2.1)), (5, .val (p.2.2.2))], []⟩) (fun p => mkref1_num_l1 k1 p.1 (p.2.1) (p.2.2.1) (p.2.2.2) = some r) (fun p => p.1) (((4 : Int) - (0 : Int)).toNat + 1, a0, (⟨0⟩ : U32), (0 : Int)) hφ ⟨rfl, rfl, rfl, trivial⟩ trivial ?_
    rintro ⟨m2, x0_m2, x3_m2, x5_m2⟩ (hφ : mkref1_num_l1 k1 m2 x0_m2 x3_m2 x5_m2 = some r)
    obtain _ | m2 := m2
    · exact (none_no hφ).elim
    rw [mkref1_num_l1.eq_2] at hφ
    refine PT.sub (σ' := ⟨[(0, .val (x0_m2)), (3, .val (x3_m2)), (5, .val (x5_m2))], []⟩) ⟨rfl, rfl, rfl, trivial⟩ trivial ?_
    refine PT.seq ?_
    refine PT.region ?_
    refine Ops.put rfl rfl (ox_lss .tmp .int) ((.app (.one rfl) (.nil))) (.nil) rfl ?_
    refine Ops.nil ?_
    refine PT.sub (σ' := ⟨[(0, .val (x0_m2)), (3, .val (x3_m2)), (5, .val (x5_m2)), (6, .val ((decide (x5_m2 < (4 : Int)))))], []⟩) ⟨rfl, rfl, rfl, rfl, trivial⟩ trivial ?_
    refine PT.seq ?_
    refine PT.cond _ rfl (fun hc3 => ?_) (fun hc3 => ?_)
    · replace hφ := if_then hφ hc3
      refine PT.sub (σ' := ⟨[(0, .val (x0_m2)), (3, .val (x3_m2)), (5, .val (x5_m2))], []⟩) ⟨rfl, rfl, rfl, trivial⟩ trivial ?_
      refine PT.skip ?_
      refine PT.seq ?_
      refine PT.block ?_
      refine PT.seq ?_
      refine PT.region ?_
      refine Ops.put rfl rfl (ox_move .tmp) (.one rfl) (.nil) rfl ?_
      refine Ops.put rfl rfl (ox_assign .tmp) (.one rfl) (.nil) rfl ?_
      refine Ops.nil ?_
      refine PT.sub (σ' := ⟨[(0, .val (x0_m2)), (3, .val (x3_m2)), (4, .val (x5_m2)), (5, .val (x5_m2))], []⟩) ⟨rfl, rfl, rfl, rfl, trivial⟩ trivial ?_
      obtain ⟨hb4, hφ⟩ := G_some hφ
      refine PT.region ?_
      refine Ops.put rfl rfl (ox_move .tmp) (.one rfl) (.nil) rfl ?_
      refine Ops.put rfl rfl (ox_mulU .u32 .tmp) ((.app (.nil) (.one rfl))) (.nil) rfl ?_
      refine Ops.put rfl rfl (ox_move .tmp) (.one rfl) (.nil) rfl ?_
      refine Ops.put rfl rfl (ox_move .tmp) (.one rfl) (.nil) rfl ?_
      refine Ops.put rfl rfl (ox_ix s63 .tmp .tmp hb4.1 hb4.2) ((.app (.one rfl) (.one rfl))) (.nil) rfl ?_
      refine Ops.put rfl rfl (ox_load_elem t5) (.one rfl) (.nil) rfl ?_
      refine Ops.put rfl rfl (ox_u8_u32 (by kernel_rfl) .tmp) (.one rfl) (.nil) rfl ?_
      refine Ops.put rfl rfl (ox_addU .tmp .tmp) ((.app (.one rfl) (.one rfl))) (.nil) rfl ?_
      refine Ops.put rfl rfl (ox_assign .tmp) (.one rfl) (.nil) rfl ?_
      refine Ops.nil ?_
      refine PT.sub (σ' := ⟨[(0, .val (x0_m2)), (3, .val ((u32 ((u32 ((⟨256⟩ : U32).n * x3_m2.n)).n + (⟨(((ix x0_m2 x5_m2).toNat : Nat) : Int)⟩ : U32).n)))), (5, .val (x5_m2))], []⟩) ⟨rfl, rfl, rfl, trivial⟩ trivial ?_
      obtain ⟨hb5, hφ⟩ := G_some hφ
      refine PT.region ?_
      refine Ops.put rfl rfl (ox_add .tmp .int hb5) ((.app (.one rfl) (.nil))) (.nil) rfl ?_
      refine Ops.put rfl rfl (ox_move .tmp) (.one rfl) (.nil) rfl ?_
      refine Ops.nil ?_
      refine PT.sub (σ' := ⟨[(0, .val (x0_m2)), (3, .val ((u32 ((u32 ((⟨256⟩ : U32).n * x3_m2.n)).n + (⟨(((ix x0_m2 x5_m2).toNat : Nat) : Int)⟩ : U32).n)))), (5, .val ((x5_m2 + (1 : Int))))], []⟩) ⟨rfl, rfl, rfl, trivial⟩ trivial ?_
      exact PT.next (m2, x0_m2, (u32 ((u32 ((⟨256⟩ : U32).n * x3_m2.n)).n + (⟨(((ix x0_m2 x5_m2).toNat : Nat) : Int)⟩ : U32).n)), (x5_m2 + (1 : Int))) hφ (Nat.lt_succ_self _) ⟨rfl, rfl, rfl, trivial⟩ trivial
    · replace hφ := if_else hφ hc3
      refine PT.sub (σ' := ⟨[(3, .val (x3_m2))], []⟩) ⟨rfl, trivial⟩ trivial ?_
      refine PT.exit ?_
      exact PT.meet (x3_m2) hφ ⟨rfl, trivial⟩ trivial
  · rintro x3_k1 hφ
    subst hk1
    refine PT.sub (σ' := ⟨[(3, .val (x3_k1))], []⟩) ⟨rfl, trivial⟩ trivial ?_
    refine PT.seq ?_
    refine PT.region ?_
    refine Ops.put rfl rfl (ox_move .tmp) (.one rfl) (.nil) rfl ?_
    refine Ops.put rfl rfl (ox_u32_i32 (by kernel_rfl) .tmp) (.one rfl) (.nil) rfl ?_
    refine Ops.put rfl rfl (ox_i32_i64 (by kernel_rfl) .tmp) (.one rfl) (.nil) rfl ?_
    refine Ops.put rfl rfl (ox_assign .tmp) (.one rfl) (.nil) rfl ?_
    refine Ops.nil ?_
    refine PT.sub (σ' := ⟨[(2, .val ((i32 x3_k1.n).n))], []⟩) ⟨rfl, trivial⟩ trivial ?_
    refine PT.ret ?_
    obtain rfl := Option.some.inj hφ
    exact PT.done hw0 rfl (.tmp rfl rfl .nil) rfl
theorem c_mkref1_ReadRequest {a0 : List UInt8} {r : (Mk.Request × Int)} (hφ : mkref1_ReadRequest a0 = some r) : Fn Go.Proofs.Try.prog 70 [.val a0] (.tup [.val r.1, .val r.2]) := by
  unfold mkref1_ReadRequest at hφ
  refine Fn.mk' Go.Proofs.Try.func70 rfl (by decide) rfl rfl rfl (fun w0 hw0 => ?_)
  refine PT.seq ?_
  refine PT.region ?_
  refine Ops.putO rfl rfl (ox_alloc (id := 2) z35) (.nil) (.nil) rfl (by kernel_rfl) ?_
  refine Ops.put rfl rfl (ox_assign .int) (.nil) (.nil) rfl ?_
  refine Ops.nil ?_
  refine PT.sub (σ' := ⟨[(0, .val (a0)), (2, _)], [(2, .var (({ Client := (0 : Int), Token := (0 : Int), Call := ({ Kind := (0 : Int), Name := (0 : Int), Other := (0 : Int), N := (0 : Int) } : Mk.Call) } : Mk.Request)) [])]⟩) ⟨rfl, rfl, trivial⟩ ⟨rfl, trivial⟩ ?_
  refine PT.seq ?_
  refine PT.seq ?_
  obtain ⟨hb1, hφ⟩ := G_some hφ
  refine PT.region ?_
  refine Ops.put rfl rfl (ox_move .tmp) (.one rfl) (.nil) rfl ?_
  refine Ops.put rfl rfl (ox_len s63 .tmp) (.one rfl) (.nil) rfl ?_
  refine Ops.put rfl rfl (ox_neq .tmp .int) ((.app (.one rfl) (.nil))) (.nil) rfl ?_
  refine Ops.put rfl rfl (ox_move .tmp) (.one rfl) (.nil) rfl ?_
  refine Ops.guard rfl rfl rfl rfl (.plain .nil) (fun hG => (ox_move .tmp)) ⟨rfl, trivial⟩ (.nil) rfl ?_
  refine Ops.guard rfl rfl rfl rfl (.cond (fun h => h) .nil) (fun hG => (ox_ix s63 .tmp .int (hb1 hG).1 (hb1 hG).2)) ⟨rfl, trivial⟩ (.nil) rfl ?_
  refine Ops.guard rfl rfl rfl rfl (.cond (fun h => h) .nil) (fun hG => (ox_load_elem t5)) ⟨rfl, trivial⟩ (.nil) rfl ?_
  refine Ops.guard rfl rfl rfl rfl (.cond (fun h => h) .nil) (fun hG => (ox_neqU8 .tmp (.u8 (n := 113)))) ⟨rfl, trivial⟩ (.nil) rfl ?_
  refine Ops.put rfl rfl ox_pick_or (⟨rfl, rfl, trivial⟩) (.nil) rfl ?_
  refine Ops.nil ?_
  refine PT.sub (σ' := ⟨[(0, .val (a0)), (2, _), (14, .val (((!decide ((a0.length : Int) = (10 : Int))) || (!decide ((ix a0 (0 : Int)) = (UInt8.ofNat 113))))))], [(2, .var (({ Client := (0 : Int), Token := (0 : Int), Call := ({ Kind := (0 : Int), Name := (0 : Int), Other := (0 : Int), N := (0 : Int) } : Mk.Call) } : Mk.Request)) [])]⟩) ⟨rfl, rfl, rfl, trivial⟩ ⟨rfl, trivial⟩ ?_
  refine PT.cond _ rfl (fun hc2 => ?_) (fun hc2 => ?_)
  · replace hφ := if_then hφ hc2
    refine PT.sub (σ' := ⟨[(2, _)], [(2, .var (({ Client := (0 : Int), Token := (0 : Int), Call := ({ Kind := (0 : Int), Name := (0 : Int), Other := (0 : Int), N := (0 : Int) } : Mk.Call) } : Mk.Request)) [])]⟩) ⟨rfl, trivial⟩ ⟨rfl, trivial⟩ ?_
    refine PT.seq ?_
    refine PT.region ?_
    refine Ops.put rfl rfl (ox_buildB z35 u35 rfl Bld.nil) (.nil) (.nil) rfl ?_
    refine Ops.mute rfl rfl (ox_store_var t35 .tmp) ((.cons rfl (.one rfl))) (.one rfl) ?_
    refine Ops.put rfl rfl (ox_assign .int) (.nil) (.nil) rfl ?_
    refine Ops.nil ?_
    refine PT.sub (σ' := ⟨[(2, _), (3, .val ((2 : Int)))], [(2, .var (({ Client := (0 : Int), Token := (0 : Int), Call := ({ Kind := (0 : Int), Name := (0 : Int), Other := (0 : Int), N := (0 : Int) } : Mk.Call) } : Mk.Request)) [])]⟩) ⟨rfl, rfl, trivial⟩ ⟨rfl, trivial⟩ ?_
    refine PT.ret ?_
    obtain rfl := Option.some.inj hφ
    exact PT.done hw0 rfl (.cell t35 rfl rfl (.tmp rfl rfl .nil)) rfl
  · replace hφ := if_else hφ hc2
    refine PT.sub (σ' := ⟨[(0, .val (a0)), (2, _)], [(2, .var (({ Client := (0 : Int), Token := (0 : Int), Call := ({ Kind := (0 : Int), Name := (0 : Int), Other := (0 : Int), N := (0 : Int) } : Mk.Call) } : Mk.Request)) [])]⟩) ⟨rfl, rfl, trivial⟩ ⟨rfl, trivial⟩ ?_
    refine PT.skip ?_
    refine PT.seq ?_
    obtain ⟨hb3, hφ⟩ := G_some hφ
    obtain ⟨hb4, hφ⟩ := G_some hφ
    obtain ⟨hb5, hφ⟩ := G_some hφ
    obtain ⟨hb6, hφ⟩ := G_some hφ
    obtain ⟨hb7, hφ⟩ := G_some hφ
    obtain ⟨hb8, hφ⟩ := G_some hφ
    obtain ⟨v9, hv9, hφ⟩ := B_some hφ
    refine PT.draw hMixed (
        Segs.cons (Step.put rfl rfl (ox_move .tmp)) ⟨.one rfl, .nil⟩ (by kernel_rfl) rfl <|
        Segs.cons (Step.put rfl rfl (ox_ix s63 .tmp .int hb3.1 hb3.2)) ⟨(.app (.one rfl) (.nil)), .nil⟩ (by kernel_rfl) rfl <|
        Segs.cons (Step.put rfl rfl (ox_load_elem t5)) ⟨.one rfl, .nil⟩ (by kernel_rfl) rfl <|
        Segs.cons (Step.put rfl rfl (ox_u8_i64 (by kernel_rfl) .tmp)) ⟨.one rfl, .nil⟩ (by kernel_rfl) rfl <|
        Segs.cons (Step.put rfl rfl (ox_move .tmp)) ⟨.one rfl, .nil⟩ (by kernel_rfl) rfl <|
        Segs.cons (Step.put rfl rfl (ox_ix s63 .tmp .int hb4.1 hb4.2)) ⟨(.app (.one rfl) (.nil)), .nil⟩ (by kernel_rfl) rfl <|
        Segs.cons (Step.put rfl rfl (ox_load_elem t5)) ⟨.one rfl, .nil⟩ (by kernel_rfl) rfl <|
        Segs.cons (Step.put rfl rfl (ox_u8_i64 (by kernel_rfl) .tmp)) ⟨.one rfl, .nil⟩ (by kernel_rfl) rfl <|
        Segs.cons (Step.put rfl rfl (ox_move .tmp)) ⟨.one rfl, .nil⟩ (by kernel_rfl) rfl <|
        Segs.cons (Step.put rfl rfl (ox_ix s63 .tmp .int hb5.1 hb5.2)) ⟨(.app (.one rfl) (.nil)), .nil⟩ (by kernel_rfl) rfl <|
        Segs.cons (Step.put rfl rfl (ox_load_elem t5)) ⟨.one rfl, .nil⟩ (by kernel_rfl) rfl <|
        Segs.cons (Step.put rfl rfl (ox_u8_i64 (by kernel_rfl) .tmp)) ⟨.one rfl, .nil⟩ (by kernel_rfl) rfl <|
        Segs.cons (Step.put rfl rfl (ox_move .tmp)) ⟨.one rfl, .nil⟩ (by kernel_rfl) rfl <|
        Segs.cons (Step.put rfl rfl (ox_ix s63 .tmp .int hb6.1 hb6.2)) ⟨(.app (.one rfl) (.nil)), .nil⟩ (by kernel_rfl) rfl <|
        Segs.cons (Step.put rfl rfl (ox_load_elem t5)) ⟨.one rfl, .nil⟩ (by kernel_rfl) rfl <|
        Segs.cons (Step.put rfl rfl (ox_u8_i64 (by kernel_rfl) .tmp)) ⟨.one rfl, .nil⟩ (by kernel_rfl) rfl <|
        Segs.cons (Step.put rfl rfl (ox_move .tmp)) ⟨.one rfl, .nil⟩ (by kernel_rfl) rfl <|
        Segs.cons (Step.put rfl rfl (ox_ix s63 .tmp .int hb7.1 hb7.2)) ⟨(.app (.one rfl) (.nil)), .nil⟩ (by kernel_rfl) rfl <|
        Segs.cons (Step.put rfl rfl (ox_load_elem t5)) ⟨.one rfl, .nil⟩ (by kernel_rfl) rfl <|
        Segs.cons (Step.put rfl rfl (ox_u8_i64 (by kernel_rfl) .tmp)) ⟨.one rfl, .nil⟩ (by kernel_rfl) rfl <|
        Segs.cons (Step.put rfl rfl (ox_move .tmp)) ⟨.one rfl, .nil⟩ (by kernel_rfl) rfl <|
        Segs.cons (Step.put rfl rfl (ox_slice s63 .tmp (.some .int) .none hb8.1 hb8.2.1 hb8.2.2)) ⟨(.app (.one rfl) ((.app (.nil) (.nil)))), .nil⟩ (by kernel_rfl) rfl <|
        Segs.cons (Step.put rfl rfl (ox_call (c_mkref1_num hv9) (.cons .tmp .nil))) ⟨(.app (.one rfl) .nil), .nil⟩ (by kernel_rfl) rfl <|
        Segs.cons (Step.put rfl rfl (ox_buildB z33 u33 rfl (.cons Call_Kind f33_0 .tmp (.cons Call_Name f33_1 .tmp (.cons Call_Other f33_2 .tmp (.cons Call_N f33_3 .tmp Bld.nil)))))) ⟨(.app (.one rfl) (.app (.one rfl) (.app (.one rfl) (.app (.one rfl) .nil)))), .nil⟩ (by kernel_rfl) rfl <|
        Segs.cons (Step.put rfl rfl (ox_buildB z35 u35 rfl (.cons Request_Client f35_0 .tmp (.cons Request_Token f35_1 .tmp (.cons Request_Call f35_2 .tmp Bld.nil))))) ⟨(.app (.one rfl) (.app (.one rfl) (.app (.one rfl) .nil))), .nil⟩ (by kernel_rfl) rfl <|
        Segs.cons (Step.put rfl rfl (ox_alloc (id := 4) z35)) ⟨.nil, .nil⟩ (by kernel_rfl) rfl <|
        Segs.cons (Step.mute rfl rfl (ox_store_var t35 .tmp)) ⟨(.cons rfl (.one rfl)), .one rfl⟩ (by kernel_rfl) rfl <|
        Segs.nil) _ [[], [0], [0, 1], [0, 1, 2], [], [4], [4, 5], [4, 5, 6], [], [8], [8, 9], [8, 9, 10], [], [12], [12, 13], [12, 13, 14], [], [16], [16, 17], [16, 17, 18], [], [20], [20, 21], [8, 9, 10, 11, 12, 13, 14, 15, 16, 17, 18, 19, 20, 21, 22], [0, 1, 2, 3, 4, 5, 6, 7, 8, 9, 10, 11, 12, 13, 14, 15, 16, 17, 18, 19, 20, 21, 22, 23], [], [0, 1, 2, 3, 4, 5, 6, 7, 8, 9, 10, 11, 12, 13, 14, 15, 16, 17, 18, 19, 20, 21, 22, 23, 24, 25]] rfl (by kernel_rfl) (by kernel_rfl) ?_
    refine PT.sub (σ' := ⟨[(2, _), (4, _)], [(2, .var (({ Client := (0 : Int), Token := (0 : Int), Call := ({ Kind := (0 : Int), Name := (0 : Int), Other := (0 : Int), N := (0 : Int) } : Mk.Call) } : Mk.Request)) []), (4, .var (({ Client := (((ix a0 (1 : Int)).toNat : Nat) : Int), Token := (((ix a0 (2 : Int)).toNat : Nat) : Int), Call := ({ Kind := (((ix a0 (3 : Int)).toNat : Nat) : Int), Name := (((ix a0 (4 : Int)).toNat : Nat) : Int), Other := (((ix a0 (5 : Int)).toNat : Nat) : Int), N := v9 } : Mk.Call) } : Mk.Request)) [])]⟩) ⟨rfl, rfl, trivial⟩ ⟨rfl, rfl, trivial⟩ ?_
    refine PT.seq ?_
    refine PT.seq ?_
    obtain ⟨v10, hv10, hφ⟩ := B_some hφ
    refine PT.region ?_
    refine Ops.put rfl rfl (ox_load_var t35) (.one rfl) (.one rfl) rfl ?_
    refine Ops.put rfl rfl (ox_call (c_mkref1_WrongRequest hv10) (.cons .tmp .nil)) ((.app (.one rfl) .nil)) (.nil) rfl ?_
    refine Ops.put rfl rfl (ox_assign .tmp) (.one rfl) (.nil) rfl ?_
    refine Ops.nil ?_
    refine PT.sub (σ' := ⟨[(2, _), (4, _), (5, .val (v10))], [(2, .var (({ Client := (0 : Int), Token := (0 : Int), Call := ({ Kind := (0 : Int), Name := (0 : Int), Other := (0 : Int), N := (0 : Int) } : Mk.Call) } : Mk.Request)) []), (4, .var (({ Client := (((ix a0 (1 : Int)).toNat : Nat) : Int), Token := (((ix a0 (2 : Int)).toNat : Nat) : Int), Call := ({ Kind := (((ix a0 (3 : Int)).toNat : Nat) : Int), Name := (((ix a0 (4 : Int)).toNat : Nat) : Int), Other := (((ix a0 (5 : Int)).toNat : Nat) : Int), N := v9 } : Mk.Call) } : Mk.Request)) [])]⟩) ⟨rfl, rfl, rfl, trivial⟩ ⟨rfl, rfl, trivial⟩ ?_
    refine PT.seq ?_
    refine PT.region ?_
    refine Ops.put rfl rfl (ox_move .tmp) (.one rfl) (.nil) rfl ?_
    refine Ops.put rfl rfl (ox_neq .tmp .int) ((.app (.one rfl) (.nil))) (.nil) rfl ?_
    refine Ops.nil ?_
    refine PT.sub (σ' := ⟨[(2, _), (4, _), (5, .val (v10)), (44, .val ((!decide (v10 = (0 : Int)))))], [(2, .var (({ Client := (0 : Int), Token := (0 : Int), Call := ({ Kind := (0 : Int), Name := (0 : Int), Other := (0 : Int), N := (0 : Int) } : Mk.Call) } : Mk.Request)) []), (4, .var (({ Client := (((ix a0 (1 : Int)).toNat : Nat) : Int), Token := (((ix a0 (2 : Int)).toNat : Nat) : Int), Call := ({ Kind := (((ix a0 (3 : Int)).toNat : Nat) : Int), Name := (((ix a0 (4 : Int)).toNat : Nat) : Int), Other := (((ix a0 (5 : Int)).toNat : Nat) : Int), N := v9 } : Mk.Call) } : Mk.Request)) [])]⟩) ⟨rfl, rfl, rfl, rfl, trivial⟩ ⟨rfl, rfl, trivial⟩ ?_
    refine PT.cond _ rfl (fun hc11 => ?_) (fun hc11 => ?_)
    · replace hφ := if_then hφ hc11
      refine PT.sub (σ' := ⟨[(2, _), (5, .val (v10))], [(2, .var (({ Client := (0 : Int), Token := (0 : Int), Call := ({ Kind := (0 : Int), Name := (0 : Int), Other := (0 : Int), N := (0 : Int) } : Mk.Call) } : Mk.Request)) [])]⟩) ⟨rfl, rfl, trivial⟩ ⟨rfl, trivial⟩ ?_
      refine PT.seq ?_
      refine PT.region ?_
      refine Ops.put rfl rfl (ox_buildB z35 u35 rfl Bld.nil) (.nil) (.nil) rfl ?_
      refine Ops.put rfl rfl (ox_move .tmp) (.one rfl) (.nil) rfl ?_
      refine Ops.mute rfl rfl (ox_store_var t35 .tmp) ((.cons rfl (.one rfl))) (.one rfl) ?_
      refine Ops.put rfl rfl (ox_assign .tmp) (.one rfl) (.nil) rfl ?_
      refine Ops.nil ?_
      refine PT.sub (σ' := ⟨[(2, _), (3, .val (v10))], [(2, .var (({ Client := (0 : Int), Token := (0 : Int), Call := ({ Kind := (0 : Int), Name := (0 : Int), Other := (0 : Int), N := (0 : Int) } : Mk.Call) } : Mk.Request)) [])]⟩) ⟨rfl, rfl, trivial⟩ ⟨rfl, trivial⟩ ?_
      refine PT.ret ?_
      obtain rfl := Option.some.inj hφ
      exact PT.done hw0 rfl (.cell t35 rfl rfl (.tmp rfl rfl .nil)) rfl
    · replace hφ := if_else hφ hc11
      refine PT.sub (σ' := ⟨[(2, _), (4, _)], [(2, .var (({ Client := (0 : Int), Token := (0 : Int), Call := ({ Kind := (0 : Int), Name := (0 : Int), Other := (0 : Int), N := (0 : Int) } : Mk.Call) } : Mk.Request)) []), (4, .var (({ Client := (((ix a0 (1 : Int)).toNat : Nat) : Int), Token := (((ix a0 (2 : Int)).toNat : Nat) : Int), Call := ({ Kind := (((ix a0 (3 : Int)).toNat : Nat) : Int), Name := (((ix a0 (4 : Int)).toNat : Nat) : Int), Other := (((ix a0 (5 : Int)).toNat : Nat) : Int), N := v9 } : Mk.Call) } : Mk.Request)) [])]⟩) ⟨rfl, rfl, trivial⟩ ⟨rfl, rfl, trivial⟩ ?_
      refine PT.skip ?_
      refine PT.seq ?_
      refine PT.region ?_
      refine Ops.put rfl rfl (ox_load_var t35) (.one rfl) (.one rfl) rfl ?_
      refine Ops.mute rfl rfl (ox_store_var t35 .tmp) ((.cons rfl (.one rfl))) (.one rfl) ?_
      refine Ops.put rfl rfl (ox_assign .int) (.nil) (.nil) rfl ?_
      refine Ops.nil ?_
      refine PT.sub (σ' := ⟨[(2, _), (3, .val ((0 : Int)))], [(2, .var (({ Client := (((ix a0 (1 : Int)).toNat : Nat) : Int), Token := (((ix a0 (2 : Int)).toNat : Nat) : Int), Call := ({ Kind := (((ix a0 (3 : Int)).toNat : Nat) : Int), Name := (((ix a0 (4 : Int)).toNat : Nat) : Int), Other := (((ix a0 (5 : Int)).toNat : Nat) : Int), N := v9 } : Mk.Call) } : Mk.Request)) [])]⟩) ⟨rfl, rfl, trivial⟩ ⟨rfl, trivial⟩ ?_
      refine PT.ret ?_
      obtain rfl := Option.some.inj hφ
      exact PT.done hw0 rfl (.cell t35 rfl rfl (.tmp rfl rfl .nil)) rfl
theorem c_mkref1_ReadAnswer {a0 : List UInt8} {r : (Mk.Answer × Int)} (hφ : mkref1_ReadAnswer a0 = some r) : Fn Go.Proofs.Try.prog 115 [.val a0] (.tup [.val r.1, .val r.2]) := by
  unfold mkref1_ReadAnswer at hφ
  refine Fn.mk' Go.Proofs.Try.func115 rfl (by decide) rfl rfl rfl (fun w0 hw0 => ?_)
  refine PT.seq ?_
  refine PT.region ?_
  refine Ops.putO rfl rfl (ox_alloc (id := 2) z74) (.nil) (.nil) rfl (by kernel_rfl) ?_
  refine Ops.put rfl rfl (ox_assign .int) (.nil) (.nil) rfl ?_
  refine Ops.nil ?_
  refine PT.sub (σ' := ⟨[(0, .val (a0)), (2, _)], [(2, .var (({ Client := (0 : Int), Token := (0 : Int), Reply := ({ Err := (0 : Int), N := (0 : Int) } : Mk.Reply) } : Mk.Answer)) [])]⟩) ⟨rfl, rfl, trivial⟩ ⟨rfl, trivial⟩ ?_
  refine PT.seq ?_
  refine PT.seq ?_
  obtain ⟨hb1, hφ⟩ := G_some hφ
  refine PT.region ?_
  refine Ops.put rfl rfl (ox_move .tmp) (.one rfl) (.nil) rfl ?_
  refine Ops.put rfl rfl (ox_len s63 .tmp) (.one rfl) (.nil) rfl ?_
  refine Ops.put rfl rfl (ox_neq .tmp .int) ((.app (.one rfl) (.nil))) (.nil) rfl ?_
  refine Ops.put rfl rfl (ox_move .tmp) (.one rfl) (.nil) rfl ?_
  refine Ops.guard rfl rfl rfl rfl (.plain .nil) (fun hG => (ox_move .tmp)) ⟨rfl, trivial⟩ (.nil) rfl ?_
  refine Ops.guard rfl rfl rfl rfl (.cond (fun h => h) .nil) (fun hG => (ox_ix s63 .tmp .int (hb1 hG).1 (hb1 hG).2)) ⟨rfl, trivial⟩ (.nil) rfl ?_
  refine Ops.guard rfl rfl rfl rfl (.cond (fun h => h) .nil) (fun hG => (ox_load_elem t5)) ⟨rfl, trivial⟩ (.nil) rfl ?_
  refine Ops.guard rfl rfl rfl rfl (.cond (fun h => h) .nil) (fun hG => (ox_neqU8 .tmp (.u8 (n := 97)))) ⟨rfl, trivial⟩ (.nil) rfl ?_
  refine Ops.put rfl rfl ox_pick_or (⟨rfl, rfl, trivial⟩) (.nil) rfl ?_
  refine Ops.nil ?_
  refine PT.sub (σ' := ⟨[(0, .val (a0)), (2, _), (14, .val (((!decide ((a0.length : Int) = (8 : Int))) || (!decide ((ix a0 (0 : Int)) = (UInt8.ofNat 97))))))], [(2, .var (({ Client := (0 : Int), Token := (0 : Int), Reply := ({ Err := (0 : Int), N := (0 : Int) } : Mk.Reply) } : Mk.Answer)) [])]⟩) ⟨rfl, rfl, rfl, trivial⟩ ⟨rfl, trivial⟩ ?_
  refine PT.cond _ rfl (fun hc2 => ?_) (fun hc2 => ?_)
  · replace hφ := if_then hφ hc2
    refine PT.sub (σ' := ⟨[(2, _)], [(2, .var (({ Client := (0 : Int), Token := (0 : Int), Reply := ({ Err := (0 : Int), N := (0 : Int) } : Mk.Reply) } : Mk.Answer)) [])]⟩) ⟨rfl, trivial⟩ ⟨rfl, trivial⟩ ?_
    refine PT.seq ?_
    refine PT.region ?_
    refine Ops.put rfl rfl (ox_buildB z74 u74 rfl Bld.nil) (.nil) (.nil) rfl ?_
    refine Ops.mute rfl rfl (ox_store_var t74 .tmp) ((.cons rfl (.one rfl))) (.one rfl) ?_
    refine Ops.put rfl rfl (ox_assign .int) (.nil) (.nil) rfl ?_
    refine Ops.nil ?_
    refine PT.sub (σ' := ⟨[(2, _), (3, .val ((2 : Int)))], [(2, .var (({ Client := (0 : Int), Token := (0 : Int), Reply := ({ Err := (0 : Int), N := (0 : Int) } : Mk.Reply) } : Mk.Answer)) [])]⟩) ⟨rfl, rfl, trivial⟩ ⟨rfl, trivial⟩ ?_
    refine PT.ret ?_
    obtain rfl := Option.some.inj hφ
    exact PT.done hw0 rfl (.cell t74 rfl rfl (.tmp rfl rfl .nil)) rfl
  · replace hφ := if_else hφ hc2
    refine PT.sub (σ' := ⟨[(0, .val (a0)), (2, _)], [(2, .var (({ Client := (0 : Int), Token := (0 : Int), Reply := ({ Err := (0 : Int), N := (0 : Int) } : Mk.Reply) } : Mk.Answer)) [])]⟩) ⟨rfl, rfl, trivial⟩ ⟨rfl, trivial⟩ ?_
    refine PT.skip ?_
    refine PT.seq ?_
    obtain ⟨hb3, hφ⟩ := G_some hφ
    obtain ⟨hb4, hφ⟩ := G_some hφ
    obtain ⟨hb5, hφ⟩ := G_some hφ
    obtain ⟨hb6, hφ⟩ := G_some hφ
    obtain ⟨v7, hv7, hφ⟩ := B_some hφ
    refine PT.draw hMixed (
        Segs.cons (Step.put rfl rfl (ox_move .tmp)) ⟨.one rfl, .nil⟩ (by kernel_rfl) rfl <|
        Segs.cons (Step.put rfl rfl (ox_ix s63 .tmp .int hb3.1 hb3.2)) ⟨(.app (.one rfl) (.nil)), .nil⟩ (by kernel_rfl) rfl <|
        Segs.cons (Step.put rfl rfl (ox_load_elem t5)) ⟨.one rfl, .nil⟩ (by kernel_rfl) rfl <|
        Segs.cons (Step.put rfl rfl (ox_u8_i64 (by kernel_rfl) .tmp)) ⟨.one rfl, .nil⟩ (by kernel_rfl) rfl <|
        Segs.cons (Step.put rfl rfl (ox_move .tmp)) ⟨.one rfl, .nil⟩ (by kernel_rfl) rfl <|
        Segs.cons (Step.put rfl rfl (ox_ix s63 .tmp .int hb4.1 hb4.2)) ⟨(.app (.one rfl) (.nil)), .nil⟩ (by kernel_rfl) rfl <|
        Segs.cons (Step.put rfl rfl (ox_load_elem t5)) ⟨.one rfl, .nil⟩ (by kernel_rfl) rfl <|
        Segs.cons (Step.put rfl rfl (ox_u8_i64 (by kernel_rfl) .tmp)) ⟨.one rfl, .nil⟩ (by kernel_rfl) rfl <|
        Segs.cons (Step.put rfl rfl (ox_move .tmp)) ⟨.one rfl, .nil⟩ (by kernel_rfl) rfl <|
        Segs.cons (Step.put rfl rfl (ox_ix s63 .tmp .int hb5.1 hb5.2)) ⟨(.app (.one rfl) (.nil)), .nil⟩ (by kernel_rfl) rfl <|
        Segs.cons (Step.put rfl rfl (ox_load_elem t5)) ⟨.one rfl, .nil⟩ (by kernel_rfl) rfl <|
        Segs.cons (Step.put rfl rfl (ox_u8_i64 (by kernel_rfl) .tmp)) ⟨.one rfl, .nil⟩ (by kernel_rfl) rfl <|
        Segs.cons (Step.put rfl rfl (ox_move .tmp)) ⟨.one rfl, .nil⟩ (by kernel_rfl) rfl <|
        Segs.cons (Step.put rfl rfl (ox_slice s63 .tmp (.some .int) .none hb6.1 hb6.2.1 hb6.2.2)) ⟨(.app (.one rfl) ((.app (.nil) (.nil)))), .nil⟩ (by kernel_rfl) rfl <|
        Segs.cons (Step.put rfl rfl (ox_call (c_mkref1_num hv7) (.cons .tmp .nil))) ⟨(.app (.one rfl) .nil), .nil⟩ (by kernel_rfl) rfl <|
        Segs.cons (Step.put rfl rfl (ox_buildB z38 u38 rfl (.cons Reply_Err f38_0 .tmp (.cons Reply_N f38_1 .tmp Bld.nil)))) ⟨(.app (.one rfl) (.app (.one rfl) .nil)), .nil⟩ (by kernel_rfl) rfl <|
        Segs.cons (Step.put rfl rfl (ox_buildB z74 u74 rfl (.cons Answer_Client f74_0 .tmp (.cons Answer_Token f74_1 .tmp (.cons Answer_Reply f74_2 .tmp Bld.nil))))) ⟨(.app (.one rfl) (.app (.one rfl) (.app (.one rfl) .nil))), .nil⟩ (by kernel_rfl) rfl <|
        Segs.cons (Step.put rfl rfl (ox_alloc (id := 4) z74)) ⟨.nil, .nil⟩ (by kernel_rfl) rfl <|
        Segs.cons (Step.mute rfl rfl (ox_store_var t74 .tmp)) ⟨(.cons rfl (.one rfl)), .one rfl⟩ (by kernel_rfl) rfl <|
        Segs.nil) _ [[], [0], [0, 1], [0, 1, 2], [], [4], [4, 5], [4, 5, 6], [], [8], [8, 9], [8, 9, 10], [], [12], [12, 13], [8, 9, 10, 11, 12, 13, 14], [0, 1, 2, 3, 4, 5, 6, 7, 8, 9, 10, 11, 12, 13, 14, 15], [], [0, 1, 2, 3, 4, 5, 6, 7, 8, 9, 10, 11, 12, 13, 14, 15, 16, 17]] rfl (by kernel_rfl) (by kernel_rfl) ?_
    refine PT.sub (σ' := ⟨[(2, _), (4, _)], [(2, .var (({ Client := (0 : Int), Token := (0 : Int), Reply := ({ Err := (0 : Int), N := (0 : Int) } : Mk.Reply) } : Mk.Answer)) []), (4, .var (({ Client := (((ix a0 (1 : Int)).toNat : Nat) : Int), Token := (((ix a0 (2 : Int)).toNat : Nat) : Int), Reply := ({ Err := (((ix a0 (3 : Int)).toNat : Nat) : Int), N := v7 } : Mk.Reply) } : Mk.Answer)) [])]⟩) ⟨rfl, rfl, trivial⟩ ⟨rfl, rfl, trivial⟩ ?_
    refine PT.seq ?_
    refine PT.seq ?_
    obtain ⟨v8, hv8, hφ⟩ := B_some hφ
    refine PT.region ?_
    refine Ops.put rfl rfl (ox_load_var t74) (.one rfl) (.one rfl) rfl ?_
    refine Ops.put rfl rfl (ox_call (c_mkref1_WrongAnswer hv8) (.cons .tmp .nil)) ((.app (.one rfl) .nil)) (.nil) rfl ?_
    refine Ops.put rfl rfl (ox_assign .tmp) (.one rfl) (.nil) rfl ?_
    refine Ops.nil ?_
    refine PT.sub (σ' := ⟨[(2, _), (4, _), (5, .val (v8))], [(2, .var (({ Client := (0 : Int), Token := (0 : Int), Reply := ({ Err := (0 : Int), N := (0 : Int) } : Mk.Reply) } : Mk.Answer)) []), (4, .var (({ Client := (((ix a0 (1 : Int)).toNat : Nat) : Int), Token := (((ix a0 (2 : Int)).toNat : Nat) : Int), Reply := ({ Err := (((ix a0 (3 : Int)).toNat : Nat) : Int), N := v7 } : Mk.Reply) } : Mk.Answer)) [])]⟩) ⟨rfl, rfl, rfl, trivial⟩ ⟨rfl, rfl, trivial⟩ ?_
    refine PT.seq ?_
    refine PT.region ?_
    refine Ops.put rfl rfl (ox_move .tmp) (.one rfl) (.nil) rfl ?_
    refine Ops.put rfl rfl (ox_neq .tmp .int) ((.app (.one rfl) (.nil))) (.nil) rfl ?_
    refine Ops.nil ?_
    refine PT.sub (σ' := ⟨[(2, _), (4, _), (5, .val (v8)), (36, .val ((!decide (v8 = (0 : Int)))))], [(2, .var (({ Client := (0 : Int), Token := (0 : Int), Reply := ({ Err := (0 : Int), N := (0 : Int) } : Mk.Reply) } : Mk.Answer)) []), (4, .var (({ Client := (((ix a0 (1 : Int)).toNat : Nat) : Int), Token := (((ix a0 (2 : Int)).toNat : Nat) : Int), Reply := ({ Err := (((ix a0 (3 : Int)).toNat : Nat) : Int), N := v7 } : Mk.Reply) } : Mk.Answer)) [])]⟩) ⟨rfl, rfl, rfl, rfl, trivial⟩ ⟨rfl, rfl, trivial⟩ ?_
    refine PT.cond _ rfl (fun hc9 => ?_) (fun hc9 => ?_)
    · replace hφ := if_then hφ hc9
      refine PT.sub (σ' := ⟨[(2, _), (5, .val (v8))], [(2, .var (({ Client := (0 : Int), Token := (0 : Int), Reply := ({ Err := (0 : Int), N := (0 : Int) } : Mk.Reply) } : Mk.Answer)) [])]⟩) ⟨rfl, rfl, trivial⟩ ⟨rfl, trivial⟩ ?_
      refine PT.seq ?_
      refine PT.region ?_
      refine Ops.put rfl rfl (ox_buildB z74 u74 rfl Bld.nil) (.nil) (.nil) rfl ?_
      refine Ops.put rfl rfl (ox_move .tmp) (.one rfl) (.nil) rfl ?_
      refine Ops.mute rfl rfl (ox_store_var t74 .tmp) ((.cons rfl (.one rfl))) (.one rfl) ?_
      refine Ops.put rfl rfl (ox_assign .tmp) (.one rfl) (.nil) rfl ?_
      refine Ops.nil ?_
      refine PT.sub (σ' := ⟨[(2, _), (3, .val (v8))], [(2, .var (({ Client := (0 : Int), Token := (0 : Int), Reply := ({ Err := (0 : Int), N := (0 : Int) } : Mk.Reply) } : Mk.Answer)) [])]⟩) ⟨rfl, rfl, trivial⟩ ⟨rfl, trivial⟩ ?_
      refine PT.ret ?_
      obtain rfl := Option.some.inj hφ
      exact PT.done hw0 rfl (.cell t74 rfl rfl (.tmp rfl rfl .nil)) rfl
    · replace hφ := if_else hφ hc9
      refine PT.sub (σ' := ⟨[(2, _), (4, _)], [(2, .var (({ Client := (0 : Int), Token := (0 : Int), Reply := ({ Err := (0 : Int), N := (0 : Int) } : Mk.Reply) } : Mk.Answer)) []), (4, .var (({ Client := (((ix a0 (1 : Int)).toNat : Nat) : Int), Token := (((ix a0 (2 : Int)).toNat : Nat) : Int), Reply := ({ Err := (((ix a0 (3 : Int)).toNat : Nat) : Int), N := v7 } : Mk.Reply) } : Mk.Answer)) [])]⟩) ⟨rfl, rfl, trivial⟩ ⟨rfl, rfl, trivial⟩ ?_
      refine PT.skip ?_
      refine PT.seq ?_
      refine PT.region ?_
      refine Ops.put rfl rfl (ox_load_var t74) (.one rfl) (.one rfl) rfl ?_
      refine Ops.mute rfl rfl (ox_store_var t74 .tmp) ((.cons rfl (.one rfl))) (.one rfl) ?_
      refine Ops.put rfl rfl (ox_assign .int) (.nil) (.nil) rfl ?_
      refine Ops.nil ?_
      refine PT.sub (σ' := ⟨[(2, _), (3, .val ((0 : Int)))], [(2, .var (({ Client := (((ix a0 (1 : Int)).toNat : Nat) : Int), Token := (((ix a0 (2 : Int)).toNat : Nat) : Int), Reply := ({ Err := (((ix a0 (3 : Int)).toNat : Nat) : Int), N := v7 } : Mk.Reply) } : Mk.Answer)) [])]⟩) ⟨rfl, rfl, trivial⟩ ⟨rfl, trivial⟩ ?_
      refine PT.ret ?_
      obtain rfl := Option.some.inj hφ
      exact PT.done hw0 rfl (.cell t74 rfl rfl (.tmp rfl rfl .nil)) rfl
end Go.Gx
end
