/- FUNCTIONS OF THE PROGRAM ANSWER WHAT THEIR SPECS ANSWER: printed by gen3.py. -/
import Derived.Test.YtkmokkhcoombnaaGt
import Derived.Test.YtkmokkhcoombnaaSpCell
import Derived.Test.YtkmokkhcoombnaaChecked
import Derived.Test.YtkmokkhcoombnaaCtPlan
namespace Go.Gx
open Sp
set_option linter.unusedVariables false
set_option linter.unusedSimpArgs false
set_option maxRecDepth 20000
/-- mendkernel/cell.New -/
theorem c_cell_New  {r : ((List Int))} (hφ : cell_New  = some r) : Fn Go.Proofs.Try.prog 56 [] (.val r) := by
  unfold cell_New at hφ
  refine Fn.mk' Go.Proofs.Try.func56 rfl (by decide) rfl rfl rfl (fun w0 hw0 => ?_)
  refine PT.seq ?_
  refine PT.region ?_
  refine Ops.put rfl rfl (ox_assign .nilS) (.nil) (.nil) rfl ?_
  refine Ops.nil ?_
  refine PT.sub (σ' := ⟨[], []⟩) trivial trivial ?_
  refine PT.seq ?_
  obtain ⟨hb1, hφ⟩ := G_some hφ
  refine PT.region ?_
  refine Ops.put rfl rfl (ox_makeIntsV s43 (by kernel_rfl) (by kernel_rfl) .int .int hb1) ((.app (.nil) (.nil))) (.nil) rfl ?_
  refine Ops.put rfl rfl (ox_assign .tmp) (.one rfl) (.nil) rfl ?_
  refine Ops.nil ?_
  refine PT.sub (σ' := ⟨[(0, .val ((List.replicate (Int.toNat (11 : Int)) (0 : Int))))], []⟩) ⟨rfl, trivial⟩ trivial ?_
  refine PT.ret ?_
  obtain rfl := Option.some.inj hφ
  exact PT.done hw0 rfl (.tmp rfl rfl .nil) rfl

/-- mendkernel/mkref1.SameInts -/
theorem c_mkref1_SameInts {a0 : List Int} {a1 : List Int} {r : Bool} (hφ : mkref1_SameInts a0 a1 = some r) : Fn Go.Proofs.Try.prog 47 [.val a0, .val a1] (.val r) := by
  unfold mkref1_SameInts at hφ
  refine Fn.mk' Go.Proofs.Try.func47 rfl (by decide) rfl rfl rfl (fun w0 hw0 => ?_)
  refine PT.seq ?_
  refine PT.region ?_
  refine Ops.put rfl rfl (ox_assign .bool) (.nil) (.nil) rfl ?_
  refine Ops.nil ?_
  refine PT.sub (σ' := ⟨[(0, .val (a0)), (1, .val (a1))], []⟩) ⟨rfl, rfl, trivial⟩ trivial ?_
  refine PT.seq ?_
  refine PT.seq ?_
  refine PT.region ?_
  refine Ops.put rfl rfl (ox_move .tmp) (.one rfl) (.nil) rfl ?_
  refine Ops.put rfl rfl (ox_len s43 .tmp) (.one rfl) (.nil) rfl ?_
  refine Ops.put rfl rfl (ox_move .tmp) (.one rfl) (.nil) rfl ?_
  refine Ops.put rfl rfl (ox_len s43 .tmp) (.one rfl) (.nil) rfl ?_
  refine Ops.put rfl rfl (ox_neq .tmp .tmp) ((.app (.one rfl) (.one rfl))) (.nil) rfl ?_
  refine Ops.nil ?_
  refine PT.sub (σ' := ⟨[(0, .val (a0)), (1, .val (a1)), (10, .val ((!decide ((a0.length : Int) = (a1.length : Int)))))], []⟩) ⟨rfl, rfl, rfl, trivial⟩ trivial ?_
  refine PT.cond _ rfl (fun hc1 => ?_) (fun hc1 => ?_)
  · replace hφ := if_then hφ hc1
    refine PT.sub (σ' := ⟨[], []⟩) trivial trivial ?_
    refine PT.seq ?_
    refine PT.region ?_
    refine Ops.put rfl rfl (ox_assign .bool) (.nil) (.nil) rfl ?_
    refine Ops.nil ?_
    refine PT.sub (σ' := ⟨[(4, .val (false))], []⟩) ⟨rfl, trivial⟩ trivial ?_
    refine PT.ret ?_
    obtain rfl := Option.some.inj hφ
    exact PT.done hw0 rfl (.tmp rfl rfl .nil) rfl
  · replace hφ := if_else hφ hc1
    refine PT.sub (σ' := ⟨[(0, .val (a0)), (1, .val (a1))], []⟩) ⟨rfl, rfl, trivial⟩ trivial ?_
    refine PT.skip ?_
    obtain ⟨k2, hk2, hφ⟩ := J_some hφ
    refine PT.cut (ι := Unit) (fun p => ⟨[], []⟩) (fun p => k2 () = some r) ?_ ?_
    · skip
      refine PT.seq ?_
      refine PT.region ?_
      refine Ops.put rfl rfl (ox_move .tmp) (.one rfl) (.nil) rfl ?_
      refine Ops.put rfl rfl (ox_len s43 .tmp) (.one rfl) (.nil) rfl ?_
      refine Ops.put rfl rfl (ox_move .int) (.nil) (.nil) rfl ?_
      refine Ops.nil ?_
      refine PT.sub (σ' := ⟨[(0, .val (a0)), (1, .val (a1)), (12, .val ((a0.length : Int))), (13, .val ((0 : Int)))], []⟩) ⟨rfl, rfl, rfl, rfl, trivial⟩ trivial ?_
      refine PT.block ?_
      refine PT.loop (ι := Nat × (List Int) × (List Int) × Int × Int) (fun p => ⟨[(0, .val (p.2.1)), (1, .val (p.2.2.1)), (12, .val (p.2.2.2.1)), (13, .val (p.2.2.2.2))], []⟩) (fun p => mkref1_SameInts_l1 k2 p.1 (p.2.1) (p.2.2.1) (p.2.2.2.1) (p.2.2.2.2) = some r) (fun p => p.1) (((a0.length : Int) - (0 : Int)).toNat + 1, a0, a1, (a0.length : Int), (0 : Int)) hφ ⟨rfl, rfl, rfl, rfl, trivial⟩ trivial ?_
      rintro ⟨m3, x0_m3, x1_m3, x12_m3, x13_m3⟩ (hφ : mkref1_SameInts_l1 k2 m3 x0_m3 x1_m3 x12_m3 x13_m3 = some r)
      obtain _ | m3 := m3
      · exact (none_no hφ).elim
      rw [mkref1_SameInts_l1.eq_2] at hφ
      refine PT.sub (σ' := ⟨[(0, .val (x0_m3)), (1, .val (x1_m3)), (12, .val (x12_m3)), (13, .val (x13_m3))], []⟩) ⟨rfl, rfl, rfl, rfl, trivial⟩ trivial ?_
      refine PT.seq ?_
      refine PT.region ?_
      refine Ops.put rfl rfl (ox_lss .tmp .tmp) ((.app (.one rfl) (.one rfl))) (.nil) rfl ?_
      refine Ops.nil ?_
      refine PT.sub (σ' := ⟨[(0, .val (x0_m3)), (1, .val (x1_m3)), (12, .val (x12_m3)), (13, .val (x13_m3)), (14, .val ((decide (x13_m3 < x12_m3))))], []⟩) ⟨rfl, rfl, rfl, rfl, rfl, trivial⟩ trivial ?_
      refine PT.seq ?_
      refine PT.cond _ rfl (fun hc4 => ?_) (fun hc4 => ?_)
      · replace hφ := if_then hφ hc4
        refine PT.sub (σ' := ⟨[(0, .val (x0_m3)), (1, .val (x1_m3)), (12, .val (x12_m3)), (13, .val (x13_m3))], []⟩) ⟨rfl, rfl, rfl, rfl, trivial⟩ trivial ?_
        refine PT.skip ?_
        refine PT.seq ?_
        refine PT.block ?_
        refine PT.seq ?_
        refine PT.region ?_
        refine Ops.put rfl rfl (ox_move .tmp) (.one rfl) (.nil) rfl ?_
        refine Ops.put rfl rfl (ox_assign .tmp) (.one rfl) (.nil) rfl ?_
        refine Ops.nil ?_
        refine PT.sub (σ' := ⟨[(0, .val (x0_m3)), (1, .val (x1_m3)), (5, .val (x13_m3)), (12, .val (x12_m3)), (13, .val (x13_m3))], []⟩) ⟨rfl, rfl, rfl, rfl, rfl, trivial⟩ trivial ?_
        refine PT.seq ?_
        obtain ⟨hb5, hφ⟩ := G_some hφ
        obtain ⟨hb6, hφ⟩ := G_some hφ
        refine PT.draw hMixed (
            Segs.cons (Step.put rfl rfl (ox_move .tmp)) ⟨.one rfl, .nil⟩ (by kernel_rfl) rfl <|
            Segs.cons (Step.put rfl rfl (ox_move .tmp)) ⟨.one rfl, .nil⟩ (by kernel_rfl) rfl <|
            Segs.cons (Step.put rfl rfl (ox_ix s43 .tmp .tmp hb5.1 hb5.2)) ⟨(.app (.one rfl) (.one rfl)), .nil⟩ (by kernel_rfl) rfl <|
            Segs.cons (Step.put rfl rfl (ox_load_elem t3)) ⟨.one rfl, .nil⟩ (by kernel_rfl) rfl <|
            Segs.cons (Step.put rfl rfl (ox_move .tmp)) ⟨.one rfl, .nil⟩ (by kernel_rfl) rfl <|
            Segs.cons (Step.put rfl rfl (ox_move .tmp)) ⟨.one rfl, .nil⟩ (by kernel_rfl) rfl <|
            Segs.cons (Step.put rfl rfl (ox_ix s43 .tmp .tmp hb6.1 hb6.2)) ⟨(.app (.one rfl) (.one rfl)), .nil⟩ (by kernel_rfl) rfl <|
            Segs.cons (Step.put rfl rfl (ox_load_elem t3)) ⟨.one rfl, .nil⟩ (by kernel_rfl) rfl <|
            Segs.cons (Step.put rfl rfl (ox_neq .tmp .tmp)) ⟨(.app (.one rfl) (.one rfl)), .nil⟩ (by kernel_rfl) rfl <|
            Segs.nil) _ [[], [], [0, 1], [0, 1, 2], [], [], [4, 5], [4, 5, 6], [0, 1, 2, 3, 4, 5, 6, 7]] rfl (by kernel_rfl) (by kernel_rfl) ?_
        refine PT.sub (σ' := ⟨[(0, .val (x0_m3)), (1, .val (x1_m3)), (12, .val (x12_m3)), (13, .val (x13_m3)), (24, .val ((!decide ((ix x0_m3 x13_m3) = (ix x1_m3 x13_m3)))))], []⟩) ⟨rfl, rfl, rfl, rfl, rfl, trivial⟩ trivial ?_
        refine PT.cond _ rfl (fun hc7 => ?_) (fun hc7 => ?_)
        · replace hφ := if_then hφ hc7
          refine PT.sub (σ' := ⟨[], []⟩) trivial trivial ?_
          refine PT.seq ?_
          refine PT.region ?_
          refine Ops.put rfl rfl (ox_assign .bool) (.nil) (.nil) rfl ?_
          refine Ops.nil ?_
          refine PT.sub (σ' := ⟨[(4, .val (false))], []⟩) ⟨rfl, trivial⟩ trivial ?_
          refine PT.ret ?_
          obtain rfl := Option.some.inj hφ
          exact PT.done hw0 rfl (.tmp rfl rfl .nil) rfl
        · replace hφ := if_else hφ hc7
          refine PT.sub (σ' := ⟨[(0, .val (x0_m3)), (1, .val (x1_m3)), (12, .val (x12_m3)), (13, .val (x13_m3))], []⟩) ⟨rfl, rfl, rfl, rfl, trivial⟩ trivial ?_
          refine PT.skip ?_
          obtain ⟨hb8, hφ⟩ := G_some hφ
          refine PT.region ?_
          refine Ops.put rfl rfl (ox_add .tmp .int hb8) ((.app (.one rfl) (.nil))) (.nil) rfl ?_
          refine Ops.put rfl rfl (ox_move .tmp) (.one rfl) (.nil) rfl ?_
          refine Ops.nil ?_
          refine PT.sub (σ' := ⟨[(0, .val (x0_m3)), (1, .val (x1_m3)), (12, .val (x12_m3)), (13, .val ((x13_m3 + (1 : Int))))], []⟩) ⟨rfl, rfl, rfl, rfl, trivial⟩ trivial ?_
          exact PT.next (m3, x0_m3, x1_m3, x12_m3, (x13_m3 + (1 : Int))) hφ (Nat.lt_succ_self _) ⟨rfl, rfl, rfl, rfl, trivial⟩ trivial
      · replace hφ := if_else hφ hc4
        refine PT.sub (σ' := ⟨[], []⟩) trivial trivial ?_
        refine PT.exit ?_
        exact PT.meet () hφ trivial trivial
    · rintro ⟨⟩ hφ
      subst hk2
      refine PT.sub (σ' := ⟨[], []⟩) trivial trivial ?_
      refine PT.seq ?_
      refine PT.region ?_
      refine Ops.put rfl rfl (ox_assign .bool) (.nil) (.nil) rfl ?_
      refine Ops.nil ?_
      refine PT.sub (σ' := ⟨[(4, .val (true))], []⟩) ⟨rfl, trivial⟩ trivial ?_
      refine PT.ret ?_
      obtain rfl := Option.some.inj hφ
      exact PT.done hw0 rfl (.tmp rfl rfl .nil) rfl

/-- slices.Clone[[]int,int] -/
theorem c_slices_Clone___int_int_ {a0 : List Int} {r : ((List Int))} (hφ : slices_Clone___int_int_ a0 = some r) : Fn Go.Proofs.Try.prog 93 [.val a0] (.val r) := by
  unfold slices_Clone___int_int_ at hφ
  refine Fn.mk' Go.Proofs.Try.func93 rfl (by decide) rfl rfl rfl (fun w0 hw0 => ?_)
  refine PT.seq ?_
  refine PT.region ?_
  refine Ops.put rfl rfl (ox_assign .nilS) (.nil) (.nil) rfl ?_
  refine Ops.nil ?_
  refine PT.sub (σ' := ⟨[(0, .val (a0))], []⟩) ⟨rfl, trivial⟩ trivial ?_
  refine PT.seq ?_
  refine PT.seq ?_
  refine PT.region ?_
  refine Ops.put rfl rfl (ox_move .tmp) (.one rfl) (.nil) rfl ?_
  refine Ops.put rfl rfl (ox_isNil (by kernel_rfl) .tmp .nilS) ((.app (.one rfl) (.nil))) (.nil) rfl ?_
  refine Ops.nil ?_
  refine PT.sub (σ' := ⟨[(0, .val (a0)), (4, _)], []⟩) ⟨rfl, rfl, trivial⟩ trivial ?_
  refine PT.condB _ rfl (fun hc1 => ?_) (fun _ => ?_)
  · have hc1e := hc1 rfl
    refine PT.sub (σ' := ⟨[], []⟩) trivial trivial ?_
    refine PT.seq ?_
    refine PT.region ?_
    refine Ops.put rfl rfl (ox_assign .nilS) (.nil) (.nil) rfl ?_
    refine Ops.nil ?_
    refine PT.sub (σ' := ⟨[(2, .nilS)], []⟩) ⟨rfl, trivial⟩ trivial ?_
    refine PT.ret ?_
    refine PT.asNil 2 (Int) rfl ?_
    rw [hc1e] at hφ
    obtain ⟨_, hφ⟩ := G_some hφ
    obtain rfl := Option.some.inj hφ
    exact PT.done hw0 rfl (.tmp rfl rfl .nil) rfl
  · skip
    refine PT.sub (σ' := ⟨[(0, .val (a0))], []⟩) ⟨rfl, trivial⟩ trivial ?_
    refine PT.skip ?_
    refine PT.seq ?_
    obtain ⟨hb2, hφ⟩ := G_some hφ
    refine PT.region ?_
    refine Ops.putO rfl rfl (ox_buildSlice_arr (id := 5) s43 z3 Parts.nil rfl (by decide)) (.nil) (.nil) rfl (by kernel_rfl) ?_
    refine Ops.put rfl rfl (ox_move .tmp) (.one rfl) (.nil) rfl ?_
    refine Ops.putK [5] rfl rfl (ox_append a43 .tmp .tmp hb2.1 hb2.2) ((.app (.one rfl) (.one rfl))) (.one rfl) rfl (by kernel_rfl) ?_
    refine Ops.put rfl rfl (ox_assign .tmp) (.one rfl) (.nil) rfl ?_
    refine Ops.nil ?_
    refine PT.sub (σ' := ⟨[(2, _)], [(5, .arr 3 ((([] : List Int) ++ a0)))]⟩) ⟨rfl, trivial⟩ ⟨rfl, trivial⟩ ?_
    refine PT.ret ?_
    refine PT.freeze 5 [2] rfl ⟨rfl, trivial⟩ ?_
    obtain rfl := Option.some.inj hφ
    exact PT.done hw0 rfl (.tmp rfl rfl .nil) rfl

/-- slices.Clone[[]int,int] -/
theorem x_slices_Clone___int_int_ {a0 : List Int} {r : ((List Int))} (hφ : slices_Clone___int_int_ a0 = some r) : FnX Go.Proofs.Try.prog 93 [.val a0] [] (.sl 5) [(5, .arr 3 r)] [] := by
  unfold slices_Clone___int_int_ at hφ
  refine FnX.mk' Go.Proofs.Try.func93 rfl (by decide) rfl (fun w0 m0 => ?_)
  refine PT.seq ?_
  refine PT.region ?_
  refine Ops.put rfl rfl (ox_assign .nilS) (.nil) (.nil) rfl ?_
  refine Ops.nil ?_
  refine PT.sub (σ' := ⟨[(0, .val (a0))], []⟩) ⟨rfl, trivial⟩ trivial ?_
  refine PT.seq ?_
  refine PT.seq ?_
  refine PT.region ?_
  refine Ops.put rfl rfl (ox_move .tmp) (.one rfl) (.nil) rfl ?_
  refine Ops.put rfl rfl (ox_isNil (by kernel_rfl) .tmp .nilS) ((.app (.one rfl) (.nil))) (.nil) rfl ?_
  refine Ops.nil ?_
  refine PT.sub (σ' := ⟨[(0, .val (a0)), (4, _)], []⟩) ⟨rfl, rfl, trivial⟩ trivial ?_
  refine PT.condB _ rfl (fun hc1 => ?_) (fun _ => ?_)
  · have hc1e := hc1 rfl
    refine PT.sub (σ' := ⟨[], []⟩) trivial trivial ?_
    refine PT.seq ?_
    refine PT.region ?_
    refine Ops.put rfl rfl (ox_assign .nilS) (.nil) (.nil) rfl ?_
    refine Ops.nil ?_
    refine PT.sub (σ' := ⟨[(2, .nilS)], []⟩) ⟨rfl, trivial⟩ trivial ?_
    refine PT.ret ?_
    refine PT.nilArr 5 2 3 (Int) rfl (by kernel_rfl) ?_
    rw [hc1e] at hφ
    obtain ⟨_, hφ⟩ := G_some hφ
    obtain rfl := Option.some.inj hφ
    exact PT.doneX rfl (.tmp rfl .nil) rfl ⟨rfl, trivial⟩ trivial
  · skip
    refine PT.sub (σ' := ⟨[(0, .val (a0))], []⟩) ⟨rfl, trivial⟩ trivial ?_
    refine PT.skip ?_
    refine PT.seq ?_
    obtain ⟨hb2, hφ⟩ := G_some hφ
    refine PT.region ?_
    refine Ops.putO rfl rfl (ox_buildSlice_arr (id := 5) s43 z3 Parts.nil rfl (by decide)) (.nil) (.nil) rfl (by kernel_rfl) ?_
    refine Ops.put rfl rfl (ox_move .tmp) (.one rfl) (.nil) rfl ?_
    refine Ops.putK [5] rfl rfl (ox_append a43 .tmp .tmp hb2.1 hb2.2) ((.app (.one rfl) (.one rfl))) (.one rfl) rfl (by kernel_rfl) ?_
    refine Ops.put rfl rfl (ox_assign .tmp) (.one rfl) (.nil) rfl ?_
    refine Ops.nil ?_
    refine PT.sub (σ' := ⟨[(2, _)], [(5, .arr 3 ((([] : List Int) ++ a0)))]⟩) ⟨rfl, trivial⟩ ⟨rfl, trivial⟩ ?_
    refine PT.ret ?_
    obtain rfl := Option.some.inj hφ
    exact PT.doneX rfl (.tmp rfl .nil) rfl ⟨rfl, trivial⟩ trivial

/-- slices.Clone[[]mendkernel/api.Write,mendkernel/api.Write] -/
theorem c_slices_Clone___api_Write_api_Write_ {a0 : List Mk.Write} {r : ((List Mk.Write))} (hφ : slices_Clone___api_Write_api_Write_ a0 = some r) : Fn Go.Proofs.Try.prog 94 [.val a0] (.val r) := by
  unfold slices_Clone___api_Write_api_Write_ at hφ
  refine Fn.mk' Go.Proofs.Try.func94 rfl (by decide) rfl rfl rfl (fun w0 hw0 => ?_)
  refine PT.seq ?_
  refine PT.region ?_
  refine Ops.put rfl rfl (ox_assign .nilS) (.nil) (.nil) rfl ?_
  refine Ops.nil ?_
  refine PT.sub (σ' := ⟨[(0, .val (a0))], []⟩) ⟨rfl, trivial⟩ trivial ?_
  refine PT.seq ?_
  refine PT.seq ?_
  refine PT.region ?_
  refine Ops.put rfl rfl (ox_move .tmp) (.one rfl) (.nil) rfl ?_
  refine Ops.put rfl rfl (ox_isNil (by kernel_rfl) .tmp .nilS) ((.app (.one rfl) (.nil))) (.nil) rfl ?_
  refine Ops.nil ?_
  refine PT.sub (σ' := ⟨[(0, .val (a0)), (4, _)], []⟩) ⟨rfl, rfl, trivial⟩ trivial ?_
  refine PT.condB _ rfl (fun hc1 => ?_) (fun _ => ?_)
  · have hc1e := hc1 rfl
    refine PT.sub (σ' := ⟨[], []⟩) trivial trivial ?_
    refine PT.seq ?_
    refine PT.region ?_
    refine Ops.put rfl rfl (ox_assign .nilS) (.nil) (.nil) rfl ?_
    refine Ops.nil ?_
    refine PT.sub (σ' := ⟨[(2, .nilS)], []⟩) ⟨rfl, trivial⟩ trivial ?_
    refine PT.ret ?_
    refine PT.asNil 2 (Mk.Write) rfl ?_
    rw [hc1e] at hφ
    obtain ⟨_, hφ⟩ := G_some hφ
    obtain rfl := Option.some.inj hφ
    exact PT.done hw0 rfl (.tmp rfl rfl .nil) rfl
  · skip
    refine PT.sub (σ' := ⟨[(0, .val (a0))], []⟩) ⟨rfl, trivial⟩ trivial ?_
    refine PT.skip ?_
    refine PT.seq ?_
    obtain ⟨hb2, hφ⟩ := G_some hφ
    refine PT.region ?_
    refine Ops.putO rfl rfl (ox_buildSlice_arr (id := 5) s44 z50 Parts.nil rfl (by decide)) (.nil) (.nil) rfl (by kernel_rfl) ?_
    refine Ops.put rfl rfl (ox_move .tmp) (.one rfl) (.nil) rfl ?_
    refine Ops.putK [5] rfl rfl (ox_append a44 .tmp .tmp hb2.1 hb2.2) ((.app (.one rfl) (.one rfl))) (.one rfl) rfl (by kernel_rfl) ?_
    refine Ops.put rfl rfl (ox_assign .tmp) (.one rfl) (.nil) rfl ?_
    refine Ops.nil ?_
    refine PT.sub (σ' := ⟨[(2, _)], [(5, .arr 50 ((([] : List Mk.Write) ++ a0)))]⟩) ⟨rfl, trivial⟩ ⟨rfl, trivial⟩ ?_
    refine PT.ret ?_
    refine PT.freeze 5 [2] rfl ⟨rfl, trivial⟩ ?_
    obtain rfl := Option.some.inj hφ
    exact PT.done hw0 rfl (.tmp rfl rfl .nil) rfl

/-- slices.Clone[[]mendkernel/api.Write,mendkernel/api.Write] -/
theorem x_slices_Clone___api_Write_api_Write_ {a0 : List Mk.Write} {r : ((List Mk.Write))} (hφ : slices_Clone___api_Write_api_Write_ a0 = some r) : FnX Go.Proofs.Try.prog 94 [.val a0] [] (.sl 5) [(5, .arr 50 r)] [] := by
  unfold slices_Clone___api_Write_api_Write_ at hφ
  refine FnX.mk' Go.Proofs.Try.func94 rfl (by decide) rfl (fun w0 m0 => ?_)
  refine PT.seq ?_
  refine PT.region ?_
  refine Ops.put rfl rfl (ox_assign .nilS) (.nil) (.nil) rfl ?_
  refine Ops.nil ?_
  refine PT.sub (σ' := ⟨[(0, .val (a0))], []⟩) ⟨rfl, trivial⟩ trivial ?_
  refine PT.seq ?_
  refine PT.seq ?_
  refine PT.region ?_
  refine Ops.put rfl rfl (ox_move .tmp) (.one rfl) (.nil) rfl ?_
  refine Ops.put rfl rfl (ox_isNil (by kernel_rfl) .tmp .nilS) ((.app (.one rfl) (.nil))) (.nil) rfl ?_
  refine Ops.nil ?_
  refine PT.sub (σ' := ⟨[(0, .val (a0)), (4, _)], []⟩) ⟨rfl, rfl, trivial⟩ trivial ?_
  refine PT.condB _ rfl (fun hc1 => ?_) (fun _ => ?_)
  · have hc1e := hc1 rfl
    refine PT.sub (σ' := ⟨[], []⟩) trivial trivial ?_
    refine PT.seq ?_
    refine PT.region ?_
    refine Ops.put rfl rfl (ox_assign .nilS) (.nil) (.nil) rfl ?_
    refine Ops.nil ?_
    refine PT.sub (σ' := ⟨[(2, .nilS)], []⟩) ⟨rfl, trivial⟩ trivial ?_
    refine PT.ret ?_
    refine PT.nilArr 5 2 50 (Mk.Write) rfl (by kernel_rfl) ?_
    rw [hc1e] at hφ
    obtain ⟨_, hφ⟩ := G_some hφ
    obtain rfl := Option.some.inj hφ
    exact PT.doneX rfl (.tmp rfl .nil) rfl ⟨rfl, trivial⟩ trivial
  · skip
    refine PT.sub (σ' := ⟨[(0, .val (a0))], []⟩) ⟨rfl, trivial⟩ trivial ?_
    refine PT.skip ?_
    refine PT.seq ?_
    obtain ⟨hb2, hφ⟩ := G_some hφ
    refine PT.region ?_
    refine Ops.putO rfl rfl (ox_buildSlice_arr (id := 5) s44 z50 Parts.nil rfl (by decide)) (.nil) (.nil) rfl (by kernel_rfl) ?_
    refine Ops.put rfl rfl (ox_move .tmp) (.one rfl) (.nil) rfl ?_
    refine Ops.putK [5] rfl rfl (ox_append a44 .tmp .tmp hb2.1 hb2.2) ((.app (.one rfl) (.one rfl))) (.one rfl) rfl (by kernel_rfl) ?_
    refine Ops.put rfl rfl (ox_assign .tmp) (.one rfl) (.nil) rfl ?_
    refine Ops.nil ?_
    refine PT.sub (σ' := ⟨[(2, _)], [(5, .arr 50 ((([] : List Mk.Write) ++ a0)))]⟩) ⟨rfl, trivial⟩ ⟨rfl, trivial⟩ ?_
    refine PT.ret ?_
    obtain rfl := Option.some.inj hφ
    exact PT.doneX rfl (.tmp rfl .nil) rfl ⟨rfl, trivial⟩ trivial

/-- slices.Index[[]int,int] -/
theorem c_slices_Index___int_int_ {a0 : List Int} {a1 : Int} {r : Int} (hφ : slices_Index___int_int_ a0 a1 = some r) : Fn Go.Proofs.Try.prog 118 [.val a0, .val a1] (.val r) := by
  unfold slices_Index___int_int_ at hφ
  refine Fn.mk' Go.Proofs.Try.func118 rfl (by decide) rfl rfl rfl (fun w0 hw0 => ?_)
  refine PT.seq ?_
  refine PT.region ?_
  refine Ops.put rfl rfl (ox_assign .int) (.nil) (.nil) rfl ?_
  refine Ops.nil ?_
  refine PT.sub (σ' := ⟨[(0, .val (a0)), (1, .val (a1))], []⟩) ⟨rfl, rfl, trivial⟩ trivial ?_
  obtain ⟨k1, hk1, hφ⟩ := J_some hφ
  refine PT.cut (ι := Unit) (fun p => ⟨[], []⟩) (fun p => k1 () = some r) ?_ ?_
  · skip
    refine PT.seq ?_
    refine PT.region ?_
    refine Ops.put rfl rfl (ox_move .tmp) (.one rfl) (.nil) rfl ?_
    refine Ops.put rfl rfl (ox_len s43 .tmp) (.one rfl) (.nil) rfl ?_
    refine Ops.put rfl rfl (ox_move .int) (.nil) (.nil) rfl ?_
    refine Ops.nil ?_
    refine PT.sub (σ' := ⟨[(0, .val (a0)), (1, .val (a1)), (7, .val ((a0.length : Int))), (8, .val ((0 : Int)))], []⟩) ⟨rfl, rfl, rfl, rfl, trivial⟩ trivial ?_
    refine PT.block ?_
    refine PT.loop (ι := Nat × (List Int) × Int × Int × Int) (fun p => ⟨[(0, .val (p.2.1)), (1, .val (p.2.2.1)), (7, .val (p.2.2.2.1)), (8, .val (p.2.2.2.2))], []⟩) (fun p => slices_Index___int_int__l1 k1 p.1 (p.2.1) (p.2.2.1) (p.2.2.2.1) (p.2.2.2.2) = some r) (fun p => p.1) (((a0.length : Int) - (0 : Int)).toNat + 1, a0, a1, (a0.length : Int), (0 : Int)) hφ ⟨rfl, rfl, rfl, rfl, trivial⟩ trivial ?_
    rintro ⟨m2, x0_m2, x1_m2, x7_m2, x8_m2⟩ (hφ : slices_Index___int_int__l1 k1 m2 x0_m2 x1_m2 x7_m2 x8_m2 = some r)
    obtain _ | m2 := m2
    · exact (none_no hφ).elim
    rw [slices_Index___int_int__l1.eq_2] at hφ
    refine PT.sub (σ' := ⟨[(0, .val (x0_m2)), (1, .val (x1_m2)), (7, .val (x7_m2)), (8, .val (x8_m2))], []⟩) ⟨rfl, rfl, rfl, rfl, trivial⟩ trivial ?_
    refine PT.seq ?_
    refine PT.region ?_
    refine Ops.put rfl rfl (ox_lss .tmp .tmp) ((.app (.one rfl) (.one rfl))) (.nil) rfl ?_
    refine Ops.nil ?_
    refine PT.sub (σ' := ⟨[(0, .val (x0_m2)), (1, .val (x1_m2)), (7, .val (x7_m2)), (8, .val (x8_m2)), (9, .val ((decide (x8_m2 < x7_m2))))], []⟩) ⟨rfl, rfl, rfl, rfl, rfl, trivial⟩ trivial ?_
    refine PT.seq ?_
    refine PT.cond _ rfl (fun hc3 => ?_) (fun hc3 => ?_)
    · replace hφ := if_then hφ hc3
      refine PT.sub (σ' := ⟨[(0, .val (x0_m2)), (1, .val (x1_m2)), (7, .val (x7_m2)), (8, .val (x8_m2))], []⟩) ⟨rfl, rfl, rfl, rfl, trivial⟩ trivial ?_
      refine PT.skip ?_
      refine PT.seq ?_
      refine PT.block ?_
      refine PT.seq ?_
      refine PT.region ?_
      refine Ops.put rfl rfl (ox_move .tmp) (.one rfl) (.nil) rfl ?_
      refine Ops.put rfl rfl (ox_assign .tmp) (.one rfl) (.nil) rfl ?_
      refine Ops.nil ?_
      refine PT.sub (σ' := ⟨[(0, .val (x0_m2)), (1, .val (x1_m2)), (5, .val (x8_m2)), (7, .val (x7_m2)), (8, .val (x8_m2))], []⟩) ⟨rfl, rfl, rfl, rfl, rfl, trivial⟩ trivial ?_
      refine PT.seq ?_
      obtain ⟨hb4, hφ⟩ := G_some hφ
      refine PT.region ?_
      refine Ops.put rfl rfl (ox_move .tmp) (.one rfl) (.nil) rfl ?_
      refine Ops.put rfl rfl (ox_move .tmp) (.one rfl) (.nil) rfl ?_
      refine Ops.put rfl rfl (ox_move .tmp) (.one rfl) (.nil) rfl ?_
      refine Ops.put rfl rfl (ox_ix s43 .tmp .tmp hb4.1 hb4.2) ((.app (.one rfl) (.one rfl))) (.nil) rfl ?_
      refine Ops.put rfl rfl (ox_load_elem t3) (.one rfl) (.nil) rfl ?_
      refine Ops.put rfl rfl (ox_eql .tmp .tmp) ((.app (.one rfl) (.one rfl))) (.nil) rfl ?_
      refine Ops.nil ?_
      refine PT.sub (σ' := ⟨[(0, .val (x0_m2)), (1, .val (x1_m2)), (5, .val (x8_m2)), (7, .val (x7_m2)), (8, .val (x8_m2)), (16, .val ((decide (x1_m2 = (ix x0_m2 x8_m2)))))], []⟩) ⟨rfl, rfl, rfl, rfl, rfl, rfl, trivial⟩ trivial ?_
      refine PT.cond _ rfl (fun hc5 => ?_) (fun hc5 => ?_)
      · replace hφ := if_then hφ hc5
        refine PT.sub (σ' := ⟨[(5, .val (x8_m2))], []⟩) ⟨rfl, trivial⟩ trivial ?_
        refine PT.seq ?_
        refine PT.region ?_
        refine Ops.put rfl rfl (ox_move .tmp) (.one rfl) (.nil) rfl ?_
        refine Ops.put rfl rfl (ox_assign .tmp) (.one rfl) (.nil) rfl ?_
        refine Ops.nil ?_
        refine PT.sub (σ' := ⟨[(4, .val (x8_m2))], []⟩) ⟨rfl, trivial⟩ trivial ?_
        refine PT.ret ?_
        obtain rfl := Option.some.inj hφ
        exact PT.done hw0 rfl (.tmp rfl rfl .nil) rfl
      · replace hφ := if_else hφ hc5
        refine PT.sub (σ' := ⟨[(0, .val (x0_m2)), (1, .val (x1_m2)), (7, .val (x7_m2)), (8, .val (x8_m2))], []⟩) ⟨rfl, rfl, rfl, rfl, trivial⟩ trivial ?_
        refine PT.skip ?_
        obtain ⟨hb6, hφ⟩ := G_some hφ
        refine PT.region ?_
        refine Ops.put rfl rfl (ox_add .tmp .int hb6) ((.app (.one rfl) (.nil))) (.nil) rfl ?_
        refine Ops.put rfl rfl (ox_move .tmp) (.one rfl) (.nil) rfl ?_
        refine Ops.nil ?_
        refine PT.sub (σ' := ⟨[(0, .val (x0_m2)), (1, .val (x1_m2)), (7, .val (x7_m2)), (8, .val ((x8_m2 + (1 : Int))))], []⟩) ⟨rfl, rfl, rfl, rfl, trivial⟩ trivial ?_
        exact PT.next (m2, x0_m2, x1_m2, x7_m2, (x8_m2 + (1 : Int))) hφ (Nat.lt_succ_self _) ⟨rfl, rfl, rfl, rfl, trivial⟩ trivial
    · replace hφ := if_else hφ hc3
      refine PT.sub (σ' := ⟨[], []⟩) trivial trivial ?_
      refine PT.exit ?_
      exact PT.meet () hφ trivial trivial
  · rintro ⟨⟩ hφ
    subst hk1
    refine PT.sub (σ' := ⟨[], []⟩) trivial trivial ?_
    refine PT.seq ?_
    refine PT.region ?_
    refine Ops.put rfl rfl (ox_assign .int) (.nil) (.nil) rfl ?_
    refine Ops.nil ?_
    refine PT.sub (σ' := ⟨[(4, .val ((-1 : Int)))], []⟩) ⟨rfl, trivial⟩ trivial ?_
    refine PT.ret ?_
    obtain rfl := Option.some.inj hφ
    exact PT.done hw0 rfl (.tmp rfl rfl .nil) rfl

/-- slices.Contains[[]int,int] -/
theorem c_slices_Contains___int_int_ {a0 : List Int} {a1 : Int} {r : Bool} (hφ : slices_Contains___int_int_ a0 a1 = some r) : Fn Go.Proofs.Try.prog 105 [.val a0, .val a1] (.val r) := by
  unfold slices_Contains___int_int_ at hφ
  refine Fn.mk' Go.Proofs.Try.func105 rfl (by decide) rfl rfl rfl (fun w0 hw0 => ?_)
  refine PT.seq ?_
  refine PT.region ?_
  refine Ops.put rfl rfl (ox_assign .bool) (.nil) (.nil) rfl ?_
  refine Ops.nil ?_
  refine PT.sub (σ' := ⟨[(0, .val (a0)), (1, .val (a1))], []⟩) ⟨rfl, rfl, trivial⟩ trivial ?_
  refine PT.seq ?_
  obtain ⟨v1, hv1, hφ⟩ := B_some hφ
  refine PT.region ?_
  refine Ops.put rfl rfl (ox_move .tmp) (.one rfl) (.nil) rfl ?_
  refine Ops.put rfl rfl (ox_move .tmp) (.one rfl) (.nil) rfl ?_
  refine Ops.put rfl rfl (ox_call (c_slices_Index___int_int_ hv1) (.cons .tmp (.cons .tmp .nil))) ((.app (.one rfl) (.app (.one rfl) .nil))) (.nil) rfl ?_
  refine Ops.put rfl rfl (ox_geq .tmp .int) ((.app (.one rfl) (.nil))) (.nil) rfl ?_
  refine Ops.put rfl rfl (ox_assign .tmp) (.one rfl) (.nil) rfl ?_
  refine Ops.nil ?_
  refine PT.sub (σ' := ⟨[(4, .val ((decide ((0 : Int) ≤ v1))))], []⟩) ⟨rfl, trivial⟩ trivial ?_
  refine PT.ret ?_
  obtain rfl := Option.some.inj hφ
  exact PT.done hw0 rfl (.tmp rfl rfl .nil) rfl

/-- mendkernel/cell.Wrong -/
theorem c_cell_Wrong {a0 : List Int} {r : Int} (hφ : cell_Wrong a0 = some r) : Fn Go.Proofs.Try.prog 57 [.val a0] (.val r) := by
  unfold cell_Wrong at hφ
  refine Fn.mk' Go.Proofs.Try.func57 rfl (by decide) rfl rfl rfl (fun w0 hw0 => ?_)
  refine PT.seq ?_
  refine PT.region ?_
  refine Ops.put rfl rfl (ox_assign .int) (.nil) (.nil) rfl ?_
  refine Ops.nil ?_
  refine PT.sub (σ' := ⟨[(0, .val (a0))], []⟩) ⟨rfl, trivial⟩ trivial ?_
  refine PT.seq ?_
  refine PT.seq ?_
  refine PT.region ?_
  refine Ops.put rfl rfl (ox_move .tmp) (.one rfl) (.nil) rfl ?_
  refine Ops.put rfl rfl (ox_len s43 .tmp) (.one rfl) (.nil) rfl ?_
  refine Ops.put rfl rfl (ox_neq .tmp .int) ((.app (.one rfl) (.nil))) (.nil) rfl ?_
  refine Ops.nil ?_
  refine PT.sub (σ' := ⟨[(0, .val (a0)), (9, .val ((!decide ((a0.length : Int) = (11 : Int)))))], []⟩) ⟨rfl, rfl, trivial⟩ trivial ?_
  refine PT.cond _ rfl (fun hc1 => ?_) (fun hc1 => ?_)
  · replace hφ := if_then hφ hc1
    refine PT.sub (σ' := ⟨[], []⟩) trivial trivial ?_
    refine PT.seq ?_
    refine PT.region ?_
    refine Ops.put rfl rfl (ox_assign .int) (.nil) (.nil) rfl ?_
    refine Ops.nil ?_
    refine PT.sub (σ' := ⟨[(2, .val ((5 : Int)))], []⟩) ⟨rfl, trivial⟩ trivial ?_
    refine PT.ret ?_
    obtain rfl := Option.some.inj hφ
    exact PT.done hw0 rfl (.tmp rfl rfl .nil) rfl
  · replace hφ := if_else hφ hc1
    refine PT.sub (σ' := ⟨[(0, .val (a0))], []⟩) ⟨rfl, trivial⟩ trivial ?_
    refine PT.skip ?_
    refine PT.seq ?_
    refine PT.seq ?_
    obtain ⟨hb2, hφ⟩ := G_some hφ
    obtain ⟨hb3, hφ⟩ := G_some hφ
    refine PT.region ?_
    refine Ops.put rfl rfl (ox_move .tmp) (.one rfl) (.nil) rfl ?_
    refine Ops.put rfl rfl (ox_ix s43 .tmp .int hb2.1 hb2.2) ((.app (.one rfl) (.nil))) (.nil) rfl ?_
    refine Ops.put rfl rfl (ox_load_elem t3) (.one rfl) (.nil) rfl ?_
    refine Ops.put rfl rfl (ox_lss .tmp .int) ((.app (.one rfl) (.nil))) (.nil) rfl ?_
    refine Ops.put rfl rfl (ox_move .tmp) (.one rfl) (.nil) rfl ?_
    refine Ops.guard rfl rfl rfl rfl (.plain .nil) (fun hG => (ox_move .tmp)) ⟨rfl, trivial⟩ (.nil) rfl ?_
    refine Ops.guard rfl rfl rfl rfl (.cond (fun h => h) .nil) (fun hG => (ox_ix s43 .tmp .int (hb3 hG).1 (hb3 hG).2)) ⟨rfl, trivial⟩ (.nil) rfl ?_
    refine Ops.guard rfl rfl rfl rfl (.cond (fun h => h) .nil) (fun hG => (ox_load_elem t3)) ⟨rfl, trivial⟩ (.nil) rfl ?_
    refine Ops.guard rfl rfl rfl rfl (.cond (fun h => h) .nil) (fun hG => (ox_gtr .tmp .int)) ⟨rfl, trivial⟩ (.nil) rfl ?_
    refine Ops.put rfl rfl ox_pick_or (⟨rfl, rfl, trivial⟩) (.nil) rfl ?_
    refine Ops.nil ?_
    refine PT.sub (σ' := ⟨[(0, .val (a0)), (19, .val (((decide ((ix a0 (0 : Int)) < (0 : Int))) || (decide ((5 : Int) < (ix a0 (0 : Int)))))))], []⟩) ⟨rfl, rfl, trivial⟩ trivial ?_
    refine PT.cond _ rfl (fun hc4 => ?_) (fun hc4 => ?_)
    · replace hφ := if_then hφ hc4
      refine PT.sub (σ' := ⟨[], []⟩) trivial trivial ?_
      refine PT.seq ?_
      refine PT.region ?_
      refine Ops.put rfl rfl (ox_assign .int) (.nil) (.nil) rfl ?_
      refine Ops.nil ?_
      refine PT.sub (σ' := ⟨[(2, .val ((3 : Int)))], []⟩) ⟨rfl, trivial⟩ trivial ?_
      refine PT.ret ?_
      obtain rfl := Option.some.inj hφ
      exact PT.done hw0 rfl (.tmp rfl rfl .nil) rfl
    · replace hφ := if_else hφ hc4
      refine PT.sub (σ' := ⟨[(0, .val (a0))], []⟩) ⟨rfl, trivial⟩ trivial ?_
      refine PT.skip ?_
      refine PT.seq ?_
      refine PT.region ?_
      refine Ops.put rfl rfl (ox_assign .nilS) (.nil) (.nil) rfl ?_
      refine Ops.nil ?_
      refine PT.sub (σ' := ⟨[(0, .val (a0)), (3, .nilS)], []⟩) ⟨rfl, rfl, trivial⟩ trivial ?_
      obtain ⟨k5, hk5, hφ⟩ := J_some hφ
      refine PT.cut (ι := Unit) (fun p => ⟨[], []⟩) (fun p => k5 () = some r) ?_ ?_
      · skip
        refine PT.seq ?_
        refine PT.region ?_
        refine Ops.put rfl rfl (ox_move .int) (.nil) (.nil) rfl ?_
        refine Ops.nil ?_
        refine PT.sub (σ' := ⟨[(0, .val (a0)), (3, .nilS), (20, .val ((0 : Int)))], []⟩) ⟨rfl, rfl, rfl, trivial⟩ trivial ?_
        refine PT.block ?_
        refine PT.nilArr 1003 3 3 (Int) rfl (by kernel_rfl) ?_
        refine PT.loop (ι := Nat × (List Int) × Int × (List Int)) (fun p => ⟨[(0, .val (p.2.1)), (3, .sl 1003), (20, .val (p.2.2.1))], [(1003, .arr 3 (p.2.2.2))]⟩) (fun p => cell_Wrong_l1 k5 p.1 (p.2.1) (p.2.2.1) (p.2.2.2) = some r) (fun p => p.1) (((5 : Int) - (0 : Int)).toNat + 1, a0, (0 : Int), ([] : List Int)) hφ ⟨rfl, rfl, rfl, trivial⟩ ⟨rfl, trivial⟩ ?_
        rintro ⟨m6, x0_m6, x20_m6, y1003_m6⟩ (hφ : cell_Wrong_l1 k5 m6 x0_m6 x20_m6 y1003_m6 = some r)
        obtain _ | m6 := m6
        · exact (none_no hφ).elim
        rw [cell_Wrong_l1.eq_2] at hφ
        refine PT.sub (σ' := ⟨[(0, .val (x0_m6)), (3, .sl 1003), (20, .val (x20_m6))], [(1003, .arr 3 (y1003_m6))]⟩) ⟨rfl, rfl, rfl, trivial⟩ ⟨rfl, trivial⟩ ?_
        refine PT.seq ?_
        refine PT.region ?_
        refine Ops.put rfl rfl (ox_lss .tmp .int) ((.app (.one rfl) (.nil))) (.nil) rfl ?_
        refine Ops.nil ?_
        refine PT.sub (σ' := ⟨[(0, .val (x0_m6)), (3, _), (20, .val (x20_m6)), (21, .val ((decide (x20_m6 < (5 : Int)))))], [(1003, .arr 3 (y1003_m6))]⟩) ⟨rfl, rfl, rfl, rfl, trivial⟩ ⟨rfl, trivial⟩ ?_
        refine PT.seq ?_
        refine PT.cond _ rfl (fun hc7 => ?_) (fun hc7 => ?_)
        · replace hφ := if_then hφ hc7
          refine PT.sub (σ' := ⟨[(0, .val (x0_m6)), (3, _), (20, .val (x20_m6))], [(1003, .arr 3 (y1003_m6))]⟩) ⟨rfl, rfl, rfl, trivial⟩ ⟨rfl, trivial⟩ ?_
          refine PT.skip ?_
          obtain ⟨k8, hk8, hφ⟩ := J_some hφ
          refine PT.cut (ι := (List Int) × Int × (List Int)) (fun p => ⟨[(0, .val (p.1)), (3, .sl 1003), (20, .val (p.2.1))], [(1003, .arr 3 (p.2.2))]⟩) (fun p => k8 (p.1) (p.2.1) (p.2.2) = some r) ?_ ?_
          · skip
            refine PT.block ?_
            refine PT.seq ?_
            refine PT.region ?_
            refine Ops.put rfl rfl (ox_move .tmp) (.one rfl) (.nil) rfl ?_
            refine Ops.put rfl rfl (ox_assign .tmp) (.one rfl) (.nil) rfl ?_
            refine Ops.nil ?_
            refine PT.sub (σ' := ⟨[(0, .val (x0_m6)), (3, _), (4, .val (x20_m6)), (20, .val (x20_m6))], [(1003, .arr 3 (y1003_m6))]⟩) ⟨rfl, rfl, rfl, rfl, trivial⟩ ⟨rfl, trivial⟩ ?_
            refine PT.seq ?_
            obtain ⟨hb9, hφ⟩ := G_some hφ
            obtain ⟨hb10, hφ⟩ := G_some hφ
            obtain ⟨hb11, hφ⟩ := G_some hφ
            obtain ⟨hb12, hφ⟩ := G_some hφ
            obtain ⟨hb13, hφ⟩ := G_some hφ
            obtain ⟨hb14, hφ⟩ := G_some hφ
            refine PT.draw hMixed (
                Segs.cons (Step.put rfl rfl (ox_move .tmp)) ⟨.one rfl, .nil⟩ (by kernel_rfl) rfl <|
                Segs.cons (Step.put rfl rfl (ox_move .tmp)) ⟨.one rfl, .nil⟩ (by kernel_rfl) rfl <|
                Segs.cons (Step.put rfl rfl (ox_mul .int .tmp hb9)) ⟨(.app (.nil) (.one rfl)), .nil⟩ (by kernel_rfl) rfl <|
                Segs.cons (Step.put rfl rfl (ox_add .int .tmp hb10)) ⟨(.app (.nil) (.one rfl)), .nil⟩ (by kernel_rfl) rfl <|
                Segs.cons (Step.put rfl rfl (ox_ix s43 .tmp .tmp hb11.1 hb11.2)) ⟨(.app (.one rfl) (.one rfl)), .nil⟩ (by kernel_rfl) rfl <|
                Segs.cons (Step.put rfl rfl (ox_load_elem t3)) ⟨.one rfl, .nil⟩ (by kernel_rfl) rfl <|
                Segs.cons (Step.put rfl rfl (ox_move .tmp)) ⟨.one rfl, .nil⟩ (by kernel_rfl) rfl <|
                Segs.cons (Step.put rfl rfl (ox_move .tmp)) ⟨.one rfl, .nil⟩ (by kernel_rfl) rfl <|
                Segs.cons (Step.put rfl rfl (ox_mul .int .tmp hb12)) ⟨(.app (.nil) (.one rfl)), .nil⟩ (by kernel_rfl) rfl <|
                Segs.cons (Step.put rfl rfl (ox_add .int .tmp hb13)) ⟨(.app (.nil) (.one rfl)), .nil⟩ (by kernel_rfl) rfl <|
                Segs.cons (Step.put rfl rfl (ox_ix s43 .tmp .tmp hb14.1 hb14.2)) ⟨(.app (.one rfl) (.one rfl)), .nil⟩ (by kernel_rfl) rfl <|
                Segs.cons (Step.put rfl rfl (ox_load_elem t3)) ⟨.one rfl, .nil⟩ (by kernel_rfl) rfl <|
                Segs.cons (Step.put rfl rfl (ox_assign .tmp)) ⟨.one rfl, .nil⟩ (by kernel_rfl) rfl <|
                Segs.cons (Step.put rfl rfl (ox_assign .tmp)) ⟨.one rfl, .nil⟩ (by kernel_rfl) rfl <|
                Segs.nil) _ [[], [], [1], [1, 2], [0, 1, 2, 3], [0, 1, 2, 3, 4], [], [], [7], [7, 8], [6, 7, 8, 9], [6, 7, 8, 9, 10], [0, 1, 2, 3, 4, 5], [0, 1, 2, 3, 4, 5, 6, 7, 8, 9, 10, 11, 12]] rfl (by kernel_rfl) (by kernel_rfl) ?_
            refine PT.sub (σ' := ⟨[(0, .val (x0_m6)), (3, _), (4, .val (x20_m6)), (5, .val ((ix x0_m6 ((1 : Int) + ((2 : Int) * x20_m6))))), (6, .val ((ix x0_m6 ((2 : Int) + ((2 : Int) * x20_m6))))), (20, .val (x20_m6))], [(1003, .arr 3 (y1003_m6))]⟩) ⟨rfl, rfl, rfl, rfl, rfl, rfl, trivial⟩ ⟨rfl, trivial⟩ ?_
            refine PT.seq ?_
            refine PT.block ?_
            refine PT.seq ?_
            obtain ⟨hb15, hφ⟩ := G_some hφ
            refine PT.region ?_
            refine Ops.put rfl rfl (ox_move .tmp) (.one rfl) (.nil) rfl ?_
            refine Ops.put rfl rfl (ox_move .tmp) (.one rfl) (.nil) rfl ?_
            refine Ops.put rfl rfl (ox_ix s43 .tmp .int hb15.1 hb15.2) ((.app (.one rfl) (.nil))) (.nil) rfl ?_
            refine Ops.put rfl rfl (ox_load_elem t3) (.one rfl) (.nil) rfl ?_
            refine Ops.put rfl rfl (ox_geq .tmp .tmp) ((.app (.one rfl) (.one rfl))) (.nil) rfl ?_
            refine Ops.put rfl rfl (ox_assign .tmp) (.one rfl) (.nil) rfl ?_
            refine Ops.nil ?_
            refine PT.sub (σ' := ⟨[(0, .val (x0_m6)), (3, _), (5, .val ((ix x0_m6 ((1 : Int) + ((2 : Int) * x20_m6))))), (6, .val ((ix x0_m6 ((2 : Int) + ((2 : Int) * x20_m6))))), (20, .val (x20_m6)), (35, .val ((decide ((ix x0_m6 (0 : Int)) ≤ x20_m6))))], [(1003, .arr 3 (y1003_m6))]⟩) ⟨rfl, rfl, rfl, rfl, rfl, rfl, trivial⟩ ⟨rfl, trivial⟩ ?_
            refine PT.cond _ rfl (fun hc16 => ?_) (fun hc16 => ?_)
            · replace hφ := if_then hφ hc16
              refine PT.sub (σ' := ⟨[(0, .val (x0_m6)), (3, _), (20, .val (x20_m6))], [(1003, .arr 3 (y1003_m6))]⟩) ⟨rfl, rfl, rfl, trivial⟩ ⟨rfl, trivial⟩ ?_
              refine PT.exit ?_
              exact PT.meet (x0_m6, x20_m6, y1003_m6) hφ ⟨rfl, rfl, rfl, trivial⟩ ⟨rfl, trivial⟩
            · replace hφ := if_else hφ hc16
              refine PT.sub (σ' := ⟨[(0, .val (x0_m6)), (3, _), (5, .val ((ix x0_m6 ((1 : Int) + ((2 : Int) * x20_m6))))), (6, .val ((ix x0_m6 ((2 : Int) + ((2 : Int) * x20_m6))))), (20, .val (x20_m6))], [(1003, .arr 3 (y1003_m6))]⟩) ⟨rfl, rfl, rfl, rfl, rfl, trivial⟩ ⟨rfl, trivial⟩ ?_
              refine PT.seq ?_
              refine PT.region ?_
              refine Ops.put rfl rfl (ox_move .tmp) (.one rfl) (.nil) rfl ?_
              refine Ops.put rfl rfl (ox_lss .tmp .int) ((.app (.one rfl) (.nil))) (.nil) rfl ?_
              refine Ops.put rfl rfl (ox_move .tmp) (.one rfl) (.nil) rfl ?_
              refine Ops.guard rfl rfl rfl rfl (.plain .nil) (fun hG => (ox_move .tmp)) ⟨rfl, trivial⟩ (.nil) rfl ?_
              refine Ops.guard rfl rfl rfl rfl (.cond (fun h => h) .nil) (fun hG => (ox_gtr .tmp .int)) ⟨rfl, trivial⟩ (.nil) rfl ?_
              refine Ops.put rfl rfl ox_pick_or (⟨rfl, rfl, trivial⟩) (.nil) rfl ?_
              refine Ops.put rfl rfl (ox_move .tmp) (.one rfl) (.nil) rfl ?_
              refine Ops.guard rfl rfl rfl rfl (.plain .nil) (fun hG => (ox_move .tmp)) ⟨rfl, trivial⟩ (.nil) rfl ?_
              refine Ops.guard rfl rfl rfl rfl (.cond (fun h => h) .nil) (fun hG => (ox_lss .tmp .int)) ⟨rfl, trivial⟩ (.nil) rfl ?_
              refine Ops.put rfl rfl ox_pick_or (⟨rfl, rfl, trivial⟩) (.nil) rfl ?_
              refine Ops.put rfl rfl (ox_move .tmp) (.one rfl) (.nil) rfl ?_
              refine Ops.guard rfl rfl rfl rfl (.plain .nil) (fun hG => (ox_move .tmp)) ⟨rfl, trivial⟩ (.nil) rfl ?_
              refine Ops.guard rfl rfl rfl rfl (.cond (fun h => h) .nil) (fun hG => (ox_gtr .tmp .int)) ⟨rfl, trivial⟩ (.nil) rfl ?_
              refine Ops.put rfl rfl ox_pick_or (⟨rfl, rfl, trivial⟩) (.nil) rfl ?_
              refine Ops.put rfl rfl (ox_assign .tmp) (.one rfl) (.nil) rfl ?_
              refine Ops.nil ?_
              refine PT.sub (σ' := ⟨[(0, .val (x0_m6)), (3, _), (5, .val ((ix x0_m6 ((1 : Int) + ((2 : Int) * x20_m6))))), (20, .val (x20_m6)), (41, .val (((((decide ((ix x0_m6 ((1 : Int) + ((2 : Int) * x20_m6))) < (1 : Int))) || (decide ((255 : Int) < (ix x0_m6 ((1 : Int) + ((2 : Int) * x20_m6)))))) || (decide ((ix x0_m6 ((2 : Int) + ((2 : Int) * x20_m6))) < (-1073741824 : Int)))) || (decide ((1073741824 : Int) < (ix x0_m6 ((2 : Int) + ((2 : Int) * x20_m6))))))))], [(1003, .arr 3 (y1003_m6))]⟩) ⟨rfl, rfl, rfl, rfl, rfl, trivial⟩ ⟨rfl, trivial⟩ ?_
              refine PT.cond _ rfl (fun hc17 => ?_) (fun hc17 => ?_)
              · replace hφ := if_then hφ hc17
                refine PT.sub (σ' := ⟨[], []⟩) trivial trivial ?_
                refine PT.seq ?_
                refine PT.region ?_
                refine Ops.put rfl rfl (ox_assign .int) (.nil) (.nil) rfl ?_
                refine Ops.nil ?_
                refine PT.sub (σ' := ⟨[(2, .val ((3 : Int)))], []⟩) ⟨rfl, trivial⟩ trivial ?_
                refine PT.ret ?_
                obtain rfl := Option.some.inj hφ
                exact PT.done hw0 rfl (.tmp rfl rfl .nil) rfl
              · replace hφ := if_else hφ hc17
                refine PT.sub (σ' := ⟨[(0, .val (x0_m6)), (3, _), (5, .val ((ix x0_m6 ((1 : Int) + ((2 : Int) * x20_m6))))), (20, .val (x20_m6))], [(1003, .arr 3 (y1003_m6))]⟩) ⟨rfl, rfl, rfl, rfl, trivial⟩ ⟨rfl, trivial⟩ ?_
                refine PT.seq ?_
                obtain ⟨v18, hv18, hφ⟩ := B_some hφ
                refine PT.region ?_
                refine Ops.put rfl rfl (ox_move .tmp) (.one rfl) (.nil) rfl ?_
                refine Ops.put rfl rfl (ox_move .tmp) (.one rfl) (.nil) rfl ?_
                refine Ops.put rfl rfl (ox_callL (id := 1003) (c_slices_Contains___int_int_ hv18) flat_bool (.lent .tmp (.cons .tmp .nil))) ((.app (.one rfl) (.app (.one rfl) .nil))) (.one rfl) rfl ?_
                refine Ops.put rfl rfl (ox_assign .tmp) (.one rfl) (.nil) rfl ?_
                refine Ops.nil ?_
                refine PT.sub (σ' := ⟨[(0, .val (x0_m6)), (3, _), (5, .val ((ix x0_m6 ((1 : Int) + ((2 : Int) * x20_m6))))), (20, .val (x20_m6)), (56, .val (v18))], [(1003, .arr 3 (y1003_m6))]⟩) ⟨rfl, rfl, rfl, rfl, rfl, trivial⟩ ⟨rfl, trivial⟩ ?_
                refine PT.cond _ rfl (fun hc19 => ?_) (fun hc19 => ?_)
                · replace hφ := if_then hφ hc19
                  refine PT.sub (σ' := ⟨[], []⟩) trivial trivial ?_
                  refine PT.seq ?_
                  refine PT.region ?_
                  refine Ops.put rfl rfl (ox_assign .int) (.nil) (.nil) rfl ?_
                  refine Ops.nil ?_
                  refine PT.sub (σ' := ⟨[(2, .val ((7 : Int)))], []⟩) ⟨rfl, trivial⟩ trivial ?_
                  refine PT.ret ?_
                  obtain rfl := Option.some.inj hφ
                  exact PT.done hw0 rfl (.tmp rfl rfl .nil) rfl
                · replace hφ := if_else hφ hc19
                  refine PT.sub (σ' := ⟨[(0, .val (x0_m6)), (3, _), (5, .val ((ix x0_m6 ((1 : Int) + ((2 : Int) * x20_m6))))), (20, .val (x20_m6))], [(1003, .arr 3 (y1003_m6))]⟩) ⟨rfl, rfl, rfl, rfl, trivial⟩ ⟨rfl, trivial⟩ ?_
                  refine PT.skip ?_
                  obtain ⟨hb20, hφ⟩ := G_some hφ
                  refine PT.region ?_
                  refine Ops.put rfl rfl (ox_move .tmp) (.one rfl) (.nil) rfl ?_
                  refine Ops.put rfl rfl (ox_move .tmp) (.one rfl) (.nil) rfl ?_
                  refine Ops.put rfl rfl (ox_buildSlice_val s43 z3 (.cons .tmp Parts.nil) rfl (by decide)) ((.app (.one rfl) .nil)) (.nil) rfl ?_
                  refine Ops.putK [3, 60] rfl rfl (ox_append a43 .tmp .tmp hb20.1 hb20.2) ((.app (.one rfl) (.one rfl))) (.one rfl) rfl (by kernel_rfl) ?_
                  refine Ops.put rfl rfl (ox_assign .tmp) (.one rfl) (.nil) rfl ?_
                  refine Ops.nil ?_
                  refine PT.sub (σ' := ⟨[(0, .val (x0_m6)), (3, _), (20, .val (x20_m6))], [(1003, .arr 3 ((y1003_m6 ++ ([(ix x0_m6 ((1 : Int) + ((2 : Int) * x20_m6)))] : List Int))))]⟩) ⟨rfl, rfl, rfl, trivial⟩ ⟨rfl, trivial⟩ ?_
                  exact PT.meet (x0_m6, x20_m6, (y1003_m6 ++ ([(ix x0_m6 ((1 : Int) + ((2 : Int) * x20_m6)))] : List Int))) hφ ⟨rfl, rfl, rfl, trivial⟩ ⟨rfl, trivial⟩
          · rintro ⟨x0_k8, x20_k8, y1003_k8⟩ hφ
            subst hk8
            refine PT.sub (σ' := ⟨[(0, .val (x0_k8)), (3, .sl 1003), (20, .val (x20_k8))], [(1003, .arr 3 (y1003_k8))]⟩) ⟨rfl, rfl, rfl, trivial⟩ ⟨rfl, trivial⟩ ?_
            obtain ⟨hb21, hφ⟩ := G_some hφ
            refine PT.region ?_
            refine Ops.put rfl rfl (ox_add .tmp .int hb21) ((.app (.one rfl) (.nil))) (.nil) rfl ?_
            refine Ops.put rfl rfl (ox_move .tmp) (.one rfl) (.nil) rfl ?_
            refine Ops.nil ?_
            refine PT.sub (σ' := ⟨[(0, .val (x0_k8)), (3, _), (20, .val ((x20_k8 + (1 : Int))))], [(1003, .arr 3 (y1003_k8))]⟩) ⟨rfl, rfl, rfl, trivial⟩ ⟨rfl, trivial⟩ ?_
            exact PT.next (m6, x0_k8, (x20_k8 + (1 : Int)), y1003_k8) hφ (Nat.lt_succ_self _) ⟨rfl, rfl, rfl, trivial⟩ ⟨rfl, trivial⟩
        · replace hφ := if_else hφ hc7
          refine PT.sub (σ' := ⟨[], []⟩) trivial trivial ?_
          refine PT.exit ?_
          exact PT.meet () hφ trivial trivial
      · rintro ⟨⟩ hφ
        subst hk5
        refine PT.sub (σ' := ⟨[], []⟩) trivial trivial ?_
        refine PT.seq ?_
        refine PT.region ?_
        refine Ops.put rfl rfl (ox_assign .int) (.nil) (.nil) rfl ?_
        refine Ops.nil ?_
        refine PT.sub (σ' := ⟨[(2, .val ((0 : Int)))], []⟩) ⟨rfl, trivial⟩ trivial ?_
        refine PT.ret ?_
        obtain rfl := Option.some.inj hφ
        exact PT.done hw0 rfl (.tmp rfl rfl .nil) rfl

/-- mendkernel/cell.Set -/
theorem c_cell_Set {a0 : List Int} {a1 : List Mk.Write} {r : ((List Int))} (hφ : cell_Set a0 a1 = some r) : Fn Go.Proofs.Try.prog 59 [.val a0, .val a1] (.val r) := by
  unfold cell_Set at hφ
  refine Fn.mk' Go.Proofs.Try.func59 rfl (by decide) rfl rfl rfl (fun w0 hw0 => ?_)
  refine PT.seq ?_
  refine PT.region ?_
  refine Ops.put rfl rfl (ox_assign .nilS) (.nil) (.nil) rfl ?_
  refine Ops.nil ?_
  refine PT.sub (σ' := ⟨[(0, .val (a0)), (1, .val (a1))], []⟩) ⟨rfl, rfl, trivial⟩ trivial ?_
  refine PT.seq ?_
  obtain ⟨v1, hv1, hφ⟩ := B_some hφ
  refine PT.region ?_
  refine Ops.put rfl rfl (ox_move .tmp) (.one rfl) (.nil) rfl ?_
  refine Ops.putO rfl rfl (ox_callX (x_slices_Clone___int_int_ hv1) [] [(5, 9)] [(5, 9)] [] (.cons .tmp .nil) rfl rfl rfl rfl rfl rfl rfl rfl trivial rfl rfl rfl rfl) ((.app (.one rfl) .nil)) (.nil) rfl (by kernel_rfl) ?_
  refine Ops.put rfl rfl (ox_assign .tmp) (.one rfl) (.nil) rfl ?_
  refine Ops.nil ?_
  refine PT.sub (σ' := ⟨[(1, .val (a1)), (5, _)], [(9, .arr 3 (v1))]⟩) ⟨rfl, rfl, trivial⟩ ⟨rfl, trivial⟩ ?_
  obtain ⟨k2, hk2, hφ⟩ := J_some hφ
  refine PT.cut (ι := (List Int)) (fun p => ⟨[(5, .sl 9)], [(9, .arr 3 (p))]⟩) (fun p => k2 (p) = some r) ?_ ?_
  · skip
    refine PT.seq ?_
    refine PT.region ?_
    refine Ops.put rfl rfl (ox_move .tmp) (.one rfl) (.nil) rfl ?_
    refine Ops.put rfl rfl (ox_len s44 .tmp) (.one rfl) (.nil) rfl ?_
    refine Ops.put rfl rfl (ox_move .int) (.nil) (.nil) rfl ?_
    refine Ops.nil ?_
    refine PT.sub (σ' := ⟨[(5, _), (10, .val (a1)), (11, .val ((a1.length : Int))), (12, .val ((0 : Int)))], [(9, .arr 3 (v1))]⟩) ⟨rfl, rfl, rfl, rfl, trivial⟩ ⟨rfl, trivial⟩ ?_
    refine PT.block ?_
    refine PT.loop (ι := Nat × (List Mk.Write) × Int × Int × (List Int)) (fun p => ⟨[(5, .sl 9), (10, .val (p.2.1)), (11, .val (p.2.2.1)), (12, .val (p.2.2.2.1))], [(9, .arr 3 (p.2.2.2.2))]⟩) (fun p => cell_Set_l1 k2 p.1 (p.2.1) (p.2.2.1) (p.2.2.2.1) (p.2.2.2.2) = some r) (fun p => p.1) (((a1.length : Int) - (0 : Int)).toNat + 1, a1, (a1.length : Int), (0 : Int), v1) hφ ⟨rfl, rfl, rfl, rfl, trivial⟩ ⟨rfl, trivial⟩ ?_
    rintro ⟨m3, x10_m3, x11_m3, x12_m3, y9_m3⟩ (hφ : cell_Set_l1 k2 m3 x10_m3 x11_m3 x12_m3 y9_m3 = some r)
    obtain _ | m3 := m3
    · exact (none_no hφ).elim
    rw [cell_Set_l1.eq_2] at hφ
    refine PT.sub (σ' := ⟨[(5, .sl 9), (10, .val (x10_m3)), (11, .val (x11_m3)), (12, .val (x12_m3))], [(9, .arr 3 (y9_m3))]⟩) ⟨rfl, rfl, rfl, rfl, trivial⟩ ⟨rfl, trivial⟩ ?_
    refine PT.seq ?_
    refine PT.region ?_
    refine Ops.put rfl rfl (ox_lss .tmp .tmp) ((.app (.one rfl) (.one rfl))) (.nil) rfl ?_
    refine Ops.nil ?_
    refine PT.sub (σ' := ⟨[(5, _), (10, .val (x10_m3)), (11, .val (x11_m3)), (12, .val (x12_m3)), (13, .val ((decide (x12_m3 < x11_m3))))], [(9, .arr 3 (y9_m3))]⟩) ⟨rfl, rfl, rfl, rfl, rfl, trivial⟩ ⟨rfl, trivial⟩ ?_
    refine PT.seq ?_
    refine PT.cond _ rfl (fun hc4 => ?_) (fun hc4 => ?_)
    · replace hφ := if_then hφ hc4
      refine PT.sub (σ' := ⟨[(5, _), (10, .val (x10_m3)), (11, .val (x11_m3)), (12, .val (x12_m3))], [(9, .arr 3 (y9_m3))]⟩) ⟨rfl, rfl, rfl, rfl, trivial⟩ ⟨rfl, trivial⟩ ?_
      refine PT.skip ?_
      obtain ⟨k5, hk5, hφ⟩ := J_some hφ
      refine PT.cut (ι := (List Mk.Write) × Int × Int × (List Int)) (fun p => ⟨[(5, .sl 9), (10, .val (p.1)), (11, .val (p.2.1)), (12, .val (p.2.2.1))], [(9, .arr 3 (p.2.2.2))]⟩) (fun p => k5 (p.1) (p.2.1) (p.2.2.1) (p.2.2.2) = some r) ?_ ?_
      · skip
        refine PT.block ?_
        refine PT.seq ?_
        obtain ⟨hb6, hφ⟩ := G_some hφ
        refine PT.region ?_
        refine Ops.put rfl rfl (ox_ix s44 .tmp .tmp hb6.1 hb6.2) ((.app (.one rfl) (.one rfl))) (.nil) rfl ?_
        refine Ops.put rfl rfl (ox_load_elem t50) (.one rfl) (.nil) rfl ?_
        refine Ops.putO rfl rfl (ox_alloc (id := 7) z50) (.nil) (.nil) rfl (by kernel_rfl) ?_
        refine Ops.mute rfl rfl (ox_store_var t50 .tmp) ((.cons rfl (.one rfl))) (.one rfl) ?_
        refine Ops.nil ?_
        refine PT.sub (σ' := ⟨[(5, _), (7, _), (10, .val (x10_m3)), (11, .val (x11_m3)), (12, .val (x12_m3))], [(7, .var ((ix x10_m3 x12_m3)) []), (9, .arr 3 (y9_m3))]⟩) ⟨rfl, rfl, rfl, rfl, rfl, trivial⟩ ⟨rfl, rfl, trivial⟩ ?_
        refine PT.seq ?_
        refine PT.region ?_
        refine Ops.put rfl rfl (ox_fieldAddr_var Write_At f50_0) (.one rfl) (.nil) rfl ?_
        refine Ops.put rfl rfl (ox_load_fld t3) (.one rfl) (.one rfl) rfl ?_
        refine Ops.put rfl rfl (ox_geq .tmp .int) ((.app (.one rfl) (.nil))) (.nil) rfl ?_
        refine Ops.put rfl rfl (ox_move .tmp) (.one rfl) (.nil) rfl ?_
        refine Ops.guard rfl rfl rfl rfl (.plain .nil) (fun hG => (ox_fieldAddr_var Write_At f50_0)) ⟨rfl, trivial⟩ (.nil) rfl ?_
        refine Ops.guard rfl rfl rfl rfl (.cond (fun h => h) .nil) (fun hG => (ox_load_fld t3)) ⟨rfl, trivial⟩ (.one rfl) rfl ?_
        refine Ops.guard rfl rfl rfl rfl (.plain .nil) (fun hG => (ox_move .tmp)) ⟨rfl, trivial⟩ (.nil) rfl ?_
        refine Ops.guard rfl rfl rfl rfl (.cond (fun h => h) .nil) (fun hG => (ox_len_arr s43 .tmp)) ⟨rfl, trivial⟩ (.one rfl) rfl ?_
        refine Ops.guard rfl rfl rfl rfl (.cond (fun h => h) (.cond (fun h => h) .nil)) (fun hG => (ox_lss .tmp .tmp)) ⟨rfl, rfl, trivial⟩ (.nil) rfl ?_
        refine Ops.put rfl rfl ox_pick_and (⟨rfl, rfl, trivial⟩) (.nil) rfl ?_
        refine Ops.nil ?_
        refine PT.sub (σ' := ⟨[(5, _), (7, _), (10, .val (x10_m3)), (11, .val (x11_m3)), (12, .val (x12_m3)), (25, .val (((decide ((0 : Int) ≤ (ix x10_m3 x12_m3).At)) && (decide ((ix x10_m3 x12_m3).At < (y9_m3.length : Int))))))], [(7, .var ((ix x10_m3 x12_m3)) []), (9, .arr 3 (y9_m3))]⟩) ⟨rfl, rfl, rfl, rfl, rfl, rfl, trivial⟩ ⟨rfl, rfl, trivial⟩ ?_
        refine PT.cond _ rfl (fun hc7 => ?_) (fun hc7 => ?_)
        · replace hφ := if_then hφ hc7
          refine PT.sub (σ' := ⟨[(5, _), (7, _), (10, .val (x10_m3)), (11, .val (x11_m3)), (12, .val (x12_m3))], [(7, .var ((ix x10_m3 x12_m3)) []), (9, .arr 3 (y9_m3))]⟩) ⟨rfl, rfl, rfl, rfl, rfl, trivial⟩ ⟨rfl, rfl, trivial⟩ ?_
          obtain ⟨hb8, hφ⟩ := G_some hφ
          refine PT.region ?_
          refine Ops.put rfl rfl (ox_move .tmp) (.one rfl) (.nil) rfl ?_
          refine Ops.put rfl rfl (ox_fieldAddr_var Write_At f50_0) (.one rfl) (.nil) rfl ?_
          refine Ops.put rfl rfl (ox_load_fld t3) (.one rfl) (.one rfl) rfl ?_
          refine Ops.put rfl rfl (ox_fieldAddr_var Write_N f50_1) (.one rfl) (.nil) rfl ?_
          refine Ops.put rfl rfl (ox_load_fld t3) (.one rfl) (.one rfl) rfl ?_
          refine Ops.put rfl rfl (ox_index_arr s43 .tmp .tmp hb8.1 hb8.2) ((.app (.one rfl) (.one rfl))) (.one rfl) rfl ?_
          refine Ops.mute rfl rfl (ox_store_ax t3 .tmp hb8) ((.cons rfl (.one rfl))) (.one rfl) ?_
          refine Ops.nil ?_
          refine PT.sub (σ' := ⟨[(5, _), (10, .val (x10_m3)), (11, .val (x11_m3)), (12, .val (x12_m3))], [(9, .arr 3 ((up y9_m3 (ix x10_m3 x12_m3).At (ix x10_m3 x12_m3).N)))]⟩) ⟨rfl, rfl, rfl, rfl, trivial⟩ ⟨rfl, trivial⟩ ?_
          exact PT.meet (x10_m3, x11_m3, x12_m3, (up y9_m3 (ix x10_m3 x12_m3).At (ix x10_m3 x12_m3).N)) hφ ⟨rfl, rfl, rfl, rfl, trivial⟩ ⟨rfl, trivial⟩
        · replace hφ := if_else hφ hc7
          refine PT.sub (σ' := ⟨[(5, _), (10, .val (x10_m3)), (11, .val (x11_m3)), (12, .val (x12_m3))], [(9, .arr 3 (y9_m3))]⟩) ⟨rfl, rfl, rfl, rfl, trivial⟩ ⟨rfl, trivial⟩ ?_
          refine PT.skip ?_
          exact PT.meet (x10_m3, x11_m3, x12_m3, y9_m3) hφ ⟨rfl, rfl, rfl, rfl, trivial⟩ ⟨rfl, trivial⟩
      · rintro ⟨x10_k5, x11_k5, x12_k5, y9_k5⟩ hφ
        subst hk5
        refine PT.sub (σ' := ⟨[(5, .sl 9), (10, .val (x10_k5)), (11, .val (x11_k5)), (12, .val (x12_k5))], [(9, .arr 3 (y9_k5))]⟩) ⟨rfl, rfl, rfl, rfl, trivial⟩ ⟨rfl, trivial⟩ ?_
        obtain ⟨hb9, hφ⟩ := G_some hφ
        refine PT.region ?_
        refine Ops.put rfl rfl (ox_add .tmp .int hb9) ((.app (.one rfl) (.nil))) (.nil) rfl ?_
        refine Ops.put rfl rfl (ox_move .tmp) (.one rfl) (.nil) rfl ?_
        refine Ops.nil ?_
        refine PT.sub (σ' := ⟨[(5, _), (10, .val (x10_k5)), (11, .val (x11_k5)), (12, .val ((x12_k5 + (1 : Int))))], [(9, .arr 3 (y9_k5))]⟩) ⟨rfl, rfl, rfl, rfl, trivial⟩ ⟨rfl, trivial⟩ ?_
        exact PT.next (m3, x10_k5, x11_k5, (x12_k5 + (1 : Int)), y9_k5) hφ (Nat.lt_succ_self _) ⟨rfl, rfl, rfl, rfl, trivial⟩ ⟨rfl, trivial⟩
    · replace hφ := if_else hφ hc4
      refine PT.sub (σ' := ⟨[(5, _)], [(9, .arr 3 (y9_m3))]⟩) ⟨rfl, trivial⟩ ⟨rfl, trivial⟩ ?_
      refine PT.exit ?_
      exact PT.meet (y9_m3) hφ ⟨rfl, trivial⟩ ⟨rfl, trivial⟩
  · rintro y9_k2 hφ
    subst hk2
    refine PT.sub (σ' := ⟨[(5, .sl 9)], [(9, .arr 3 (y9_k2))]⟩) ⟨rfl, trivial⟩ ⟨rfl, trivial⟩ ?_
    refine PT.seq ?_
    refine PT.region ?_
    refine Ops.put rfl rfl (ox_move .tmp) (.one rfl) (.nil) rfl ?_
    refine Ops.put rfl rfl (ox_assign .tmp) (.one rfl) (.nil) rfl ?_
    refine Ops.nil ?_
    refine PT.sub (σ' := ⟨[(4, _)], [(9, .arr 3 (y9_k2))]⟩) ⟨rfl, trivial⟩ ⟨rfl, trivial⟩ ?_
    refine PT.ret ?_
    refine PT.freeze 9 [4] rfl ⟨rfl, trivial⟩ ?_
    obtain rfl := Option.some.inj hφ
    exact PT.done hw0 rfl (.tmp rfl rfl .nil) rfl

/-- slices.Reverse[[]mendkernel/api.Write,mendkernel/api.Write] -/
theorem x_slices_Reverse___api_Write_api_Write_ {a0 : List Mk.Write} {r : ((List Mk.Write))} (hφ : slices_Reverse___api_Write_api_Write_ a0 = some r) : FnX Go.Proofs.Try.prog 106 [.sl 600] [(600, .arr 50 (a0))] (.tup []) [(600, .arr 50 r)] [600] := by
  unfold slices_Reverse___api_Write_api_Write_ at hφ
  refine FnX.mk' Go.Proofs.Try.func106 rfl (by decide) rfl (fun w0 m0 => ?_)
  refine PT.seq ?_
  obtain ⟨hb1, hφ⟩ := G_some hφ
  refine PT.region ?_
  refine Ops.put rfl rfl (ox_move .tmp) (.one rfl) (.nil) rfl ?_
  refine Ops.put rfl rfl (ox_len_arr s44 .tmp) (.one rfl) (.one rfl) rfl ?_
  refine Ops.put rfl rfl (ox_sub .tmp .int hb1) ((.app (.one rfl) (.nil))) (.nil) rfl ?_
  refine Ops.put rfl rfl (ox_assign .int) (.nil) (.nil) rfl ?_
  refine Ops.put rfl rfl (ox_assign .tmp) (.one rfl) (.nil) rfl ?_
  refine Ops.nil ?_
  refine PT.sub (σ' := ⟨[(0, _), (2, .val ((0 : Int))), (3, .val (((a0.length : Int) - (1 : Int))))], [(600, .arr 50 (a0)), (1500, .pin 600 (m0.blk 600) (m0.sv 600))]⟩) ⟨rfl, rfl, rfl, trivial⟩ ⟨rfl, rfl, trivial⟩ ?_
  refine PT.block ?_
  refine PT.loop (ι := Nat × Int × Int × (List Mk.Write)) (fun p => ⟨[(0, .sl 600), (2, .val (p.2.1)), (3, .val (p.2.2.1))], [(600, .arr 50 (p.2.2.2)), (1500, .pin 600 (m0.blk 600) (m0.sv 600))]⟩) (fun p => slices_Reverse___api_Write_api_Write__l1  p.1 (p.2.1) (p.2.2.1) (p.2.2.2) = some r) (fun p => p.1) ((((a0.length : Int) - (1 : Int)) - (0 : Int)).toNat + 1, (0 : Int), ((a0.length : Int) - (1 : Int)), a0) hφ ⟨rfl, rfl, rfl, trivial⟩ ⟨rfl, rfl, trivial⟩ ?_
  rintro ⟨m2, x2_m2, x3_m2, y600_m2⟩ (hφ : slices_Reverse___api_Write_api_Write__l1  m2 x2_m2 x3_m2 y600_m2 = some r)
  obtain _ | m2 := m2
  · exact (none_no hφ).elim
  rw [slices_Reverse___api_Write_api_Write__l1.eq_2] at hφ
  refine PT.sub (σ' := ⟨[(0, .sl 600), (2, .val (x2_m2)), (3, .val (x3_m2))], [(600, .arr 50 (y600_m2)), (1500, .pin 600 (m0.blk 600) (m0.sv 600))]⟩) ⟨rfl, rfl, rfl, trivial⟩ ⟨rfl, rfl, trivial⟩ ?_
  refine PT.seq ?_
  refine PT.seq ?_
  refine PT.region ?_
  refine Ops.put rfl rfl (ox_move .tmp) (.one rfl) (.nil) rfl ?_
  refine Ops.put rfl rfl (ox_move .tmp) (.one rfl) (.nil) rfl ?_
  refine Ops.put rfl rfl (ox_lss .tmp .tmp) ((.app (.one rfl) (.one rfl))) (.nil) rfl ?_
  refine Ops.nil ?_
  refine PT.sub (σ' := ⟨[(0, _), (2, .val (x2_m2)), (3, .val (x3_m2)), (9, .val ((decide (x2_m2 < x3_m2))))], [(600, .arr 50 (y600_m2)), (1500, .pin 600 (m0.blk 600) (m0.sv 600))]⟩) ⟨rfl, rfl, rfl, rfl, trivial⟩ ⟨rfl, rfl, trivial⟩ ?_
  refine PT.cond _ rfl (fun hc3 => ?_) (fun hc3 => ?_)
  · replace hφ := if_then hφ hc3
    refine PT.sub (σ' := ⟨[(0, _), (2, .val (x2_m2)), (3, .val (x3_m2))], [(600, .arr 50 (y600_m2)), (1500, .pin 600 (m0.blk 600) (m0.sv 600))]⟩) ⟨rfl, rfl, rfl, trivial⟩ ⟨rfl, rfl, trivial⟩ ?_
    refine PT.skip ?_
    refine PT.seq ?_
    refine PT.block ?_
    obtain ⟨hb4, hφ⟩ := G_some hφ
    obtain ⟨hb5, hφ⟩ := G_some hφ
    obtain ⟨hb6, hφ⟩ := G_some hφ
    obtain ⟨hb7, hφ⟩ := G_some hφ
    refine PT.draw hMixed (
        Segs.cons (Step.put rfl rfl (ox_move .tmp)) ⟨.one rfl, .nil⟩ (by kernel_rfl) rfl <|
        Segs.cons (Step.put rfl rfl (ox_move .tmp)) ⟨.one rfl, .nil⟩ (by kernel_rfl) rfl <|
        Segs.cons (Step.put rfl rfl (ox_move .tmp)) ⟨.one rfl, .nil⟩ (by kernel_rfl) rfl <|
        Segs.cons (Step.put rfl rfl (ox_move .tmp)) ⟨.one rfl, .nil⟩ (by kernel_rfl) rfl <|
        Segs.cons (Step.put rfl rfl (ox_move .tmp)) ⟨.one rfl, .nil⟩ (by kernel_rfl) rfl <|
        Segs.cons (Step.put rfl rfl (ox_move .tmp)) ⟨.one rfl, .nil⟩ (by kernel_rfl) rfl <|
        Segs.cons (Step.put rfl rfl (ox_index_arr s44 .tmp .tmp hb4.1 hb4.2)) ⟨(.app (.one rfl) (.one rfl)), .one rfl⟩ (by kernel_rfl) rfl <|
        Segs.cons (Step.put rfl rfl (ox_load_ax t50 hb4)) ⟨.one rfl, .one rfl⟩ (by kernel_rfl) rfl <|
        Segs.cons (Step.put rfl rfl (ox_move .tmp)) ⟨.one rfl, .nil⟩ (by kernel_rfl) rfl <|
        Segs.cons (Step.put rfl rfl (ox_move .tmp)) ⟨.one rfl, .nil⟩ (by kernel_rfl) rfl <|
        Segs.cons (Step.put rfl rfl (ox_index_arr s44 .tmp .tmp hb5.1 hb5.2)) ⟨(.app (.one rfl) (.one rfl)), .one rfl⟩ (by kernel_rfl) rfl <|
        Segs.cons (Step.put rfl rfl (ox_load_ax t50 hb5)) ⟨.one rfl, .one rfl⟩ (by kernel_rfl) rfl <|
        Segs.cons (Step.put rfl rfl (ox_index_arr s44 .tmp .tmp hb6.1 hb6.2)) ⟨(.app (.one rfl) (.one rfl)), .one rfl⟩ (by kernel_rfl) rfl <|
        Segs.cons (Step.mute rfl rfl (ox_store_ax t50 .tmp hb6)) ⟨(.cons rfl (.one rfl)), .one rfl⟩ (by kernel_rfl) rfl <|
        Segs.cons (Step.put rfl rfl (ox_index_arr s44 .tmp .tmp hb7.1 hb7.2)) ⟨(.app (.one rfl) (.one rfl)), .one rfl⟩ (by kernel_rfl) rfl <|
        Segs.cons (Step.mute rfl rfl (ox_store_ax t50 .tmp hb7)) ⟨(.cons rfl (.one rfl)), .one rfl⟩ (by kernel_rfl) rfl <|
        Segs.nil) _ [[], [], [], [], [], [], [4, 5], [4, 5, 6], [], [], [8, 9], [8, 9, 10], [0, 1, 4, 5, 6, 7, 8, 9, 10, 11], [0, 1, 4, 5, 6, 7, 8, 9, 10, 11, 12], [0, 1, 2, 3, 4, 5, 6, 7, 8, 9, 10, 11, 12, 13], [0, 1, 2, 3, 4, 5, 6, 7, 8, 9, 10, 11, 12, 13, 14]] rfl (by kernel_rfl) (by kernel_rfl) ?_
    refine PT.sub (σ' := ⟨[(0, _), (2, .val (x2_m2)), (3, .val (x3_m2))], [(600, .arr 50 ((up (up y600_m2 x2_m2 (ix y600_m2 x3_m2)) x3_m2 (ix y600_m2 x2_m2)))), (1500, .pin 600 (m0.blk 600) (m0.sv 600))]⟩) ⟨rfl, rfl, rfl, trivial⟩ ⟨rfl, rfl, trivial⟩ ?_
    obtain ⟨hb8, hφ⟩ := G_some hφ
    obtain ⟨hb9, hφ⟩ := G_some hφ
    refine PT.region ?_
    refine Ops.put rfl rfl (ox_move .tmp) (.one rfl) (.nil) rfl ?_
    refine Ops.put rfl rfl (ox_add .tmp .int hb8) ((.app (.one rfl) (.nil))) (.nil) rfl ?_
    refine Ops.put rfl rfl (ox_move .tmp) (.one rfl) (.nil) rfl ?_
    refine Ops.put rfl rfl (ox_sub .tmp .int hb9) ((.app (.one rfl) (.nil))) (.nil) rfl ?_
    refine Ops.put rfl rfl (ox_assign .tmp) (.one rfl) (.nil) rfl ?_
    refine Ops.put rfl rfl (ox_assign .tmp) (.one rfl) (.nil) rfl ?_
    refine Ops.nil ?_
    refine PT.sub (σ' := ⟨[(0, _), (2, .val ((x2_m2 + (1 : Int)))), (3, .val ((x3_m2 - (1 : Int))))], [(600, .arr 50 ((up (up y600_m2 x2_m2 (ix y600_m2 x3_m2)) x3_m2 (ix y600_m2 x2_m2)))), (1500, .pin 600 (m0.blk 600) (m0.sv 600))]⟩) ⟨rfl, rfl, rfl, trivial⟩ ⟨rfl, rfl, trivial⟩ ?_
    exact PT.next (m2, (x2_m2 + (1 : Int)), (x3_m2 - (1 : Int)), (up (up y600_m2 x2_m2 (ix y600_m2 x3_m2)) x3_m2 (ix y600_m2 x2_m2))) hφ (Nat.lt_succ_self _) ⟨rfl, rfl, rfl, trivial⟩ ⟨rfl, rfl, trivial⟩
  · replace hφ := if_else hφ hc3
    refine PT.sub (σ' := ⟨[], [(600, .arr 50 (y600_m2)), (1500, .pin 600 (m0.blk 600) (m0.sv 600))]⟩) trivial ⟨rfl, rfl, trivial⟩ ?_
    refine PT.exit ?_
    obtain rfl := Option.some.inj hφ
    exact PT.doneX rfl .nil rfl ⟨rfl, trivial⟩ ⟨rfl, trivial⟩

/-- mendkernel/cell.Undo -/
theorem c_cell_Undo {a0 : List Int} {a1 : List Mk.Write} {r : ((List Mk.Write))} (hφ : cell_Undo a0 a1 = some r) : Fn Go.Proofs.Try.prog 62 [.val a0, .val a1] (.val r) := by
  unfold cell_Undo at hφ
  refine Fn.mk' Go.Proofs.Try.func62 rfl (by decide) rfl rfl rfl (fun w0 hw0 => ?_)
  refine PT.seq ?_
  refine PT.region ?_
  refine Ops.put rfl rfl (ox_assign .nilS) (.nil) (.nil) rfl ?_
  refine Ops.nil ?_
  refine PT.sub (σ' := ⟨[(0, .val (a0)), (1, .val (a1))], []⟩) ⟨rfl, rfl, trivial⟩ trivial ?_
  refine PT.seq ?_
  obtain ⟨v1, hv1, hφ⟩ := B_some hφ
  refine PT.region ?_
  refine Ops.put rfl rfl (ox_move .tmp) (.one rfl) (.nil) rfl ?_
  refine Ops.putO rfl rfl (ox_callX (x_slices_Clone___int_int_ hv1) [] [(5, 10)] [(5, 10)] [] (.cons .tmp .nil) rfl rfl rfl rfl rfl rfl rfl rfl trivial rfl rfl rfl rfl) ((.app (.one rfl) .nil)) (.nil) rfl (by kernel_rfl) ?_
  refine Ops.put rfl rfl (ox_assign .tmp) (.one rfl) (.nil) rfl ?_
  refine Ops.nil ?_
  refine PT.sub (σ' := ⟨[(1, .val (a1)), (5, _)], [(10, .arr 3 (v1))]⟩) ⟨rfl, rfl, trivial⟩ ⟨rfl, trivial⟩ ?_
  refine PT.seq ?_
  refine PT.region ?_
  refine Ops.put rfl rfl (ox_assign .nilS) (.nil) (.nil) rfl ?_
  refine Ops.nil ?_
  refine PT.sub (σ' := ⟨[(1, .val (a1)), (5, _), (6, .nilS)], [(10, .arr 3 (v1))]⟩) ⟨rfl, rfl, rfl, trivial⟩ ⟨rfl, trivial⟩ ?_
  obtain ⟨k2, hk2, hφ⟩ := J_some hφ
  refine PT.cut (ι := (List Mk.Write)) (fun p => ⟨[(6, .sl 1006)], [(1006, .arr 50 (p))]⟩) (fun p => k2 (p) = some r) ?_ ?_
  · skip
    refine PT.seq ?_
    refine PT.region ?_
    refine Ops.put rfl rfl (ox_move .tmp) (.one rfl) (.nil) rfl ?_
    refine Ops.put rfl rfl (ox_len s44 .tmp) (.one rfl) (.nil) rfl ?_
    refine Ops.put rfl rfl (ox_move .int) (.nil) (.nil) rfl ?_
    refine Ops.nil ?_
    refine PT.sub (σ' := ⟨[(5, _), (6, .nilS), (11, .val (a1)), (12, .val ((a1.length : Int))), (13, .val ((0 : Int)))], [(10, .arr 3 (v1))]⟩) ⟨rfl, rfl, rfl, rfl, rfl, trivial⟩ ⟨rfl, trivial⟩ ?_
    refine PT.block ?_
    refine PT.nilArr 1006 6 50 (Mk.Write) rfl (by kernel_rfl) ?_
    refine PT.loop (ι := Nat × (List Mk.Write) × Int × Int × (List Int) × (List Mk.Write)) (fun p => ⟨[(5, .sl 10), (6, .sl 1006), (11, .val (p.2.1)), (12, .val (p.2.2.1)), (13, .val (p.2.2.2.1))], [(10, .arr 3 (p.2.2.2.2.1)), (1006, .arr 50 (p.2.2.2.2.2))]⟩) (fun p => cell_Undo_l1 k2 p.1 (p.2.1) (p.2.2.1) (p.2.2.2.1) (p.2.2.2.2.1) (p.2.2.2.2.2) = some r) (fun p => p.1) (((a1.length : Int) - (0 : Int)).toNat + 1, a1, (a1.length : Int), (0 : Int), v1, ([] : List Mk.Write)) hφ ⟨rfl, rfl, rfl, rfl, rfl, trivial⟩ ⟨rfl, rfl, trivial⟩ ?_
    rintro ⟨m3, x11_m3, x12_m3, x13_m3, y10_m3, y1006_m3⟩ (hφ : cell_Undo_l1 k2 m3 x11_m3 x12_m3 x13_m3 y10_m3 y1006_m3 = some r)
    obtain _ | m3 := m3
    · exact (none_no hφ).elim
    rw [cell_Undo_l1.eq_2] at hφ
    refine PT.sub (σ' := ⟨[(5, .sl 10), (6, .sl 1006), (11, .val (x11_m3)), (12, .val (x12_m3)), (13, .val (x13_m3))], [(10, .arr 3 (y10_m3)), (1006, .arr 50 (y1006_m3))]⟩) ⟨rfl, rfl, rfl, rfl, rfl, trivial⟩ ⟨rfl, rfl, trivial⟩ ?_
    refine PT.seq ?_
    refine PT.region ?_
    refine Ops.put rfl rfl (ox_lss .tmp .tmp) ((.app (.one rfl) (.one rfl))) (.nil) rfl ?_
    refine Ops.nil ?_
    refine PT.sub (σ' := ⟨[(5, _), (6, _), (11, .val (x11_m3)), (12, .val (x12_m3)), (13, .val (x13_m3)), (14, .val ((decide (x13_m3 < x12_m3))))], [(10, .arr 3 (y10_m3)), (1006, .arr 50 (y1006_m3))]⟩) ⟨rfl, rfl, rfl, rfl, rfl, rfl, trivial⟩ ⟨rfl, rfl, trivial⟩ ?_
    refine PT.seq ?_
    refine PT.cond _ rfl (fun hc4 => ?_) (fun hc4 => ?_)
    · replace hφ := if_then hφ hc4
      refine PT.sub (σ' := ⟨[(5, _), (6, _), (11, .val (x11_m3)), (12, .val (x12_m3)), (13, .val (x13_m3))], [(10, .arr 3 (y10_m3)), (1006, .arr 50 (y1006_m3))]⟩) ⟨rfl, rfl, rfl, rfl, rfl, trivial⟩ ⟨rfl, rfl, trivial⟩ ?_
      refine PT.skip ?_
      obtain ⟨k5, hk5, hφ⟩ := J_some hφ
      refine PT.cut (ι := (List Mk.Write) × Int × Int × (List Int) × (List Mk.Write)) (fun p => ⟨[(5, .sl 10), (6, .sl 1006), (11, .val (p.1)), (12, .val (p.2.1)), (13, .val (p.2.2.1))], [(10, .arr 3 (p.2.2.2.1)), (1006, .arr 50 (p.2.2.2.2))]⟩) (fun p => k5 (p.1) (p.2.1) (p.2.2.1) (p.2.2.2.1) (p.2.2.2.2) = some r) ?_ ?_
      · skip
        refine PT.block ?_
        refine PT.seq ?_
        obtain ⟨hb6, hφ⟩ := G_some hφ
        refine PT.region ?_
        refine Ops.put rfl rfl (ox_ix s44 .tmp .tmp hb6.1 hb6.2) ((.app (.one rfl) (.one rfl))) (.nil) rfl ?_
        refine Ops.put rfl rfl (ox_load_elem t50) (.one rfl) (.nil) rfl ?_
        refine Ops.putO rfl rfl (ox_alloc (id := 8) z50) (.nil) (.nil) rfl (by kernel_rfl) ?_
        refine Ops.mute rfl rfl (ox_store_var t50 .tmp) ((.cons rfl (.one rfl))) (.one rfl) ?_
        refine Ops.nil ?_
        refine PT.sub (σ' := ⟨[(5, _), (6, _), (8, _), (11, .val (x11_m3)), (12, .val (x12_m3)), (13, .val (x13_m3))], [(8, .var ((ix x11_m3 x13_m3)) []), (10, .arr 3 (y10_m3)), (1006, .arr 50 (y1006_m3))]⟩) ⟨rfl, rfl, rfl, rfl, rfl, rfl, trivial⟩ ⟨rfl, rfl, rfl, trivial⟩ ?_
        refine PT.seq ?_
        refine PT.seq ?_
        refine PT.region ?_
        refine Ops.put rfl rfl (ox_fieldAddr_var Write_At f50_0) (.one rfl) (.nil) rfl ?_
        refine Ops.put rfl rfl (ox_load_fld t3) (.one rfl) (.one rfl) rfl ?_
        refine Ops.put rfl rfl (ox_lss .tmp .int) ((.app (.one rfl) (.nil))) (.nil) rfl ?_
        refine Ops.put rfl rfl (ox_move .tmp) (.one rfl) (.nil) rfl ?_
        refine Ops.guard rfl rfl rfl rfl (.plain .nil) (fun hG => (ox_fieldAddr_var Write_At f50_0)) ⟨rfl, trivial⟩ (.nil) rfl ?_
        refine Ops.guard rfl rfl rfl rfl (.cond (fun h => h) .nil) (fun hG => (ox_load_fld t3)) ⟨rfl, trivial⟩ (.one rfl) rfl ?_
        refine Ops.guard rfl rfl rfl rfl (.plain .nil) (fun hG => (ox_move .tmp)) ⟨rfl, trivial⟩ (.nil) rfl ?_
        refine Ops.guard rfl rfl rfl rfl (.cond (fun h => h) .nil) (fun hG => (ox_len_arr s43 .tmp)) ⟨rfl, trivial⟩ (.one rfl) rfl ?_
        refine Ops.guard rfl rfl rfl rfl (.cond (fun h => h) (.cond (fun h => h) .nil)) (fun hG => (ox_geq .tmp .tmp)) ⟨rfl, rfl, trivial⟩ (.nil) rfl ?_
        refine Ops.put rfl rfl ox_pick_or (⟨rfl, rfl, trivial⟩) (.nil) rfl ?_
        refine Ops.nil ?_
        refine PT.sub (σ' := ⟨[(5, _), (6, _), (8, _), (11, .val (x11_m3)), (12, .val (x12_m3)), (13, .val (x13_m3)), (26, .val (((decide ((ix x11_m3 x13_m3).At < (0 : Int))) || (decide ((y10_m3.length : Int) ≤ (ix x11_m3 x13_m3).At)))))], [(8, .var ((ix x11_m3 x13_m3)) []), (10, .arr 3 (y10_m3)), (1006, .arr 50 (y1006_m3))]⟩) ⟨rfl, rfl, rfl, rfl, rfl, rfl, rfl, trivial⟩ ⟨rfl, rfl, rfl, trivial⟩ ?_
        refine PT.cond _ rfl (fun hc7 => ?_) (fun hc7 => ?_)
        · replace hφ := if_then hφ hc7
          refine PT.sub (σ' := ⟨[(5, _), (6, _), (11, .val (x11_m3)), (12, .val (x12_m3)), (13, .val (x13_m3))], [(10, .arr 3 (y10_m3)), (1006, .arr 50 (y1006_m3))]⟩) ⟨rfl, rfl, rfl, rfl, rfl, trivial⟩ ⟨rfl, rfl, trivial⟩ ?_
          refine PT.exit ?_
          exact PT.meet (x11_m3, x12_m3, x13_m3, y10_m3, y1006_m3) hφ ⟨rfl, rfl, rfl, rfl, rfl, trivial⟩ ⟨rfl, rfl, trivial⟩
        · replace hφ := if_else hφ hc7
          refine PT.sub (σ' := ⟨[(5, _), (6, _), (8, _), (11, .val (x11_m3)), (12, .val (x12_m3)), (13, .val (x13_m3))], [(8, .var ((ix x11_m3 x13_m3)) []), (10, .arr 3 (y10_m3)), (1006, .arr 50 (y1006_m3))]⟩) ⟨rfl, rfl, rfl, rfl, rfl, rfl, trivial⟩ ⟨rfl, rfl, rfl, trivial⟩ ?_
          refine PT.skip ?_
          refine PT.seq ?_
          obtain ⟨hb8, hφ⟩ := G_some hφ
          obtain ⟨hb9, hφ⟩ := G_some hφ
          refine PT.draw hMixed (
              Segs.cons (Step.put rfl rfl (ox_move .tmp)) ⟨.one rfl, .nil⟩ (by kernel_rfl) rfl <|
              Segs.cons (Step.put rfl rfl (ox_fieldAddr_var Write_At f50_0)) ⟨.one rfl, .nil⟩ (by kernel_rfl) rfl <|
              Segs.cons (Step.put rfl rfl (ox_load_fld t3)) ⟨.one rfl, .one rfl⟩ (by kernel_rfl) rfl <|
              Segs.cons (Step.put rfl rfl (ox_move .tmp)) ⟨.one rfl, .nil⟩ (by kernel_rfl) rfl <|
              Segs.cons (Step.put rfl rfl (ox_fieldAddr_var Write_At f50_0)) ⟨.one rfl, .nil⟩ (by kernel_rfl) rfl <|
              Segs.cons (Step.put rfl rfl (ox_load_fld t3)) ⟨.one rfl, .one rfl⟩ (by kernel_rfl) rfl <|
              Segs.cons (Step.put rfl rfl (ox_index_arr s43 .tmp .tmp hb8.1 hb8.2)) ⟨(.app (.one rfl) (.one rfl)), .one rfl⟩ (by kernel_rfl) rfl <|
              Segs.cons (Step.put rfl rfl (ox_load_ax t3 hb8)) ⟨.one rfl, .one rfl⟩ (by kernel_rfl) rfl <|
              Segs.cons (Step.put rfl rfl (ox_buildB z50 u50 rfl (.cons Write_At f50_0 .tmp (.cons Write_N f50_1 .tmp Bld.nil)))) ⟨(.app (.one rfl) (.app (.one rfl) .nil)), .nil⟩ (by kernel_rfl) rfl <|
              Segs.cons (Step.put rfl rfl (ox_buildSlice_val s44 z50 (.cons .tmp Parts.nil) rfl (by decide))) ⟨(.app (.one rfl) .nil), .nil⟩ (by kernel_rfl) rfl <|
              Segs.cons (Step.putK [6, 27] rfl rfl (ox_append a44 .tmp .tmp hb9.1 hb9.2)) ⟨(.app (.one rfl) (.one rfl)), .one rfl⟩ (by kernel_rfl) rfl <|
              Segs.cons (Step.put rfl rfl (ox_assign .tmp)) ⟨.one rfl, .nil⟩ (by kernel_rfl) rfl <|
              Segs.nil) _ [[], [], [1], [], [], [4], [3, 4, 5], [3, 4, 5, 6], [1, 2, 3, 4, 5, 6, 7], [1, 2, 3, 4, 5, 6, 7, 8], [0, 1, 2, 3, 4, 5, 6, 7, 8, 9], [0, 1, 2, 3, 4, 5, 6, 7, 8, 9, 10]] rfl (by kernel_rfl) (by kernel_rfl) ?_
          refine PT.sub (σ' := ⟨[(5, _), (6, _), (8, _), (11, .val (x11_m3)), (12, .val (x12_m3)), (13, .val (x13_m3))], [(8, .var ((ix x11_m3 x13_m3)) []), (10, .arr 3 (y10_m3)), (1006, .arr 50 ((y1006_m3 ++ ([({ At := (ix x11_m3 x13_m3).At, N := (ix y10_m3 (ix x11_m3 x13_m3).At) } : Mk.Write)] : List Mk.Write))))]⟩) ⟨rfl, rfl, rfl, rfl, rfl, rfl, trivial⟩ ⟨rfl, rfl, rfl, trivial⟩ ?_
          obtain ⟨hb10, hφ⟩ := G_some hφ
          refine PT.region ?_
          refine Ops.put rfl rfl (ox_move .tmp) (.one rfl) (.nil) rfl ?_
          refine Ops.put rfl rfl (ox_fieldAddr_var Write_At f50_0) (.one rfl) (.nil) rfl ?_
          refine Ops.put rfl rfl (ox_load_fld t3) (.one rfl) (.one rfl) rfl ?_
          refine Ops.put rfl rfl (ox_fieldAddr_var Write_N f50_1) (.one rfl) (.nil) rfl ?_
          refine Ops.put rfl rfl (ox_load_fld t3) (.one rfl) (.one rfl) rfl ?_
          refine Ops.put rfl rfl (ox_index_arr s43 .tmp .tmp hb10.1 hb10.2) ((.app (.one rfl) (.one rfl))) (.one rfl) rfl ?_
          refine Ops.mute rfl rfl (ox_store_ax t3 .tmp hb10) ((.cons rfl (.one rfl))) (.one rfl) ?_
          refine Ops.nil ?_
          refine PT.sub (σ' := ⟨[(5, _), (6, _), (11, .val (x11_m3)), (12, .val (x12_m3)), (13, .val (x13_m3))], [(10, .arr 3 ((up y10_m3 (ix x11_m3 x13_m3).At (ix x11_m3 x13_m3).N))), (1006, .arr 50 ((y1006_m3 ++ ([({ At := (ix x11_m3 x13_m3).At, N := (ix y10_m3 (ix x11_m3 x13_m3).At) } : Mk.Write)] : List Mk.Write))))]⟩) ⟨rfl, rfl, rfl, rfl, rfl, trivial⟩ ⟨rfl, rfl, trivial⟩ ?_
          exact PT.meet (x11_m3, x12_m3, x13_m3, (up y10_m3 (ix x11_m3 x13_m3).At (ix x11_m3 x13_m3).N), (y1006_m3 ++ ([({ At := (ix x11_m3 x13_m3).At, N := (ix y10_m3 (ix x11_m3 x13_m3).At) } : Mk.Write)] : List Mk.Write))) hφ ⟨rfl, rfl, rfl, rfl, rfl, trivial⟩ ⟨rfl, rfl, trivial⟩
      · rintro ⟨x11_k5, x12_k5, x13_k5, y10_k5, y1006_k5⟩ hφ
        subst hk5
        refine PT.sub (σ' := ⟨[(5, .sl 10), (6, .sl 1006), (11, .val (x11_k5)), (12, .val (x12_k5)), (13, .val (x13_k5))], [(10, .arr 3 (y10_k5)), (1006, .arr 50 (y1006_k5))]⟩) ⟨rfl, rfl, rfl, rfl, rfl, trivial⟩ ⟨rfl, rfl, trivial⟩ ?_
        obtain ⟨hb11, hφ⟩ := G_some hφ
        refine PT.region ?_
        refine Ops.put rfl rfl (ox_add .tmp .int hb11) ((.app (.one rfl) (.nil))) (.nil) rfl ?_
        refine Ops.put rfl rfl (ox_move .tmp) (.one rfl) (.nil) rfl ?_
        refine Ops.nil ?_
        refine PT.sub (σ' := ⟨[(5, _), (6, _), (11, .val (x11_k5)), (12, .val (x12_k5)), (13, .val ((x13_k5 + (1 : Int))))], [(10, .arr 3 (y10_k5)), (1006, .arr 50 (y1006_k5))]⟩) ⟨rfl, rfl, rfl, rfl, rfl, trivial⟩ ⟨rfl, rfl, trivial⟩ ?_
        exact PT.next (m3, x11_k5, x12_k5, (x13_k5 + (1 : Int)), y10_k5, y1006_k5) hφ (Nat.lt_succ_self _) ⟨rfl, rfl, rfl, rfl, rfl, trivial⟩ ⟨rfl, rfl, trivial⟩
    · replace hφ := if_else hφ hc4
      refine PT.sub (σ' := ⟨[(6, _)], [(1006, .arr 50 (y1006_m3))]⟩) ⟨rfl, trivial⟩ ⟨rfl, trivial⟩ ?_
      refine PT.exit ?_
      exact PT.meet (y1006_m3) hφ ⟨rfl, trivial⟩ ⟨rfl, trivial⟩
  · rintro y1006_k2 hφ
    subst hk2
    refine PT.sub (σ' := ⟨[(6, .sl 1006)], [(1006, .arr 50 (y1006_k2))]⟩) ⟨rfl, trivial⟩ ⟨rfl, trivial⟩ ?_
    refine PT.seq ?_
    obtain ⟨v12, hv12, hφ⟩ := B_some hφ
    refine PT.region ?_
    refine Ops.put rfl rfl (ox_move .tmp) (.one rfl) (.nil) rfl ?_
    refine Ops.putO rfl rfl (ox_callX (x_slices_Reverse___api_Write_api_Write_ hv12) [(600, 1006)] [(600, 1006)] [] [] (.cons .tmp .nil) rfl rfl rfl rfl rfl rfl rfl rfl ⟨rfl, trivial⟩ rfl rfl rfl rfl) ((.app (.one rfl) .nil)) ((.cons rfl .nil)) rfl (by kernel_rfl) ?_
    refine Ops.nil ?_
    refine PT.sub (σ' := ⟨[(6, _)], [(1006, .arr 50 (v12))]⟩) ⟨rfl, trivial⟩ ⟨rfl, trivial⟩ ?_
    refine PT.seq ?_
    refine PT.region ?_
    refine Ops.put rfl rfl (ox_move .tmp) (.one rfl) (.nil) rfl ?_
    refine Ops.put rfl rfl (ox_assign .tmp) (.one rfl) (.nil) rfl ?_
    refine Ops.nil ?_
    refine PT.sub (σ' := ⟨[(4, _)], [(1006, .arr 50 (v12))]⟩) ⟨rfl, trivial⟩ ⟨rfl, trivial⟩ ?_
    refine PT.ret ?_
    refine PT.freeze 1006 [4] rfl ⟨rfl, trivial⟩ ?_
    obtain rfl := Option.some.inj hφ
    exact PT.done hw0 rfl (.tmp rfl rfl .nil) rfl

/-- mendkernel/cell.Undo -/
theorem x_cell_Undo {a0 : List Int} {a1 : List Mk.Write} {r : ((List Mk.Write))} (hφ : cell_Undo a0 a1 = some r) : FnX Go.Proofs.Try.prog 62 [.val a0, .val a1] [] (.sl 1006) [(1006, .arr 50 r)] [] := by
  unfold cell_Undo at hφ
  refine FnX.mk' Go.Proofs.Try.func62 rfl (by decide) rfl (fun w0 m0 => ?_)
  refine PT.seq ?_
  refine PT.region ?_
  refine Ops.put rfl rfl (ox_assign .nilS) (.nil) (.nil) rfl ?_
  refine Ops.nil ?_
  refine PT.sub (σ' := ⟨[(0, .val (a0)), (1, .val (a1))], []⟩) ⟨rfl, rfl, trivial⟩ trivial ?_
  refine PT.seq ?_
  obtain ⟨v1, hv1, hφ⟩ := B_some hφ
  refine PT.region ?_
  refine Ops.put rfl rfl (ox_move .tmp) (.one rfl) (.nil) rfl ?_
  refine Ops.putO rfl rfl (ox_callX (x_slices_Clone___int_int_ hv1) [] [(5, 10)] [(5, 10)] [] (.cons .tmp .nil) rfl rfl rfl rfl rfl rfl rfl rfl trivial rfl rfl rfl rfl) ((.app (.one rfl) .nil)) (.nil) rfl (by kernel_rfl) ?_
  refine Ops.put rfl rfl (ox_assign .tmp) (.one rfl) (.nil) rfl ?_
  refine Ops.nil ?_
  refine PT.sub (σ' := ⟨[(1, .val (a1)), (5, _)], [(10, .arr 3 (v1))]⟩) ⟨rfl, rfl, trivial⟩ ⟨rfl, trivial⟩ ?_
  refine PT.seq ?_
  refine PT.region ?_
  refine Ops.put rfl rfl (ox_assign .nilS) (.nil) (.nil) rfl ?_
  refine Ops.nil ?_
  refine PT.sub (σ' := ⟨[(1, .val (a1)), (5, _), (6, .nilS)], [(10, .arr 3 (v1))]⟩) ⟨rfl, rfl, rfl, trivial⟩ ⟨rfl, trivial⟩ ?_
  obtain ⟨k2, hk2, hφ⟩ := J_some hφ
  refine PT.cut (ι := (List Mk.Write)) (fun p => ⟨[(6, .sl 1006)], [(1006, .arr 50 (p))]⟩) (fun p => k2 (p) = some r) ?_ ?_
  · skip
    refine PT.seq ?_
    refine PT.region ?_
    refine Ops.put rfl rfl (ox_move .tmp) (.one rfl) (.nil) rfl ?_
    refine Ops.put rfl rfl (ox_len s44 .tmp) (.one rfl) (.nil) rfl ?_
    refine Ops.put rfl rfl (ox_move .int) (.nil) (.nil) rfl ?_
    refine Ops.nil ?_
    refine PT.sub (σ' := ⟨[(5, _), (6, .nilS), (11, .val (a1)), (12, .val ((a1.length : Int))), (13, .val ((0 : Int)))], [(10, .arr 3 (v1))]⟩) ⟨rfl, rfl, rfl, rfl, rfl, trivial⟩ ⟨rfl, trivial⟩ ?_
    refine PT.block ?_
    refine PT.nilArr 1006 6 50 (Mk.Write) rfl (by kernel_rfl) ?_
    refine PT.loop (ι := Nat × (List Mk.Write) × Int × Int × (List Int) × (List Mk.Write)) (fun p => ⟨[(5, .sl 10), (6, .sl 1006), (11, .val (p.2.1)), (12, .val (p.2.2.1)), (13, .val (p.2.2.2.1))], [(10, .arr 3 (p.2.2.2.2.1)), (1006, .arr 50 (p.2.2.2.2.2))]⟩) (fun p => cell_Undo_l1 k2 p.1 (p.2.1) (p.2.2.1) (p.2.2.2.1) (p.2.2.2.2.1) (p.2.2.2.2.2) = some r) (fun p => p.1) (((a1.length : Int) - (0 : Int)).toNat + 1, a1, (a1.length : Int), (0 : Int), v1, ([] : List Mk.Write)) hφ ⟨rfl, rfl, rfl, rfl, rfl, trivial⟩ ⟨rfl, rfl, trivial⟩ ?_
    rintro ⟨m3, x11_m3, x12_m3, x13_m3, y10_m3, y1006_m3⟩ (hφ : cell_Undo_l1 k2 m3 x11_m3 x12_m3 x13_m3 y10_m3 y1006_m3 = some r)
    obtain _ | m3 := m3
    · exact (none_no hφ).elim
    rw [cell_Undo_l1.eq_2] at hφ
    refine PT.sub (σ' := ⟨[(5, .sl 10), (6, .sl 1006), (11, .val (x11_m3)), (12, .val (x12_m3)), (13, .val (x13_m3))], [(10, .arr 3 (y10_m3)), (1006, .arr 50 (y1006_m3))]⟩) ⟨rfl, rfl, rfl, rfl, rfl, trivial⟩ ⟨rfl, rfl, trivial⟩ ?_
    refine PT.seq ?_
    refine PT.region ?_
    refine Ops.put rfl rfl (ox_lss .tmp .tmp) ((.app (.one rfl) (.one rfl))) (.nil) rfl ?_
    refine Ops.nil ?_
    refine PT.sub (σ' := ⟨[(5, _), (6, _), (11, .val (x11_m3)), (12, .val (x12_m3)), (13, .val (x13_m3)), (14, .val ((decide (x13_m3 < x12_m3))))], [(10, .arr 3 (y10_m3)), (1006, .arr 50 (y1006_m3))]⟩) ⟨rfl, rfl, rfl, rfl, rfl, rfl, trivial⟩ ⟨rfl, rfl, trivial⟩ ?_
    refine PT.seq ?_
    refine PT.cond _ rfl (fun hc4 => ?_) (fun hc4 => ?_)
    · replace hφ := if_then hφ hc4
      refine PT.sub (σ' := ⟨[(5, _), (6, _), (11, .val (x11_m3)), (12, .val (x12_m3)), (13, .val (x13_m3))], [(10, .arr 3 (y10_m3)), (1006, .arr 50 (y1006_m3))]⟩) ⟨rfl, rfl, rfl, rfl, rfl, trivial⟩ ⟨rfl, rfl, trivial⟩ ?_
      refine PT.skip ?_
      obtain ⟨k5, hk5, hφ⟩ := J_some hφ
      refine PT.cut (ι := (List Mk.Write) × Int × Int × (List Int) × (List Mk.Write)) (fun p => ⟨[(5, .sl 10), (6, .sl 1006), (11, .val (p.1)), (12, .val (p.2.1)), (13, .val (p.2.2.1))], [(10, .arr 3 (p.2.2.2.1)), (1006, .arr 50 (p.2.2.2.2))]⟩) (fun p => k5 (p.1) (p.2.1) (p.2.2.1) (p.2.2.2.1) (p.2.2.2.2) = some r) ?_ ?_
      · skip
        refine PT.block ?_
        refine PT.seq ?_
        obtain ⟨hb6, hφ⟩ := G_some hφ
        refine PT.region ?_
        refine Ops.put rfl rfl (ox_ix s44 .tmp .tmp hb6.1 hb6.2) ((.app (.one rfl) (.one rfl))) (.nil) rfl ?_
        refine Ops.put rfl rfl (ox_load_elem t50) (.one rfl) (.nil) rfl ?_
        refine Ops.putO rfl rfl (ox_alloc (id := 8) z50) (.nil) (.nil) rfl (by kernel_rfl) ?_
        refine Ops.mute rfl rfl (ox_store_var t50 .tmp) ((.cons rfl (.one rfl))) (.one rfl) ?_
        refine Ops.nil ?_
        refine PT.sub (σ' := ⟨[(5, _), (6, _), (8, _), (11, .val (x11_m3)), (12, .val (x12_m3)), (13, .val (x13_m3))], [(8, .var ((ix x11_m3 x13_m3)) []), (10, .arr 3 (y10_m3)), (1006, .arr 50 (y1006_m3))]⟩) ⟨rfl, rfl, rfl, rfl, rfl, rfl, trivial⟩ ⟨rfl, rfl, rfl, trivial⟩ ?_
        refine PT.seq ?_
        refine PT.seq ?_
        refine PT.region ?_
        refine Ops.put rfl rfl (ox_fieldAddr_var Write_At f50_0) (.one rfl) (.nil) rfl ?_
        refine Ops.put rfl rfl (ox_load_fld t3) (.one rfl) (.one rfl) rfl ?_
        refine Ops.put rfl rfl (ox_lss .tmp .int) ((.app (.one rfl) (.nil))) (.nil) rfl ?_
        refine Ops.put rfl rfl (ox_move .tmp) (.one rfl) (.nil) rfl ?_
        refine Ops.guard rfl rfl rfl rfl (.plain .nil) (fun hG => (ox_fieldAddr_var Write_At f50_0)) ⟨rfl, trivial⟩ (.nil) rfl ?_
        refine Ops.guard rfl rfl rfl rfl (.cond (fun h => h) .nil) (fun hG => (ox_load_fld t3)) ⟨rfl, trivial⟩ (.one rfl) rfl ?_
        refine Ops.guard rfl rfl rfl rfl (.plain .nil) (fun hG => (ox_move .tmp)) ⟨rfl, trivial⟩ (.nil) rfl ?_
        refine Ops.guard rfl rfl rfl rfl (.cond (fun h => h) .nil) (fun hG => (ox_len_arr s43 .tmp)) ⟨rfl, trivial⟩ (.one rfl) rfl ?_
        refine Ops.guard rfl rfl rfl rfl (.cond (fun h => h) (.cond (fun h => h) .nil)) (fun hG => (ox_geq .tmp .tmp)) ⟨rfl, rfl, trivial⟩ (.nil) rfl ?_
        refine Ops.put rfl rfl ox_pick_or (⟨rfl, rfl, trivial⟩) (.nil) rfl ?_
        refine Ops.nil ?_
        refine PT.sub (σ' := ⟨[(5, _), (6, _), (8, _), (11, .val (x11_m3)), (12, .val (x12_m3)), (13, .val (x13_m3)), (26, .val (((decide ((ix x11_m3 x13_m3).At < (0 : Int))) || (decide ((y10_m3.length : Int) ≤ (ix x11_m3 x13_m3).At)))))], [(8, .var ((ix x11_m3 x13_m3)) []), (10, .arr 3 (y10_m3)), (1006, .arr 50 (y1006_m3))]⟩) ⟨rfl, rfl, rfl, rfl, rfl, rfl, rfl, trivial⟩ ⟨rfl, rfl, rfl, trivial⟩ ?_
        refine PT.cond _ rfl (fun hc7 => ?_) (fun hc7 => ?_)
        · replace hφ := if_then hφ hc7
          refine PT.sub (σ' := ⟨[(5, _), (6, _), (11, .val (x11_m3)), (12, .val (x12_m3)), (13, .val (x13_m3))], [(10, .arr 3 (y10_m3)), (1006, .arr 50 (y1006_m3))]⟩) ⟨rfl, rfl, rfl, rfl, rfl, trivial⟩ ⟨rfl, rfl, trivial⟩ ?_
          refine PT.exit ?_
          exact PT.meet (x11_m3, x12_m3, x13_m3, y10_m3, y1006_m3) hφ ⟨rfl, rfl, rfl, rfl, rfl, trivial⟩ ⟨rfl, rfl, trivial⟩
        · replace hφ := if_else hφ hc7
          refine PT.sub (σ' := ⟨[(5, _), (6, _), (8, _), (11, .val (x11_m3)), (12, .val (x12_m3)), (13, .val (x13_m3))], [(8, .var ((ix x11_m3 x13_m3)) []), (10, .arr 3 (y10_m3)), (1006, .arr 50 (y1006_m3))]⟩) ⟨rfl, rfl, rfl, rfl, rfl, rfl, trivial⟩ ⟨rfl, rfl, rfl, trivial⟩ ?_
          refine PT.skip ?_
          refine PT.seq ?_
          obtain ⟨hb8, hφ⟩ := G_some hφ
          obtain ⟨hb9, hφ⟩ := G_some hφ
          refine PT.draw hMixed (
              Segs.cons (Step.put rfl rfl (ox_move .tmp)) ⟨.one rfl, .nil⟩ (by kernel_rfl) rfl <|
              Segs.cons (Step.put rfl rfl (ox_fieldAddr_var Write_At f50_0)) ⟨.one rfl, .nil⟩ (by kernel_rfl) rfl <|
              Segs.cons (Step.put rfl rfl (ox_load_fld t3)) ⟨.one rfl, .one rfl⟩ (by kernel_rfl) rfl <|
              Segs.cons (Step.put rfl rfl (ox_move .tmp)) ⟨.one rfl, .nil⟩ (by kernel_rfl) rfl <|
              Segs.cons (Step.put rfl rfl (ox_fieldAddr_var Write_At f50_0)) ⟨.one rfl, .nil⟩ (by kernel_rfl) rfl <|
              Segs.cons (Step.put rfl rfl (ox_load_fld t3)) ⟨.one rfl, .one rfl⟩ (by kernel_rfl) rfl <|
              Segs.cons (Step.put rfl rfl (ox_index_arr s43 .tmp .tmp hb8.1 hb8.2)) ⟨(.app (.one rfl) (.one rfl)), .one rfl⟩ (by kernel_rfl) rfl <|
              Segs.cons (Step.put rfl rfl (ox_load_ax t3 hb8)) ⟨.one rfl, .one rfl⟩ (by kernel_rfl) rfl <|
              Segs.cons (Step.put rfl rfl (ox_buildB z50 u50 rfl (.cons Write_At f50_0 .tmp (.cons Write_N f50_1 .tmp Bld.nil)))) ⟨(.app (.one rfl) (.app (.one rfl) .nil)), .nil⟩ (by kernel_rfl) rfl <|
              Segs.cons (Step.put rfl rfl (ox_buildSlice_val s44 z50 (.cons .tmp Parts.nil) rfl (by decide))) ⟨(.app (.one rfl) .nil), .nil⟩ (by kernel_rfl) rfl <|
              Segs.cons (Step.putK [6, 27] rfl rfl (ox_append a44 .tmp .tmp hb9.1 hb9.2)) ⟨(.app (.one rfl) (.one rfl)), .one rfl⟩ (by kernel_rfl) rfl <|
              Segs.cons (Step.put rfl rfl (ox_assign .tmp)) ⟨.one rfl, .nil⟩ (by kernel_rfl) rfl <|
              Segs.nil) _ [[], [], [1], [], [], [4], [3, 4, 5], [3, 4, 5, 6], [1, 2, 3, 4, 5, 6, 7], [1, 2, 3, 4, 5, 6, 7, 8], [0, 1, 2, 3, 4, 5, 6, 7, 8, 9], [0, 1, 2, 3, 4, 5, 6, 7, 8, 9, 10]] rfl (by kernel_rfl) (by kernel_rfl) ?_
          refine PT.sub (σ' := ⟨[(5, _), (6, _), (8, _), (11, .val (x11_m3)), (12, .val (x12_m3)), (13, .val (x13_m3))], [(8, .var ((ix x11_m3 x13_m3)) []), (10, .arr 3 (y10_m3)), (1006, .arr 50 ((y1006_m3 ++ ([({ At := (ix x11_m3 x13_m3).At, N := (ix y10_m3 (ix x11_m3 x13_m3).At) } : Mk.Write)] : List Mk.Write))))]⟩) ⟨rfl, rfl, rfl, rfl, rfl, rfl, trivial⟩ ⟨rfl, rfl, rfl, trivial⟩ ?_
          obtain ⟨hb10, hφ⟩ := G_some hφ
          refine PT.region ?_
          refine Ops.put rfl rfl (ox_move .tmp) (.one rfl) (.nil) rfl ?_
          refine Ops.put rfl rfl (ox_fieldAddr_var Write_At f50_0) (.one rfl) (.nil) rfl ?_
          refine Ops.put rfl rfl (ox_load_fld t3) (.one rfl) (.one rfl) rfl ?_
          refine Ops.put rfl rfl (ox_fieldAddr_var Write_N f50_1) (.one rfl) (.nil) rfl ?_
          refine Ops.put rfl rfl (ox_load_fld t3) (.one rfl) (.one rfl) rfl ?_
          refine Ops.put rfl rfl (ox_index_arr s43 .tmp .tmp hb10.1 hb10.2) ((.app (.one rfl) (.one rfl))) (.one rfl) rfl ?_
          refine Ops.mute rfl rfl (ox_store_ax t3 .tmp hb10) ((.cons rfl (.one rfl))) (.one rfl) ?_
          refine Ops.nil ?_
          refine PT.sub (σ' := ⟨[(5, _), (6, _), (11, .val (x11_m3)), (12, .val (x12_m3)), (13, .val (x13_m3))], [(10, .arr 3 ((up y10_m3 (ix x11_m3 x13_m3).At (ix x11_m3 x13_m3).N))), (1006, .arr 50 ((y1006_m3 ++ ([({ At := (ix x11_m3 x13_m3).At, N := (ix y10_m3 (ix x11_m3 x13_m3).At) } : Mk.Write)] : List Mk.Write))))]⟩) ⟨rfl, rfl, rfl, rfl, rfl, trivial⟩ ⟨rfl, rfl, trivial⟩ ?_
          exact PT.meet (x11_m3, x12_m3, x13_m3, (up y10_m3 (ix x11_m3 x13_m3).At (ix x11_m3 x13_m3).N), (y1006_m3 ++ ([({ At := (ix x11_m3 x13_m3).At, N := (ix y10_m3 (ix x11_m3 x13_m3).At) } : Mk.Write)] : List Mk.Write))) hφ ⟨rfl, rfl, rfl, rfl, rfl, trivial⟩ ⟨rfl, rfl, trivial⟩
      · rintro ⟨x11_k5, x12_k5, x13_k5, y10_k5, y1006_k5⟩ hφ
        subst hk5
        refine PT.sub (σ' := ⟨[(5, .sl 10), (6, .sl 1006), (11, .val (x11_k5)), (12, .val (x12_k5)), (13, .val (x13_k5))], [(10, .arr 3 (y10_k5)), (1006, .arr 50 (y1006_k5))]⟩) ⟨rfl, rfl, rfl, rfl, rfl, trivial⟩ ⟨rfl, rfl, trivial⟩ ?_
        obtain ⟨hb11, hφ⟩ := G_some hφ
        refine PT.region ?_
        refine Ops.put rfl rfl (ox_add .tmp .int hb11) ((.app (.one rfl) (.nil))) (.nil) rfl ?_
        refine Ops.put rfl rfl (ox_move .tmp) (.one rfl) (.nil) rfl ?_
        refine Ops.nil ?_
        refine PT.sub (σ' := ⟨[(5, _), (6, _), (11, .val (x11_k5)), (12, .val (x12_k5)), (13, .val ((x13_k5 + (1 : Int))))], [(10, .arr 3 (y10_k5)), (1006, .arr 50 (y1006_k5))]⟩) ⟨rfl, rfl, rfl, rfl, rfl, trivial⟩ ⟨rfl, rfl, trivial⟩ ?_
        exact PT.next (m3, x11_k5, x12_k5, (x13_k5 + (1 : Int)), y10_k5, y1006_k5) hφ (Nat.lt_succ_self _) ⟨rfl, rfl, rfl, rfl, rfl, trivial⟩ ⟨rfl, rfl, trivial⟩
    · replace hφ := if_else hφ hc4
      refine PT.sub (σ' := ⟨[(6, _)], [(1006, .arr 50 (y1006_m3))]⟩) ⟨rfl, trivial⟩ ⟨rfl, trivial⟩ ?_
      refine PT.exit ?_
      exact PT.meet (y1006_m3) hφ ⟨rfl, trivial⟩ ⟨rfl, trivial⟩
  · rintro y1006_k2 hφ
    subst hk2
    refine PT.sub (σ' := ⟨[(6, .sl 1006)], [(1006, .arr 50 (y1006_k2))]⟩) ⟨rfl, trivial⟩ ⟨rfl, trivial⟩ ?_
    refine PT.seq ?_
    obtain ⟨v12, hv12, hφ⟩ := B_some hφ
    refine PT.region ?_
    refine Ops.put rfl rfl (ox_move .tmp) (.one rfl) (.nil) rfl ?_
    refine Ops.putO rfl rfl (ox_callX (x_slices_Reverse___api_Write_api_Write_ hv12) [(600, 1006)] [(600, 1006)] [] [] (.cons .tmp .nil) rfl rfl rfl rfl rfl rfl rfl rfl ⟨rfl, trivial⟩ rfl rfl rfl rfl) ((.app (.one rfl) .nil)) ((.cons rfl .nil)) rfl (by kernel_rfl) ?_
    refine Ops.nil ?_
    refine PT.sub (σ' := ⟨[(6, _)], [(1006, .arr 50 (v12))]⟩) ⟨rfl, trivial⟩ ⟨rfl, trivial⟩ ?_
    refine PT.seq ?_
    refine PT.region ?_
    refine Ops.put rfl rfl (ox_move .tmp) (.one rfl) (.nil) rfl ?_
    refine Ops.put rfl rfl (ox_assign .tmp) (.one rfl) (.nil) rfl ?_
    refine Ops.nil ?_
    refine PT.sub (σ' := ⟨[(4, _)], [(1006, .arr 50 (v12))]⟩) ⟨rfl, trivial⟩ ⟨rfl, trivial⟩ ?_
    refine PT.ret ?_
    obtain rfl := Option.some.inj hφ
    exact PT.doneX rfl (.tmp rfl .nil) rfl ⟨rfl, trivial⟩ trivial

/-- mendkernel/mkref1.Undo -/
theorem c_mkref1_Undo {a0 : List Int} {a1 : List Mk.Write} {r : ((List Mk.Write))} (hφ : mkref1_Undo a0 a1 = some r) : Fn Go.Proofs.Try.prog 63 [.val a0, .val a1] (.val r) := by
  unfold mkref1_Undo at hφ
  refine Fn.mk' Go.Proofs.Try.func63 rfl (by decide) rfl rfl rfl (fun w0 hw0 => ?_)
  refine PT.seq ?_
  refine PT.region ?_
  refine Ops.put rfl rfl (ox_assign .nilS) (.nil) (.nil) rfl ?_
  refine Ops.nil ?_
  refine PT.sub (σ' := ⟨[(0, .val (a0)), (1, .val (a1))], []⟩) ⟨rfl, rfl, trivial⟩ trivial ?_
  refine PT.seq ?_
  refine PT.region ?_
  refine Ops.put rfl rfl (ox_assign .nilS) (.nil) (.nil) rfl ?_
  refine Ops.nil ?_
  refine PT.sub (σ' := ⟨[(0, .val (a0)), (1, .val (a1)), (5, .nilS)], []⟩) ⟨rfl, rfl, rfl, trivial⟩ trivial ?_
  obtain ⟨k1, hk1, hφ⟩ := J_some hφ
  refine PT.cut (ι := (List Mk.Write)) (fun p => ⟨[(5, .val (p))], []⟩) (fun p => k1 (p) = some r) ?_ ?_
  · skip
    refine PT.seq ?_
    refine PT.region ?_
    refine Ops.put rfl rfl (ox_move .tmp) (.one rfl) (.nil) rfl ?_
    refine Ops.put rfl rfl (ox_len s44 .tmp) (.one rfl) (.nil) rfl ?_
    refine Ops.put rfl rfl (ox_move .int) (.nil) (.nil) rfl ?_
    refine Ops.nil ?_
    refine PT.sub (σ' := ⟨[(0, .val (a0)), (1, .val (a1)), (5, .nilS), (8, .val (a1)), (9, .val ((a1.length : Int))), (10, .val ((0 : Int)))], []⟩) ⟨rfl, rfl, rfl, rfl, rfl, rfl, trivial⟩ trivial ?_
    refine PT.block ?_
    refine PT.asNil 5 (Mk.Write) rfl ?_
    refine PT.loop (ι := Nat × (List Int) × (List Mk.Write) × (List Mk.Write) × (List Mk.Write) × Int × Int) (fun p => ⟨[(0, .val (p.2.1)), (1, .val (p.2.2.1)), (5, .val (p.2.2.2.1)), (8, .val (p.2.2.2.2.1)), (9, .val (p.2.2.2.2.2.1)), (10, .val (p.2.2.2.2.2.2))], []⟩) (fun p => mkref1_Undo_l1 k1 p.1 (p.2.1) (p.2.2.1) (p.2.2.2.1) (p.2.2.2.2.1) (p.2.2.2.2.2.1) (p.2.2.2.2.2.2) = some r) (fun p => p.1) (((a1.length : Int) - (0 : Int)).toNat + 1, a0, a1, ([] : List Mk.Write), a1, (a1.length : Int), (0 : Int)) hφ ⟨rfl, rfl, rfl, rfl, rfl, rfl, trivial⟩ trivial ?_
    rintro ⟨m2, x0_m2, x1_m2, x5_m2, x8_m2, x9_m2, x10_m2⟩ (hφ : mkref1_Undo_l1 k1 m2 x0_m2 x1_m2 x5_m2 x8_m2 x9_m2 x10_m2 = some r)
    obtain _ | m2 := m2
    · exact (none_no hφ).elim
    rw [mkref1_Undo_l1.eq_2] at hφ
    refine PT.sub (σ' := ⟨[(0, .val (x0_m2)), (1, .val (x1_m2)), (5, .val (x5_m2)), (8, .val (x8_m2)), (9, .val (x9_m2)), (10, .val (x10_m2))], []⟩) ⟨rfl, rfl, rfl, rfl, rfl, rfl, trivial⟩ trivial ?_
    refine PT.seq ?_
    refine PT.region ?_
    refine Ops.put rfl rfl (ox_lss .tmp .tmp) ((.app (.one rfl) (.one rfl))) (.nil) rfl ?_
    refine Ops.nil ?_
    refine PT.sub (σ' := ⟨[(0, .val (x0_m2)), (1, .val (x1_m2)), (5, .val (x5_m2)), (8, .val (x8_m2)), (9, .val (x9_m2)), (10, .val (x10_m2)), (11, .val ((decide (x10_m2 < x9_m2))))], []⟩) ⟨rfl, rfl, rfl, rfl, rfl, rfl, rfl, trivial⟩ trivial ?_
    refine PT.seq ?_
    refine PT.cond _ rfl (fun hc3 => ?_) (fun hc3 => ?_)
    · replace hφ := if_then hφ hc3
      refine PT.sub (σ' := ⟨[(0, .val (x0_m2)), (1, .val (x1_m2)), (5, .val (x5_m2)), (8, .val (x8_m2)), (9, .val (x9_m2)), (10, .val (x10_m2))], []⟩) ⟨rfl, rfl, rfl, rfl, rfl, rfl, trivial⟩ trivial ?_
      refine PT.skip ?_
      obtain ⟨k4, hk4, hφ⟩ := J_some hφ
      refine PT.cut (ι := (List Int) × (List Mk.Write) × (List Mk.Write) × (List Mk.Write) × Int × Int) (fun p => ⟨[(0, .val (p.1)), (1, .val (p.2.1)), (5, .val (p.2.2.1)), (8, .val (p.2.2.2.1)), (9, .val (p.2.2.2.2.1)), (10, .val (p.2.2.2.2.2))], []⟩) (fun p => k4 (p.1) (p.2.1) (p.2.2.1) (p.2.2.2.1) (p.2.2.2.2.1) (p.2.2.2.2.2) = some r) ?_ ?_
      · skip
        refine PT.block ?_
        refine PT.seq ?_
        obtain ⟨hb5, hφ⟩ := G_some hφ
        refine PT.region ?_
        refine Ops.put rfl rfl (ox_move .tmp) (.one rfl) (.nil) rfl ?_
        refine Ops.put rfl rfl (ox_ix s44 .tmp .tmp hb5.1 hb5.2) ((.app (.one rfl) (.one rfl))) (.nil) rfl ?_
        refine Ops.put rfl rfl (ox_load_elem t50) (.one rfl) (.nil) rfl ?_
        refine Ops.putO rfl rfl (ox_alloc (id := 7) z50) (.nil) (.nil) rfl (by kernel_rfl) ?_
        refine Ops.put rfl rfl (ox_assign .tmp) (.one rfl) (.nil) rfl ?_
        refine Ops.mute rfl rfl (ox_store_var t50 .tmp) ((.cons rfl (.one rfl))) (.one rfl) ?_
        refine Ops.nil ?_
        refine PT.sub (σ' := ⟨[(0, .val (x0_m2)), (1, .val (x1_m2)), (5, .val (x5_m2)), (6, .val (x10_m2)), (7, _), (8, .val (x8_m2)), (9, .val (x9_m2)), (10, .val (x10_m2))], [(7, .var ((ix x8_m2 x10_m2)) [])]⟩) ⟨rfl, rfl, rfl, rfl, rfl, rfl, rfl, rfl, trivial⟩ ⟨rfl, trivial⟩ ?_
        refine PT.seq ?_
        refine PT.region ?_
        refine Ops.put rfl rfl (ox_fieldAddr_var Write_At f50_0) (.one rfl) (.nil) rfl ?_
        refine Ops.put rfl rfl (ox_load_fld t3) (.one rfl) (.one rfl) rfl ?_
        refine Ops.put rfl rfl (ox_geq .tmp .int) ((.app (.one rfl) (.nil))) (.nil) rfl ?_
        refine Ops.put rfl rfl (ox_move .tmp) (.one rfl) (.nil) rfl ?_
        refine Ops.guard rfl rfl rfl rfl (.plain .nil) (fun hG => (ox_fieldAddr_var Write_At f50_0)) ⟨rfl, trivial⟩ (.nil) rfl ?_
        refine Ops.guard rfl rfl rfl rfl (.cond (fun h => h) .nil) (fun hG => (ox_load_fld t3)) ⟨rfl, trivial⟩ (.one rfl) rfl ?_
        refine Ops.guard rfl rfl rfl rfl (.plain .nil) (fun hG => (ox_move .tmp)) ⟨rfl, trivial⟩ (.nil) rfl ?_
        refine Ops.guard rfl rfl rfl rfl (.cond (fun h => h) .nil) (fun hG => (ox_len s43 .tmp)) ⟨rfl, trivial⟩ (.nil) rfl ?_
        refine Ops.guard rfl rfl rfl rfl (.cond (fun h => h) (.cond (fun h => h) .nil)) (fun hG => (ox_lss .tmp .tmp)) ⟨rfl, rfl, trivial⟩ (.nil) rfl ?_
        refine Ops.put rfl rfl ox_pick_and (⟨rfl, rfl, trivial⟩) (.nil) rfl ?_
        refine Ops.nil ?_
        refine PT.sub (σ' := ⟨[(0, .val (x0_m2)), (1, .val (x1_m2)), (5, .val (x5_m2)), (6, .val (x10_m2)), (7, _), (8, .val (x8_m2)), (9, .val (x9_m2)), (10, .val (x10_m2)), (24, .val (((decide ((0 : Int) ≤ (ix x8_m2 x10_m2).At)) && (decide ((ix x8_m2 x10_m2).At < (x0_m2.length : Int))))))], [(7, .var ((ix x8_m2 x10_m2)) [])]⟩) ⟨rfl, rfl, rfl, rfl, rfl, rfl, rfl, rfl, rfl, trivial⟩ ⟨rfl, trivial⟩ ?_
        refine PT.cond _ rfl (fun hc6 => ?_) (fun hc6 => ?_)
        · replace hφ := if_then hφ hc6
          refine PT.sub (σ' := ⟨[(0, .val (x0_m2)), (1, .val (x1_m2)), (5, .val (x5_m2)), (6, .val (x10_m2)), (7, _), (8, .val (x8_m2)), (9, .val (x9_m2)), (10, .val (x10_m2))], [(7, .var ((ix x8_m2 x10_m2)) [])]⟩) ⟨rfl, rfl, rfl, rfl, rfl, rfl, rfl, rfl, trivial⟩ ⟨rfl, trivial⟩ ?_
          obtain ⟨hb7, hφ⟩ := G_some hφ
          obtain ⟨v8, hv8, hφ⟩ := B_some hφ
          obtain ⟨hb9, hφ⟩ := G_some hφ
          obtain ⟨hb10, hφ⟩ := G_some hφ
          refine PT.draw hMixed (
              Segs.cons (Step.put rfl rfl (ox_fieldAddr_var Write_At f50_0)) ⟨.one rfl, .nil⟩ (by kernel_rfl) rfl <|
              Segs.cons (Step.put rfl rfl (ox_load_fld t3)) ⟨.one rfl, .one rfl⟩ (by kernel_rfl) rfl <|
              Segs.cons (Step.put rfl rfl (ox_move .tmp)) ⟨.one rfl, .nil⟩ (by kernel_rfl) rfl <|
              Segs.cons (Step.put rfl rfl (ox_move .tmp)) ⟨.one rfl, .nil⟩ (by kernel_rfl) rfl <|
              Segs.cons (Step.put rfl rfl (ox_move .tmp)) ⟨.one rfl, .nil⟩ (by kernel_rfl) rfl <|
              Segs.cons (Step.put rfl rfl (ox_slice s44 .tmp .none (.some .tmp) hb7.1 hb7.2.1 hb7.2.2)) ⟨(.app (.one rfl) ((.app (.nil) (.one rfl)))), .nil⟩ (by kernel_rfl) rfl <|
              Segs.cons (Step.put rfl rfl (ox_call (c_mkref1_Set hv8) (.cons .tmp (.cons .tmp .nil)))) ⟨(.app (.one rfl) (.app (.one rfl) .nil)), .nil⟩ (by kernel_rfl) rfl <|
              Segs.cons (Step.put rfl rfl (ox_fieldAddr_var Write_At f50_0)) ⟨.one rfl, .nil⟩ (by kernel_rfl) rfl <|
              Segs.cons (Step.put rfl rfl (ox_load_fld t3)) ⟨.one rfl, .one rfl⟩ (by kernel_rfl) rfl <|
              Segs.cons (Step.put rfl rfl (ox_ix s43 .tmp .tmp hb9.1 hb9.2)) ⟨(.app (.one rfl) (.one rfl)), .nil⟩ (by kernel_rfl) rfl <|
              Segs.cons (Step.put rfl rfl (ox_load_elem t3)) ⟨.one rfl, .nil⟩ (by kernel_rfl) rfl <|
              Segs.cons (Step.put rfl rfl (ox_buildB z50 u50 rfl (.cons Write_At f50_0 .tmp (.cons Write_N f50_1 .tmp Bld.nil)))) ⟨(.app (.one rfl) (.app (.one rfl) .nil)), .nil⟩ (by kernel_rfl) rfl <|
              Segs.cons (Step.put rfl rfl (ox_buildSlice_arr (id := 37) s44 z50 (.cons .tmp Parts.nil) rfl (by decide))) ⟨(.app (.one rfl) .nil), .nil⟩ (by kernel_rfl) rfl <|
              Segs.cons (Step.put rfl rfl (ox_move .tmp)) ⟨.one rfl, .nil⟩ (by kernel_rfl) rfl <|
              Segs.cons (Step.putK [37] rfl rfl (ox_appendV a44 .tmp .tmp hb10.1 hb10.2)) ⟨(.app (.one rfl) (.one rfl)), .one rfl⟩ (by kernel_rfl) rfl <|
              Segs.cons (Step.put rfl rfl (ox_assign .tmp)) ⟨.one rfl, .nil⟩ (by kernel_rfl) rfl <|
              Segs.nil) _ [[], [0], [], [], [], [3, 4], [2, 3, 4, 5], [], [7], [2, 3, 4, 5, 6, 7, 8], [2, 3, 4, 5, 6, 7, 8, 9], [0, 1, 2, 3, 4, 5, 6, 7, 8, 9, 10], [0, 1, 2, 3, 4, 5, 6, 7, 8, 9, 10, 11], [], [0, 1, 2, 3, 4, 5, 6, 7, 8, 9, 10, 11, 12, 13], [0, 1, 2, 3, 4, 5, 6, 7, 8, 9, 10, 11, 12, 13, 14]] rfl (by kernel_rfl) (by kernel_rfl) ?_
          refine PT.sub (σ' := ⟨[(0, .val (x0_m2)), (1, .val (x1_m2)), (5, .val ((([({ At := (ix x8_m2 x10_m2).At, N := (ix v8 (ix x8_m2 x10_m2).At) } : Mk.Write)] : List Mk.Write) ++ x5_m2))), (8, .val (x8_m2)), (9, .val (x9_m2)), (10, .val (x10_m2))], []⟩) ⟨rfl, rfl, rfl, rfl, rfl, rfl, trivial⟩ trivial ?_
          exact PT.meet (x0_m2, x1_m2, (([({ At := (ix x8_m2 x10_m2).At, N := (ix v8 (ix x8_m2 x10_m2).At) } : Mk.Write)] : List Mk.Write) ++ x5_m2), x8_m2, x9_m2, x10_m2) hφ ⟨rfl, rfl, rfl, rfl, rfl, rfl, trivial⟩ trivial
        · replace hφ := if_else hφ hc6
          refine PT.sub (σ' := ⟨[(0, .val (x0_m2)), (1, .val (x1_m2)), (5, .val (x5_m2)), (8, .val (x8_m2)), (9, .val (x9_m2)), (10, .val (x10_m2))], []⟩) ⟨rfl, rfl, rfl, rfl, rfl, rfl, trivial⟩ trivial ?_
          refine PT.skip ?_
          exact PT.meet (x0_m2, x1_m2, x5_m2, x8_m2, x9_m2, x10_m2) hφ ⟨rfl, rfl, rfl, rfl, rfl, rfl, trivial⟩ trivial
      · rintro ⟨x0_k4, x1_k4, x5_k4, x8_k4, x9_k4, x10_k4⟩ hφ
        subst hk4
        refine PT.sub (σ' := ⟨[(0, .val (x0_k4)), (1, .val (x1_k4)), (5, .val (x5_k4)), (8, .val (x8_k4)), (9, .val (x9_k4)), (10, .val (x10_k4))], []⟩) ⟨rfl, rfl, rfl, rfl, rfl, rfl, trivial⟩ trivial ?_
        obtain ⟨hb11, hφ⟩ := G_some hφ
        refine PT.region ?_
        refine Ops.put rfl rfl (ox_add .tmp .int hb11) ((.app (.one rfl) (.nil))) (.nil) rfl ?_
        refine Ops.put rfl rfl (ox_move .tmp) (.one rfl) (.nil) rfl ?_
        refine Ops.nil ?_
        refine PT.sub (σ' := ⟨[(0, .val (x0_k4)), (1, .val (x1_k4)), (5, .val (x5_k4)), (8, .val (x8_k4)), (9, .val (x9_k4)), (10, .val ((x10_k4 + (1 : Int))))], []⟩) ⟨rfl, rfl, rfl, rfl, rfl, rfl, trivial⟩ trivial ?_
        exact PT.next (m2, x0_k4, x1_k4, x5_k4, x8_k4, x9_k4, (x10_k4 + (1 : Int))) hφ (Nat.lt_succ_self _) ⟨rfl, rfl, rfl, rfl, rfl, rfl, trivial⟩ trivial
    · replace hφ := if_else hφ hc3
      refine PT.sub (σ' := ⟨[(5, .val (x5_m2))], []⟩) ⟨rfl, trivial⟩ trivial ?_
      refine PT.exit ?_
      exact PT.meet (x5_m2) hφ ⟨rfl, trivial⟩ trivial
  · rintro x5_k1 hφ
    subst hk1
    refine PT.sub (σ' := ⟨[(5, .val (x5_k1))], []⟩) ⟨rfl, trivial⟩ trivial ?_
    refine PT.seq ?_
    refine PT.region ?_
    refine Ops.put rfl rfl (ox_move .tmp) (.one rfl) (.nil) rfl ?_
    refine Ops.put rfl rfl (ox_assign .tmp) (.one rfl) (.nil) rfl ?_
    refine Ops.nil ?_
    refine PT.sub (σ' := ⟨[(4, .val (x5_k1))], []⟩) ⟨rfl, trivial⟩ trivial ?_
    refine PT.ret ?_
    obtain rfl := Option.some.inj hφ
    exact PT.done hw0 rfl (.tmp rfl rfl .nil) rfl
end Go.Gx
