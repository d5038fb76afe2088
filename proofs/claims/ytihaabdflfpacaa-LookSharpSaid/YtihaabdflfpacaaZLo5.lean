/- WHAT THE STATEMENTS OF THIS GROUP NEED, part 5: laid together by prune.py out of own texts. -/
import Derived.Test.YtihaabdflfpacaaZLo4
section
namespace Go.Gx
open Sp
set_option linter.unusedVariables false
set_option linter.unusedSimpArgs false
set_option maxRecDepth 20000
set_option maxHeartbeats 4000000
theorem c_model_entry_1 {a0 : Mk.Write} {a1 : Int} {r : Bool} (hφ : model_entry_1 a0 a1 = some r) : Fn Go.Proofs.Try.prog 130 [.val a0, .elem a1] (.val r) := by
  unfold model_entry_1 at hφ
  refine Fn.mk' Go.Proofs.Try.func130 rfl (by decide) rfl rfl rfl (fun w0 hw0 => ?_)
  refine PT.seq ?_
  refine PT.region ?_
  refine Ops.putO rfl rfl (ox_box (id := 2) .tmp) (.one rfl) (.nil) rfl (by kernel_rfl) ?_
  refine Ops.put rfl rfl (ox_assign .bool) (.nil) (.nil) rfl ?_
  refine Ops.nil ?_
  refine PT.sub (σ' := ⟨[(1, .elem (a1)), (2, _)], [(2, .var (a0) [])]⟩) ⟨rfl, rfl, trivial⟩ ⟨rfl, trivial⟩ ?_
  refine PT.seq ?_
  refine PT.region ?_
  refine Ops.put rfl rfl (ox_fieldAddr_var Write_At f99_0) (.one rfl) (.nil) rfl ?_
  refine Ops.put rfl rfl (ox_load_fld t3) (.one rfl) (.one rfl) rfl ?_
  refine Ops.put rfl rfl (ox_load_elem t3) (.one rfl) (.nil) rfl ?_
  refine Ops.put rfl rfl (ox_eql .tmp .tmp) ((.app (.one rfl) (.one rfl))) (.nil) rfl ?_
  refine Ops.put rfl rfl (ox_assign .tmp) (.one rfl) (.nil) rfl ?_
  refine Ops.nil ?_
  refine PT.sub (σ' := ⟨[(3, .val ((decide (a0.At = a1))))], []⟩) ⟨rfl, trivial⟩ trivial ?_
  refine PT.ret ?_
  obtain rfl := Option.some.inj hφ
  exact PT.done hw0 rfl (.tmp rfl rfl .nil) rfl
theorem c_slices_IndexFunc___api_Write_api_Write__entry {a0 : List Mk.Write} {a2 : Int} {r : Int} (hφ : slices_IndexFunc___api_Write_api_Write__entry a0 a2 = some r) : Fn Go.Proofs.Try.prog 129 [.val a0, .clo 130 [.elem a2]] (.val r) := by
  unfold slices_IndexFunc___api_Write_api_Write__entry at hφ
  refine Fn.mk' Go.Proofs.Try.func129 rfl (by decide) rfl rfl rfl (fun w0 hw0 => ?_)
  refine PT.seq ?_
  refine PT.region ?_
  refine Ops.put rfl rfl (ox_assign .int) (.nil) (.nil) rfl ?_
  refine Ops.nil ?_
  refine PT.sub (σ' := ⟨[(0, .val (a0)), (1, _)], []⟩) ⟨rfl, rfl, trivial⟩ trivial ?_
  obtain ⟨k1, hk1, hφ⟩ := J_some hφ
  refine PT.cut (ι := Unit) (fun p => ⟨[], []⟩) (fun p => k1 () = some r) ?_ ?_
  · skip
    refine PT.seq ?_
    refine PT.region ?_
    refine Ops.put rfl rfl (ox_move .tmp) (.one rfl) (.nil) rfl ?_
    refine Ops.put rfl rfl (ox_len s26 .tmp) (.one rfl) (.nil) rfl ?_
    refine Ops.put rfl rfl (ox_move .int) (.nil) (.nil) rfl ?_
    refine Ops.nil ?_
    refine PT.sub (σ' := ⟨[(0, .val (a0)), (1, _), (7, .val ((a0.length : Int))), (8, .val ((0 : Int)))], []⟩) ⟨rfl, rfl, rfl, rfl, trivial⟩ trivial ?_
    refine PT.block ?_
    refine PT.loop (ι := Nat × (List Mk.Write) × Int × Int) (fun p => ⟨[(0, .val (p.2.1)), (1, .clo 130 [.elem (a2)]), (7, .val (p.2.2.1)), (8, .val (p.2.2.2))], []⟩) (fun p => slices_IndexFunc___api_Write_api_Write__entry_l1 a2 k1 p.1 (p.2.1) (p.2.2.1) (p.2.2.2) = some r) (fun p => p.1) (((a0.length : Int) - (0 : Int)).toNat + 1, a0, (a0.length : Int), (0 : Int)) hφ ⟨rfl, rfl, rfl, rfl, trivial⟩ trivial ?_
    rintro ⟨m2, x0_m2, x7_m2, x8_m2⟩ (hφ : slices_IndexFunc___api_Write_api_Write__entry_l1 a2 k1 m2 x0_m2 x7_m2 x8_m2 = some r)
    obtain _ | m2 := m2
    · exact (none_no hφ).elim
    rw [slices_IndexFunc___api_Write_api_Write__entry_l1.eq_2] at hφ
    refine PT.sub (σ' := ⟨[(0, .val (x0_m2)), (1, .clo 130 [.elem (a2)]), (7, .val (x7_m2)), (8, .val (x8_m2))], []⟩) ⟨rfl, rfl, rfl, rfl, trivial⟩ trivial ?_
    refine PT.seq ?_
    refine PT.region ?_
    refine Ops.put rfl rfl (ox_lss .tmp .tmp) ((.app (.one rfl) (.one rfl))) (.nil) rfl ?_
    refine Ops.nil ?_
    refine PT.sub (σ' := ⟨[(0, .val (x0_m2)), (1, _), (7, .val (x7_m2)), (8, .val (x8_m2)), (9, .val ((decide (x8_m2 < x7_m2))))], []⟩) ⟨rfl, rfl, rfl, rfl, rfl, trivial⟩ trivial ?_
    refine PT.seq ?_
    refine PT.cond _ rfl (fun hc3 => ?_) (fun hc3 => ?_)
    · replace hφ := if_then hφ hc3
      refine PT.sub (σ' := ⟨[(0, .val (x0_m2)), (1, _), (7, .val (x7_m2)), (8, .val (x8_m2))], []⟩) ⟨rfl, rfl, rfl, rfl, trivial⟩ trivial ?_
      refine PT.skip ?_
      refine PT.seq ?_
      refine PT.block ?_
      refine PT.seq ?_
      refine PT.region ?_
      refine Ops.put rfl rfl (ox_move .tmp) (.one rfl) (.nil) rfl ?_
      refine Ops.put rfl rfl (ox_assign .tmp) (.one rfl) (.nil) rfl ?_
      refine Ops.nil ?_
      refine PT.sub (σ' := ⟨[(0, .val (x0_m2)), (1, _), (5, .val (x8_m2)), (7, .val (x7_m2)), (8, .val (x8_m2))], []⟩) ⟨rfl, rfl, rfl, rfl, rfl, trivial⟩ trivial ?_
      refine PT.seq ?_
      obtain ⟨hb4, hφ⟩ := G_some hφ
      obtain ⟨v5, hv5, hφ⟩ := B_some hφ
      refine PT.region ?_
      refine Ops.put rfl rfl (ox_move .tmp) (.one rfl) (.nil) rfl ?_
      refine Ops.put rfl rfl (ox_move .tmp) (.one rfl) (.nil) rfl ?_
      refine Ops.put rfl rfl (ox_move .tmp) (.one rfl) (.nil) rfl ?_
      refine Ops.put rfl rfl (ox_ix s26 .tmp .tmp hb4.1 hb4.2) ((.app (.one rfl) (.one rfl))) (.nil) rfl ?_
      refine Ops.put rfl rfl (ox_load_elem t99) (.one rfl) (.nil) rfl ?_
      refine Ops.put rfl rfl (ox_callv (c_model_entry_1 hv5) (.cons .tmp .nil)) ((.cons rfl ((.app (.one rfl) .nil)))) (.nil) rfl ?_
      refine Ops.nil ?_
      refine PT.sub (σ' := ⟨[(0, .val (x0_m2)), (1, _), (5, .val (x8_m2)), (7, .val (x7_m2)), (8, .val (x8_m2)), (16, .val (v5))], []⟩) ⟨rfl, rfl, rfl, rfl, rfl, rfl, trivial⟩ trivial ?_
      refine PT.cond _ rfl (fun hc6 => ?_) (fun hc6 => ?_)
      · replace hφ := if_then hφ hc6
        refine PT.sub (σ' := ⟨[(5, .val (x8_m2))], []⟩) ⟨rfl, trivial⟩ trivial ?_
        refine PT.seq ?_
        refine PT.region ?_
        refine Ops.put rfl rfl (ox_move .tmp) (.one rfl) (.nil) rfl ?_
        refine Ops.put rfl rfl (ox_assign .tmp) (.one rfl) (.nil) rfl ?_
        refine Ops.nil ?_
        refine PT.sub (σ' := ⟨[(4, .val (x8_m2))], []⟩) ⟨rfl, trivial⟩ trivial ?_
        refine PT.ret ?_
        obtain rfl := Option.some.inj hφ
        exact PT.done hw0 rfl (.tmp rfl rfl .nil) rfl
      · replace hφ := if_else hφ hc6
        refine PT.sub (σ' := ⟨[(0, .val (x0_m2)), (1, _), (7, .val (x7_m2)), (8, .val (x8_m2))], []⟩) ⟨rfl, rfl, rfl, rfl, trivial⟩ trivial ?_
        refine PT.skip ?_
        obtain ⟨hb7, hφ⟩ := G_some hφ
        refine PT.region ?_
        refine Ops.put rfl rfl (ox_add .tmp .int hb7) ((.app (.one rfl) (.nil))) (.nil) rfl ?_
        refine Ops.put rfl rfl (ox_move .tmp) (.one rfl) (.nil) rfl ?_
        refine Ops.nil ?_
        refine PT.sub (σ' := ⟨[(0, .val (x0_m2)), (1, _), (7, .val (x7_m2)), (8, .val ((x8_m2 + (1 : Int))))], []⟩) ⟨rfl, rfl, rfl, rfl, trivial⟩ trivial ?_
        exact PT.next (m2, x0_m2, x7_m2, (x8_m2 + (1 : Int))) hφ (Nat.lt_succ_self _) ⟨rfl, rfl, rfl, rfl, trivial⟩ trivial
    · replace hφ := if_else hφ hc3
      refine PT.sub (σ' := ⟨[], []⟩) trivial trivial ?_
      refine PT.exit ?_
      exact PT.meet () hφ trivial trivial
  · rintro ⟨⟩ hφ
    subst hk1
    refine PT.sub (σ' := ⟨[], []⟩) trivial trivial ?_
    refine PT.seq ?_
    refine PT.region ?_
    refine Ops.put rfl rfl (ox_assign .int) (.nil) (.nil) rfl ?_
    refine Ops.nil ?_
    refine PT.sub (σ' := ⟨[(4, .val ((-1 : Int)))], []⟩) ⟨rfl, trivial⟩ trivial ?_
    refine PT.ret ?_
    obtain rfl := Option.some.inj hφ
    exact PT.done hw0 rfl (.tmp rfl rfl .nil) rfl
theorem c_model_entry {a0 : List Mk.Write} {a1 : Int} {r : Int} (hφ : model_entry a0 a1 = some r) : Fn Go.Proofs.Try.prog 116 [.val a0, .val a1] (.val r) := by
  unfold model_entry at hφ
  refine Fn.mk' Go.Proofs.Try.func116 rfl (by decide) rfl rfl rfl (fun w0 hw0 => ?_)
  refine PT.seq ?_
  refine PT.region ?_
  refine Ops.putO rfl rfl (ox_box (id := 3) .tmp) (.one rfl) (.nil) rfl (by kernel_rfl) ?_
  refine Ops.put rfl rfl (ox_assign .int) (.nil) (.nil) rfl ?_
  refine Ops.nil ?_
  refine PT.sub (σ' := ⟨[(0, .val (a0)), (3, _)], [(3, .var (a1) [])]⟩) ⟨rfl, rfl, trivial⟩ ⟨rfl, trivial⟩ ?_
  refine PT.seq ?_
  refine PT.freezeVar 3 [3] rfl ⟨rfl, trivial⟩ ?_
  obtain ⟨v1, hv1, hφ⟩ := B_some hφ
  refine PT.region ?_
  refine Ops.put rfl rfl (ox_move .tmp) (.one rfl) (.nil) rfl ?_
  refine Ops.put rfl rfl (ox_makeFunc (.cons .tmp .nil)) ((.app (.one rfl) .nil)) (.nil) rfl ?_
  refine Ops.put rfl rfl (ox_call (c_slices_IndexFunc___api_Write_api_Write__entry hv1) (.cons .tmp (.cons .tmp .nil))) ((.app (.one rfl) (.app (.one rfl) .nil))) (.nil) rfl ?_
  refine Ops.put rfl rfl (ox_assign .tmp) (.one rfl) (.nil) rfl ?_
  refine Ops.nil ?_
  refine PT.sub (σ' := ⟨[(4, .val (v1))], []⟩) ⟨rfl, trivial⟩ trivial ?_
  refine PT.ret ?_
  obtain rfl := Option.some.inj hφ
  exact PT.done hw0 rfl (.tmp rfl rfl .nil) rfl
theorem c_model_Do {a0 : List Mk.Write} {a1 : Mk.Call} {r : ((List Mk.Write) × Mk.Reply)} (hφ : model_Do a0 a1 = some r) : Fn Go.Proofs.Try.prog 93 [.val a0, .val a1] (.tup [.val r.1, .val r.2]) := by
  unfold model_Do at hφ
  refine Fn.mk' Go.Proofs.Try.func93 rfl (by decide) rfl rfl rfl (fun w0 hw0 => ?_)
  refine PT.seq ?_
  refine PT.region ?_
  refine Ops.putO rfl rfl (ox_box (id := 3) .tmp) (.one rfl) (.nil) rfl (by kernel_rfl) ?_
  refine Ops.put rfl rfl (ox_assign .nilS) (.nil) (.nil) rfl ?_
  refine Ops.putO rfl rfl (ox_alloc (id := 5) z38) (.nil) (.nil) rfl (by kernel_rfl) ?_
  refine Ops.nil ?_
  refine PT.sub (σ' := ⟨[(0, .val (a0)), (3, _), (5, _)], [(3, .var (a1) []), (5, .var (({ Err := (0 : Int), N := (0 : Int) } : Mk.Reply)) [])]⟩) ⟨rfl, rfl, rfl, trivial⟩ ⟨rfl, rfl, trivial⟩ ?_
  refine PT.seq ?_
  obtain ⟨v1, hv1, hφ⟩ := B_some hφ
  refine PT.region ?_
  refine Ops.put rfl rfl (ox_move .tmp) (.one rfl) (.nil) rfl ?_
  refine Ops.putO rfl rfl (ox_callX (x_slices_Clone___api_Write_api_Write_ hv1) [] [(5, 13)] [(5, 13)] [] (.cons .tmp .nil) rfl rfl rfl rfl rfl rfl rfl rfl trivial rfl rfl rfl rfl) ((.app (.one rfl) .nil)) (.nil) rfl (by kernel_rfl) ?_
  refine Ops.put rfl rfl (ox_assign .tmp) (.one rfl) (.nil) rfl ?_
  refine Ops.nil ?_
  refine PT.sub (σ' := ⟨[(3, _), (5, _), (6, _)], [(3, .var (a1) []), (5, .var (({ Err := (0 : Int), N := (0 : Int) } : Mk.Reply)) []), (13, .arr 99 (v1))]⟩) ⟨rfl, rfl, rfl, trivial⟩ ⟨rfl, rfl, rfl, trivial⟩ ?_
  refine PT.seq ?_
  obtain ⟨v2, hv2, hφ⟩ := B_some hφ
  refine PT.region ?_
  refine Ops.put rfl rfl (ox_move .tmp) (.one rfl) (.nil) rfl ?_
  refine Ops.put rfl rfl (ox_fieldAddr_var Call_Name f33_1) (.one rfl) (.nil) rfl ?_
  refine Ops.put rfl rfl (ox_load_fld t3) (.one rfl) (.one rfl) rfl ?_
  refine Ops.put rfl rfl (ox_callL (id := 13) (c_model_entry hv2) flat_int (.lent .tmp (.cons .tmp .nil))) ((.app (.one rfl) (.app (.one rfl) .nil))) (.one rfl) rfl ?_
  refine Ops.put rfl rfl (ox_assign .tmp) (.one rfl) (.nil) rfl ?_
  refine Ops.nil ?_
  refine PT.sub (σ' := ⟨[(3, _), (5, _), (6, _), (7, .val (v2))], [(3, .var (a1) []), (5, .var (({ Err := (0 : Int), N := (0 : Int) } : Mk.Reply)) []), (13, .arr 99 (v1))]⟩) ⟨rfl, rfl, rfl, rfl, trivial⟩ ⟨rfl, rfl, rfl, trivial⟩ ?_
  refine PT.seq ?_
  refine PT.region ?_
  refine Ops.put rfl rfl (ox_assign .int) (.nil) (.nil) rfl ?_
  refine Ops.nil ?_
  refine PT.sub (σ' := ⟨[(3, _), (5, _), (6, _), (7, .val (v2)), (8, .val ((0 : Int)))], [(3, .var (a1) []), (5, .var (({ Err := (0 : Int), N := (0 : Int) } : Mk.Reply)) []), (13, .arr 99 (v1))]⟩) ⟨rfl, rfl, rfl, rfl, rfl, trivial⟩ ⟨rfl, rfl, rfl, trivial⟩ ?_
  obtain ⟨k3, hk3, hφ⟩ := J_some hφ
  refine PT.cut (ι := Int × Int × Mk.Call × Mk.Reply × (List Mk.Write)) (fun p => ⟨[(3, .ptr 3 (Lens.id (α := Mk.Call))), (5, .ptr 5 (Lens.id (α := Mk.Reply))), (6, .sl 13), (7, .val (p.1)), (8, .val (p.2.1))], [(3, .var (p.2.2.1) []), (5, .var (p.2.2.2.1) []), (13, .arr 99 (p.2.2.2.2))]⟩) (fun p => k3 (p.1) (p.2.1) (p.2.2.1) (p.2.2.2.1) (p.2.2.2.2) = some r) ?_ ?_
  · skip
    refine PT.seq ?_
    refine PT.region ?_
    refine Ops.put rfl rfl (ox_move .tmp) (.one rfl) (.nil) rfl ?_
    refine Ops.put rfl rfl (ox_geq .tmp .int) ((.app (.one rfl) (.nil))) (.nil) rfl ?_
    refine Ops.nil ?_
    refine PT.sub (σ' := ⟨[(3, _), (5, _), (6, _), (7, .val (v2)), (8, .val ((0 : Int))), (19, .val ((decide ((0 : Int) ≤ v2))))], [(3, .var (a1) []), (5, .var (({ Err := (0 : Int), N := (0 : Int) } : Mk.Reply)) []), (13, .arr 99 (v1))]⟩) ⟨rfl, rfl, rfl, rfl, rfl, rfl, trivial⟩ ⟨rfl, rfl, rfl, trivial⟩ ?_
    refine PT.cond _ rfl (fun hc4 => ?_) (fun hc4 => ?_)
    · replace hφ := if_then hφ hc4
      refine PT.sub (σ' := ⟨[(3, _), (5, _), (6, _), (7, .val (v2))], [(3, .var (a1) []), (5, .var (({ Err := (0 : Int), N := (0 : Int) } : Mk.Reply)) []), (13, .arr 99 (v1))]⟩) ⟨rfl, rfl, rfl, rfl, trivial⟩ ⟨rfl, rfl, rfl, trivial⟩ ?_
      obtain ⟨hb5, hφ⟩ := G_some hφ
      refine PT.region ?_
      refine Ops.put rfl rfl (ox_move .tmp) (.one rfl) (.nil) rfl ?_
      refine Ops.put rfl rfl (ox_move .tmp) (.one rfl) (.nil) rfl ?_
      refine Ops.put rfl rfl (ox_index_arr s26 .tmp .tmp hb5.1 hb5.2) ((.app (.one rfl) (.one rfl))) (.one rfl) rfl ?_
      refine Ops.put rfl rfl (ox_fieldAddr_aptr Write_N f99_1) (.one rfl) (.nil) rfl ?_
      refine Ops.put rfl rfl (ox_load_ax t3 hb5) (.one rfl) (.one rfl) rfl ?_
      refine Ops.put rfl rfl (ox_assign .tmp) (.one rfl) (.nil) rfl ?_
      refine Ops.nil ?_
      refine PT.sub (σ' := ⟨[(3, _), (5, _), (6, _), (7, .val (v2)), (8, .val ((ix v1 v2).N))], [(3, .var (a1) []), (5, .var (({ Err := (0 : Int), N := (0 : Int) } : Mk.Reply)) []), (13, .arr 99 (v1))]⟩) ⟨rfl, rfl, rfl, rfl, rfl, trivial⟩ ⟨rfl, rfl, rfl, trivial⟩ ?_
      exact PT.meet (v2, (ix v1 v2).N, a1, ({ Err := (0 : Int), N := (0 : Int) } : Mk.Reply), v1) hφ ⟨rfl, rfl, rfl, rfl, rfl, trivial⟩ ⟨rfl, rfl, rfl, trivial⟩
    · replace hφ := if_else hφ hc4
      refine PT.sub (σ' := ⟨[(3, _), (5, _), (6, _), (7, .val (v2)), (8, .val ((0 : Int)))], [(3, .var (a1) []), (5, .var (({ Err := (0 : Int), N := (0 : Int) } : Mk.Reply)) []), (13, .arr 99 (v1))]⟩) ⟨rfl, rfl, rfl, rfl, rfl, trivial⟩ ⟨rfl, rfl, rfl, trivial⟩ ?_
      refine PT.skip ?_
      exact PT.meet (v2, (0 : Int), a1, ({ Err := (0 : Int), N := (0 : Int) } : Mk.Reply), v1) hφ ⟨rfl, rfl, rfl, rfl, rfl, trivial⟩ ⟨rfl, rfl, rfl, trivial⟩
  · rintro ⟨x7_k3, x8_k3, y3_k3, y5_k3, y13_k3⟩ hφ
    subst hk3
    refine PT.sub (σ' := ⟨[(3, .ptr 3 (Lens.id (α := Mk.Call))), (5, .ptr 5 (Lens.id (α := Mk.Reply))), (6, .sl 13), (7, .val (x7_k3)), (8, .val (x8_k3))], [(3, .var (y3_k3) []), (5, .var (y5_k3) []), (13, .arr 99 (y13_k3))]⟩) ⟨rfl, rfl, rfl, rfl, rfl, trivial⟩ ⟨rfl, rfl, rfl, trivial⟩ ?_
    refine PT.seq ?_
    refine PT.seq ?_
    refine PT.region ?_
    refine Ops.put rfl rfl (ox_fieldAddr_var Call_Kind f33_0) (.one rfl) (.nil) rfl ?_
    refine Ops.put rfl rfl (ox_load_fld t3) (.one rfl) (.one rfl) rfl ?_
    refine Ops.nil ?_
    refine PT.sub (σ' := ⟨[(3, _), (5, _), (6, _), (7, .val (x7_k3)), (8, .val (x8_k3)), (26, .val (y3_k3.Kind))], [(3, .var (y3_k3) []), (5, .var (y5_k3) []), (13, .arr 99 (y13_k3))]⟩) ⟨rfl, rfl, rfl, rfl, rfl, rfl, trivial⟩ ⟨rfl, rfl, rfl, trivial⟩ ?_
    refine PT.block ?_
    refine PT.seq ?_
    refine PT.region ?_
    refine Ops.put rfl rfl (ox_eql .tmp .int) ((.app (.one rfl) (.nil))) (.nil) rfl ?_
    refine Ops.put rfl rfl (ox_assign .tmp) (.one rfl) (.nil) rfl ?_
    refine Ops.nil ?_
    refine PT.sub (σ' := ⟨[(3, _), (5, _), (6, _), (7, .val (x7_k3)), (8, .val (x8_k3)), (26, .val (y3_k3.Kind)), (27, .val ((decide (y3_k3.Kind = (5 : Int)))))], [(3, .var (y3_k3) []), (5, .var (y5_k3) []), (13, .arr 99 (y13_k3))]⟩) ⟨rfl, rfl, rfl, rfl, rfl, rfl, rfl, trivial⟩ ⟨rfl, rfl, rfl, trivial⟩ ?_
    refine PT.cond _ rfl (fun hc6 => ?_) (fun hc6 => ?_)
    · replace hφ := if_then hφ hc6
      refine PT.sub (σ' := ⟨[(5, _), (6, _)], [(5, .var (y5_k3) []), (13, .arr 99 (y13_k3))]⟩) ⟨rfl, rfl, trivial⟩ ⟨rfl, rfl, trivial⟩ ?_
      refine PT.seq ?_
      refine PT.region ?_
      refine Ops.put rfl rfl (ox_move .tmp) (.one rfl) (.nil) rfl ?_
      refine Ops.put rfl rfl (ox_move .tmp) (.one rfl) (.nil) rfl ?_
      refine Ops.put rfl rfl (ox_len_arr s26 .tmp) (.one rfl) (.one rfl) rfl ?_
      refine Ops.put rfl rfl (ox_buildB z38 u38 rfl (.cons Reply_N f38_1 .tmp Bld.nil)) ((.app (.one rfl) .nil)) (.nil) rfl ?_
      refine Ops.put rfl rfl (ox_assign .tmp) (.one rfl) (.nil) rfl ?_
      refine Ops.mute rfl rfl (ox_store_var t38 .tmp) ((.cons rfl (.one rfl))) (.one rfl) ?_
      refine Ops.nil ?_
      refine PT.sub (σ' := ⟨[(4, _), (5, _)], [(5, .var (({ Err := (0 : Int), N := (y13_k3.length : Int) } : Mk.Reply)) []), (13, .arr 99 (y13_k3))]⟩) ⟨rfl, rfl, trivial⟩ ⟨rfl, rfl, trivial⟩ ?_
      refine PT.ret ?_
      refine PT.freeze 13 [4] rfl ⟨rfl, trivial⟩ ?_
      obtain rfl := Option.some.inj hφ
      exact PT.done hw0 rfl (.tmp rfl rfl (.cell t38 rfl rfl .nil)) rfl
    · replace hφ := if_else hφ hc6
      refine PT.sub (σ' := ⟨[(3, _), (5, _), (6, _), (7, .val (x7_k3)), (8, .val (x8_k3)), (26, .val (y3_k3.Kind))], [(3, .var (y3_k3) []), (5, .var (y5_k3) []), (13, .arr 99 (y13_k3))]⟩) ⟨rfl, rfl, rfl, rfl, rfl, rfl, trivial⟩ ⟨rfl, rfl, rfl, trivial⟩ ?_
      refine PT.seq ?_
      refine PT.region ?_
      refine Ops.put rfl rfl (ox_eql .tmp .int) ((.app (.one rfl) (.nil))) (.nil) rfl ?_
      refine Ops.put rfl rfl (ox_assign .tmp) (.one rfl) (.nil) rfl ?_
      refine Ops.nil ?_
      refine PT.sub (σ' := ⟨[(3, _), (5, _), (6, _), (7, .val (x7_k3)), (8, .val (x8_k3)), (33, .val ((decide (y3_k3.Kind = (1 : Int)))))], [(3, .var (y3_k3) []), (5, .var (y5_k3) []), (13, .arr 99 (y13_k3))]⟩) ⟨rfl, rfl, rfl, rfl, rfl, rfl, trivial⟩ ⟨rfl, rfl, rfl, trivial⟩ ?_
      refine PT.cond _ rfl (fun hc7 => ?_) (fun hc7 => ?_)
      · replace hφ := if_then hφ hc7
        refine PT.sub (σ' := ⟨[(3, _), (5, _), (6, _), (7, .val (x7_k3)), (8, .val (x8_k3))], [(3, .var (y3_k3) []), (5, .var (y5_k3) []), (13, .arr 99 (y13_k3))]⟩) ⟨rfl, rfl, rfl, rfl, rfl, trivial⟩ ⟨rfl, rfl, rfl, trivial⟩ ?_
        refine PT.seq ?_
        refine PT.seq ?_
        refine PT.region ?_
        refine Ops.put rfl rfl (ox_move .tmp) (.one rfl) (.nil) rfl ?_
        refine Ops.put rfl rfl (ox_lss .tmp .int) ((.app (.one rfl) (.nil))) (.nil) rfl ?_
        refine Ops.put rfl rfl (ox_move .tmp) (.one rfl) (.nil) rfl ?_
        refine Ops.guard rfl rfl rfl rfl (.plain .nil) (fun hG => (ox_move .tmp)) ⟨rfl, trivial⟩ (.nil) rfl ?_
        refine Ops.guard rfl rfl rfl rfl (.cond (fun h => h) .nil) (fun hG => (ox_len_arr s26 .tmp)) ⟨rfl, trivial⟩ (.one rfl) rfl ?_
        refine Ops.guard rfl rfl rfl rfl (.cond (fun h => h) .nil) (fun hG => (ox_geq .tmp .int)) ⟨rfl, trivial⟩ (.nil) rfl ?_
        refine Ops.put rfl rfl ox_pick_and (⟨rfl, rfl, trivial⟩) (.nil) rfl ?_
        refine Ops.nil ?_
        refine PT.sub (σ' := ⟨[(3, _), (5, _), (6, _), (7, .val (x7_k3)), (8, .val (x8_k3)), (41, .val (((decide (x7_k3 < (0 : Int))) && (decide ((5 : Int) ≤ (y13_k3.length : Int))))))], [(3, .var (y3_k3) []), (5, .var (y5_k3) []), (13, .arr 99 (y13_k3))]⟩) ⟨rfl, rfl, rfl, rfl, rfl, rfl, trivial⟩ ⟨rfl, rfl, rfl, trivial⟩ ?_
        refine PT.cond _ rfl (fun hc8 => ?_) (fun hc8 => ?_)
        · replace hφ := if_then hφ hc8
          refine PT.sub (σ' := ⟨[(5, _), (6, _)], [(5, .var (y5_k3) []), (13, .arr 99 (y13_k3))]⟩) ⟨rfl, rfl, trivial⟩ ⟨rfl, rfl, trivial⟩ ?_
          refine PT.seq ?_
          refine PT.region ?_
          refine Ops.put rfl rfl (ox_move .tmp) (.one rfl) (.nil) rfl ?_
          refine Ops.put rfl rfl (ox_buildB z38 u38 rfl (.cons Reply_Err f38_0 .int Bld.nil)) ((.app (.nil) .nil)) (.nil) rfl ?_
          refine Ops.put rfl rfl (ox_assign .tmp) (.one rfl) (.nil) rfl ?_
          refine Ops.mute rfl rfl (ox_store_var t38 .tmp) ((.cons rfl (.one rfl))) (.one rfl) ?_
          refine Ops.nil ?_
          refine PT.sub (σ' := ⟨[(4, _), (5, _)], [(5, .var (({ Err := (9 : Int), N := (0 : Int) } : Mk.Reply)) []), (13, .arr 99 (y13_k3))]⟩) ⟨rfl, rfl, trivial⟩ ⟨rfl, rfl, trivial⟩ ?_
          refine PT.ret ?_
          refine PT.freeze 13 [4] rfl ⟨rfl, trivial⟩ ?_
          obtain rfl := Option.some.inj hφ
          exact PT.done hw0 rfl (.tmp rfl rfl (.cell t38 rfl rfl .nil)) rfl
        · replace hφ := if_else hφ hc8
          refine PT.sub (σ' := ⟨[(3, _), (5, _), (6, _), (7, .val (x7_k3)), (8, .val (x8_k3))], [(3, .var (y3_k3) []), (5, .var (y5_k3) []), (13, .arr 99 (y13_k3))]⟩) ⟨rfl, rfl, rfl, rfl, rfl, trivial⟩ ⟨rfl, rfl, rfl, trivial⟩ ?_
          refine PT.skip ?_
          refine PT.seq ?_
          refine PT.seq ?_
          refine PT.region ?_
          refine Ops.put rfl rfl (ox_move .tmp) (.one rfl) (.nil) rfl ?_
          refine Ops.put rfl rfl (ox_lss .tmp .int) ((.app (.one rfl) (.nil))) (.nil) rfl ?_
          refine Ops.nil ?_
          refine PT.sub (σ' := ⟨[(3, _), (5, _), (6, _), (7, .val (x7_k3)), (8, .val (x8_k3)), (45, .val ((decide (x7_k3 < (0 : Int)))))], [(3, .var (y3_k3) []), (5, .var (y5_k3) []), (13, .arr 99 (y13_k3))]⟩) ⟨rfl, rfl, rfl, rfl, rfl, rfl, trivial⟩ ⟨rfl, rfl, rfl, trivial⟩ ?_
          refine PT.cond _ rfl (fun hc9 => ?_) (fun hc9 => ?_)
          · replace hφ := if_then hφ hc9
            refine PT.sub (σ' := ⟨[(3, _), (5, _), (6, _)], [(3, .var (y3_k3) []), (5, .var (y5_k3) []), (13, .arr 99 (y13_k3))]⟩) ⟨rfl, rfl, rfl, trivial⟩ ⟨rfl, rfl, rfl, trivial⟩ ?_
            refine PT.seq ?_
            obtain ⟨hb10, hφ⟩ := G_some hφ
            refine PT.region ?_
            refine Ops.put rfl rfl (ox_move .tmp) (.one rfl) (.nil) rfl ?_
            refine Ops.put rfl rfl (ox_fieldAddr_var Call_Name f33_1) (.one rfl) (.nil) rfl ?_
            refine Ops.put rfl rfl (ox_load_fld t3) (.one rfl) (.one rfl) rfl ?_
            refine Ops.put rfl rfl (ox_fieldAddr_var Call_N f33_3) (.one rfl) (.nil) rfl ?_
            refine Ops.put rfl rfl (ox_load_fld t3) (.one rfl) (.one rfl) rfl ?_
            refine Ops.put rfl rfl (ox_buildB z99 u99 rfl (.cons Write_At f99_0 .tmp (.cons Write_N f99_1 .tmp Bld.nil))) ((.app (.one rfl) (.app (.one rfl) .nil))) (.nil) rfl ?_
            refine Ops.put rfl rfl (ox_buildSlice_val s26 z99 (.cons .tmp Parts.nil) rfl (by decide)) ((.app (.one rfl) .nil)) (.nil) rfl ?_
            refine Ops.putK [6, 46] rfl rfl (ox_append a26 .tmp .tmp hb10.1 hb10.2) ((.app (.one rfl) (.one rfl))) (.one rfl) rfl (by kernel_rfl) ?_
            refine Ops.put rfl rfl (ox_buildB z38 u38 rfl Bld.nil) (.nil) (.nil) rfl ?_
            refine Ops.put rfl rfl (ox_assign .tmp) (.one rfl) (.nil) rfl ?_
            refine Ops.mute rfl rfl (ox_store_var t38 .tmp) ((.cons rfl (.one rfl))) (.one rfl) ?_
            refine Ops.nil ?_
            refine PT.sub (σ' := ⟨[(4, _), (5, _)], [(5, .var (({ Err := (0 : Int), N := (0 : Int) } : Mk.Reply)) []), (13, .arr 99 ((y13_k3 ++ ([({ At := y3_k3.Name, N := y3_k3.N } : Mk.Write)] : List Mk.Write))))]⟩) ⟨rfl, rfl, trivial⟩ ⟨rfl, rfl, trivial⟩ ?_
            refine PT.ret ?_
            refine PT.freeze 13 [4] rfl ⟨rfl, trivial⟩ ?_
            obtain rfl := Option.some.inj hφ
            exact PT.done hw0 rfl (.tmp rfl rfl (.cell t38 rfl rfl .nil)) rfl
          · replace hφ := if_else hφ hc9
            refine PT.sub (σ' := ⟨[(3, _), (5, _), (6, _), (7, .val (x7_k3)), (8, .val (x8_k3))], [(3, .var (y3_k3) []), (5, .var (y5_k3) []), (13, .arr 99 (y13_k3))]⟩) ⟨rfl, rfl, rfl, rfl, rfl, trivial⟩ ⟨rfl, rfl, rfl, trivial⟩ ?_
            refine PT.skip ?_
            refine PT.seq ?_
            obtain ⟨hb11, hφ⟩ := G_some hφ
            refine PT.region ?_
            refine Ops.put rfl rfl (ox_move .tmp) (.one rfl) (.nil) rfl ?_
            refine Ops.put rfl rfl (ox_move .tmp) (.one rfl) (.nil) rfl ?_
            refine Ops.put rfl rfl (ox_fieldAddr_var Call_N f33_3) (.one rfl) (.nil) rfl ?_
            refine Ops.put rfl rfl (ox_load_fld t3) (.one rfl) (.one rfl) rfl ?_
            refine Ops.put rfl rfl (ox_index_arr s26 .tmp .tmp hb11.1 hb11.2) ((.app (.one rfl) (.one rfl))) (.one rfl) rfl ?_
            refine Ops.put rfl rfl (ox_fieldAddr_aptr Write_N f99_1) (.one rfl) (.nil) rfl ?_
            refine Ops.mute rfl rfl (ox_store_ax t3 .tmp hb11) ((.cons rfl (.one rfl))) (.one rfl) ?_
            refine Ops.nil ?_
            refine PT.sub (σ' := ⟨[(5, _), (6, _), (8, .val (x8_k3))], [(5, .var (y5_k3) []), (13, .arr 99 ((up y13_k3 x7_k3 { (ix y13_k3 x7_k3) with N := y3_k3.N })))]⟩) ⟨rfl, rfl, rfl, trivial⟩ ⟨rfl, rfl, trivial⟩ ?_
            refine PT.seq ?_
            refine PT.region ?_
            refine Ops.put rfl rfl (ox_move .tmp) (.one rfl) (.nil) rfl ?_
            refine Ops.put rfl rfl (ox_move .tmp) (.one rfl) (.nil) rfl ?_
            refine Ops.put rfl rfl (ox_buildB z38 u38 rfl (.cons Reply_N f38_1 .tmp Bld.nil)) ((.app (.one rfl) .nil)) (.nil) rfl ?_
            refine Ops.put rfl rfl (ox_assign .tmp) (.one rfl) (.nil) rfl ?_
            refine Ops.mute rfl rfl (ox_store_var t38 .tmp) ((.cons rfl (.one rfl))) (.one rfl) ?_
            refine Ops.nil ?_
            refine PT.sub (σ' := ⟨[(4, _), (5, _)], [(5, .var (({ Err := (0 : Int), N := x8_k3 } : Mk.Reply)) []), (13, .arr 99 ((up y13_k3 x7_k3 { (ix y13_k3 x7_k3) with N := y3_k3.N })))]⟩) ⟨rfl, rfl, trivial⟩ ⟨rfl, rfl, trivial⟩ ?_
            refine PT.ret ?_
            refine PT.freeze 13 [4] rfl ⟨rfl, trivial⟩ ?_
            obtain rfl := Option.some.inj hφ
            exact PT.done hw0 rfl (.tmp rfl rfl (.cell t38 rfl rfl .nil)) rfl
      · replace hφ := if_else hφ hc7
        refine PT.sub (σ' := ⟨[(3, _), (5, _), (6, _), (7, .val (x7_k3)), (8, .val (x8_k3))], [(3, .var (y3_k3) []), (5, .var (y5_k3) []), (13, .arr 99 (y13_k3))]⟩) ⟨rfl, rfl, rfl, rfl, rfl, trivial⟩ ⟨rfl, rfl, rfl, trivial⟩ ?_
        refine PT.skip ?_
        refine PT.seq ?_
        refine PT.seq ?_
        refine PT.region ?_
        refine Ops.put rfl rfl (ox_move .tmp) (.one rfl) (.nil) rfl ?_
        refine Ops.put rfl rfl (ox_lss .tmp .int) ((.app (.one rfl) (.nil))) (.nil) rfl ?_
        refine Ops.nil ?_
        refine PT.sub (σ' := ⟨[(3, _), (5, _), (6, _), (7, .val (x7_k3)), (8, .val (x8_k3)), (65, .val ((decide (x7_k3 < (0 : Int)))))], [(3, .var (y3_k3) []), (5, .var (y5_k3) []), (13, .arr 99 (y13_k3))]⟩) ⟨rfl, rfl, rfl, rfl, rfl, rfl, trivial⟩ ⟨rfl, rfl, rfl, trivial⟩ ?_
        refine PT.cond _ rfl (fun hc12 => ?_) (fun hc12 => ?_)
        · replace hφ := if_then hφ hc12
          refine PT.sub (σ' := ⟨[(5, _), (6, _)], [(5, .var (y5_k3) []), (13, .arr 99 (y13_k3))]⟩) ⟨rfl, rfl, trivial⟩ ⟨rfl, rfl, trivial⟩ ?_
          refine PT.seq ?_
          refine PT.region ?_
          refine Ops.put rfl rfl (ox_move .tmp) (.one rfl) (.nil) rfl ?_
          refine Ops.put rfl rfl (ox_buildB z38 u38 rfl (.cons Reply_Err f38_0 .int Bld.nil)) ((.app (.nil) .nil)) (.nil) rfl ?_
          refine Ops.put rfl rfl (ox_assign .tmp) (.one rfl) (.nil) rfl ?_
          refine Ops.mute rfl rfl (ox_store_var t38 .tmp) ((.cons rfl (.one rfl))) (.one rfl) ?_
          refine Ops.nil ?_
          refine PT.sub (σ' := ⟨[(4, _), (5, _)], [(5, .var (({ Err := (6 : Int), N := (0 : Int) } : Mk.Reply)) []), (13, .arr 99 (y13_k3))]⟩) ⟨rfl, rfl, trivial⟩ ⟨rfl, rfl, trivial⟩ ?_
          refine PT.ret ?_
          refine PT.freeze 13 [4] rfl ⟨rfl, trivial⟩ ?_
          obtain rfl := Option.some.inj hφ
          exact PT.done hw0 rfl (.tmp rfl rfl (.cell t38 rfl rfl .nil)) rfl
        · replace hφ := if_else hφ hc12
          refine PT.sub (σ' := ⟨[(3, _), (5, _), (6, _), (7, .val (x7_k3)), (8, .val (x8_k3))], [(3, .var (y3_k3) []), (5, .var (y5_k3) []), (13, .arr 99 (y13_k3))]⟩) ⟨rfl, rfl, rfl, rfl, rfl, trivial⟩ ⟨rfl, rfl, rfl, trivial⟩ ?_
          refine PT.skip ?_
          obtain ⟨k13, hk13, hφ⟩ := J_some hφ
          refine PT.cut (ι := Int × Mk.Reply × (List Mk.Write)) (fun p => ⟨[(5, .ptr 5 (Lens.id (α := Mk.Reply))), (6, .sl 13), (7, .val (p.1))], [(5, .var (p.2.1) []), (13, .arr 99 (p.2.2))]⟩) (fun p => k13 (p.1) (p.2.1) (p.2.2) = some r) ?_ ?_
          · skip
            refine PT.seq ?_
            refine PT.region ?_
            refine Ops.put rfl rfl (ox_fieldAddr_var Call_Kind f33_0) (.one rfl) (.nil) rfl ?_
            refine Ops.put rfl rfl (ox_load_fld t3) (.one rfl) (.one rfl) rfl ?_
            refine Ops.nil ?_
            refine PT.sub (σ' := ⟨[(3, _), (5, _), (6, _), (7, .val (x7_k3)), (8, .val (x8_k3)), (69, .val (y3_k3.Kind))], [(3, .var (y3_k3) []), (5, .var (y5_k3) []), (13, .arr 99 (y13_k3))]⟩) ⟨rfl, rfl, rfl, rfl, rfl, rfl, trivial⟩ ⟨rfl, rfl, rfl, trivial⟩ ?_
            refine PT.block ?_
            refine PT.seq ?_
            refine PT.region ?_
            refine Ops.put rfl rfl (ox_eql .tmp .int) ((.app (.one rfl) (.nil))) (.nil) rfl ?_
            refine Ops.put rfl rfl (ox_assign .tmp) (.one rfl) (.nil) rfl ?_
            refine Ops.nil ?_
            refine PT.sub (σ' := ⟨[(3, _), (5, _), (6, _), (7, .val (x7_k3)), (8, .val (x8_k3)), (69, .val (y3_k3.Kind)), (70, .val ((decide (y3_k3.Kind = (3 : Int)))))], [(3, .var (y3_k3) []), (5, .var (y5_k3) []), (13, .arr 99 (y13_k3))]⟩) ⟨rfl, rfl, rfl, rfl, rfl, rfl, rfl, trivial⟩ ⟨rfl, rfl, rfl, trivial⟩ ?_
            refine PT.cond _ rfl (fun hc14 => ?_) (fun hc14 => ?_)
            · replace hφ := if_then hφ hc14
              refine PT.sub (σ' := ⟨[(5, _), (6, _), (7, .val (x7_k3)), (8, .val (x8_k3))], [(5, .var (y5_k3) []), (13, .arr 99 (y13_k3))]⟩) ⟨rfl, rfl, rfl, rfl, trivial⟩ ⟨rfl, rfl, trivial⟩ ?_
              refine PT.seq ?_
              obtain ⟨hb15, hφ⟩ := G_some hφ
              refine PT.region ?_
              refine Ops.put rfl rfl (ox_move .tmp) (.one rfl) (.nil) rfl ?_
              refine Ops.put rfl rfl (ox_len_arr s26 .tmp) (.one rfl) (.one rfl) rfl ?_
              refine Ops.put rfl rfl (ox_sub .tmp .int hb15) ((.app (.one rfl) (.nil))) (.nil) rfl ?_
              refine Ops.put rfl rfl (ox_assign .tmp) (.one rfl) (.nil) rfl ?_
              refine Ops.nil ?_
              refine PT.sub (σ' := ⟨[(5, _), (6, _), (7, .val (x7_k3)), (8, .val (x8_k3)), (9, .val (((y13_k3.length : Int) - (1 : Int))))], [(5, .var (y5_k3) []), (13, .arr 99 (y13_k3))]⟩) ⟨rfl, rfl, rfl, rfl, rfl, trivial⟩ ⟨rfl, rfl, trivial⟩ ?_
              refine PT.seq ?_
              obtain ⟨hb16, hφ⟩ := G_some hφ
              obtain ⟨hb17, hφ⟩ := G_some hφ
              refine PT.region ?_
              refine Ops.put rfl rfl (ox_move .tmp) (.one rfl) (.nil) rfl ?_
              refine Ops.put rfl rfl (ox_move .tmp) (.one rfl) (.nil) rfl ?_
              refine Ops.put rfl rfl (ox_move .tmp) (.one rfl) (.nil) rfl ?_
              refine Ops.put rfl rfl (ox_move .tmp) (.one rfl) (.nil) rfl ?_
              refine Ops.put rfl rfl (ox_index_arr s26 .tmp .tmp hb16.1 hb16.2) ((.app (.one rfl) (.one rfl))) (.one rfl) rfl ?_
              refine Ops.put rfl rfl (ox_load_ax t99 hb16) (.one rfl) (.one rfl) rfl ?_
              refine Ops.put rfl rfl (ox_index_arr s26 .tmp .tmp hb17.1 hb17.2) ((.app (.one rfl) (.one rfl))) (.one rfl) rfl ?_
              refine Ops.mute rfl rfl (ox_store_ax t99 .tmp hb17) ((.cons rfl (.one rfl))) (.one rfl) ?_
              refine Ops.nil ?_
              refine PT.sub (σ' := ⟨[(5, _), (6, _), (8, .val (x8_k3)), (9, .val (((y13_k3.length : Int) - (1 : Int))))], [(5, .var (y5_k3) []), (13, .arr 99 ((up y13_k3 x7_k3 (ix y13_k3 ((y13_k3.length : Int) - (1 : Int))))))]⟩) ⟨rfl, rfl, rfl, rfl, trivial⟩ ⟨rfl, rfl, trivial⟩ ?_
              refine PT.seq ?_
              refine PT.freeze 13 [6] rfl ⟨rfl, trivial⟩ ?_
              obtain ⟨hb18, hφ⟩ := G_some hφ
              refine PT.region ?_
              refine Ops.put rfl rfl (ox_move .tmp) (.one rfl) (.nil) rfl ?_
              refine Ops.put rfl rfl (ox_move .tmp) (.one rfl) (.nil) rfl ?_
              refine Ops.put rfl rfl (ox_slice s26 .tmp .none (.some .tmp) hb18.1 hb18.2.1 hb18.2.2) ((.app (.one rfl) ((.app (.nil) (.one rfl))))) (.nil) rfl ?_
              refine Ops.put rfl rfl (ox_move .tmp) (.one rfl) (.nil) rfl ?_
              refine Ops.put rfl rfl (ox_buildB z38 u38 rfl (.cons Reply_N f38_1 .tmp Bld.nil)) ((.app (.one rfl) .nil)) (.nil) rfl ?_
              refine Ops.put rfl rfl (ox_assign .tmp) (.one rfl) (.nil) rfl ?_
              refine Ops.mute rfl rfl (ox_store_var t38 .tmp) ((.cons rfl (.one rfl))) (.one rfl) ?_
              refine Ops.nil ?_
              refine PT.sub (σ' := ⟨[(4, .val ((sub (up y13_k3 x7_k3 (ix y13_k3 ((y13_k3.length : Int) - (1 : Int)))) (0 : Int) ((y13_k3.length : Int) - (1 : Int))))), (5, _)], [(5, .var (({ Err := (0 : Int), N := x8_k3 } : Mk.Reply)) [])]⟩) ⟨rfl, rfl, trivial⟩ ⟨rfl, trivial⟩ ?_
              refine PT.ret ?_
              obtain rfl := Option.some.inj hφ
              exact PT.done hw0 rfl (.tmp rfl rfl (.cell t38 rfl rfl .nil)) rfl
            · replace hφ := if_else hφ hc14
              refine PT.sub (σ' := ⟨[(3, _), (5, _), (6, _), (7, .val (x7_k3)), (8, .val (x8_k3)), (69, .val (y3_k3.Kind))], [(3, .var (y3_k3) []), (5, .var (y5_k3) []), (13, .arr 99 (y13_k3))]⟩) ⟨rfl, rfl, rfl, rfl, rfl, rfl, trivial⟩ ⟨rfl, rfl, rfl, trivial⟩ ?_
              refine PT.seq ?_
              refine PT.region ?_
              refine Ops.put rfl rfl (ox_eql .tmp .int) ((.app (.one rfl) (.nil))) (.nil) rfl ?_
              refine Ops.put rfl rfl (ox_assign .tmp) (.one rfl) (.nil) rfl ?_
              refine Ops.nil ?_
              refine PT.sub (σ' := ⟨[(3, _), (5, _), (6, _), (7, .val (x7_k3)), (8, .val (x8_k3)), (69, .val (y3_k3.Kind)), (87, .val ((decide (y3_k3.Kind = (4 : Int)))))], [(3, .var (y3_k3) []), (5, .var (y5_k3) []), (13, .arr 99 (y13_k3))]⟩) ⟨rfl, rfl, rfl, rfl, rfl, rfl, rfl, trivial⟩ ⟨rfl, rfl, rfl, trivial⟩ ?_
              refine PT.cond _ rfl (fun hc19 => ?_) (fun hc19 => ?_)
              · replace hφ := if_then hφ hc19
                refine PT.sub (σ' := ⟨[(3, _), (5, _), (6, _), (7, .val (x7_k3)), (8, .val (x8_k3))], [(3, .var (y3_k3) []), (5, .var (y5_k3) []), (13, .arr 99 (y13_k3))]⟩) ⟨rfl, rfl, rfl, rfl, rfl, trivial⟩ ⟨rfl, rfl, rfl, trivial⟩ ?_
                refine PT.seq ?_
                obtain ⟨hb20, hφ⟩ := G_some hφ
                refine PT.region ?_
                refine Ops.put rfl rfl (ox_move .tmp) (.one rfl) (.nil) rfl ?_
                refine Ops.put rfl rfl (ox_fieldAddr_var Call_N f33_3) (.one rfl) (.nil) rfl ?_
                refine Ops.put rfl rfl (ox_load_fld t3) (.one rfl) (.one rfl) rfl ?_
                refine Ops.put rfl rfl (ox_add .tmp .tmp hb20) ((.app (.one rfl) (.one rfl))) (.nil) rfl ?_
                refine Ops.put rfl rfl (ox_assign .tmp) (.one rfl) (.nil) rfl ?_
                refine Ops.nil ?_
                refine PT.sub (σ' := ⟨[(5, _), (6, _), (7, .val (x7_k3)), (10, .val ((x8_k3 + y3_k3.N)))], [(5, .var (y5_k3) []), (13, .arr 99 (y13_k3))]⟩) ⟨rfl, rfl, rfl, rfl, trivial⟩ ⟨rfl, rfl, trivial⟩ ?_
                refine PT.seq ?_
                refine PT.seq ?_
                refine PT.region ?_
                refine Ops.put rfl rfl (ox_move .tmp) (.one rfl) (.nil) rfl ?_
                refine Ops.put rfl rfl (ox_lss .tmp .int) ((.app (.one rfl) (.nil))) (.nil) rfl ?_
                refine Ops.put rfl rfl (ox_move .tmp) (.one rfl) (.nil) rfl ?_
                refine Ops.guard rfl rfl rfl rfl (.plain .nil) (fun hG => (ox_move .tmp)) ⟨rfl, trivial⟩ (.nil) rfl ?_
                refine Ops.guard rfl rfl rfl rfl (.cond (fun h => h) .nil) (fun hG => (ox_gtr .tmp .int)) ⟨rfl, trivial⟩ (.nil) rfl ?_
                refine Ops.put rfl rfl ox_pick_or (⟨rfl, rfl, trivial⟩) (.nil) rfl ?_
                refine Ops.nil ?_
                refine PT.sub (σ' := ⟨[(5, _), (6, _), (7, .val (x7_k3)), (10, .val ((x8_k3 + y3_k3.N))), (98, .val (((decide ((x8_k3 + y3_k3.N) < (-1073741824 : Int))) || (decide ((1073741824 : Int) < (x8_k3 + y3_k3.N))))))], [(5, .var (y5_k3) []), (13, .arr 99 (y13_k3))]⟩) ⟨rfl, rfl, rfl, rfl, rfl, trivial⟩ ⟨rfl, rfl, trivial⟩ ?_
                refine PT.cond _ rfl (fun hc21 => ?_) (fun hc21 => ?_)
                · replace hφ := if_then hφ hc21
                  refine PT.sub (σ' := ⟨[(5, _), (6, _)], [(5, .var (y5_k3) []), (13, .arr 99 (y13_k3))]⟩) ⟨rfl, rfl, trivial⟩ ⟨rfl, rfl, trivial⟩ ?_
                  refine PT.seq ?_
                  refine PT.region ?_
                  refine Ops.put rfl rfl (ox_move .tmp) (.one rfl) (.nil) rfl ?_
                  refine Ops.put rfl rfl (ox_buildB z38 u38 rfl (.cons Reply_Err f38_0 .int Bld.nil)) ((.app (.nil) .nil)) (.nil) rfl ?_
                  refine Ops.put rfl rfl (ox_assign .tmp) (.one rfl) (.nil) rfl ?_
                  refine Ops.mute rfl rfl (ox_store_var t38 .tmp) ((.cons rfl (.one rfl))) (.one rfl) ?_
                  refine Ops.nil ?_
                  refine PT.sub (σ' := ⟨[(4, _), (5, _)], [(5, .var (({ Err := (3 : Int), N := (0 : Int) } : Mk.Reply)) []), (13, .arr 99 (y13_k3))]⟩) ⟨rfl, rfl, trivial⟩ ⟨rfl, rfl, trivial⟩ ?_
                  refine PT.ret ?_
                  refine PT.freeze 13 [4] rfl ⟨rfl, trivial⟩ ?_
                  obtain rfl := Option.some.inj hφ
                  exact PT.done hw0 rfl (.tmp rfl rfl (.cell t38 rfl rfl .nil)) rfl
                · replace hφ := if_else hφ hc21
                  refine PT.sub (σ' := ⟨[(5, _), (6, _), (7, .val (x7_k3)), (10, .val ((x8_k3 + y3_k3.N)))], [(5, .var (y5_k3) []), (13, .arr 99 (y13_k3))]⟩) ⟨rfl, rfl, rfl, rfl, trivial⟩ ⟨rfl, rfl, trivial⟩ ?_
                  refine PT.skip ?_
                  obtain ⟨hb22, hφ⟩ := G_some hφ
                  refine PT.region ?_
                  refine Ops.put rfl rfl (ox_move .tmp) (.one rfl) (.nil) rfl ?_
                  refine Ops.put rfl rfl (ox_move .tmp) (.one rfl) (.nil) rfl ?_
                  refine Ops.put rfl rfl (ox_move .tmp) (.one rfl) (.nil) rfl ?_
                  refine Ops.put rfl rfl (ox_index_arr s26 .tmp .tmp hb22.1 hb22.2) ((.app (.one rfl) (.one rfl))) (.one rfl) rfl ?_
                  refine Ops.put rfl rfl (ox_fieldAddr_aptr Write_N f99_1) (.one rfl) (.nil) rfl ?_
                  refine Ops.mute rfl rfl (ox_store_ax t3 .tmp hb22) ((.cons rfl (.one rfl))) (.one rfl) ?_
                  refine Ops.nil ?_
                  refine PT.sub (σ' := ⟨[(5, _), (6, _), (7, .val (x7_k3))], [(5, .var (y5_k3) []), (13, .arr 99 ((up y13_k3 x7_k3 { (ix y13_k3 x7_k3) with N := (x8_k3 + y3_k3.N) })))]⟩) ⟨rfl, rfl, rfl, trivial⟩ ⟨rfl, rfl, trivial⟩ ?_
                  exact PT.meet (x7_k3, y5_k3, (up y13_k3 x7_k3 { (ix y13_k3 x7_k3) with N := (x8_k3 + y3_k3.N) })) hφ ⟨rfl, rfl, rfl, trivial⟩ ⟨rfl, rfl, trivial⟩
              · replace hφ := if_else hφ hc19
                refine PT.sub (σ' := ⟨[(3, _), (5, _), (6, _), (7, .val (x7_k3)), (69, .val (y3_k3.Kind))], [(3, .var (y3_k3) []), (5, .var (y5_k3) []), (13, .arr 99 (y13_k3))]⟩) ⟨rfl, rfl, rfl, rfl, rfl, trivial⟩ ⟨rfl, rfl, rfl, trivial⟩ ?_
                refine PT.seq ?_
                refine PT.region ?_
                refine Ops.put rfl rfl (ox_eql .tmp .int) ((.app (.one rfl) (.nil))) (.nil) rfl ?_
                refine Ops.put rfl rfl (ox_assign .tmp) (.one rfl) (.nil) rfl ?_
                refine Ops.nil ?_
                refine PT.sub (σ' := ⟨[(3, _), (5, _), (6, _), (7, .val (x7_k3)), (106, .val ((decide (y3_k3.Kind = (6 : Int)))))], [(3, .var (y3_k3) []), (5, .var (y5_k3) []), (13, .arr 99 (y13_k3))]⟩) ⟨rfl, rfl, rfl, rfl, rfl, trivial⟩ ⟨rfl, rfl, rfl, trivial⟩ ?_
                refine PT.cond _ rfl (fun hc23 => ?_) (fun hc23 => ?_)
                · replace hφ := if_then hφ hc23
                  refine PT.sub (σ' := ⟨[(3, _), (5, _), (6, _), (7, .val (x7_k3))], [(3, .var (y3_k3) []), (5, .var (y5_k3) []), (13, .arr 99 (y13_k3))]⟩) ⟨rfl, rfl, rfl, rfl, trivial⟩ ⟨rfl, rfl, rfl, trivial⟩ ?_
                  refine PT.seq ?_
                  obtain ⟨v24, hv24, hφ⟩ := B_some hφ
                  refine PT.region ?_
                  refine Ops.put rfl rfl (ox_move .tmp) (.one rfl) (.nil) rfl ?_
                  refine Ops.put rfl rfl (ox_fieldAddr_var Call_Other f33_2) (.one rfl) (.nil) rfl ?_
                  refine Ops.put rfl rfl (ox_load_fld t3) (.one rfl) (.one rfl) rfl ?_
                  refine Ops.put rfl rfl (ox_callL (id := 13) (c_model_entry hv24) flat_int (.lent .tmp (.cons .tmp .nil))) ((.app (.one rfl) (.app (.one rfl) .nil))) (.one rfl) rfl ?_
                  refine Ops.put rfl rfl (ox_assign .tmp) (.one rfl) (.nil) rfl ?_
                  refine Ops.nil ?_
                  refine PT.sub (σ' := ⟨[(5, _), (6, _), (7, .val (x7_k3)), (11, .val (v24))], [(5, .var (y5_k3) []), (13, .arr 99 (y13_k3))]⟩) ⟨rfl, rfl, rfl, rfl, trivial⟩ ⟨rfl, rfl, trivial⟩ ?_
                  refine PT.seq ?_
                  refine PT.seq ?_
                  refine PT.region ?_
                  refine Ops.put rfl rfl (ox_move .tmp) (.one rfl) (.nil) rfl ?_
                  refine Ops.put rfl rfl (ox_lss .tmp .int) ((.app (.one rfl) (.nil))) (.nil) rfl ?_
                  refine Ops.nil ?_
                  refine PT.sub (σ' := ⟨[(5, _), (6, _), (7, .val (x7_k3)), (11, .val (v24)), (113, .val ((decide (v24 < (0 : Int)))))], [(5, .var (y5_k3) []), (13, .arr 99 (y13_k3))]⟩) ⟨rfl, rfl, rfl, rfl, rfl, trivial⟩ ⟨rfl, rfl, trivial⟩ ?_
                  refine PT.cond _ rfl (fun hc25 => ?_) (fun hc25 => ?_)
                  · replace hφ := if_then hφ hc25
                    refine PT.sub (σ' := ⟨[(5, _), (6, _)], [(5, .var (y5_k3) []), (13, .arr 99 (y13_k3))]⟩) ⟨rfl, rfl, trivial⟩ ⟨rfl, rfl, trivial⟩ ?_
                    refine PT.seq ?_
                    refine PT.region ?_
                    refine Ops.put rfl rfl (ox_move .tmp) (.one rfl) (.nil) rfl ?_
                    refine Ops.put rfl rfl (ox_buildB z38 u38 rfl (.cons Reply_Err f38_0 .int Bld.nil)) ((.app (.nil) .nil)) (.nil) rfl ?_
                    refine Ops.put rfl rfl (ox_assign .tmp) (.one rfl) (.nil) rfl ?_
                    refine Ops.mute rfl rfl (ox_store_var t38 .tmp) ((.cons rfl (.one rfl))) (.one rfl) ?_
                    refine Ops.nil ?_
                    refine PT.sub (σ' := ⟨[(4, _), (5, _)], [(5, .var (({ Err := (6 : Int), N := (0 : Int) } : Mk.Reply)) []), (13, .arr 99 (y13_k3))]⟩) ⟨rfl, rfl, trivial⟩ ⟨rfl, rfl, trivial⟩ ?_
                    refine PT.ret ?_
                    refine PT.freeze 13 [4] rfl ⟨rfl, trivial⟩ ?_
                    obtain rfl := Option.some.inj hφ
                    exact PT.done hw0 rfl (.tmp rfl rfl (.cell t38 rfl rfl .nil)) rfl
                  · replace hφ := if_else hφ hc25
                    refine PT.sub (σ' := ⟨[(5, _), (6, _), (7, .val (x7_k3)), (11, .val (v24))], [(5, .var (y5_k3) []), (13, .arr 99 (y13_k3))]⟩) ⟨rfl, rfl, rfl, rfl, trivial⟩ ⟨rfl, rfl, trivial⟩ ?_
                    refine PT.skip ?_
                    obtain ⟨hb26, hφ⟩ := G_some hφ
                    obtain ⟨hb27, hφ⟩ := G_some hφ
                    obtain ⟨hb28, hφ⟩ := G_some hφ
                    obtain ⟨hb29, hφ⟩ := G_some hφ
                    refine PT.draw hMixed (
                        Segs.cons (Step.put rfl rfl (ox_move .tmp)) ⟨.one rfl, .nil⟩ (by kernel_rfl) rfl <|
                        Segs.cons (Step.put rfl rfl (ox_move .tmp)) ⟨.one rfl, .nil⟩ (by kernel_rfl) rfl <|
                        Segs.cons (Step.put rfl rfl (ox_move .tmp)) ⟨.one rfl, .nil⟩ (by kernel_rfl) rfl <|
                        Segs.cons (Step.put rfl rfl (ox_move .tmp)) ⟨.one rfl, .nil⟩ (by kernel_rfl) rfl <|
                        Segs.cons (Step.put rfl rfl (ox_move .tmp)) ⟨.one rfl, .nil⟩ (by kernel_rfl) rfl <|
                        Segs.cons (Step.put rfl rfl (ox_move .tmp)) ⟨.one rfl, .nil⟩ (by kernel_rfl) rfl <|
                        Segs.cons (Step.put rfl rfl (ox_index_arr s26 .tmp .tmp hb26.1 hb26.2)) ⟨(.app (.one rfl) (.one rfl)), .one rfl⟩ (by kernel_rfl) rfl <|
                        Segs.cons (Step.put rfl rfl (ox_fieldAddr_aptr Write_N f99_1)) ⟨.one rfl, .nil⟩ (by kernel_rfl) rfl <|
                        Segs.cons (Step.put rfl rfl (ox_load_ax t3 hb26)) ⟨.one rfl, .one rfl⟩ (by kernel_rfl) rfl <|
                        Segs.cons (Step.put rfl rfl (ox_move .tmp)) ⟨.one rfl, .nil⟩ (by kernel_rfl) rfl <|
                        Segs.cons (Step.put rfl rfl (ox_move .tmp)) ⟨.one rfl, .nil⟩ (by kernel_rfl) rfl <|
                        Segs.cons (Step.put rfl rfl (ox_index_arr s26 .tmp .tmp hb27.1 hb27.2)) ⟨(.app (.one rfl) (.one rfl)), .one rfl⟩ (by kernel_rfl) rfl <|
                        Segs.cons (Step.put rfl rfl (ox_fieldAddr_aptr Write_N f99_1)) ⟨.one rfl, .nil⟩ (by kernel_rfl) rfl <|
                        Segs.cons (Step.put rfl rfl (ox_load_ax t3 hb27)) ⟨.one rfl, .one rfl⟩ (by kernel_rfl) rfl <|
                        Segs.cons (Step.put rfl rfl (ox_index_arr s26 .tmp .tmp hb28.1 hb28.2)) ⟨(.app (.one rfl) (.one rfl)), .one rfl⟩ (by kernel_rfl) rfl <|
                        Segs.cons (Step.put rfl rfl (ox_fieldAddr_aptr Write_N f99_1)) ⟨.one rfl, .nil⟩ (by kernel_rfl) rfl <|
                        Segs.cons (Step.mute rfl rfl (ox_store_ax t3 .tmp hb28)) ⟨(.cons rfl (.one rfl)), .one rfl⟩ (by kernel_rfl) rfl <|
                        Segs.cons (Step.put rfl rfl (ox_index_arr s26 .tmp .tmp hb29.1 hb29.2)) ⟨(.app (.one rfl) (.one rfl)), .one rfl⟩ (by kernel_rfl) rfl <|
                        Segs.cons (Step.put rfl rfl (ox_fieldAddr_aptr Write_N f99_1)) ⟨.one rfl, .nil⟩ (by kernel_rfl) rfl <|
                        Segs.cons (Step.mute rfl rfl (ox_store_ax t3 .tmp hb29)) ⟨(.cons rfl (.one rfl)), .one rfl⟩ (by kernel_rfl) rfl <|
                        Segs.nil) _ [[], [], [], [], [], [], [4, 5], [4, 5, 6], [4, 5, 6, 7], [], [], [9, 10], [9, 10, 11], [9, 10, 11, 12], [0, 1, 4, 5, 6, 7, 8, 9, 10, 11, 12, 13], [0, 1, 4, 5, 6, 7, 8, 9, 10, 11, 12, 13, 14], [0, 1, 4, 5, 6, 7, 8, 9, 10, 11, 12, 13, 14, 15], [0, 1, 2, 3, 4, 5, 6, 7, 8, 9, 10, 11, 12, 13, 14, 15, 16], [0, 1, 2, 3, 4, 5, 6, 7, 8, 9, 10, 11, 12, 13, 14, 15, 16, 17], [0, 1, 2, 3, 4, 5, 6, 7, 8, 9, 10, 11, 12, 13, 14, 15, 16, 17, 18]] rfl (by kernel_rfl) (by kernel_rfl) ?_
                    refine PT.sub (σ' := ⟨[(5, _), (6, _), (7, .val (x7_k3))], [(5, .var (y5_k3) []), (13, .arr 99 ((up (up y13_k3 x7_k3 { (ix y13_k3 x7_k3) with N := (ix y13_k3 v24).N }) v24 { (ix (up y13_k3 x7_k3 { (ix y13_k3 x7_k3) with N := (ix y13_k3 v24).N }) v24) with N := (ix y13_k3 x7_k3).N })))]⟩) ⟨rfl, rfl, rfl, trivial⟩ ⟨rfl, rfl, trivial⟩ ?_
                    exact PT.meet (x7_k3, y5_k3, (up (up y13_k3 x7_k3 { (ix y13_k3 x7_k3) with N := (ix y13_k3 v24).N }) v24 { (ix (up y13_k3 x7_k3 { (ix y13_k3 x7_k3) with N := (ix y13_k3 v24).N }) v24) with N := (ix y13_k3 x7_k3).N })) hφ ⟨rfl, rfl, rfl, trivial⟩ ⟨rfl, rfl, trivial⟩
                · replace hφ := if_else hφ hc23
                  refine PT.sub (σ' := ⟨[(5, _), (6, _), (7, .val (x7_k3))], [(5, .var (y5_k3) []), (13, .arr 99 (y13_k3))]⟩) ⟨rfl, rfl, rfl, trivial⟩ ⟨rfl, rfl, trivial⟩ ?_
                  refine PT.skip ?_
                  exact PT.meet (x7_k3, y5_k3, y13_k3) hφ ⟨rfl, rfl, rfl, trivial⟩ ⟨rfl, rfl, trivial⟩
          · rintro ⟨x7_k13, y5_k13, y13_k13⟩ hφ
            subst hk13
            refine PT.sub (σ' := ⟨[(5, .ptr 5 (Lens.id (α := Mk.Reply))), (6, .sl 13), (7, .val (x7_k13))], [(5, .var (y5_k13) []), (13, .arr 99 (y13_k13))]⟩) ⟨rfl, rfl, rfl, trivial⟩ ⟨rfl, rfl, trivial⟩ ?_
            refine PT.seq ?_
            obtain ⟨hb30, hφ⟩ := G_some hφ
            refine PT.draw hMixed (
                Segs.cons (Step.put rfl rfl (ox_move .tmp)) ⟨.one rfl, .nil⟩ (by kernel_rfl) rfl <|
                Segs.cons (Step.put rfl rfl (ox_move .tmp)) ⟨.one rfl, .nil⟩ (by kernel_rfl) rfl <|
                Segs.cons (Step.put rfl rfl (ox_move .tmp)) ⟨.one rfl, .nil⟩ (by kernel_rfl) rfl <|
                Segs.cons (Step.put rfl rfl (ox_index_arr s26 .tmp .tmp hb30.1 hb30.2)) ⟨(.app (.one rfl) (.one rfl)), .one rfl⟩ (by kernel_rfl) rfl <|
                Segs.cons (Step.put rfl rfl (ox_fieldAddr_aptr Write_N f99_1)) ⟨.one rfl, .nil⟩ (by kernel_rfl) rfl <|
                Segs.cons (Step.put rfl rfl (ox_load_ax t3 hb30)) ⟨.one rfl, .one rfl⟩ (by kernel_rfl) rfl <|
                Segs.cons (Step.put rfl rfl (ox_buildB z38 u38 rfl (.cons Reply_N f38_1 .tmp Bld.nil))) ⟨(.app (.one rfl) .nil), .nil⟩ (by kernel_rfl) rfl <|
                Segs.cons (Step.put rfl rfl (ox_assign .tmp)) ⟨.one rfl, .nil⟩ (by kernel_rfl) rfl <|
                Segs.cons (Step.mute rfl rfl (ox_store_var t38 .tmp)) ⟨(.cons rfl (.one rfl)), .one rfl⟩ (by kernel_rfl) rfl <|
                Segs.nil) _ [[], [], [], [1, 2], [1, 2, 3], [1, 2, 3, 4], [1, 2, 3, 4, 5], [0], [0, 1, 2, 3, 4, 5, 6, 7]] rfl (by kernel_rfl) (by kernel_rfl) ?_
            refine PT.sub (σ' := ⟨[(4, _), (5, _)], [(5, .var (({ Err := (0 : Int), N := (ix y13_k13 x7_k13).N } : Mk.Reply)) []), (13, .arr 99 (y13_k13))]⟩) ⟨rfl, rfl, trivial⟩ ⟨rfl, rfl, trivial⟩ ?_
            refine PT.ret ?_
            refine PT.freeze 13 [4] rfl ⟨rfl, trivial⟩ ?_
            obtain rfl := Option.some.inj hφ
            exact PT.done hw0 rfl (.tmp rfl rfl (.cell t38 rfl rfl .nil)) rfl
theorem c_model_Of {a0 : List Int} {r : ((List Mk.Write))} (hφ : model_Of a0 = some r) : Fn Go.Proofs.Try.prog 55 [.val a0] (.val r) := by
  unfold model_Of at hφ
  refine Fn.mk' Go.Proofs.Try.func55 rfl (by decide) rfl rfl rfl (fun w0 hw0 => ?_)
  refine PT.seq ?_
  refine PT.region ?_
  refine Ops.put rfl rfl (ox_assign .nilS) (.nil) (.nil) rfl ?_
  refine Ops.nil ?_
  refine PT.sub (σ' := ⟨[(0, .val (a0))], []⟩) ⟨rfl, trivial⟩ trivial ?_
  refine PT.seq ?_
  refine PT.region ?_
  refine Ops.put rfl rfl (ox_assign .nilS) (.nil) (.nil) rfl ?_
  refine Ops.nil ?_
  refine PT.sub (σ' := ⟨[(0, .val (a0)), (3, .nilS)], []⟩) ⟨rfl, rfl, trivial⟩ trivial ?_
  obtain ⟨k1, hk1, hφ⟩ := J_some hφ
  refine PT.cut (ι := (List Mk.Write)) (fun p => ⟨[(3, .sl 1003)], [(1003, .arr 99 (p))]⟩) (fun p => k1 (p) = some r) ?_ ?_
  · skip
    refine PT.seq ?_
    obtain ⟨hb2, hφ⟩ := G_some hφ
    refine PT.region ?_
    refine Ops.put rfl rfl (ox_move .tmp) (.one rfl) (.nil) rfl ?_
    refine Ops.put rfl rfl (ox_ix s25 .tmp .int hb2.1 hb2.2) ((.app (.one rfl) (.nil))) (.nil) rfl ?_
    refine Ops.put rfl rfl (ox_load_elem t3) (.one rfl) (.nil) rfl ?_
    refine Ops.put rfl rfl (ox_move .int) (.nil) (.nil) rfl ?_
    refine Ops.nil ?_
    refine PT.sub (σ' := ⟨[(0, .val (a0)), (3, .nilS), (7, .val ((ix a0 (0 : Int)))), (8, .val ((0 : Int)))], []⟩) ⟨rfl, rfl, rfl, rfl, trivial⟩ trivial ?_
    refine PT.block ?_
    refine PT.nilArr 1003 3 99 (Mk.Write) rfl (by kernel_rfl) ?_
    refine PT.loop (ι := Nat × (List Int) × Int × Int × (List Mk.Write)) (fun p => ⟨[(0, .val (p.2.1)), (3, .sl 1003), (7, .val (p.2.2.1)), (8, .val (p.2.2.2.1))], [(1003, .arr 99 (p.2.2.2.2))]⟩) (fun p => model_Of_l1 k1 p.1 (p.2.1) (p.2.2.1) (p.2.2.2.1) (p.2.2.2.2) = some r) (fun p => p.1) (((ix a0 (0 : Int)) - (0 : Int)).toNat + 1, a0, (ix a0 (0 : Int)), (0 : Int), ([] : List Mk.Write)) hφ ⟨rfl, rfl, rfl, rfl, trivial⟩ ⟨rfl, trivial⟩ ?_
    rintro ⟨m3, x0_m3, x7_m3, x8_m3, y1003_m3⟩ (hφ : model_Of_l1 k1 m3 x0_m3 x7_m3 x8_m3 y1003_m3 = some r)
    obtain _ | m3 := m3
    · exact (none_no hφ).elim
    rw [model_Of_l1.eq_2] at hφ
    refine PT.sub (σ' := ⟨[(0, .val (x0_m3)), (3, .sl 1003), (7, .val (x7_m3)), (8, .val (x8_m3))], [(1003, .arr 99 (y1003_m3))]⟩) ⟨rfl, rfl, rfl, rfl, trivial⟩ ⟨rfl, trivial⟩ ?_
    refine PT.seq ?_
    refine PT.region ?_
    refine Ops.put rfl rfl (ox_lss .tmp .tmp) ((.app (.one rfl) (.one rfl))) (.nil) rfl ?_
    refine Ops.nil ?_
    refine PT.sub (σ' := ⟨[(0, .val (x0_m3)), (3, _), (7, .val (x7_m3)), (8, .val (x8_m3)), (9, .val ((decide (x8_m3 < x7_m3))))], [(1003, .arr 99 (y1003_m3))]⟩) ⟨rfl, rfl, rfl, rfl, rfl, trivial⟩ ⟨rfl, trivial⟩ ?_
    refine PT.seq ?_
    refine PT.cond _ rfl (fun hc4 => ?_) (fun hc4 => ?_)
    · replace hφ := if_then hφ hc4
      refine PT.sub (σ' := ⟨[(0, .val (x0_m3)), (3, _), (7, .val (x7_m3)), (8, .val (x8_m3))], [(1003, .arr 99 (y1003_m3))]⟩) ⟨rfl, rfl, rfl, rfl, trivial⟩ ⟨rfl, trivial⟩ ?_
      refine PT.skip ?_
      refine PT.seq ?_
      refine PT.block ?_
      refine PT.seq ?_
      refine PT.region ?_
      refine Ops.put rfl rfl (ox_move .tmp) (.one rfl) (.nil) rfl ?_
      refine Ops.put rfl rfl (ox_assign .tmp) (.one rfl) (.nil) rfl ?_
      refine Ops.nil ?_
      refine PT.sub (σ' := ⟨[(0, .val (x0_m3)), (3, _), (4, .val (x8_m3)), (7, .val (x7_m3)), (8, .val (x8_m3))], [(1003, .arr 99 (y1003_m3))]⟩) ⟨rfl, rfl, rfl, rfl, rfl, trivial⟩ ⟨rfl, trivial⟩ ?_
      obtain ⟨hb5, hφ⟩ := G_some hφ
      obtain ⟨hb6, hφ⟩ := G_some hφ
      obtain ⟨hb7, hφ⟩ := G_some hφ
      obtain ⟨hb8, hφ⟩ := G_some hφ
      obtain ⟨hb9, hφ⟩ := G_some hφ
      obtain ⟨hb10, hφ⟩ := G_some hφ
      obtain ⟨hb11, hφ⟩ := G_some hφ
      refine PT.draw hMixed (
          Segs.cons (Step.put rfl rfl (ox_move .tmp)) ⟨.one rfl, .nil⟩ (by kernel_rfl) rfl <|
          Segs.cons (Step.put rfl rfl (ox_move .tmp)) ⟨.one rfl, .nil⟩ (by kernel_rfl) rfl <|
          Segs.cons (Step.put rfl rfl (ox_move .tmp)) ⟨.one rfl, .nil⟩ (by kernel_rfl) rfl <|
          Segs.cons (Step.put rfl rfl (ox_mul .int .tmp hb5)) ⟨(.app (.nil) (.one rfl)), .nil⟩ (by kernel_rfl) rfl <|
          Segs.cons (Step.put rfl rfl (ox_add .int .tmp hb6)) ⟨(.app (.nil) (.one rfl)), .nil⟩ (by kernel_rfl) rfl <|
          Segs.cons (Step.put rfl rfl (ox_ix s25 .tmp .tmp hb7.1 hb7.2)) ⟨(.app (.one rfl) (.one rfl)), .nil⟩ (by kernel_rfl) rfl <|
          Segs.cons (Step.put rfl rfl (ox_load_elem t3)) ⟨.one rfl, .nil⟩ (by kernel_rfl) rfl <|
          Segs.cons (Step.put rfl rfl (ox_move .tmp)) ⟨.one rfl, .nil⟩ (by kernel_rfl) rfl <|
          Segs.cons (Step.put rfl rfl (ox_move .tmp)) ⟨.one rfl, .nil⟩ (by kernel_rfl) rfl <|
          Segs.cons (Step.put rfl rfl (ox_mul .int .tmp hb8)) ⟨(.app (.nil) (.one rfl)), .nil⟩ (by kernel_rfl) rfl <|
          Segs.cons (Step.put rfl rfl (ox_add .int .tmp hb9)) ⟨(.app (.nil) (.one rfl)), .nil⟩ (by kernel_rfl) rfl <|
          Segs.cons (Step.put rfl rfl (ox_ix s25 .tmp .tmp hb10.1 hb10.2)) ⟨(.app (.one rfl) (.one rfl)), .nil⟩ (by kernel_rfl) rfl <|
          Segs.cons (Step.put rfl rfl (ox_load_elem t3)) ⟨.one rfl, .nil⟩ (by kernel_rfl) rfl <|
          Segs.cons (Step.put rfl rfl (ox_buildB z99 u99 rfl (.cons Write_At f99_0 .tmp (.cons Write_N f99_1 .tmp Bld.nil)))) ⟨(.app (.one rfl) (.app (.one rfl) .nil)), .nil⟩ (by kernel_rfl) rfl <|
          Segs.cons (Step.put rfl rfl (ox_buildSlice_val s26 z99 (.cons .tmp Parts.nil) rfl (by decide))) ⟨(.app (.one rfl) .nil), .nil⟩ (by kernel_rfl) rfl <|
          Segs.cons (Step.putK [3, 11] rfl rfl (ox_append a26 .tmp .tmp hb11.1 hb11.2)) ⟨(.app (.one rfl) (.one rfl)), .one rfl⟩ (by kernel_rfl) rfl <|
          Segs.cons (Step.put rfl rfl (ox_assign .tmp)) ⟨.one rfl, .nil⟩ (by kernel_rfl) rfl <|
          Segs.nil) _ [[], [], [], [2], [2, 3], [1, 2, 3, 4], [1, 2, 3, 4, 5], [], [], [8], [8, 9], [7, 8, 9, 10], [7, 8, 9, 10, 11], [1, 2, 3, 4, 5, 6, 7, 8, 9, 10, 11, 12], [1, 2, 3, 4, 5, 6, 7, 8, 9, 10, 11, 12, 13], [0, 1, 2, 3, 4, 5, 6, 7, 8, 9, 10, 11, 12, 13, 14], [0, 1, 2, 3, 4, 5, 6, 7, 8, 9, 10, 11, 12, 13, 14, 15]] rfl (by kernel_rfl) (by kernel_rfl) ?_
      refine PT.sub (σ' := ⟨[(0, .val (x0_m3)), (3, _), (7, .val (x7_m3)), (8, .val (x8_m3))], [(1003, .arr 99 ((y1003_m3 ++ ([({ At := (ix x0_m3 ((1 : Int) + ((2 : Int) * x8_m3))), N := (ix x0_m3 ((2 : Int) + ((2 : Int) * x8_m3))) } : Mk.Write)] : List Mk.Write))))]⟩) ⟨rfl, rfl, rfl, rfl, trivial⟩ ⟨rfl, trivial⟩ ?_
      obtain ⟨hb12, hφ⟩ := G_some hφ
      refine PT.region ?_
      refine Ops.put rfl rfl (ox_add .tmp .int hb12) ((.app (.one rfl) (.nil))) (.nil) rfl ?_
      refine Ops.put rfl rfl (ox_move .tmp) (.one rfl) (.nil) rfl ?_
      refine Ops.nil ?_
      refine PT.sub (σ' := ⟨[(0, .val (x0_m3)), (3, _), (7, .val (x7_m3)), (8, .val ((x8_m3 + (1 : Int))))], [(1003, .arr 99 ((y1003_m3 ++ ([({ At := (ix x0_m3 ((1 : Int) + ((2 : Int) * x8_m3))), N := (ix x0_m3 ((2 : Int) + ((2 : Int) * x8_m3))) } : Mk.Write)] : List Mk.Write))))]⟩) ⟨rfl, rfl, rfl, rfl, trivial⟩ ⟨rfl, trivial⟩ ?_
      exact PT.next (m3, x0_m3, x7_m3, (x8_m3 + (1 : Int)), (y1003_m3 ++ ([({ At := (ix x0_m3 ((1 : Int) + ((2 : Int) * x8_m3))), N := (ix x0_m3 ((2 : Int) + ((2 : Int) * x8_m3))) } : Mk.Write)] : List Mk.Write))) hφ (Nat.lt_succ_self _) ⟨rfl, rfl, rfl, rfl, trivial⟩ ⟨rfl, trivial⟩
    · replace hφ := if_else hφ hc4
      refine PT.sub (σ' := ⟨[(3, _)], [(1003, .arr 99 (y1003_m3))]⟩) ⟨rfl, trivial⟩ ⟨rfl, trivial⟩ ?_
      refine PT.exit ?_
      exact PT.meet (y1003_m3) hφ ⟨rfl, trivial⟩ ⟨rfl, trivial⟩
  · rintro y1003_k1 hφ
    subst hk1
    refine PT.sub (σ' := ⟨[(3, .sl 1003)], [(1003, .arr 99 (y1003_k1))]⟩) ⟨rfl, trivial⟩ ⟨rfl, trivial⟩ ?_
    refine PT.seq ?_
    refine PT.region ?_
    refine Ops.put rfl rfl (ox_move .tmp) (.one rfl) (.nil) rfl ?_
    refine Ops.put rfl rfl (ox_assign .tmp) (.one rfl) (.nil) rfl ?_
    refine Ops.nil ?_
    refine PT.sub (σ' := ⟨[(2, _)], [(1003, .arr 99 (y1003_k1))]⟩) ⟨rfl, trivial⟩ ⟨rfl, trivial⟩ ?_
    refine PT.ret ?_
    refine PT.freeze 1003 [2] rfl ⟨rfl, trivial⟩ ?_
    obtain rfl := Option.some.inj hφ
    exact PT.done hw0 rfl (.tmp rfl rfl .nil) rfl
theorem c_model_All {a0 : List Mk.Request} {r : ((List Mk.Write) × (List Mk.Reply))} (hφ : model_All a0 = some r) : Fn Go.Proofs.Try.prog 54 [.val a0] (.tup [.val r.1, .val r.2]) := by
  unfold model_All at hφ
  refine Fn.mk' Go.Proofs.Try.func54 rfl (by decide) rfl rfl rfl (fun w0 hw0 => ?_)
  refine PT.seq ?_
  refine PT.region ?_
  refine Ops.put rfl rfl (ox_assign .nilS) (.nil) (.nil) rfl ?_
  refine Ops.put rfl rfl (ox_assign .nilS) (.nil) (.nil) rfl ?_
  refine Ops.nil ?_
  refine PT.sub (σ' := ⟨[(0, .val (a0))], []⟩) ⟨rfl, trivial⟩ trivial ?_
  refine PT.seq ?_
  refine PT.region ?_
  refine Ops.put rfl rfl (ox_assign .nilS) (.nil) (.nil) rfl ?_
  refine Ops.nil ?_
  refine PT.sub (σ' := ⟨[(0, .val (a0)), (4, .nilS)], []⟩) ⟨rfl, rfl, trivial⟩ trivial ?_
  refine PT.seq ?_
  refine PT.region ?_
  refine Ops.put rfl rfl (ox_assign .nilS) (.nil) (.nil) rfl ?_
  refine Ops.nil ?_
  refine PT.sub (σ' := ⟨[(0, .val (a0)), (4, .nilS), (5, .nilS)], []⟩) ⟨rfl, rfl, rfl, trivial⟩ trivial ?_
  obtain ⟨k1, hk1, hφ⟩ := J_some hφ
  refine PT.cut (ι := (List Mk.Write) × (List Mk.Reply)) (fun p => ⟨[(4, .val (p.1)), (5, .sl 1005)], [(1005, .arr 38 (p.2))]⟩) (fun p => k1 (p.1) (p.2) = some r) ?_ ?_
  · skip
    refine PT.seq ?_
    refine PT.region ?_
    refine Ops.put rfl rfl (ox_move .tmp) (.one rfl) (.nil) rfl ?_
    refine Ops.put rfl rfl (ox_len s28 .tmp) (.one rfl) (.nil) rfl ?_
    refine Ops.put rfl rfl (ox_move .int) (.nil) (.nil) rfl ?_
    refine Ops.nil ?_
    refine PT.sub (σ' := ⟨[(4, .nilS), (5, .nilS), (10, .val (a0)), (11, .val ((a0.length : Int))), (12, .val ((0 : Int)))], []⟩) ⟨rfl, rfl, rfl, rfl, rfl, trivial⟩ trivial ?_
    refine PT.block ?_
    refine PT.asNil 4 (Mk.Write) rfl ?_
    refine PT.nilArr 1005 5 38 (Mk.Reply) rfl (by kernel_rfl) ?_
    refine PT.loop (ι := Nat × (List Mk.Write) × (List Mk.Request) × Int × Int × (List Mk.Reply)) (fun p => ⟨[(4, .val (p.2.1)), (5, .sl 1005), (10, .val (p.2.2.1)), (11, .val (p.2.2.2.1)), (12, .val (p.2.2.2.2.1))], [(1005, .arr 38 (p.2.2.2.2.2))]⟩) (fun p => model_All_l1 k1 p.1 (p.2.1) (p.2.2.1) (p.2.2.2.1) (p.2.2.2.2.1) (p.2.2.2.2.2) = some r) (fun p => p.1) (((a0.length : Int) - (0 : Int)).toNat + 1, ([] : List Mk.Write), a0, (a0.length : Int), (0 : Int), ([] : List Mk.Reply)) hφ ⟨rfl, rfl, rfl, rfl, rfl, trivial⟩ ⟨rfl, trivial⟩ ?_
    rintro ⟨m2, x4_m2, x10_m2, x11_m2, x12_m2, y1005_m2⟩ (hφ : model_All_l1 k1 m2 x4_m2 x10_m2 x11_m2 x12_m2 y1005_m2 = some r)
    obtain _ | m2 := m2
    · exact (none_no hφ).elim
    rw [model_All_l1.eq_2] at hφ
    refine PT.sub (σ' := ⟨[(4, .val (x4_m2)), (5, .sl 1005), (10, .val (x10_m2)), (11, .val (x11_m2)), (12, .val (x12_m2))], [(1005, .arr 38 (y1005_m2))]⟩) ⟨rfl, rfl, rfl, rfl, rfl, trivial⟩ ⟨rfl, trivial⟩ ?_
    refine PT.seq ?_
    refine PT.region ?_
    refine Ops.put rfl rfl (ox_lss .tmp .tmp) ((.app (.one rfl) (.one rfl))) (.nil) rfl ?_
    refine Ops.nil ?_
    refine PT.sub (σ' := ⟨[(4, .val (x4_m2)), (5, _), (10, .val (x10_m2)), (11, .val (x11_m2)), (12, .val (x12_m2)), (13, .val ((decide (x12_m2 < x11_m2))))], [(1005, .arr 38 (y1005_m2))]⟩) ⟨rfl, rfl, rfl, rfl, rfl, rfl, trivial⟩ ⟨rfl, trivial⟩ ?_
    refine PT.seq ?_
    refine PT.cond _ rfl (fun hc3 => ?_) (fun hc3 => ?_)
    · replace hφ := if_then hφ hc3
      refine PT.sub (σ' := ⟨[(4, .val (x4_m2)), (5, _), (10, .val (x10_m2)), (11, .val (x11_m2)), (12, .val (x12_m2))], [(1005, .arr 38 (y1005_m2))]⟩) ⟨rfl, rfl, rfl, rfl, rfl, trivial⟩ ⟨rfl, trivial⟩ ?_
      refine PT.skip ?_
      refine PT.seq ?_
      refine PT.block ?_
      refine PT.seq ?_
      obtain ⟨hb4, hφ⟩ := G_some hφ
      refine PT.region ?_
      refine Ops.put rfl rfl (ox_ix s28 .tmp .tmp hb4.1 hb4.2) ((.app (.one rfl) (.one rfl))) (.nil) rfl ?_
      refine Ops.put rfl rfl (ox_load_elem t35) (.one rfl) (.nil) rfl ?_
      refine Ops.putO rfl rfl (ox_alloc (id := 7) z35) (.nil) (.nil) rfl (by kernel_rfl) ?_
      refine Ops.mute rfl rfl (ox_store_var t35 .tmp) ((.cons rfl (.one rfl))) (.one rfl) ?_
      refine Ops.nil ?_
      refine PT.sub (σ' := ⟨[(4, .val (x4_m2)), (5, _), (7, _), (10, .val (x10_m2)), (11, .val (x11_m2)), (12, .val (x12_m2))], [(7, .var ((ix x10_m2 x12_m2)) []), (1005, .arr 38 (y1005_m2))]⟩) ⟨rfl, rfl, rfl, rfl, rfl, rfl, trivial⟩ ⟨rfl, rfl, trivial⟩ ?_
      refine PT.seq ?_
      obtain ⟨v5, hv5, hφ⟩ := B_some hφ
      refine PT.region ?_
      refine Ops.put rfl rfl (ox_move .tmp) (.one rfl) (.nil) rfl ?_
      refine Ops.put rfl rfl (ox_fieldAddr_var Request_Call f35_2) (.one rfl) (.nil) rfl ?_
      refine Ops.put rfl rfl (ox_load_fld t33) (.one rfl) (.one rfl) rfl ?_
      refine Ops.put rfl rfl (ox_call (c_model_Do hv5) (.cons .tmp (.cons .tmp .nil))) ((.app (.one rfl) (.app (.one rfl) .nil))) (.nil) rfl ?_
      refine Ops.put rfl rfl (ox_move .tmp) (.one rfl) (.nil) rfl ?_
      refine Ops.put rfl rfl (ox_extract rfl) (.one rfl) (.nil) rfl ?_
      refine Ops.put rfl rfl (ox_extract rfl) (.one rfl) (.nil) rfl ?_
      refine Ops.putO rfl rfl (ox_alloc (id := 9) z38) (.nil) (.nil) rfl (by kernel_rfl) ?_
      refine Ops.put rfl rfl (ox_assign .tmp) (.one rfl) (.nil) rfl ?_
      refine Ops.mute rfl rfl (ox_store_var t38 .tmp) ((.cons rfl (.one rfl))) (.one rfl) ?_
      refine Ops.nil ?_
      refine PT.sub (σ' := ⟨[(5, _), (8, .val (v5.1)), (9, _), (10, .val (x10_m2)), (11, .val (x11_m2)), (12, .val (x12_m2))], [(9, .var (v5.2) []), (1005, .arr 38 (y1005_m2))]⟩) ⟨rfl, rfl, rfl, rfl, rfl, rfl, trivial⟩ ⟨rfl, rfl, trivial⟩ ?_
      refine PT.seq ?_
      refine PT.region ?_
      refine Ops.put rfl rfl (ox_move .tmp) (.one rfl) (.nil) rfl ?_
      refine Ops.put rfl rfl (ox_assign .tmp) (.one rfl) (.nil) rfl ?_
      refine Ops.nil ?_
      refine PT.sub (σ' := ⟨[(4, .val (v5.1)), (5, _), (9, _), (10, .val (x10_m2)), (11, .val (x11_m2)), (12, .val (x12_m2))], [(9, .var (v5.2) []), (1005, .arr 38 (y1005_m2))]⟩) ⟨rfl, rfl, rfl, rfl, rfl, rfl, trivial⟩ ⟨rfl, rfl, trivial⟩ ?_
      obtain ⟨hb6, hφ⟩ := G_some hφ
      refine PT.region ?_
      refine Ops.put rfl rfl (ox_move .tmp) (.one rfl) (.nil) rfl ?_
      refine Ops.put rfl rfl (ox_load_var t38) (.one rfl) (.one rfl) rfl ?_
      refine Ops.put rfl rfl (ox_buildSlice_val s47 z38 (.cons .tmp Parts.nil) rfl (by decide)) ((.app (.one rfl) .nil)) (.nil) rfl ?_
      refine Ops.putK [5, 24] rfl rfl (ox_append a47 .tmp .tmp hb6.1 hb6.2) ((.app (.one rfl) (.one rfl))) (.one rfl) rfl (by kernel_rfl) ?_
      refine Ops.put rfl rfl (ox_assign .tmp) (.one rfl) (.nil) rfl ?_
      refine Ops.nil ?_
      refine PT.sub (σ' := ⟨[(4, .val (v5.1)), (5, _), (10, .val (x10_m2)), (11, .val (x11_m2)), (12, .val (x12_m2))], [(1005, .arr 38 ((y1005_m2 ++ ([v5.2] : List Mk.Reply))))]⟩) ⟨rfl, rfl, rfl, rfl, rfl, trivial⟩ ⟨rfl, trivial⟩ ?_
      obtain ⟨hb7, hφ⟩ := G_some hφ
      refine PT.region ?_
      refine Ops.put rfl rfl (ox_add .tmp .int hb7) ((.app (.one rfl) (.nil))) (.nil) rfl ?_
      refine Ops.put rfl rfl (ox_move .tmp) (.one rfl) (.nil) rfl ?_
      refine Ops.nil ?_
      refine PT.sub (σ' := ⟨[(4, .val (v5.1)), (5, _), (10, .val (x10_m2)), (11, .val (x11_m2)), (12, .val ((x12_m2 + (1 : Int))))], [(1005, .arr 38 ((y1005_m2 ++ ([v5.2] : List Mk.Reply))))]⟩) ⟨rfl, rfl, rfl, rfl, rfl, trivial⟩ ⟨rfl, trivial⟩ ?_
      exact PT.next (m2, v5.1, x10_m2, x11_m2, (x12_m2 + (1 : Int)), (y1005_m2 ++ ([v5.2] : List Mk.Reply))) hφ (Nat.lt_succ_self _) ⟨rfl, rfl, rfl, rfl, rfl, trivial⟩ ⟨rfl, trivial⟩
    · replace hφ := if_else hφ hc3
      refine PT.sub (σ' := ⟨[(4, .val (x4_m2)), (5, _)], [(1005, .arr 38 (y1005_m2))]⟩) ⟨rfl, rfl, trivial⟩ ⟨rfl, trivial⟩ ?_
      refine PT.exit ?_
      exact PT.meet (x4_m2, y1005_m2) hφ ⟨rfl, rfl, trivial⟩ ⟨rfl, trivial⟩
  · rintro ⟨x4_k1, y1005_k1⟩ hφ
    subst hk1
    refine PT.sub (σ' := ⟨[(4, .val (x4_k1)), (5, .sl 1005)], [(1005, .arr 38 (y1005_k1))]⟩) ⟨rfl, rfl, trivial⟩ ⟨rfl, trivial⟩ ?_
    refine PT.seq ?_
    refine PT.region ?_
    refine Ops.put rfl rfl (ox_move .tmp) (.one rfl) (.nil) rfl ?_
    refine Ops.put rfl rfl (ox_move .tmp) (.one rfl) (.nil) rfl ?_
    refine Ops.put rfl rfl (ox_assign .tmp) (.one rfl) (.nil) rfl ?_
    refine Ops.put rfl rfl (ox_assign .tmp) (.one rfl) (.nil) rfl ?_
    refine Ops.nil ?_
    refine PT.sub (σ' := ⟨[(2, .val (x4_k1)), (3, _)], [(1005, .arr 38 (y1005_k1))]⟩) ⟨rfl, rfl, trivial⟩ ⟨rfl, trivial⟩ ?_
    refine PT.ret ?_
    refine PT.freeze 1005 [3] rfl ⟨rfl, trivial⟩ ?_
    obtain rfl := Option.some.inj hφ
    exact PT.done hw0 rfl (.tmp rfl rfl (.tmp rfl rfl .nil)) rfl
end Go.Gx
end
section
namespace Go.Gx
open Sp
set_option linter.unusedVariables false
set_option linter.unusedSimpArgs false
set_option maxRecDepth 20000
set_option maxHeartbeats 4000000
theorem c_look_Past {a0 : Mk.Machine} {a1 : Int} {r : ((List Mk.Request) × (List Mk.Reply))} (hφ : look_Past a0 a1 = some r) : Fn Go.Proofs.Try.prog 18 [.val a0, .val a1] (.tup [.val r.1, .val r.2]) := by
  unfold look_Past at hφ
  refine Fn.mk' Go.Proofs.Try.func18 rfl (by decide) rfl rfl rfl (fun w0 hw0 => ?_)
  refine PT.seq ?_
  refine PT.region ?_
  refine Ops.putO rfl rfl (ox_box (id := 2) .tmp) (.one rfl) (.nil) rfl (by kernel_rfl) ?_
  refine Ops.put rfl rfl (ox_assign .nilS) (.nil) (.nil) rfl ?_
  refine Ops.put rfl rfl (ox_assign .nilS) (.nil) (.nil) rfl ?_
  refine Ops.nil ?_
  refine PT.sub (σ' := ⟨[(1, .val (a1)), (2, _)], [(2, .var (a0) [])]⟩) ⟨rfl, rfl, trivial⟩ ⟨rfl, trivial⟩ ?_
  refine PT.seq ?_
  obtain ⟨v1, hv1, hφ⟩ := B_some hφ
  refine PT.region ?_
  refine Ops.put rfl rfl (ox_fieldAddr_var Machine_Store f43_0) (.one rfl) (.nil) rfl ?_
  refine Ops.put rfl rfl (ox_fieldAddr_ptr Store_Past f30_3) (.one rfl) (.nil) rfl ?_
  refine Ops.put rfl rfl (ox_load_fld t28) (.one rfl) (.one rfl) rfl ?_
  refine Ops.put rfl rfl (ox_call (c_model_All hv1) (.cons .tmp .nil)) ((.app (.one rfl) .nil)) (.nil) rfl ?_
  refine Ops.put rfl rfl (ox_move .tmp) (.one rfl) (.nil) rfl ?_
  refine Ops.put rfl rfl (ox_extract rfl) (.one rfl) (.nil) rfl ?_
  refine Ops.put rfl rfl (ox_extract rfl) (.one rfl) (.nil) rfl ?_
  refine Ops.put rfl rfl (ox_assign .tmp) (.one rfl) (.nil) rfl ?_
  refine Ops.put rfl rfl (ox_assign .tmp) (.one rfl) (.nil) rfl ?_
  refine Ops.nil ?_
  refine PT.sub (σ' := ⟨[(1, .val (a1)), (2, _), (7, .val (v1.2))], [(2, .var (a0) [])]⟩) ⟨rfl, rfl, rfl, trivial⟩ ⟨rfl, trivial⟩ ?_
  refine PT.seq ?_
  refine PT.region ?_
  refine Ops.put rfl rfl (ox_assign .nilS) (.nil) (.nil) rfl ?_
  refine Ops.nil ?_
  refine PT.sub (σ' := ⟨[(1, .val (a1)), (2, _), (7, .val (v1.2)), (8, .nilS)], [(2, .var (a0) [])]⟩) ⟨rfl, rfl, rfl, rfl, trivial⟩ ⟨rfl, trivial⟩ ?_
  refine PT.seq ?_
  refine PT.region ?_
  refine Ops.put rfl rfl (ox_assign .nilS) (.nil) (.nil) rfl ?_
  refine Ops.nil ?_
  refine PT.sub (σ' := ⟨[(1, .val (a1)), (2, _), (7, .val (v1.2)), (8, .nilS), (9, .nilS)], [(2, .var (a0) [])]⟩) ⟨rfl, rfl, rfl, rfl, rfl, trivial⟩ ⟨rfl, trivial⟩ ?_
  obtain ⟨k2, hk2, hφ⟩ := J_some hφ
  refine PT.cut (ι := (List Mk.Request) × (List Mk.Reply)) (fun p => ⟨[(8, .sl 1008), (9, .sl 1009)], [(1008, .arr 35 (p.1)), (1009, .arr 38 (p.2))]⟩) (fun p => k2 (p.1) (p.2) = some r) ?_ ?_
  · skip
    refine PT.seq ?_
    refine PT.region ?_
    refine Ops.put rfl rfl (ox_fieldAddr_var Machine_Store f43_0) (.one rfl) (.nil) rfl ?_
    refine Ops.put rfl rfl (ox_fieldAddr_ptr Store_Past f30_3) (.one rfl) (.nil) rfl ?_
    refine Ops.put rfl rfl (ox_load_fld t28) (.one rfl) (.one rfl) rfl ?_
    refine Ops.put rfl rfl (ox_len s28 .tmp) (.one rfl) (.nil) rfl ?_
    refine Ops.put rfl rfl (ox_move .int) (.nil) (.nil) rfl ?_
    refine Ops.nil ?_
    refine PT.sub (σ' := ⟨[(1, .val (a1)), (7, .val (v1.2)), (8, .nilS), (9, .nilS), (21, .val (a0.Store.Past)), (22, .val ((a0.Store.Past.length : Int))), (23, .val ((0 : Int)))], []⟩) ⟨rfl, rfl, rfl, rfl, rfl, rfl, rfl, trivial⟩ trivial ?_
    refine PT.block ?_
    refine PT.nilArr 1008 8 35 (Mk.Request) rfl (by kernel_rfl) ?_
    refine PT.nilArr 1009 9 38 (Mk.Reply) rfl (by kernel_rfl) ?_
    refine PT.loop (ι := Nat × Int × (List Mk.Reply) × (List Mk.Request) × Int × Int × (List Mk.Request) × (List Mk.Reply)) (fun p => ⟨[(1, .val (p.2.1)), (7, .val (p.2.2.1)), (8, .sl 1008), (9, .sl 1009), (21, .val (p.2.2.2.1)), (22, .val (p.2.2.2.2.1)), (23, .val (p.2.2.2.2.2.1))], [(1008, .arr 35 (p.2.2.2.2.2.2.1)), (1009, .arr 38 (p.2.2.2.2.2.2.2))]⟩) (fun p => look_Past_l1 k2 p.1 (p.2.1) (p.2.2.1) (p.2.2.2.1) (p.2.2.2.2.1) (p.2.2.2.2.2.1) (p.2.2.2.2.2.2.1) (p.2.2.2.2.2.2.2) = some r) (fun p => p.1) (((a0.Store.Past.length : Int) - (0 : Int)).toNat + 1, a1, v1.2, a0.Store.Past, (a0.Store.Past.length : Int), (0 : Int), ([] : List Mk.Request), ([] : List Mk.Reply)) hφ ⟨rfl, rfl, rfl, rfl, rfl, rfl, rfl, trivial⟩ ⟨rfl, rfl, trivial⟩ ?_
    rintro ⟨m3, x1_m3, x7_m3, x21_m3, x22_m3, x23_m3, y1008_m3, y1009_m3⟩ (hφ : look_Past_l1 k2 m3 x1_m3 x7_m3 x21_m3 x22_m3 x23_m3 y1008_m3 y1009_m3 = some r)
    obtain _ | m3 := m3
    · exact (none_no hφ).elim
    rw [look_Past_l1.eq_2] at hφ
    refine PT.sub (σ' := ⟨[(1, .val (x1_m3)), (7, .val (x7_m3)), (8, .sl 1008), (9, .sl 1009), (21, .val (x21_m3)), (22, .val (x22_m3)), (23, .val (x23_m3))], [(1008, .arr 35 (y1008_m3)), (1009, .arr 38 (y1009_m3))]⟩) ⟨rfl, rfl, rfl, rfl, rfl, rfl, rfl, trivial⟩ ⟨rfl, rfl, trivial⟩ ?_
    refine PT.seq ?_
    refine PT.region ?_
    refine Ops.put rfl rfl (ox_lss .tmp .tmp) ((.app (.one rfl) (.one rfl))) (.nil) rfl ?_
    refine Ops.nil ?_
    refine PT.sub (σ' := ⟨[(1, .val (x1_m3)), (7, .val (x7_m3)), (8, _), (9, _), (21, .val (x21_m3)), (22, .val (x22_m3)), (23, .val (x23_m3)), (24, .val ((decide (x23_m3 < x22_m3))))], [(1008, .arr 35 (y1008_m3)), (1009, .arr 38 (y1009_m3))]⟩) ⟨rfl, rfl, rfl, rfl, rfl, rfl, rfl, rfl, trivial⟩ ⟨rfl, rfl, trivial⟩ ?_
    refine PT.seq ?_
    refine PT.cond _ rfl (fun hc4 => ?_) (fun hc4 => ?_)
    · replace hφ := if_then hφ hc4
      refine PT.sub (σ' := ⟨[(1, .val (x1_m3)), (7, .val (x7_m3)), (8, _), (9, _), (21, .val (x21_m3)), (22, .val (x22_m3)), (23, .val (x23_m3))], [(1008, .arr 35 (y1008_m3)), (1009, .arr 38 (y1009_m3))]⟩) ⟨rfl, rfl, rfl, rfl, rfl, rfl, rfl, trivial⟩ ⟨rfl, rfl, trivial⟩ ?_
      refine PT.skip ?_
      obtain ⟨k5, hk5, hφ⟩ := J_some hφ
      refine PT.cut (ι := Int × (List Mk.Reply) × (List Mk.Request) × Int × Int × (List Mk.Request) × (List Mk.Reply)) (fun p => ⟨[(1, .val (p.1)), (7, .val (p.2.1)), (8, .sl 1008), (9, .sl 1009), (21, .val (p.2.2.1)), (22, .val (p.2.2.2.1)), (23, .val (p.2.2.2.2.1))], [(1008, .arr 35 (p.2.2.2.2.2.1)), (1009, .arr 38 (p.2.2.2.2.2.2))]⟩) (fun p => k5 (p.1) (p.2.1) (p.2.2.1) (p.2.2.2.1) (p.2.2.2.2.1) (p.2.2.2.2.2.1) (p.2.2.2.2.2.2) = some r) ?_ ?_
      · skip
        refine PT.block ?_
        refine PT.seq ?_
        obtain ⟨hb6, hφ⟩ := G_some hφ
        refine PT.region ?_
        refine Ops.put rfl rfl (ox_move .tmp) (.one rfl) (.nil) rfl ?_
        refine Ops.put rfl rfl (ox_ix s28 .tmp .tmp hb6.1 hb6.2) ((.app (.one rfl) (.one rfl))) (.nil) rfl ?_
        refine Ops.put rfl rfl (ox_load_elem t35) (.one rfl) (.nil) rfl ?_
        refine Ops.putO rfl rfl (ox_alloc (id := 11) z35) (.nil) (.nil) rfl (by kernel_rfl) ?_
        refine Ops.put rfl rfl (ox_assign .tmp) (.one rfl) (.nil) rfl ?_
        refine Ops.mute rfl rfl (ox_store_var t35 .tmp) ((.cons rfl (.one rfl))) (.one rfl) ?_
        refine Ops.nil ?_
        refine PT.sub (σ' := ⟨[(1, .val (x1_m3)), (7, .val (x7_m3)), (8, _), (9, _), (10, .val (x23_m3)), (11, _), (21, .val (x21_m3)), (22, .val (x22_m3)), (23, .val (x23_m3))], [(11, .var ((ix x21_m3 x23_m3)) []), (1008, .arr 35 (y1008_m3)), (1009, .arr 38 (y1009_m3))]⟩) ⟨rfl, rfl, rfl, rfl, rfl, rfl, rfl, rfl, rfl, trivial⟩ ⟨rfl, rfl, rfl, trivial⟩ ?_
        refine PT.seq ?_
        refine PT.region ?_
        refine Ops.put rfl rfl (ox_fieldAddr_var Request_Client f35_0) (.one rfl) (.nil) rfl ?_
        refine Ops.put rfl rfl (ox_load_fld t3) (.one rfl) (.one rfl) rfl ?_
        refine Ops.put rfl rfl (ox_move .tmp) (.one rfl) (.nil) rfl ?_
        refine Ops.put rfl rfl (ox_eql .tmp .tmp) ((.app (.one rfl) (.one rfl))) (.nil) rfl ?_
        refine Ops.nil ?_
        refine PT.sub (σ' := ⟨[(1, .val (x1_m3)), (7, .val (x7_m3)), (8, _), (9, _), (10, .val (x23_m3)), (11, _), (21, .val (x21_m3)), (22, .val (x22_m3)), (23, .val (x23_m3)), (31, .val ((decide ((ix x21_m3 x23_m3).Client = x1_m3))))], [(11, .var ((ix x21_m3 x23_m3)) []), (1008, .arr 35 (y1008_m3)), (1009, .arr 38 (y1009_m3))]⟩) ⟨rfl, rfl, rfl, rfl, rfl, rfl, rfl, rfl, rfl, rfl, trivial⟩ ⟨rfl, rfl, rfl, trivial⟩ ?_
        refine PT.cond _ rfl (fun hc7 => ?_) (fun hc7 => ?_)
        · replace hφ := if_then hφ hc7
          refine PT.sub (σ' := ⟨[(1, .val (x1_m3)), (7, .val (x7_m3)), (8, _), (9, _), (10, .val (x23_m3)), (11, _), (21, .val (x21_m3)), (22, .val (x22_m3)), (23, .val (x23_m3))], [(11, .var ((ix x21_m3 x23_m3)) []), (1008, .arr 35 (y1008_m3)), (1009, .arr 38 (y1009_m3))]⟩) ⟨rfl, rfl, rfl, rfl, rfl, rfl, rfl, rfl, rfl, trivial⟩ ⟨rfl, rfl, rfl, trivial⟩ ?_
          obtain ⟨hb8, hφ⟩ := G_some hφ
          obtain ⟨hb9, hφ⟩ := G_some hφ
          obtain ⟨hb10, hφ⟩ := G_some hφ
          refine PT.draw hMixed (
              Segs.cons (Step.put rfl rfl (ox_move .tmp)) ⟨.one rfl, .nil⟩ (by kernel_rfl) rfl <|
              Segs.cons (Step.put rfl rfl (ox_load_var t35)) ⟨.one rfl, .one rfl⟩ (by kernel_rfl) rfl <|
              Segs.cons (Step.put rfl rfl (ox_buildSlice_val s28 z35 (.cons .tmp Parts.nil) rfl (by decide))) ⟨(.app (.one rfl) .nil), .nil⟩ (by kernel_rfl) rfl <|
              Segs.cons (Step.putK [8, 32] rfl rfl (ox_append a28 .tmp .tmp hb8.1 hb8.2)) ⟨(.app (.one rfl) (.one rfl)), .one rfl⟩ (by kernel_rfl) rfl <|
              Segs.cons (Step.put rfl rfl (ox_move .tmp)) ⟨.one rfl, .nil⟩ (by kernel_rfl) rfl <|
              Segs.cons (Step.put rfl rfl (ox_move .tmp)) ⟨.one rfl, .nil⟩ (by kernel_rfl) rfl <|
              Segs.cons (Step.put rfl rfl (ox_move .tmp)) ⟨.one rfl, .nil⟩ (by kernel_rfl) rfl <|
              Segs.cons (Step.put rfl rfl (ox_ix s47 .tmp .tmp hb9.1 hb9.2)) ⟨(.app (.one rfl) (.one rfl)), .nil⟩ (by kernel_rfl) rfl <|
              Segs.cons (Step.put rfl rfl (ox_load_elem t38)) ⟨.one rfl, .nil⟩ (by kernel_rfl) rfl <|
              Segs.cons (Step.put rfl rfl (ox_buildSlice_val s47 z38 (.cons .tmp Parts.nil) rfl (by decide))) ⟨(.app (.one rfl) .nil), .nil⟩ (by kernel_rfl) rfl <|
              Segs.cons (Step.putK [9, 36] rfl rfl (ox_append a47 .tmp .tmp hb10.1 hb10.2)) ⟨(.app (.one rfl) (.one rfl)), .one rfl⟩ (by kernel_rfl) rfl <|
              Segs.cons (Step.put rfl rfl (ox_assign .tmp)) ⟨.one rfl, .nil⟩ (by kernel_rfl) rfl <|
              Segs.cons (Step.put rfl rfl (ox_assign .tmp)) ⟨.one rfl, .nil⟩ (by kernel_rfl) rfl <|
              Segs.nil) _ [[], [], [1], [0, 1, 2], [], [], [], [5, 6], [5, 6, 7], [5, 6, 7, 8], [0, 1, 2, 3, 4, 5, 6, 7, 8, 9], [0, 1, 2, 3, 4, 5, 6, 7, 8, 9, 10], [0, 1, 2, 3, 4, 5, 6, 7, 8, 9, 10, 11]] rfl (by kernel_rfl) (by kernel_rfl) ?_
          refine PT.sub (σ' := ⟨[(1, .val (x1_m3)), (7, .val (x7_m3)), (8, _), (9, _), (21, .val (x21_m3)), (22, .val (x22_m3)), (23, .val (x23_m3))], [(1008, .arr 35 ((y1008_m3 ++ ([(ix x21_m3 x23_m3)] : List Mk.Request)))), (1009, .arr 38 ((y1009_m3 ++ ([(ix x7_m3 x23_m3)] : List Mk.Reply))))]⟩) ⟨rfl, rfl, rfl, rfl, rfl, rfl, rfl, trivial⟩ ⟨rfl, rfl, trivial⟩ ?_
          exact PT.meet (x1_m3, x7_m3, x21_m3, x22_m3, x23_m3, (y1008_m3 ++ ([(ix x21_m3 x23_m3)] : List Mk.Request)), (y1009_m3 ++ ([(ix x7_m3 x23_m3)] : List Mk.Reply))) hφ ⟨rfl, rfl, rfl, rfl, rfl, rfl, rfl, trivial⟩ ⟨rfl, rfl, trivial⟩
        · replace hφ := if_else hφ hc7
          refine PT.sub (σ' := ⟨[(1, .val (x1_m3)), (7, .val (x7_m3)), (8, _), (9, _), (21, .val (x21_m3)), (22, .val (x22_m3)), (23, .val (x23_m3))], [(1008, .arr 35 (y1008_m3)), (1009, .arr 38 (y1009_m3))]⟩) ⟨rfl, rfl, rfl, rfl, rfl, rfl, rfl, trivial⟩ ⟨rfl, rfl, trivial⟩ ?_
          refine PT.skip ?_
          exact PT.meet (x1_m3, x7_m3, x21_m3, x22_m3, x23_m3, y1008_m3, y1009_m3) hφ ⟨rfl, rfl, rfl, rfl, rfl, rfl, rfl, trivial⟩ ⟨rfl, rfl, trivial⟩
      · rintro ⟨x1_k5, x7_k5, x21_k5, x22_k5, x23_k5, y1008_k5, y1009_k5⟩ hφ
        subst hk5
        refine PT.sub (σ' := ⟨[(1, .val (x1_k5)), (7, .val (x7_k5)), (8, .sl 1008), (9, .sl 1009), (21, .val (x21_k5)), (22, .val (x22_k5)), (23, .val (x23_k5))], [(1008, .arr 35 (y1008_k5)), (1009, .arr 38 (y1009_k5))]⟩) ⟨rfl, rfl, rfl, rfl, rfl, rfl, rfl, trivial⟩ ⟨rfl, rfl, trivial⟩ ?_
        obtain ⟨hb11, hφ⟩ := G_some hφ
        refine PT.region ?_
        refine Ops.put rfl rfl (ox_add .tmp .int hb11) ((.app (.one rfl) (.nil))) (.nil) rfl ?_
        refine Ops.put rfl rfl (ox_move .tmp) (.one rfl) (.nil) rfl ?_
        refine Ops.nil ?_
        refine PT.sub (σ' := ⟨[(1, .val (x1_k5)), (7, .val (x7_k5)), (8, _), (9, _), (21, .val (x21_k5)), (22, .val (x22_k5)), (23, .val ((x23_k5 + (1 : Int))))], [(1008, .arr 35 (y1008_k5)), (1009, .arr 38 (y1009_k5))]⟩) ⟨rfl, rfl, rfl, rfl, rfl, rfl, rfl, trivial⟩ ⟨rfl, rfl, trivial⟩ ?_
        exact PT.next (m3, x1_k5, x7_k5, x21_k5, x22_k5, (x23_k5 + (1 : Int)), y1008_k5, y1009_k5) hφ (Nat.lt_succ_self _) ⟨rfl, rfl, rfl, rfl, rfl, rfl, rfl, trivial⟩ ⟨rfl, rfl, trivial⟩
    · replace hφ := if_else hφ hc4
      refine PT.sub (σ' := ⟨[(8, _), (9, _)], [(1008, .arr 35 (y1008_m3)), (1009, .arr 38 (y1009_m3))]⟩) ⟨rfl, rfl, trivial⟩ ⟨rfl, rfl, trivial⟩ ?_
      refine PT.exit ?_
      exact PT.meet (y1008_m3, y1009_m3) hφ ⟨rfl, rfl, trivial⟩ ⟨rfl, rfl, trivial⟩
  · rintro ⟨y1008_k2, y1009_k2⟩ hφ
    subst hk2
    refine PT.sub (σ' := ⟨[(8, .sl 1008), (9, .sl 1009)], [(1008, .arr 35 (y1008_k2)), (1009, .arr 38 (y1009_k2))]⟩) ⟨rfl, rfl, trivial⟩ ⟨rfl, rfl, trivial⟩ ?_
    refine PT.seq ?_
    refine PT.region ?_
    refine Ops.put rfl rfl (ox_move .tmp) (.one rfl) (.nil) rfl ?_
    refine Ops.put rfl rfl (ox_move .tmp) (.one rfl) (.nil) rfl ?_
    refine Ops.put rfl rfl (ox_assign .tmp) (.one rfl) (.nil) rfl ?_
    refine Ops.put rfl rfl (ox_assign .tmp) (.one rfl) (.nil) rfl ?_
    refine Ops.nil ?_
    refine PT.sub (σ' := ⟨[(4, _), (5, _)], [(1008, .arr 35 (y1008_k2)), (1009, .arr 38 (y1009_k2))]⟩) ⟨rfl, rfl, trivial⟩ ⟨rfl, rfl, trivial⟩ ?_
    refine PT.ret ?_
    refine PT.freeze 1008 [4] rfl ⟨rfl, trivial⟩ ?_
    refine PT.freeze 1009 [5] rfl ⟨rfl, trivial⟩ ?_
    obtain rfl := Option.some.inj hφ
    exact PT.done hw0 rfl (.tmp rfl rfl (.tmp rfl rfl .nil)) rfl
theorem c_look_Idle {a0 : Mk.Machine} {r : Bool} (hφ : look_Idle a0 = some r) : Fn Go.Proofs.Try.prog 21 [.val a0] (.val r) := by
  unfold look_Idle at hφ
  refine Fn.mk' Go.Proofs.Try.func21 rfl (by decide) rfl rfl rfl (fun w0 hw0 => ?_)
  refine PT.seq ?_
  refine PT.region ?_
  refine Ops.putO rfl rfl (ox_box (id := 1) .tmp) (.one rfl) (.nil) rfl (by kernel_rfl) ?_
  refine Ops.put rfl rfl (ox_assign .bool) (.nil) (.nil) rfl ?_
  refine Ops.nil ?_
  refine PT.sub (σ' := ⟨[(1, _)], [(1, .var (a0) [])]⟩) ⟨rfl, trivial⟩ ⟨rfl, trivial⟩ ?_
  obtain ⟨k1, hk1, hφ⟩ := J_some hφ
  refine PT.cut (ι := Unit) (fun p => ⟨[], []⟩) (fun p => k1 () = some r) ?_ ?_
  · skip
    refine PT.seq ?_
    refine PT.region ?_
    refine Ops.put rfl rfl (ox_fieldAddr_var Machine_Clients f43_5) (.one rfl) (.nil) rfl ?_
    refine Ops.put rfl rfl (ox_load_fld t41) (.one rfl) (.one rfl) rfl ?_
    refine Ops.put rfl rfl (ox_len s41 .tmp) (.one rfl) (.nil) rfl ?_
    refine Ops.put rfl rfl (ox_move .int) (.nil) (.nil) rfl ?_
    refine Ops.nil ?_
    refine PT.sub (σ' := ⟨[(6, .val (a0.Clients)), (7, .val ((a0.Clients.length : Int))), (8, .val ((0 : Int)))], []⟩) ⟨rfl, rfl, rfl, trivial⟩ trivial ?_
    refine PT.block ?_
    refine PT.loop (ι := Nat × (List Mk.Client) × Int × Int) (fun p => ⟨[(6, .val (p.2.1)), (7, .val (p.2.2.1)), (8, .val (p.2.2.2))], []⟩) (fun p => look_Idle_l1 k1 p.1 (p.2.1) (p.2.2.1) (p.2.2.2) = some r) (fun p => p.1) (((a0.Clients.length : Int) - (0 : Int)).toNat + 1, a0.Clients, (a0.Clients.length : Int), (0 : Int)) hφ ⟨rfl, rfl, rfl, trivial⟩ trivial ?_
    rintro ⟨m2, x6_m2, x7_m2, x8_m2⟩ (hφ : look_Idle_l1 k1 m2 x6_m2 x7_m2 x8_m2 = some r)
    obtain _ | m2 := m2
    · exact (none_no hφ).elim
    rw [look_Idle_l1.eq_2] at hφ
    refine PT.sub (σ' := ⟨[(6, .val (x6_m2)), (7, .val (x7_m2)), (8, .val (x8_m2))], []⟩) ⟨rfl, rfl, rfl, trivial⟩ trivial ?_
    refine PT.seq ?_
    refine PT.region ?_
    refine Ops.put rfl rfl (ox_lss .tmp .tmp) ((.app (.one rfl) (.one rfl))) (.nil) rfl ?_
    refine Ops.nil ?_
    refine PT.sub (σ' := ⟨[(6, .val (x6_m2)), (7, .val (x7_m2)), (8, .val (x8_m2)), (9, .val ((decide (x8_m2 < x7_m2))))], []⟩) ⟨rfl, rfl, rfl, rfl, trivial⟩ trivial ?_
    refine PT.seq ?_
    refine PT.cond _ rfl (fun hc3 => ?_) (fun hc3 => ?_)
    · replace hφ := if_then hφ hc3
      refine PT.sub (σ' := ⟨[(6, .val (x6_m2)), (7, .val (x7_m2)), (8, .val (x8_m2))], []⟩) ⟨rfl, rfl, rfl, trivial⟩ trivial ?_
      refine PT.skip ?_
      refine PT.seq ?_
      refine PT.block ?_
      refine PT.seq ?_
      obtain ⟨hb4, hφ⟩ := G_some hφ
      refine PT.region ?_
      refine Ops.put rfl rfl (ox_ix s41 .tmp .tmp hb4.1 hb4.2) ((.app (.one rfl) (.one rfl))) (.nil) rfl ?_
      refine Ops.put rfl rfl (ox_load_elem t61) (.one rfl) (.nil) rfl ?_
      refine Ops.putO rfl rfl (ox_alloc (id := 4) z61) (.nil) (.nil) rfl (by kernel_rfl) ?_
      refine Ops.mute rfl rfl (ox_store_var t61 .tmp) ((.cons rfl (.one rfl))) (.one rfl) ?_
      refine Ops.nil ?_
      refine PT.sub (σ' := ⟨[(4, _), (6, .val (x6_m2)), (7, .val (x7_m2)), (8, .val (x8_m2))], [(4, .var ((ix x6_m2 x8_m2)) [])]⟩) ⟨rfl, rfl, rfl, rfl, trivial⟩ ⟨rfl, trivial⟩ ?_
      refine PT.seq ?_
      refine PT.region ?_
      refine Ops.put rfl rfl (ox_fieldAddr_var Client_At f61_1) (.one rfl) (.nil) rfl ?_
      refine Ops.put rfl rfl (ox_load_fld t3) (.one rfl) (.one rfl) rfl ?_
      refine Ops.put rfl rfl (ox_fieldAddr_var Client_Calls f61_0) (.one rfl) (.nil) rfl ?_
      refine Ops.put rfl rfl (ox_load_fld t59) (.one rfl) (.one rfl) rfl ?_
      refine Ops.put rfl rfl (ox_len s59 .tmp) (.one rfl) (.nil) rfl ?_
      refine Ops.put rfl rfl (ox_lss .tmp .tmp) ((.app (.one rfl) (.one rfl))) (.nil) rfl ?_
      refine Ops.nil ?_
      refine PT.sub (σ' := ⟨[(6, .val (x6_m2)), (7, .val (x7_m2)), (8, .val (x8_m2)), (17, .val ((decide ((ix x6_m2 x8_m2).At < ((ix x6_m2 x8_m2).Calls.length : Int)))))], []⟩) ⟨rfl, rfl, rfl, rfl, trivial⟩ trivial ?_
      refine PT.cond _ rfl (fun hc5 => ?_) (fun hc5 => ?_)
      · replace hφ := if_then hφ hc5
        refine PT.sub (σ' := ⟨[], []⟩) trivial trivial ?_
        refine PT.seq ?_
        refine PT.region ?_
        refine Ops.put rfl rfl (ox_assign .bool) (.nil) (.nil) rfl ?_
        refine Ops.nil ?_
        refine PT.sub (σ' := ⟨[(2, .val (false))], []⟩) ⟨rfl, trivial⟩ trivial ?_
        refine PT.ret ?_
        obtain rfl := Option.some.inj hφ
        exact PT.done hw0 rfl (.tmp rfl rfl .nil) rfl
      · replace hφ := if_else hφ hc5
        refine PT.sub (σ' := ⟨[(6, .val (x6_m2)), (7, .val (x7_m2)), (8, .val (x8_m2))], []⟩) ⟨rfl, rfl, rfl, trivial⟩ trivial ?_
        refine PT.skip ?_
        obtain ⟨hb6, hφ⟩ := G_some hφ
        refine PT.region ?_
        refine Ops.put rfl rfl (ox_add .tmp .int hb6) ((.app (.one rfl) (.nil))) (.nil) rfl ?_
        refine Ops.put rfl rfl (ox_move .tmp) (.one rfl) (.nil) rfl ?_
        refine Ops.nil ?_
        refine PT.sub (σ' := ⟨[(6, .val (x6_m2)), (7, .val (x7_m2)), (8, .val ((x8_m2 + (1 : Int))))], []⟩) ⟨rfl, rfl, rfl, trivial⟩ trivial ?_
        exact PT.next (m2, x6_m2, x7_m2, (x8_m2 + (1 : Int))) hφ (Nat.lt_succ_self _) ⟨rfl, rfl, rfl, trivial⟩ trivial
    · replace hφ := if_else hφ hc3
      refine PT.sub (σ' := ⟨[], []⟩) trivial trivial ?_
      refine PT.exit ?_
      exact PT.meet () hφ trivial trivial
  · rintro ⟨⟩ hφ
    subst hk1
    refine PT.sub (σ' := ⟨[], []⟩) trivial trivial ?_
    refine PT.seq ?_
    refine PT.region ?_
    refine Ops.put rfl rfl (ox_assign .bool) (.nil) (.nil) rfl ?_
    refine Ops.nil ?_
    refine PT.sub (σ' := ⟨[(2, .val (true))], []⟩) ⟨rfl, trivial⟩ trivial ?_
    refine PT.ret ?_
    obtain rfl := Option.some.inj hφ
    exact PT.done hw0 rfl (.tmp rfl rfl .nil) rfl
theorem c_look_Now {a0 : Mk.Machine} {r : ((List Mk.Write))} (hφ : look_Now a0 = some r) : Fn Go.Proofs.Try.prog 24 [.val a0] (.val r) := by
  unfold look_Now at hφ
  refine Fn.mk' Go.Proofs.Try.func24 rfl (by decide) rfl rfl rfl (fun w0 hw0 => ?_)
  refine PT.seq ?_
  refine PT.region ?_
  refine Ops.putO rfl rfl (ox_box (id := 1) .tmp) (.one rfl) (.nil) rfl (by kernel_rfl) ?_
  refine Ops.put rfl rfl (ox_assign .nilS) (.nil) (.nil) rfl ?_
  refine Ops.nil ?_
  refine PT.sub (σ' := ⟨[(1, _)], [(1, .var (a0) [])]⟩) ⟨rfl, trivial⟩ ⟨rfl, trivial⟩ ?_
  refine PT.seq ?_
  obtain ⟨v1, hv1, hφ⟩ := B_some hφ
  obtain ⟨v2, hv2, hφ⟩ := B_some hφ
  refine PT.region ?_
  refine Ops.put rfl rfl (ox_fieldAddr_var Machine_Store f43_0) (.one rfl) (.nil) rfl ?_
  refine Ops.put rfl rfl (ox_load_fld t30) (.one rfl) (.one rfl) rfl ?_
  refine Ops.put rfl rfl (ox_call (c_store_Back hv1) (.cons .tmp .nil)) ((.app (.one rfl) .nil)) (.nil) rfl ?_
  refine Ops.put rfl rfl (ox_field Store_Cells .tmp rfl f30_0) (.one rfl) (.nil) rfl ?_
  refine Ops.put rfl rfl (ox_call (c_model_Of hv2) (.cons .tmp .nil)) ((.app (.one rfl) .nil)) (.nil) rfl ?_
  refine Ops.put rfl rfl (ox_assign .tmp) (.one rfl) (.nil) rfl ?_
  refine Ops.nil ?_
  refine PT.sub (σ' := ⟨[(2, .val (v2))], []⟩) ⟨rfl, trivial⟩ trivial ?_
  refine PT.ret ?_
  obtain rfl := Option.some.inj hφ
  exact PT.done hw0 rfl (.tmp rfl rfl .nil) rfl
theorem c_slices_Equal___api_Write_api_Write_ {a0 : List Mk.Write} {a1 : List Mk.Write} {r : Bool} (hφ : slices_Equal___api_Write_api_Write_ a0 a1 = some r) : Fn Go.Proofs.Try.prog 58 [.val a0, .val a1] (.val r) := by
  unfold slices_Equal___api_Write_api_Write_ at hφ
  refine Fn.mk' Go.Proofs.Try.func58 rfl (by decide) rfl rfl rfl (fun w0 hw0 => ?_)
  refine PT.seq ?_
  refine PT.region ?_
  refine Ops.put rfl rfl (ox_assign .bool) (.nil) (.nil) rfl ?_
  refine Ops.nil ?_
  refine PT.sub (σ' := ⟨[(0, .val (a0)), (1, .val (a1))], []⟩) ⟨rfl, rfl, trivial⟩ trivial ?_
  refine PT.seq ?_
  refine PT.seq ?_
  refine PT.region ?_
  refine Ops.put rfl rfl (ox_move .tmp) (.one rfl) (.nil) rfl ?_
  refine Ops.put rfl rfl (ox_len s26 .tmp) (.one rfl) (.nil) rfl ?_
  refine Ops.put rfl rfl (ox_move .tmp) (.one rfl) (.nil) rfl ?_
  refine Ops.put rfl rfl (ox_len s26 .tmp) (.one rfl) (.nil) rfl ?_
  refine Ops.put rfl rfl (ox_neq .tmp .tmp) ((.app (.one rfl) (.one rfl))) (.nil) rfl ?_
  refine Ops.nil ?_
  refine PT.sub (σ' := ⟨[(0, .val (a0)), (1, .val (a1)), (10, .val ((!decide ((a0.length : Int) = (a1.length : Int)))))], []⟩) ⟨rfl, rfl, rfl, trivial⟩ trivial ?_
  refine PT.cond _ rfl (fun hc1 => ?_) (fun hc1 => ?_)
  · replace hφ := if_then hφ hc1
    refine PT.sub (σ' := ⟨[], []⟩) trivial trivial ?_
    refine PT.seq ?_
    refine PT.region ?_
    refine Ops.put rfl rfl (ox_assign .bool) (.nil) (.nil) rfl ?_
    refine Ops.nil ?_
    refine PT.sub (σ' := ⟨[(4, .val (false))], []⟩) ⟨rfl, trivial⟩ trivial ?_
    refine PT.ret ?_
    obtain rfl := Option.some.inj hφ
    exact PT.done hw0 rfl (.tmp rfl rfl .nil) rfl
  · replace hφ := if_else hφ hc1
    refine PT.sub (σ' := ⟨[(0, .val (a0)), (1, .val (a1))], []⟩) ⟨rfl, rfl, trivial⟩ trivial ?_
    refine PT.skip ?_
    obtain ⟨k2, hk2, hφ⟩ := J_some hφ
    refine PT.cut (ι := Unit) (fun p => ⟨[], []⟩) (fun p => k2 () = some r) ?_ ?_
    · skip
      refine PT.seq ?_
      refine PT.region ?_
      refine Ops.put rfl rfl (ox_move .tmp) (.one rfl) (.nil) rfl ?_
      refine Ops.put rfl rfl (ox_len s26 .tmp) (.one rfl) (.nil) rfl ?_
      refine Ops.put rfl rfl (ox_move .int) (.nil) (.nil) rfl ?_
      refine Ops.nil ?_
      refine PT.sub (σ' := ⟨[(0, .val (a0)), (1, .val (a1)), (12, .val ((a0.length : Int))), (13, .val ((0 : Int)))], []⟩) ⟨rfl, rfl, rfl, rfl, trivial⟩ trivial ?_
      refine PT.block ?_
      refine PT.loop (ι := Nat × (List Mk.Write) × (List Mk.Write) × Int × Int) (fun p => ⟨[(0, .val (p.2.1)), (1, .val (p.2.2.1)), (12, .val (p.2.2.2.1)), (13, .val (p.2.2.2.2))], []⟩) (fun p => slices_Equal___api_Write_api_Write__l1 k2 p.1 (p.2.1) (p.2.2.1) (p.2.2.2.1) (p.2.2.2.2) = some r) (fun p => p.1) (((a0.length : Int) - (0 : Int)).toNat + 1, a0, a1, (a0.length : Int), (0 : Int)) hφ ⟨rfl, rfl, rfl, rfl, trivial⟩ trivial ?_
      rintro ⟨m3, x0_m3, x1_m3, x12_m3, x13_m3⟩ (hφ : slices_Equal___api_Write_api_Write__l1 k2 m3 x0_m3 x1_m3 x12_m3 x13_m3 = some r)
      obtain _ | m3 := m3
      · exact (none_no hφ).elim
      rw [slices_Equal___api_Write_api_Write__l1.eq_2] at hφ
      refine PT.sub (σ' := ⟨[(0, .val (x0_m3)), (1, .val (x1_m3)), (12, .val (x12_m3)), (13, .val (x13_m3))], []⟩) ⟨rfl, rfl, rfl, rfl, trivial⟩ trivial ?_
      refine PT.seq ?_
      refine PT.region ?_
      refine Ops.put rfl rfl (ox_lss .tmp .tmp) ((.app (.one rfl) (.one rfl))) (.nil) rfl ?_
      refine Ops.nil ?_
      refine PT.sub (σ' := ⟨[(0, .val (x0_m3)), (1, .val (x1_m3)), (12, .val (x12_m3)), (13, .val (x13_m3)), (14, .val ((decide (x13_m3 < x12_m3))))], []⟩) ⟨rfl, rfl, rfl, rfl, rfl, trivial⟩ trivial ?_
      refine PT.seq ?_
      refine PT.cond _ rfl (fun hc4 => ?_) (fun hc4 => ?_)
      · replace hφ := if_then hφ hc4
        refine PT.sub (σ' := ⟨[(0, .val (x0_m3)), (1, .val (x1_m3)), (12, .val (x12_m3)), (13, .val (x13_m3))], []⟩) ⟨rfl, rfl, rfl, rfl, trivial⟩ trivial ?_
        refine PT.skip ?_
        refine PT.seq ?_
        refine PT.block ?_
        refine PT.seq ?_
        refine PT.region ?_
        refine Ops.put rfl rfl (ox_move .tmp) (.one rfl) (.nil) rfl ?_
        refine Ops.put rfl rfl (ox_assign .tmp) (.one rfl) (.nil) rfl ?_
        refine Ops.nil ?_
        refine PT.sub (σ' := ⟨[(0, .val (x0_m3)), (1, .val (x1_m3)), (5, .val (x13_m3)), (12, .val (x12_m3)), (13, .val (x13_m3))], []⟩) ⟨rfl, rfl, rfl, rfl, rfl, trivial⟩ trivial ?_
        refine PT.seq ?_
        obtain ⟨hb5, hφ⟩ := G_some hφ
        obtain ⟨hb6, hφ⟩ := G_some hφ
        refine PT.draw hMixed (
            Segs.cons (Step.put rfl rfl (ox_move .tmp)) ⟨.one rfl, .nil⟩ (by kernel_rfl) rfl <|
            Segs.cons (Step.put rfl rfl (ox_move .tmp)) ⟨.one rfl, .nil⟩ (by kernel_rfl) rfl <|
            Segs.cons (Step.put rfl rfl (ox_ix s26 .tmp .tmp hb5.1 hb5.2)) ⟨(.app (.one rfl) (.one rfl)), .nil⟩ (by kernel_rfl) rfl <|
            Segs.cons (Step.put rfl rfl (ox_load_elem t99)) ⟨.one rfl, .nil⟩ (by kernel_rfl) rfl <|
            Segs.cons (Step.put rfl rfl (ox_move .tmp)) ⟨.one rfl, .nil⟩ (by kernel_rfl) rfl <|
            Segs.cons (Step.put rfl rfl (ox_move .tmp)) ⟨.one rfl, .nil⟩ (by kernel_rfl) rfl <|
            Segs.cons (Step.put rfl rfl (ox_ix s26 .tmp .tmp hb6.1 hb6.2)) ⟨(.app (.one rfl) (.one rfl)), .nil⟩ (by kernel_rfl) rfl <|
            Segs.cons (Step.put rfl rfl (ox_load_elem t99)) ⟨.one rfl, .nil⟩ (by kernel_rfl) rfl <|
            Segs.cons (Step.put rfl rfl (ox_neqT e99 .tmp .tmp)) ⟨(.app (.one rfl) (.one rfl)), .nil⟩ (by kernel_rfl) rfl <|
            Segs.nil) _ [[], [], [0, 1], [0, 1, 2], [], [], [4, 5], [4, 5, 6], [0, 1, 2, 3, 4, 5, 6, 7]] rfl (by kernel_rfl) (by kernel_rfl) ?_
        refine PT.sub (σ' := ⟨[(0, .val (x0_m3)), (1, .val (x1_m3)), (12, .val (x12_m3)), (13, .val (x13_m3)), (24, .val ((!decide ((ix x0_m3 x13_m3) = (ix x1_m3 x13_m3)))))], []⟩) ⟨rfl, rfl, rfl, rfl, rfl, trivial⟩ trivial ?_
        refine PT.cond _ rfl (fun hc7 => ?_) (fun hc7 => ?_)
        · replace hφ := if_then hφ hc7
          refine PT.sub (σ' := ⟨[], []⟩) trivial trivial ?_
          refine PT.seq ?_
          refine PT.region ?_
          refine Ops.put rfl rfl (ox_assign .bool) (.nil) (.nil) rfl ?_
          refine Ops.nil ?_
          refine PT.sub (σ' := ⟨[(4, .val (false))], []⟩) ⟨rfl, trivial⟩ trivial ?_
          refine PT.ret ?_
          obtain rfl := Option.some.inj hφ
          exact PT.done hw0 rfl (.tmp rfl rfl .nil) rfl
        · replace hφ := if_else hφ hc7
          refine PT.sub (σ' := ⟨[(0, .val (x0_m3)), (1, .val (x1_m3)), (12, .val (x12_m3)), (13, .val (x13_m3))], []⟩) ⟨rfl, rfl, rfl, rfl, trivial⟩ trivial ?_
          refine PT.skip ?_
          obtain ⟨hb8, hφ⟩ := G_some hφ
          refine PT.region ?_
          refine Ops.put rfl rfl (ox_add .tmp .int hb8) ((.app (.one rfl) (.nil))) (.nil) rfl ?_
          refine Ops.put rfl rfl (ox_move .tmp) (.one rfl) (.nil) rfl ?_
          refine Ops.nil ?_
          refine PT.sub (σ' := ⟨[(0, .val (x0_m3)), (1, .val (x1_m3)), (12, .val (x12_m3)), (13, .val ((x13_m3 + (1 : Int))))], []⟩) ⟨rfl, rfl, rfl, rfl, trivial⟩ trivial ?_
          exact PT.next (m3, x0_m3, x1_m3, x12_m3, (x13_m3 + (1 : Int))) hφ (Nat.lt_succ_self _) ⟨rfl, rfl, rfl, rfl, trivial⟩ trivial
      · replace hφ := if_else hφ hc4
        refine PT.sub (σ' := ⟨[], []⟩) trivial trivial ?_
        refine PT.exit ?_
        exact PT.meet () hφ trivial trivial
    · rintro ⟨⟩ hφ
      subst hk2
      refine PT.sub (σ' := ⟨[], []⟩) trivial trivial ?_
      refine PT.seq ?_
      refine PT.region ?_
      refine Ops.put rfl rfl (ox_assign .bool) (.nil) (.nil) rfl ?_
      refine Ops.nil ?_
      refine PT.sub (σ' := ⟨[(4, .val (true))], []⟩) ⟨rfl, trivial⟩ trivial ?_
      refine PT.ret ?_
      obtain rfl := Option.some.inj hφ
      exact PT.done hw0 rfl (.tmp rfl rfl .nil) rfl
theorem c_slices_Equal___api_Reply_api_Reply_ {a0 : List Mk.Reply} {a1 : List Mk.Reply} {r : Bool} (hφ : slices_Equal___api_Reply_api_Reply_ a0 a1 = some r) : Fn Go.Proofs.Try.prog 59 [.val a0, .val a1] (.val r) := by
  unfold slices_Equal___api_Reply_api_Reply_ at hφ
  refine Fn.mk' Go.Proofs.Try.func59 rfl (by decide) rfl rfl rfl (fun w0 hw0 => ?_)
  refine PT.seq ?_
  refine PT.region ?_
  refine Ops.put rfl rfl (ox_assign .bool) (.nil) (.nil) rfl ?_
  refine Ops.nil ?_
  refine PT.sub (σ' := ⟨[(0, .val (a0)), (1, .val (a1))], []⟩) ⟨rfl, rfl, trivial⟩ trivial ?_
  refine PT.seq ?_
  refine PT.seq ?_
  refine PT.region ?_
  refine Ops.put rfl rfl (ox_move .tmp) (.one rfl) (.nil) rfl ?_
  refine Ops.put rfl rfl (ox_len s47 .tmp) (.one rfl) (.nil) rfl ?_
  refine Ops.put rfl rfl (ox_move .tmp) (.one rfl) (.nil) rfl ?_
  refine Ops.put rfl rfl (ox_len s47 .tmp) (.one rfl) (.nil) rfl ?_
  refine Ops.put rfl rfl (ox_neq .tmp .tmp) ((.app (.one rfl) (.one rfl))) (.nil) rfl ?_
  refine Ops.nil ?_
  refine PT.sub (σ' := ⟨[(0, .val (a0)), (1, .val (a1)), (10, .val ((!decide ((a0.length : Int) = (a1.length : Int)))))], []⟩) ⟨rfl, rfl, rfl, trivial⟩ trivial ?_
  refine PT.cond _ rfl (fun hc1 => ?_) (fun hc1 => ?_)
  · replace hφ := if_then hφ hc1
    refine PT.sub (σ' := ⟨[], []⟩) trivial trivial ?_
    refine PT.seq ?_
    refine PT.region ?_
    refine Ops.put rfl rfl (ox_assign .bool) (.nil) (.nil) rfl ?_
    refine Ops.nil ?_
    refine PT.sub (σ' := ⟨[(4, .val (false))], []⟩) ⟨rfl, trivial⟩ trivial ?_
    refine PT.ret ?_
    obtain rfl := Option.some.inj hφ
    exact PT.done hw0 rfl (.tmp rfl rfl .nil) rfl
  · replace hφ := if_else hφ hc1
    refine PT.sub (σ' := ⟨[(0, .val (a0)), (1, .val (a1))], []⟩) ⟨rfl, rfl, trivial⟩ trivial ?_
    refine PT.skip ?_
    obtain ⟨k2, hk2, hφ⟩ := J_some hφ
    refine PT.cut (ι := Unit) (fun p => ⟨[], []⟩) (fun p => k2 () = some r) ?_ ?_
    · skip
      refine PT.seq ?_
      refine PT.region ?_
      refine Ops.put rfl rfl (ox_move .tmp) (.one rfl) (.nil) rfl ?_
      refine Ops.put rfl rfl (ox_len s47 .tmp) (.one rfl) (.nil) rfl ?_
      refine Ops.put rfl rfl (ox_move .int) (.nil) (.nil) rfl ?_
      refine Ops.nil ?_
      refine PT.sub (σ' := ⟨[(0, .val (a0)), (1, .val (a1)), (12, .val ((a0.length : Int))), (13, .val ((0 : Int)))], []⟩) ⟨rfl, rfl, rfl, rfl, trivial⟩ trivial ?_
      refine PT.block ?_
      refine PT.loop (ι := Nat × (List Mk.Reply) × (List Mk.Reply) × Int × Int) (fun p => ⟨[(0, .val (p.2.1)), (1, .val (p.2.2.1)), (12, .val (p.2.2.2.1)), (13, .val (p.2.2.2.2))], []⟩) (fun p => slices_Equal___api_Reply_api_Reply__l1 k2 p.1 (p.2.1) (p.2.2.1) (p.2.2.2.1) (p.2.2.2.2) = some r) (fun p => p.1) (((a0.length : Int) - (0 : Int)).toNat + 1, a0, a1, (a0.length : Int), (0 : Int)) hφ ⟨rfl, rfl, rfl, rfl, trivial⟩ trivial ?_
      rintro ⟨m3, x0_m3, x1_m3, x12_m3, x13_m3⟩ (hφ : slices_Equal___api_Reply_api_Reply__l1 k2 m3 x0_m3 x1_m3 x12_m3 x13_m3 = some r)
      obtain _ | m3 := m3
      · exact (none_no hφ).elim
      rw [slices_Equal___api_Reply_api_Reply__l1.eq_2] at hφ
      refine PT.sub (σ' := ⟨[(0, .val (x0_m3)), (1, .val (x1_m3)), (12, .val (x12_m3)), (13, .val (x13_m3))], []⟩) ⟨rfl, rfl, rfl, rfl, trivial⟩ trivial ?_
      refine PT.seq ?_
      refine PT.region ?_
      refine Ops.put rfl rfl (ox_lss .tmp .tmp) ((.app (.one rfl) (.one rfl))) (.nil) rfl ?_
      refine Ops.nil ?_
      refine PT.sub (σ' := ⟨[(0, .val (x0_m3)), (1, .val (x1_m3)), (12, .val (x12_m3)), (13, .val (x13_m3)), (14, .val ((decide (x13_m3 < x12_m3))))], []⟩) ⟨rfl, rfl, rfl, rfl, rfl, trivial⟩ trivial ?_
      refine PT.seq ?_
      refine PT.cond _ rfl (fun hc4 => ?_) (fun hc4 => ?_)
      · replace hφ := if_then hφ hc4
        refine PT.sub (σ' := ⟨[(0, .val (x0_m3)), (1, .val (x1_m3)), (12, .val (x12_m3)), (13, .val (x13_m3))], []⟩) ⟨rfl, rfl, rfl, rfl, trivial⟩ trivial ?_
        refine PT.skip ?_
        refine PT.seq ?_
        refine PT.block ?_
        refine PT.seq ?_
        refine PT.region ?_
        refine Ops.put rfl rfl (ox_move .tmp) (.one rfl) (.nil) rfl ?_
        refine Ops.put rfl rfl (ox_assign .tmp) (.one rfl) (.nil) rfl ?_
        refine Ops.nil ?_
        refine PT.sub (σ' := ⟨[(0, .val (x0_m3)), (1, .val (x1_m3)), (5, .val (x13_m3)), (12, .val (x12_m3)), (13, .val (x13_m3))], []⟩) ⟨rfl, rfl, rfl, rfl, rfl, trivial⟩ trivial ?_
        refine PT.seq ?_
        obtain ⟨hb5, hφ⟩ := G_some hφ
        obtain ⟨hb6, hφ⟩ := G_some hφ
        refine PT.draw hMixed (
            Segs.cons (Step.put rfl rfl (ox_move .tmp)) ⟨.one rfl, .nil⟩ (by kernel_rfl) rfl <|
            Segs.cons (Step.put rfl rfl (ox_move .tmp)) ⟨.one rfl, .nil⟩ (by kernel_rfl) rfl <|
            Segs.cons (Step.put rfl rfl (ox_ix s47 .tmp .tmp hb5.1 hb5.2)) ⟨(.app (.one rfl) (.one rfl)), .nil⟩ (by kernel_rfl) rfl <|
            Segs.cons (Step.put rfl rfl (ox_load_elem t38)) ⟨.one rfl, .nil⟩ (by kernel_rfl) rfl <|
            Segs.cons (Step.put rfl rfl (ox_move .tmp)) ⟨.one rfl, .nil⟩ (by kernel_rfl) rfl <|
            Segs.cons (Step.put rfl rfl (ox_move .tmp)) ⟨.one rfl, .nil⟩ (by kernel_rfl) rfl <|
            Segs.cons (Step.put rfl rfl (ox_ix s47 .tmp .tmp hb6.1 hb6.2)) ⟨(.app (.one rfl) (.one rfl)), .nil⟩ (by kernel_rfl) rfl <|
            Segs.cons (Step.put rfl rfl (ox_load_elem t38)) ⟨.one rfl, .nil⟩ (by kernel_rfl) rfl <|
            Segs.cons (Step.put rfl rfl (ox_neqT e38 .tmp .tmp)) ⟨(.app (.one rfl) (.one rfl)), .nil⟩ (by kernel_rfl) rfl <|
            Segs.nil) _ [[], [], [0, 1], [0, 1, 2], [], [], [4, 5], [4, 5, 6], [0, 1, 2, 3, 4, 5, 6, 7]] rfl (by kernel_rfl) (by kernel_rfl) ?_
        refine PT.sub (σ' := ⟨[(0, .val (x0_m3)), (1, .val (x1_m3)), (12, .val (x12_m3)), (13, .val (x13_m3)), (24, .val ((!decide ((ix x0_m3 x13_m3) = (ix x1_m3 x13_m3)))))], []⟩) ⟨rfl, rfl, rfl, rfl, rfl, trivial⟩ trivial ?_
        refine PT.cond _ rfl (fun hc7 => ?_) (fun hc7 => ?_)
        · replace hφ := if_then hφ hc7
          refine PT.sub (σ' := ⟨[], []⟩) trivial trivial ?_
          refine PT.seq ?_
          refine PT.region ?_
          refine Ops.put rfl rfl (ox_assign .bool) (.nil) (.nil) rfl ?_
          refine Ops.nil ?_
          refine PT.sub (σ' := ⟨[(4, .val (false))], []⟩) ⟨rfl, trivial⟩ trivial ?_
          refine PT.ret ?_
          obtain rfl := Option.some.inj hφ
          exact PT.done hw0 rfl (.tmp rfl rfl .nil) rfl
        · replace hφ := if_else hφ hc7
          refine PT.sub (σ' := ⟨[(0, .val (x0_m3)), (1, .val (x1_m3)), (12, .val (x12_m3)), (13, .val (x13_m3))], []⟩) ⟨rfl, rfl, rfl, rfl, trivial⟩ trivial ?_
          refine PT.skip ?_
          obtain ⟨hb8, hφ⟩ := G_some hφ
          refine PT.region ?_
          refine Ops.put rfl rfl (ox_add .tmp .int hb8) ((.app (.one rfl) (.nil))) (.nil) rfl ?_
          refine Ops.put rfl rfl (ox_move .tmp) (.one rfl) (.nil) rfl ?_
          refine Ops.nil ?_
          refine PT.sub (σ' := ⟨[(0, .val (x0_m3)), (1, .val (x1_m3)), (12, .val (x12_m3)), (13, .val ((x13_m3 + (1 : Int))))], []⟩) ⟨rfl, rfl, rfl, rfl, trivial⟩ trivial ?_
          exact PT.next (m3, x0_m3, x1_m3, x12_m3, (x13_m3 + (1 : Int))) hφ (Nat.lt_succ_self _) ⟨rfl, rfl, rfl, rfl, trivial⟩ trivial
      · replace hφ := if_else hφ hc4
        refine PT.sub (σ' := ⟨[], []⟩) trivial trivial ?_
        refine PT.exit ?_
        exact PT.meet () hφ trivial trivial
    · rintro ⟨⟩ hφ
      subst hk2
      refine PT.sub (σ' := ⟨[], []⟩) trivial trivial ?_
      refine PT.seq ?_
      refine PT.region ?_
      refine Ops.put rfl rfl (ox_assign .bool) (.nil) (.nil) rfl ?_
      refine Ops.nil ?_
      refine PT.sub (σ' := ⟨[(4, .val (true))], []⟩) ⟨rfl, trivial⟩ trivial ?_
      refine PT.ret ?_
      obtain rfl := Option.some.inj hφ
      exact PT.done hw0 rfl (.tmp rfl rfl .nil) rfl
theorem c_look_Whole {a0 : Mk.Machine} {r : Bool} (hφ : look_Whole a0 = some r) : Fn Go.Proofs.Try.prog 28 [.val a0] (.val r) := by
  unfold look_Whole at hφ
  refine Fn.mk' Go.Proofs.Try.func28 rfl (by decide) rfl rfl rfl (fun w0 hw0 => ?_)
  refine PT.seq ?_
  refine PT.region ?_
  refine Ops.putO rfl rfl (ox_box (id := 1) .tmp) (.one rfl) (.nil) rfl (by kernel_rfl) ?_
  refine Ops.put rfl rfl (ox_assign .bool) (.nil) (.nil) rfl ?_
  refine Ops.nil ?_
  refine PT.sub (σ' := ⟨[(1, _)], [(1, .var (a0) [])]⟩) ⟨rfl, trivial⟩ ⟨rfl, trivial⟩ ?_
  refine PT.seq ?_
  obtain ⟨v1, hv1, hφ⟩ := B_some hφ
  refine PT.region ?_
  refine Ops.put rfl rfl (ox_fieldAddr_var Machine_Store f43_0) (.one rfl) (.nil) rfl ?_
  refine Ops.put rfl rfl (ox_fieldAddr_ptr Store_Past f30_3) (.one rfl) (.nil) rfl ?_
  refine Ops.put rfl rfl (ox_load_fld t28) (.one rfl) (.one rfl) rfl ?_
  refine Ops.put rfl rfl (ox_call (c_model_All hv1) (.cons .tmp .nil)) ((.app (.one rfl) .nil)) (.nil) rfl ?_
  refine Ops.put rfl rfl (ox_move .tmp) (.one rfl) (.nil) rfl ?_
  refine Ops.put rfl rfl (ox_extract rfl) (.one rfl) (.nil) rfl ?_
  refine Ops.put rfl rfl (ox_extract rfl) (.one rfl) (.nil) rfl ?_
  refine Ops.put rfl rfl (ox_assign .tmp) (.one rfl) (.nil) rfl ?_
  refine Ops.put rfl rfl (ox_assign .tmp) (.one rfl) (.nil) rfl ?_
  refine Ops.nil ?_
  refine PT.sub (σ' := ⟨[(1, _), (3, .val (v1.1))], [(1, .var (a0) [])]⟩) ⟨rfl, rfl, trivial⟩ ⟨rfl, trivial⟩ ?_
  refine PT.seq ?_
  refine PT.seq ?_
  obtain ⟨v2, hv2, hφ⟩ := B_some hφ
  obtain ⟨v3, hv3, hφ⟩ := B_some hφ
  refine PT.region ?_
  refine Ops.put rfl rfl (ox_load_var t43) (.one rfl) (.one rfl) rfl ?_
  refine Ops.put rfl rfl (ox_call (c_look_Now hv2) (.cons .tmp .nil)) ((.app (.one rfl) .nil)) (.nil) rfl ?_
  refine Ops.put rfl rfl (ox_move .tmp) (.one rfl) (.nil) rfl ?_
  refine Ops.put rfl rfl (ox_call (c_slices_Equal___api_Write_api_Write_ hv3) (.cons .tmp (.cons .tmp .nil))) ((.app (.one rfl) (.app (.one rfl) .nil))) (.nil) rfl ?_
  refine Ops.put rfl rfl (ox_not .tmp) (.one rfl) (.nil) rfl ?_
  refine Ops.nil ?_
  refine PT.sub (σ' := ⟨[(1, _), (22, .val ((!v3)))], [(1, .var (a0) [])]⟩) ⟨rfl, rfl, trivial⟩ ⟨rfl, trivial⟩ ?_
  refine PT.cond _ rfl (fun hc4 => ?_) (fun hc4 => ?_)
  · replace hφ := if_then hφ hc4
    refine PT.sub (σ' := ⟨[], []⟩) trivial trivial ?_
    refine PT.seq ?_
    refine PT.region ?_
    refine Ops.put rfl rfl (ox_assign .bool) (.nil) (.nil) rfl ?_
    refine Ops.nil ?_
    refine PT.sub (σ' := ⟨[(2, .val (false))], []⟩) ⟨rfl, trivial⟩ trivial ?_
    refine PT.ret ?_
    obtain rfl := Option.some.inj hφ
    exact PT.done hw0 rfl (.tmp rfl rfl .nil) rfl
  · replace hφ := if_else hφ hc4
    refine PT.sub (σ' := ⟨[(1, _)], [(1, .var (a0) [])]⟩) ⟨rfl, trivial⟩ ⟨rfl, trivial⟩ ?_
    refine PT.skip ?_
    obtain ⟨k5, hk5, hφ⟩ := J_some hφ
    refine PT.cut (ι := Unit) (fun p => ⟨[], []⟩) (fun p => k5 () = some r) ?_ ?_
    · skip
      refine PT.seq ?_
      refine PT.region ?_
      refine Ops.put rfl rfl (ox_fieldAddr_var Machine_Clients f43_5) (.one rfl) (.nil) rfl ?_
      refine Ops.put rfl rfl (ox_load_fld t41) (.one rfl) (.one rfl) rfl ?_
      refine Ops.put rfl rfl (ox_len s41 .tmp) (.one rfl) (.nil) rfl ?_
      refine Ops.put rfl rfl (ox_move .int) (.nil) (.nil) rfl ?_
      refine Ops.nil ?_
      refine PT.sub (σ' := ⟨[(1, _), (24, .val (a0.Clients)), (25, .val ((a0.Clients.length : Int))), (26, .val ((0 : Int)))], [(1, .var (a0) [])]⟩) ⟨rfl, rfl, rfl, rfl, trivial⟩ ⟨rfl, trivial⟩ ?_
      refine PT.block ?_
      refine PT.loop (ι := Nat × (List Mk.Client) × Int × Int × Mk.Machine) (fun p => ⟨[(1, .ptr 1 (Lens.id (α := Mk.Machine))), (24, .val (p.2.1)), (25, .val (p.2.2.1)), (26, .val (p.2.2.2.1))], [(1, .var (p.2.2.2.2) [])]⟩) (fun p => look_Whole_l1 k5 p.1 (p.2.1) (p.2.2.1) (p.2.2.2.1) (p.2.2.2.2) = some r) (fun p => p.1) (((a0.Clients.length : Int) - (0 : Int)).toNat + 1, a0.Clients, (a0.Clients.length : Int), (0 : Int), a0) hφ ⟨rfl, rfl, rfl, rfl, trivial⟩ ⟨rfl, trivial⟩ ?_
      rintro ⟨m6, x24_m6, x25_m6, x26_m6, y1_m6⟩ (hφ : look_Whole_l1 k5 m6 x24_m6 x25_m6 x26_m6 y1_m6 = some r)
      obtain _ | m6 := m6
      · exact (none_no hφ).elim
      rw [look_Whole_l1.eq_2] at hφ
      refine PT.sub (σ' := ⟨[(1, .ptr 1 (Lens.id (α := Mk.Machine))), (24, .val (x24_m6)), (25, .val (x25_m6)), (26, .val (x26_m6))], [(1, .var (y1_m6) [])]⟩) ⟨rfl, rfl, rfl, rfl, trivial⟩ ⟨rfl, trivial⟩ ?_
      refine PT.seq ?_
      refine PT.region ?_
      refine Ops.put rfl rfl (ox_lss .tmp .tmp) ((.app (.one rfl) (.one rfl))) (.nil) rfl ?_
      refine Ops.nil ?_
      refine PT.sub (σ' := ⟨[(1, _), (24, .val (x24_m6)), (25, .val (x25_m6)), (26, .val (x26_m6)), (27, .val ((decide (x26_m6 < x25_m6))))], [(1, .var (y1_m6) [])]⟩) ⟨rfl, rfl, rfl, rfl, rfl, trivial⟩ ⟨rfl, trivial⟩ ?_
      refine PT.seq ?_
      refine PT.cond _ rfl (fun hc7 => ?_) (fun hc7 => ?_)
      · replace hφ := if_then hφ hc7
        refine PT.sub (σ' := ⟨[(1, _), (24, .val (x24_m6)), (25, .val (x25_m6)), (26, .val (x26_m6))], [(1, .var (y1_m6) [])]⟩) ⟨rfl, rfl, rfl, rfl, trivial⟩ ⟨rfl, trivial⟩ ?_
        refine PT.skip ?_
        obtain ⟨k8, hk8, hφ⟩ := J_some hφ
        refine PT.cut (ι := (List Mk.Client) × Int × Int × Mk.Machine) (fun p => ⟨[(1, .ptr 1 (Lens.id (α := Mk.Machine))), (24, .val (p.1)), (25, .val (p.2.1)), (26, .val (p.2.2.1))], [(1, .var (p.2.2.2) [])]⟩) (fun p => k8 (p.1) (p.2.1) (p.2.2.1) (p.2.2.2) = some r) ?_ ?_
        · skip
          refine PT.block ?_
          refine PT.seq ?_
          obtain ⟨hb9, hφ⟩ := G_some hφ
          refine PT.region ?_
          refine Ops.put rfl rfl (ox_move .tmp) (.one rfl) (.nil) rfl ?_
          refine Ops.put rfl rfl (ox_ix s41 .tmp .tmp hb9.1 hb9.2) ((.app (.one rfl) (.one rfl))) (.nil) rfl ?_
          refine Ops.put rfl rfl (ox_load_elem t61) (.one rfl) (.nil) rfl ?_
          refine Ops.putO rfl rfl (ox_alloc (id := 6) z61) (.nil) (.nil) rfl (by kernel_rfl) ?_
          refine Ops.put rfl rfl (ox_assign .tmp) (.one rfl) (.nil) rfl ?_
          refine Ops.mute rfl rfl (ox_store_var t61 .tmp) ((.cons rfl (.one rfl))) (.one rfl) ?_
          refine Ops.nil ?_
          refine PT.sub (σ' := ⟨[(1, _), (5, .val (x26_m6)), (6, _), (24, .val (x24_m6)), (25, .val (x25_m6)), (26, .val (x26_m6))], [(1, .var (y1_m6) []), (6, .var ((ix x24_m6 x26_m6)) [])]⟩) ⟨rfl, rfl, rfl, rfl, rfl, rfl, trivial⟩ ⟨rfl, rfl, trivial⟩ ?_
          refine PT.seq ?_
          obtain ⟨v10, hv10, hφ⟩ := B_some hφ
          refine PT.region ?_
          refine Ops.put rfl rfl (ox_load_var t43) (.one rfl) (.one rfl) rfl ?_
          refine Ops.put rfl rfl (ox_move .tmp) (.one rfl) (.nil) rfl ?_
          refine Ops.put rfl rfl (ox_call (c_look_Past hv10) (.cons .tmp (.cons .tmp .nil))) ((.app (.one rfl) (.app (.one rfl) .nil))) (.nil) rfl ?_
          refine Ops.put rfl rfl (ox_move .tmp) (.one rfl) (.nil) rfl ?_
          refine Ops.put rfl rfl (ox_extract rfl) (.one rfl) (.nil) rfl ?_
          refine Ops.put rfl rfl (ox_extract rfl) (.one rfl) (.nil) rfl ?_
          refine Ops.put rfl rfl (ox_assign .tmp) (.one rfl) (.nil) rfl ?_
          refine Ops.put rfl rfl (ox_assign .tmp) (.one rfl) (.nil) rfl ?_
          refine Ops.nil ?_
          refine PT.sub (σ' := ⟨[(1, _), (6, _), (7, .val (v10.1)), (8, .val (v10.2)), (24, .val (x24_m6)), (25, .val (x25_m6)), (26, .val (x26_m6))], [(1, .var (y1_m6) []), (6, .var ((ix x24_m6 x26_m6)) [])]⟩) ⟨rfl, rfl, rfl, rfl, rfl, rfl, rfl, trivial⟩ ⟨rfl, rfl, trivial⟩ ?_
          refine PT.seq ?_
          refine PT.seq ?_
          obtain ⟨hb11, hφ⟩ := G_some hφ
          obtain ⟨hb12, hφ⟩ := G_some hφ
          obtain ⟨v13, hv13, hφ⟩ := B_some hφ
          refine PT.draw hMixed (
              Segs.cons (Step.put rfl rfl (ox_fieldAddr_var Client_Got f61_5)) ⟨.one rfl, .nil⟩ (by kernel_rfl) rfl <|
              Segs.cons (Step.put rfl rfl (ox_load_fld t47)) ⟨.one rfl, .one rfl⟩ (by kernel_rfl) rfl <|
              Segs.cons (Step.put rfl rfl (ox_len s47 .tmp)) ⟨.one rfl, .nil⟩ (by kernel_rfl) rfl <|
              Segs.cons (Step.put rfl rfl (ox_fieldAddr_var Client_At f61_1)) ⟨.one rfl, .nil⟩ (by kernel_rfl) rfl <|
              Segs.cons (Step.put rfl rfl (ox_load_fld t3)) ⟨.one rfl, .one rfl⟩ (by kernel_rfl) rfl <|
              Segs.cons (Step.put rfl rfl (ox_neq .tmp .tmp)) ⟨(.app (.one rfl) (.one rfl)), .nil⟩ (by kernel_rfl) rfl <|
              Segs.cons (Step.put rfl rfl (ox_move .tmp)) ⟨.one rfl, .nil⟩ (by kernel_rfl) rfl <|
              Segs.cons (Step.guard rfl rfl rfl Grd.plain _ (by first | exact Iff.rfl | simp) (.plain .nil) (fun hG => (ox_move .tmp))) ⟨(.cons rfl ⟨rfl, trivial⟩), .nil⟩ (by kernel_rfl) rfl <|
              Segs.cons (Step.guard rfl rfl rfl Grd.plain _ (by first | exact Iff.rfl | simp) (.cond (fun h => h) .nil) (fun hG => (ox_len s28 .tmp))) ⟨(.cons rfl ⟨rfl, trivial⟩), .nil⟩ (by kernel_rfl) rfl <|
              Segs.cons (Step.guard rfl rfl rfl Grd.plain _ (by first | exact Iff.rfl | simp) (.plain .nil) (fun hG => (ox_fieldAddr_var Client_At f61_1))) ⟨(.cons rfl ⟨rfl, trivial⟩), .nil⟩ (by kernel_rfl) rfl <|
              Segs.cons (Step.guard rfl rfl rfl Grd.plain _ (by first | exact Iff.rfl | simp) (.cond (fun h => h) .nil) (fun hG => (ox_load_fld t3))) ⟨(.cons rfl ⟨rfl, trivial⟩), .one rfl⟩ (by kernel_rfl) rfl <|
              Segs.cons (Step.guard rfl rfl rfl Grd.plain _ (by first | exact Iff.rfl | simp) (.cond (fun h => h) (.cond (fun h => h) .nil)) (fun hG => (ox_lss .tmp .tmp))) ⟨(.cons rfl ⟨rfl, rfl, trivial⟩), .nil⟩ (by kernel_rfl) rfl <|
              Segs.cons (Step.put rfl rfl ox_pick_or) ⟨⟨rfl, rfl, trivial⟩, .nil⟩ (by kernel_rfl) rfl <|
              Segs.cons (Step.put rfl rfl (ox_move .tmp)) ⟨.one rfl, .nil⟩ (by kernel_rfl) rfl <|
              Segs.cons (Step.guard rfl rfl rfl Grd.plain _ (by first | exact Iff.rfl | simp) (.plain .nil) (fun hG => (ox_move .tmp))) ⟨(.cons rfl ⟨rfl, trivial⟩), .nil⟩ (by kernel_rfl) rfl <|
              Segs.cons (Step.guard rfl rfl rfl Grd.plain _ (by first | exact Iff.rfl | simp) (.cond (fun h => h) .nil) (fun hG => (ox_len s28 .tmp))) ⟨(.cons rfl ⟨rfl, trivial⟩), .nil⟩ (by kernel_rfl) rfl <|
              Segs.cons (Step.guard rfl rfl rfl Grd.plain _ (by first | exact Iff.rfl | simp) (.plain .nil) (fun hG => (ox_fieldAddr_var Client_At f61_1))) ⟨(.cons rfl ⟨rfl, trivial⟩), .nil⟩ (by kernel_rfl) rfl <|
              Segs.cons (Step.guard rfl rfl rfl Grd.plain _ (by first | exact Iff.rfl | simp) (.cond (fun h => h) .nil) (fun hG => (ox_load_fld t3))) ⟨(.cons rfl ⟨rfl, trivial⟩), .one rfl⟩ (by kernel_rfl) rfl <|
              Segs.cons (Step.guard rfl rfl rfl Grd.plain _ (by first | exact Iff.rfl | simp) (.cond (fun h => h) .nil) (fun hG => (ox_add .tmp .int (hb11 hG)))) ⟨(.cons rfl ⟨rfl, trivial⟩), .nil⟩ (by kernel_rfl) rfl <|
              Segs.cons (Step.guard rfl rfl rfl Grd.plain _ (by first | exact Iff.rfl | simp) (.cond (fun h => h) (.cond (fun h => h) .nil)) (fun hG => (ox_gtr .tmp .tmp))) ⟨(.cons rfl ⟨rfl, rfl, trivial⟩), .nil⟩ (by kernel_rfl) rfl <|
              Segs.cons (Step.put rfl rfl ox_pick_or) ⟨⟨rfl, rfl, trivial⟩, .nil⟩ (by kernel_rfl) rfl <|
              Segs.cons (Step.put rfl rfl (ox_move .tmp)) ⟨.one rfl, .nil⟩ (by kernel_rfl) rfl <|
              Segs.cons (Step.guard rfl rfl rfl Grd.plain _ (by first | exact Iff.rfl | simp) (.plain .nil) (fun hG => (ox_move .tmp))) ⟨(.cons rfl ⟨rfl, trivial⟩), .nil⟩ (by kernel_rfl) rfl <|
              Segs.cons (Step.guard rfl rfl rfl Grd.plain _ (by first | exact Iff.rfl | simp) (.cond (fun h => h) .nil) (fun hG => (ox_len s28 .tmp))) ⟨(.cons rfl ⟨rfl, trivial⟩), .nil⟩ (by kernel_rfl) rfl <|
              Segs.cons (Step.guard rfl rfl rfl Grd.plain _ (by first | exact Iff.rfl | simp) (.plain .nil) (fun hG => (ox_fieldAddr_var Client_Calls f61_0))) ⟨(.cons rfl ⟨rfl, trivial⟩), .nil⟩ (by kernel_rfl) rfl <|
              Segs.cons (Step.guard rfl rfl rfl Grd.plain _ (by first | exact Iff.rfl | simp) (.cond (fun h => h) .nil) (fun hG => (ox_load_fld t59))) ⟨(.cons rfl ⟨rfl, trivial⟩), .one rfl⟩ (by kernel_rfl) rfl <|
              Segs.cons (Step.guard rfl rfl rfl Grd.plain _ (by first | exact Iff.rfl | simp) (.cond (fun h => h) .nil) (fun hG => (ox_len s59 .tmp))) ⟨(.cons rfl ⟨rfl, trivial⟩), .nil⟩ (by kernel_rfl) rfl <|
              Segs.cons (Step.guard rfl rfl rfl Grd.plain _ (by first | exact Iff.rfl | simp) (.cond (fun h => h) (.cond (fun h => h) .nil)) (fun hG => (ox_gtr .tmp .tmp))) ⟨(.cons rfl ⟨rfl, rfl, trivial⟩), .nil⟩ (by kernel_rfl) rfl <|
              Segs.cons (Step.put rfl rfl ox_pick_or) ⟨⟨rfl, rfl, trivial⟩, .nil⟩ (by kernel_rfl) rfl <|
              Segs.cons (Step.put rfl rfl (ox_move .tmp)) ⟨.one rfl, .nil⟩ (by kernel_rfl) rfl <|
              Segs.cons (Step.guard rfl rfl rfl Grd.plain _ (by first | exact Iff.rfl | simp) (.plain .nil) (fun hG => (ox_fieldAddr_var Client_Got f61_5))) ⟨(.cons rfl ⟨rfl, trivial⟩), .nil⟩ (by kernel_rfl) rfl <|
              Segs.cons (Step.guard rfl rfl rfl Grd.plain _ (by first | exact Iff.rfl | simp) (.cond (fun h => h) .nil) (fun hG => (ox_load_fld t47))) ⟨(.cons rfl ⟨rfl, trivial⟩), .one rfl⟩ (by kernel_rfl) rfl <|
              Segs.cons (Step.guard rfl rfl rfl Grd.plain _ (by first | exact Iff.rfl | simp) (.plain .nil) (fun hG => (ox_move .tmp))) ⟨(.cons rfl ⟨rfl, trivial⟩), .nil⟩ (by kernel_rfl) rfl <|
              Segs.cons (Step.guard rfl rfl rfl Grd.plain _ (by first | exact Iff.rfl | simp) (.plain .nil) (fun hG => (ox_fieldAddr_var Client_At f61_1))) ⟨(.cons rfl ⟨rfl, trivial⟩), .nil⟩ (by kernel_rfl) rfl <|
              Segs.cons (Step.guard rfl rfl rfl Grd.plain _ (by first | exact Iff.rfl | simp) (.cond (fun h => h) .nil) (fun hG => (ox_load_fld t3))) ⟨(.cons rfl ⟨rfl, trivial⟩), .one rfl⟩ (by kernel_rfl) rfl <|
              Segs.cons (Step.guard rfl rfl rfl Grd.plain _ (by first | exact Iff.rfl | simp) (.cond (fun h => h) (.cond (fun h => h) .nil)) (fun hG => (ox_slice s47 .tmp .none (.some .tmp) (hb12 hG).1 (hb12 hG).2.1 (hb12 hG).2.2))) ⟨(.cons rfl ⟨rfl, rfl, trivial⟩), .nil⟩ (by kernel_rfl) rfl <|
              Segs.cons (Step.guard rfl rfl rfl Grd.plain _ (by first | exact Iff.rfl | simp) (.cond (fun h => h) (.cond (fun h => h) .nil)) (fun hG => (ox_call (c_slices_Equal___api_Reply_api_Reply_ (Cn_on hv13 hG)) (.cons .tmp (.cons .tmp .nil))))) ⟨(.cons rfl ⟨rfl, rfl, trivial⟩), .nil⟩ (by kernel_rfl) rfl <|
              Segs.cons (Step.guard rfl rfl rfl Grd.plain _ (by first | exact Iff.rfl | simp) (.cond (fun h => h) .nil) (fun hG => (ox_not .tmp))) ⟨(.cons rfl ⟨rfl, trivial⟩), .nil⟩ (by kernel_rfl) rfl <|
              Segs.cons (Step.put rfl rfl ox_pick_or) ⟨⟨rfl, rfl, trivial⟩, .nil⟩ (by kernel_rfl) rfl <|
              Segs.nil) _ [[], [0], [0, 1], [], [3], [0, 1, 2, 3, 4], [0, 1, 2, 3, 4, 5], [0, 1, 2, 3, 4, 5, 6], [0, 1, 2, 3, 4, 5, 6, 7], [0, 1, 2, 3, 4, 5, 6], [0, 1, 2, 3, 4, 5, 6, 9], [0, 1, 2, 3, 4, 5, 6, 7, 8, 9, 10], [0, 1, 2, 3, 4, 5, 6, 7, 8, 9, 10, 11], [0, 1, 2, 3, 4, 5, 6, 7, 8, 9, 10, 11, 12], [0, 1, 2, 3, 4, 5, 6, 7, 8, 9, 10, 11, 12, 13], [0, 1, 2, 3, 4, 5, 6, 7, 8, 9, 10, 11, 12, 13, 14], [0, 1, 2, 3, 4, 5, 6, 7, 8, 9, 10, 11, 12, 13], [0, 1, 2, 3, 4, 5, 6, 7, 8, 9, 10, 11, 12, 13, 16], [0, 1, 2, 3, 4, 5, 6, 7, 8, 9, 10, 11, 12, 13, 16, 17], [0, 1, 2, 3, 4, 5, 6, 7, 8, 9, 10, 11, 12, 13, 14, 15, 16, 17, 18], [0, 1, 2, 3, 4, 5, 6, 7, 8, 9, 10, 11, 12, 13, 14, 15, 16, 17, 18, 19], [0, 1, 2, 3, 4, 5, 6, 7, 8, 9, 10, 11, 12, 13, 14, 15, 16, 17, 18, 19, 20], [0, 1, 2, 3, 4, 5, 6, 7, 8, 9, 10, 11, 12, 13, 14, 15, 16, 17, 18, 19, 20, 21], [0, 1, 2, 3, 4, 5, 6, 7, 8, 9, 10, 11, 12, 13, 14, 15, 16, 17, 18, 19, 20, 21, 22], [0, 1, 2, 3, 4, 5, 6, 7, 8, 9, 10, 11, 12, 13, 14, 15, 16, 17, 18, 19, 20, 21], [0, 1, 2, 3, 4, 5, 6, 7, 8, 9, 10, 11, 12, 13, 14, 15, 16, 17, 18, 19, 20, 21, 24], [0, 1, 2, 3, 4, 5, 6, 7, 8, 9, 10, 11, 12, 13, 14, 15, 16, 17, 18, 19, 20, 21, 24, 25], [0, 1, 2, 3, 4, 5, 6, 7, 8, 9, 10, 11, 12, 13, 14, 15, 16, 17, 18, 19, 20, 21, 22, 23, 24, 25, 26], [0, 1, 2, 3, 4, 5, 6, 7, 8, 9, 10, 11, 12, 13, 14, 15, 16, 17, 18, 19, 20, 21, 22, 23, 24, 25, 26, 27], [0, 1, 2, 3, 4, 5, 6, 7, 8, 9, 10, 11, 12, 13, 14, 15, 16, 17, 18, 19, 20, 21, 22, 23, 24, 25, 26, 27, 28], [0, 1, 2, 3, 4, 5, 6, 7, 8, 9, 10, 11, 12, 13, 14, 15, 16, 17, 18, 19, 20, 21, 22, 23, 24, 25, 26, 27, 28, 29], [0, 1, 2, 3, 4, 5, 6, 7, 8, 9, 10, 11, 12, 13, 14, 15, 16, 17, 18, 19, 20, 21, 22, 23, 24, 25, 26, 27, 28, 29, 30], [0, 1, 2, 3, 4, 5, 6, 7, 8, 9, 10, 11, 12, 13, 14, 15, 16, 17, 18, 19, 20, 21, 22, 23, 24, 25, 26, 27, 28, 29], [0, 1, 2, 3, 4, 5, 6, 7, 8, 9, 10, 11, 12, 13, 14, 15, 16, 17, 18, 19, 20, 21, 22, 23, 24, 25, 26, 27, 28, 29], [0, 1, 2, 3, 4, 5, 6, 7, 8, 9, 10, 11, 12, 13, 14, 15, 16, 17, 18, 19, 20, 21, 22, 23, 24, 25, 26, 27, 28, 29, 33], [0, 1, 2, 3, 4, 5, 6, 7, 8, 9, 10, 11, 12, 13, 14, 15, 16, 17, 18, 19, 20, 21, 22, 23, 24, 25, 26, 27, 28, 29, 32, 33, 34], [0, 1, 2, 3, 4, 5, 6, 7, 8, 9, 10, 11, 12, 13, 14, 15, 16, 17, 18, 19, 20, 21, 22, 23, 24, 25, 26, 27, 28, 29, 30, 31, 32, 33, 34, 35], [0, 1, 2, 3, 4, 5, 6, 7, 8, 9, 10, 11, 12, 13, 14, 15, 16, 17, 18, 19, 20, 21, 22, 23, 24, 25, 26, 27, 28, 29, 30, 31, 32, 33, 34, 35, 36], [0, 1, 2, 3, 4, 5, 6, 7, 8, 9, 10, 11, 12, 13, 14, 15, 16, 17, 18, 19, 20, 21, 22, 23, 24, 25, 26, 27, 28, 29, 30, 31, 32, 33, 34, 35, 36, 37]] rfl (by kernel_rfl) (by kernel_rfl) ?_
          refine PT.sub (σ' := ⟨[(1, _), (6, _), (7, .val (v10.1)), (24, .val (x24_m6)), (25, .val (x25_m6)), (26, .val (x26_m6)), (75, .val ((((((!decide (((ix x24_m6 x26_m6).Got.length : Int) = (ix x24_m6 x26_m6).At)) || (decide ((v10.1.length : Int) < (ix x24_m6 x26_m6).At))) || (decide (((ix x24_m6 x26_m6).At + (1 : Int)) < (v10.1.length : Int)))) || (decide (((ix x24_m6 x26_m6).Calls.length : Int) < (v10.1.length : Int)))) || (!v13))))], [(1, .var (y1_m6) []), (6, .var ((ix x24_m6 x26_m6)) [])]⟩) ⟨rfl, rfl, rfl, rfl, rfl, rfl, rfl, trivial⟩ ⟨rfl, rfl, trivial⟩ ?_
          refine PT.cond _ rfl (fun hc14 => ?_) (fun hc14 => ?_)
          · replace hφ := if_then hφ hc14
            refine PT.sub (σ' := ⟨[], []⟩) trivial trivial ?_
            refine PT.seq ?_
            refine PT.region ?_
            refine Ops.put rfl rfl (ox_assign .bool) (.nil) (.nil) rfl ?_
            refine Ops.nil ?_
            refine PT.sub (σ' := ⟨[(2, .val (false))], []⟩) ⟨rfl, trivial⟩ trivial ?_
            refine PT.ret ?_
            obtain rfl := Option.some.inj hφ
            exact PT.done hw0 rfl (.tmp rfl rfl .nil) rfl
          · replace hφ := if_else hφ hc14
            refine PT.sub (σ' := ⟨[(1, _), (6, _), (7, .val (v10.1)), (24, .val (x24_m6)), (25, .val (x25_m6)), (26, .val (x26_m6))], [(1, .var (y1_m6) []), (6, .var ((ix x24_m6 x26_m6)) [])]⟩) ⟨rfl, rfl, rfl, rfl, rfl, rfl, trivial⟩ ⟨rfl, rfl, trivial⟩ ?_
            refine PT.skip ?_
            refine PT.seq ?_
            refine PT.region ?_
            refine Ops.put rfl rfl (ox_move .tmp) (.one rfl) (.nil) rfl ?_
            refine Ops.put rfl rfl (ox_len s28 .tmp) (.one rfl) (.nil) rfl ?_
            refine Ops.put rfl rfl (ox_move .int) (.nil) (.nil) rfl ?_
            refine Ops.nil ?_
            refine PT.sub (σ' := ⟨[(1, _), (6, _), (24, .val (x24_m6)), (25, .val (x25_m6)), (26, .val (x26_m6)), (76, .val (v10.1)), (77, .val ((v10.1.length : Int))), (78, .val ((0 : Int)))], [(1, .var (y1_m6) []), (6, .var ((ix x24_m6 x26_m6)) [])]⟩) ⟨rfl, rfl, rfl, rfl, rfl, rfl, rfl, rfl, trivial⟩ ⟨rfl, rfl, trivial⟩ ?_
            refine PT.block ?_
            refine PT.loop (ι := Nat × (List Mk.Client) × Int × Int × (List Mk.Request) × Int × Int × Mk.Machine × Mk.Client) (fun p => ⟨[(1, .ptr 1 (Lens.id (α := Mk.Machine))), (6, .ptr 6 (Lens.id (α := Mk.Client))), (24, .val (p.2.1)), (25, .val (p.2.2.1)), (26, .val (p.2.2.2.1)), (76, .val (p.2.2.2.2.1)), (77, .val (p.2.2.2.2.2.1)), (78, .val (p.2.2.2.2.2.2.1))], [(1, .var (p.2.2.2.2.2.2.2.1) []), (6, .var (p.2.2.2.2.2.2.2.2) [])]⟩) (fun p => look_Whole_l2 k8 p.1 (p.2.1) (p.2.2.1) (p.2.2.2.1) (p.2.2.2.2.1) (p.2.2.2.2.2.1) (p.2.2.2.2.2.2.1) (p.2.2.2.2.2.2.2.1) (p.2.2.2.2.2.2.2.2) = some r) (fun p => p.1) (((v10.1.length : Int) - (0 : Int)).toNat + 1, x24_m6, x25_m6, x26_m6, v10.1, (v10.1.length : Int), (0 : Int), y1_m6, (ix x24_m6 x26_m6)) hφ ⟨rfl, rfl, rfl, rfl, rfl, rfl, rfl, rfl, trivial⟩ ⟨rfl, rfl, trivial⟩ ?_
            rintro ⟨m15, x24_m15, x25_m15, x26_m15, x76_m15, x77_m15, x78_m15, y1_m15, y6_m15⟩ (hφ : look_Whole_l2 k8 m15 x24_m15 x25_m15 x26_m15 x76_m15 x77_m15 x78_m15 y1_m15 y6_m15 = some r)
            obtain _ | m15 := m15
            · exact (none_no hφ).elim
            rw [look_Whole_l2.eq_2] at hφ
            refine PT.sub (σ' := ⟨[(1, .ptr 1 (Lens.id (α := Mk.Machine))), (6, .ptr 6 (Lens.id (α := Mk.Client))), (24, .val (x24_m15)), (25, .val (x25_m15)), (26, .val (x26_m15)), (76, .val (x76_m15)), (77, .val (x77_m15)), (78, .val (x78_m15))], [(1, .var (y1_m15) []), (6, .var (y6_m15) [])]⟩) ⟨rfl, rfl, rfl, rfl, rfl, rfl, rfl, rfl, trivial⟩ ⟨rfl, rfl, trivial⟩ ?_
            refine PT.seq ?_
            refine PT.region ?_
            refine Ops.put rfl rfl (ox_lss .tmp .tmp) ((.app (.one rfl) (.one rfl))) (.nil) rfl ?_
            refine Ops.nil ?_
            refine PT.sub (σ' := ⟨[(1, _), (6, _), (24, .val (x24_m15)), (25, .val (x25_m15)), (26, .val (x26_m15)), (76, .val (x76_m15)), (77, .val (x77_m15)), (78, .val (x78_m15)), (79, .val ((decide (x78_m15 < x77_m15))))], [(1, .var (y1_m15) []), (6, .var (y6_m15) [])]⟩) ⟨rfl, rfl, rfl, rfl, rfl, rfl, rfl, rfl, rfl, trivial⟩ ⟨rfl, rfl, trivial⟩ ?_
            refine PT.seq ?_
            refine PT.cond _ rfl (fun hc16 => ?_) (fun hc16 => ?_)
            · replace hφ := if_then hφ hc16
              refine PT.sub (σ' := ⟨[(1, _), (6, _), (24, .val (x24_m15)), (25, .val (x25_m15)), (26, .val (x26_m15)), (76, .val (x76_m15)), (77, .val (x77_m15)), (78, .val (x78_m15))], [(1, .var (y1_m15) []), (6, .var (y6_m15) [])]⟩) ⟨rfl, rfl, rfl, rfl, rfl, rfl, rfl, rfl, trivial⟩ ⟨rfl, rfl, trivial⟩ ?_
              refine PT.skip ?_
              refine PT.seq ?_
              refine PT.block ?_
              refine PT.seq ?_
              obtain ⟨hb17, hφ⟩ := G_some hφ
              refine PT.region ?_
              refine Ops.put rfl rfl (ox_move .tmp) (.one rfl) (.nil) rfl ?_
              refine Ops.put rfl rfl (ox_ix s28 .tmp .tmp hb17.1 hb17.2) ((.app (.one rfl) (.one rfl))) (.nil) rfl ?_
              refine Ops.put rfl rfl (ox_load_elem t35) (.one rfl) (.nil) rfl ?_
              refine Ops.putO rfl rfl (ox_alloc (id := 10) z35) (.nil) (.nil) rfl (by kernel_rfl) ?_
              refine Ops.put rfl rfl (ox_assign .tmp) (.one rfl) (.nil) rfl ?_
              refine Ops.mute rfl rfl (ox_store_var t35 .tmp) ((.cons rfl (.one rfl))) (.one rfl) ?_
              refine Ops.nil ?_
              refine PT.sub (σ' := ⟨[(1, _), (6, _), (9, .val (x78_m15)), (10, _), (24, .val (x24_m15)), (25, .val (x25_m15)), (26, .val (x26_m15)), (76, .val (x76_m15)), (77, .val (x77_m15)), (78, .val (x78_m15))], [(1, .var (y1_m15) []), (6, .var (y6_m15) []), (10, .var ((ix x76_m15 x78_m15)) [])]⟩) ⟨rfl, rfl, rfl, rfl, rfl, rfl, rfl, rfl, rfl, rfl, trivial⟩ ⟨rfl, rfl, rfl, trivial⟩ ?_
              refine PT.seq ?_
              obtain ⟨hb18, hφ⟩ := G_some hφ
              refine PT.draw hMixed (
                  Segs.cons (Step.put rfl rfl (ox_fieldAddr_var Request_Token f35_1)) ⟨.one rfl, .nil⟩ (by kernel_rfl) rfl <|
                  Segs.cons (Step.put rfl rfl (ox_load_fld t3)) ⟨.one rfl, .one rfl⟩ (by kernel_rfl) rfl <|
                  Segs.cons (Step.put rfl rfl (ox_move .tmp)) ⟨.one rfl, .nil⟩ (by kernel_rfl) rfl <|
                  Segs.cons (Step.put rfl rfl (ox_neq .tmp .tmp)) ⟨(.app (.one rfl) (.one rfl)), .nil⟩ (by kernel_rfl) rfl <|
                  Segs.cons (Step.put rfl rfl (ox_move .tmp)) ⟨.one rfl, .nil⟩ (by kernel_rfl) rfl <|
                  Segs.cons (Step.guard rfl rfl rfl Grd.plain _ (by first | exact Iff.rfl | simp) (.plain .nil) (fun hG => (ox_fieldAddr_var Request_Call f35_2))) ⟨(.cons rfl ⟨rfl, trivial⟩), .nil⟩ (by kernel_rfl) rfl <|
                  Segs.cons (Step.guard rfl rfl rfl Grd.plain _ (by first | exact Iff.rfl | simp) (.cond (fun h => h) .nil) (fun hG => (ox_load_fld t33))) ⟨(.cons rfl ⟨rfl, trivial⟩), .one rfl⟩ (by kernel_rfl) rfl <|
                  Segs.cons (Step.guard rfl rfl rfl Grd.plain _ (by first | exact Iff.rfl | simp) (.plain .nil) (fun hG => (ox_fieldAddr_var Client_Calls f61_0))) ⟨(.cons rfl ⟨rfl, trivial⟩), .nil⟩ (by kernel_rfl) rfl <|
                  Segs.cons (Step.guard rfl rfl rfl Grd.plain _ (by first | exact Iff.rfl | simp) (.cond (fun h => h) .nil) (fun hG => (ox_load_fld t59))) ⟨(.cons rfl ⟨rfl, trivial⟩), .one rfl⟩ (by kernel_rfl) rfl <|
                  Segs.cons (Step.guard rfl rfl rfl Grd.plain _ (by first | exact Iff.rfl | simp) (.plain .nil) (fun hG => (ox_move .tmp))) ⟨(.cons rfl ⟨rfl, trivial⟩), .nil⟩ (by kernel_rfl) rfl <|
                  Segs.cons (Step.guard rfl rfl rfl Grd.plain _ (by first | exact Iff.rfl | simp) (.cond (fun h => h) (.cond (fun h => h) .nil)) (fun hG => (ox_ix s59 .tmp .tmp (hb18 hG).1 (hb18 hG).2))) ⟨(.cons rfl ⟨rfl, rfl, trivial⟩), .nil⟩ (by kernel_rfl) rfl <|
                  Segs.cons (Step.guard rfl rfl rfl Grd.plain _ (by first | exact Iff.rfl | simp) (.cond (fun h => h) .nil) (fun hG => (ox_load_elem t33))) ⟨(.cons rfl ⟨rfl, trivial⟩), .nil⟩ (by kernel_rfl) rfl <|
                  Segs.cons (Step.guard rfl rfl rfl Grd.plain _ (by first | exact Iff.rfl | simp) (.cond (fun h => h) (.cond (fun h => h) .nil)) (fun hG => (ox_neqT e33 .tmp .tmp))) ⟨(.cons rfl ⟨rfl, rfl, trivial⟩), .nil⟩ (by kernel_rfl) rfl <|
                  Segs.cons (Step.put rfl rfl ox_pick_or) ⟨⟨rfl, rfl, trivial⟩, .nil⟩ (by kernel_rfl) rfl <|
                  Segs.nil) _ [[], [0], [], [0, 1, 2], [0, 1, 2, 3], [0, 1, 2, 3, 4], [0, 1, 2, 3, 4, 5], [0, 1, 2, 3, 4], [0, 1, 2, 3, 4, 7], [0, 1, 2, 3, 4], [0, 1, 2, 3, 4, 7, 8, 9], [0, 1, 2, 3, 4, 7, 8, 9, 10], [0, 1, 2, 3, 4, 5, 6, 7, 8, 9, 10, 11], [0, 1, 2, 3, 4, 5, 6, 7, 8, 9, 10, 11, 12]] rfl (by kernel_rfl) (by kernel_rfl) ?_
              refine PT.sub (σ' := ⟨[(1, _), (6, _), (24, .val (x24_m15)), (25, .val (x25_m15)), (26, .val (x26_m15)), (76, .val (x76_m15)), (77, .val (x77_m15)), (78, .val (x78_m15)), (96, .val (((!decide ((ix x76_m15 x78_m15).Token = x78_m15)) || (!decide ((ix x76_m15 x78_m15).Call = (ix y6_m15.Calls x78_m15))))))], [(1, .var (y1_m15) []), (6, .var (y6_m15) [])]⟩) ⟨rfl, rfl, rfl, rfl, rfl, rfl, rfl, rfl, rfl, trivial⟩ ⟨rfl, rfl, trivial⟩ ?_
              refine PT.cond _ rfl (fun hc19 => ?_) (fun hc19 => ?_)
              · replace hφ := if_then hφ hc19
                refine PT.sub (σ' := ⟨[], []⟩) trivial trivial ?_
                refine PT.seq ?_
                refine PT.region ?_
                refine Ops.put rfl rfl (ox_assign .bool) (.nil) (.nil) rfl ?_
                refine Ops.nil ?_
                refine PT.sub (σ' := ⟨[(2, .val (false))], []⟩) ⟨rfl, trivial⟩ trivial ?_
                refine PT.ret ?_
                obtain rfl := Option.some.inj hφ
                exact PT.done hw0 rfl (.tmp rfl rfl .nil) rfl
              · replace hφ := if_else hφ hc19
                refine PT.sub (σ' := ⟨[(1, _), (6, _), (24, .val (x24_m15)), (25, .val (x25_m15)), (26, .val (x26_m15)), (76, .val (x76_m15)), (77, .val (x77_m15)), (78, .val (x78_m15))], [(1, .var (y1_m15) []), (6, .var (y6_m15) [])]⟩) ⟨rfl, rfl, rfl, rfl, rfl, rfl, rfl, rfl, trivial⟩ ⟨rfl, rfl, trivial⟩ ?_
                refine PT.skip ?_
                obtain ⟨hb20, hφ⟩ := G_some hφ
                refine PT.region ?_
                refine Ops.put rfl rfl (ox_add .tmp .int hb20) ((.app (.one rfl) (.nil))) (.nil) rfl ?_
                refine Ops.put rfl rfl (ox_move .tmp) (.one rfl) (.nil) rfl ?_
                refine Ops.nil ?_
                refine PT.sub (σ' := ⟨[(1, _), (6, _), (24, .val (x24_m15)), (25, .val (x25_m15)), (26, .val (x26_m15)), (76, .val (x76_m15)), (77, .val (x77_m15)), (78, .val ((x78_m15 + (1 : Int))))], [(1, .var (y1_m15) []), (6, .var (y6_m15) [])]⟩) ⟨rfl, rfl, rfl, rfl, rfl, rfl, rfl, rfl, trivial⟩ ⟨rfl, rfl, trivial⟩ ?_
                exact PT.next (m15, x24_m15, x25_m15, x26_m15, x76_m15, x77_m15, (x78_m15 + (1 : Int)), y1_m15, y6_m15) hφ (Nat.lt_succ_self _) ⟨rfl, rfl, rfl, rfl, rfl, rfl, rfl, rfl, trivial⟩ ⟨rfl, rfl, trivial⟩
            · replace hφ := if_else hφ hc16
              refine PT.sub (σ' := ⟨[(1, _), (24, .val (x24_m15)), (25, .val (x25_m15)), (26, .val (x26_m15))], [(1, .var (y1_m15) [])]⟩) ⟨rfl, rfl, rfl, rfl, trivial⟩ ⟨rfl, trivial⟩ ?_
              refine PT.exit ?_
              exact PT.meet (x24_m15, x25_m15, x26_m15, y1_m15) hφ ⟨rfl, rfl, rfl, rfl, trivial⟩ ⟨rfl, trivial⟩
        · rintro ⟨x24_k8, x25_k8, x26_k8, y1_k8⟩ hφ
          subst hk8
          refine PT.sub (σ' := ⟨[(1, .ptr 1 (Lens.id (α := Mk.Machine))), (24, .val (x24_k8)), (25, .val (x25_k8)), (26, .val (x26_k8))], [(1, .var (y1_k8) [])]⟩) ⟨rfl, rfl, rfl, rfl, trivial⟩ ⟨rfl, trivial⟩ ?_
          obtain ⟨hb21, hφ⟩ := G_some hφ
          refine PT.region ?_
          refine Ops.put rfl rfl (ox_add .tmp .int hb21) ((.app (.one rfl) (.nil))) (.nil) rfl ?_
          refine Ops.put rfl rfl (ox_move .tmp) (.one rfl) (.nil) rfl ?_
          refine Ops.nil ?_
          refine PT.sub (σ' := ⟨[(1, _), (24, .val (x24_k8)), (25, .val (x25_k8)), (26, .val ((x26_k8 + (1 : Int))))], [(1, .var (y1_k8) [])]⟩) ⟨rfl, rfl, rfl, rfl, trivial⟩ ⟨rfl, trivial⟩ ?_
          exact PT.next (m6, x24_k8, x25_k8, (x26_k8 + (1 : Int)), y1_k8) hφ (Nat.lt_succ_self _) ⟨rfl, rfl, rfl, rfl, trivial⟩ ⟨rfl, trivial⟩
      · replace hφ := if_else hφ hc7
        refine PT.sub (σ' := ⟨[], []⟩) trivial trivial ?_
        refine PT.exit ?_
        exact PT.meet () hφ trivial trivial
    · rintro ⟨⟩ hφ
      subst hk5
      refine PT.sub (σ' := ⟨[], []⟩) trivial trivial ?_
      refine PT.seq ?_
      refine PT.region ?_
      refine Ops.put rfl rfl (ox_assign .bool) (.nil) (.nil) rfl ?_
      refine Ops.nil ?_
      refine PT.sub (σ' := ⟨[(2, .val (true))], []⟩) ⟨rfl, trivial⟩ trivial ?_
      refine PT.ret ?_
      obtain rfl := Option.some.inj hφ
      exact PT.done hw0 rfl (.tmp rfl rfl .nil) rfl
end Go.Gx
end
section
namespace Go.Gx
open Sp
set_option linter.unusedVariables false
set_option linter.unusedSimpArgs false
set_option maxRecDepth 20000
set_option maxHeartbeats 4000000
theorem c_mklaw11_alive  {r : Bool} (hφ : mklaw11_alive  = some r) : Fn Go.Proofs.Try.prog 27 [] (.val r) := by
  unfold mklaw11_alive at hφ
  refine Fn.mk' Go.Proofs.Try.func27 rfl (by decide) rfl rfl rfl (fun w0 hw0 => ?_)
  refine PT.seq ?_
  refine PT.region ?_
  refine Ops.put rfl rfl (ox_assign .bool) (.nil) (.nil) rfl ?_
  refine Ops.nil ?_
  refine PT.sub (σ' := ⟨[], []⟩) trivial trivial ?_
  refine PT.seq ?_
  obtain ⟨v1, hv1, hφ⟩ := B_some hφ
  refine PT.region ?_
  refine Ops.put rfl rfl (ox_buildB z33 u33 rfl (.cons Call_Kind f33_0 .int Bld.nil)) ((.app (.nil) .nil)) (.nil) rfl ?_
  refine Ops.put rfl rfl (ox_buildSlice_val s59 z33 (.cons .tmp Parts.nil) rfl (by decide)) ((.app (.one rfl) .nil)) (.nil) rfl ?_
  refine Ops.put rfl rfl (ox_buildSlice_val s22 z59 (.cons .tmp Parts.nil) rfl (by decide)) ((.app (.one rfl) .nil)) (.nil) rfl ?_
  refine Ops.put rfl rfl (ox_call (c_mkref6_New hv1) (.cons .tmp .nil)) ((.app (.one rfl) .nil)) (.nil) rfl ?_
  refine Ops.put rfl rfl (ox_move .tmp) (.one rfl) (.nil) rfl ?_
  refine Ops.put rfl rfl (ox_extract rfl) (.one rfl) (.nil) rfl ?_
  refine Ops.put rfl rfl (ox_extract rfl) (.one rfl) (.nil) rfl ?_
  refine Ops.putO rfl rfl (ox_alloc (id := 1) z43) (.nil) (.nil) rfl (by kernel_rfl) ?_
  refine Ops.mute rfl rfl (ox_store_var t43 .tmp) ((.cons rfl (.one rfl))) (.one rfl) ?_
  refine Ops.put rfl rfl (ox_assign .tmp) (.one rfl) (.nil) rfl ?_
  refine Ops.nil ?_
  refine PT.sub (σ' := ⟨[(1, _)], [(1, .var (v1.1) [])]⟩) ⟨rfl, trivial⟩ ⟨rfl, trivial⟩ ?_
  refine PT.seq ?_
  refine PT.region ?_
  refine Ops.put rfl rfl (ox_buildB z33 u33 rfl (.cons Call_Kind f33_0 .int Bld.nil)) ((.app (.nil) .nil)) (.nil) rfl ?_
  refine Ops.put rfl rfl (ox_buildB z35 u35 rfl (.cons Request_Call f35_2 .tmp Bld.nil)) ((.app (.one rfl) .nil)) (.nil) rfl ?_
  refine Ops.put rfl rfl (ox_buildSlice_val s28 z35 (.cons .tmp Parts.nil) rfl (by decide)) ((.app (.one rfl) .nil)) (.nil) rfl ?_
  refine Ops.put rfl rfl (ox_fieldAddr_var Machine_Store f43_0) (.one rfl) (.nil) rfl ?_
  refine Ops.put rfl rfl (ox_fieldAddr_ptr Store_Past f30_3) (.one rfl) (.nil) rfl ?_
  refine Ops.mute rfl rfl (ox_store_fld t28 .tmp) ((.cons rfl (.one rfl))) (.one rfl) ?_
  refine Ops.nil ?_
  refine PT.sub (σ' := ⟨[(1, _)], [(1, .var ({ v1.1 with Store := { v1.1.Store with Past := ([({ Client := (0 : Int), Token := (0 : Int), Call := ({ Kind := (5 : Int), Name := (0 : Int), Other := (0 : Int), N := (0 : Int) } : Mk.Call) } : Mk.Request)] : List Mk.Request) } }) [])]⟩) ⟨rfl, trivial⟩ ⟨rfl, trivial⟩ ?_
  refine PT.seq ?_
  obtain ⟨v2, hv2, hφ⟩ := B_some hφ
  refine PT.region ?_
  refine Ops.put rfl rfl (ox_load_var t43) (.one rfl) (.one rfl) rfl ?_
  refine Ops.put rfl rfl (ox_call (c_look_Past hv2) (.cons .tmp (.cons .int .nil))) ((.app (.one rfl) (.app (.nil) .nil))) (.nil) rfl ?_
  refine Ops.put rfl rfl (ox_move .tmp) (.one rfl) (.nil) rfl ?_
  refine Ops.put rfl rfl (ox_extract rfl) (.one rfl) (.nil) rfl ?_
  refine Ops.put rfl rfl (ox_extract rfl) (.one rfl) (.nil) rfl ?_
  refine Ops.put rfl rfl (ox_assign .tmp) (.one rfl) (.nil) rfl ?_
  refine Ops.put rfl rfl (ox_assign .tmp) (.one rfl) (.nil) rfl ?_
  refine Ops.nil ?_
  refine PT.sub (σ' := ⟨[(1, _), (3, .val (v2.1)), (4, .val (v2.2))], [(1, .var ({ v1.1 with Store := { v1.1.Store with Past := ([({ Client := (0 : Int), Token := (0 : Int), Call := ({ Kind := (5 : Int), Name := (0 : Int), Other := (0 : Int), N := (0 : Int) } : Mk.Call) } : Mk.Request)] : List Mk.Request) } }) [])]⟩) ⟨rfl, rfl, rfl, trivial⟩ ⟨rfl, trivial⟩ ?_
  refine PT.seq ?_
  refine PT.region ?_
  refine Ops.put rfl rfl (ox_load_var t43) (.one rfl) (.one rfl) rfl ?_
  refine Ops.putO rfl rfl (ox_alloc (id := 5) z43) (.nil) (.nil) rfl (by kernel_rfl) ?_
  refine Ops.mute rfl rfl (ox_store_var t43 .tmp) ((.cons rfl (.one rfl))) (.one rfl) ?_
  refine Ops.nil ?_
  refine PT.sub (σ' := ⟨[(1, _), (3, .val (v2.1)), (4, .val (v2.2)), (5, _)], [(1, .var ({ v1.1 with Store := { v1.1.Store with Past := ([({ Client := (0 : Int), Token := (0 : Int), Call := ({ Kind := (5 : Int), Name := (0 : Int), Other := (0 : Int), N := (0 : Int) } : Mk.Call) } : Mk.Request)] : List Mk.Request) } }) []), (5, .var ({ v1.1 with Store := { v1.1.Store with Past := ([({ Client := (0 : Int), Token := (0 : Int), Call := ({ Kind := (5 : Int), Name := (0 : Int), Other := (0 : Int), N := (0 : Int) } : Mk.Call) } : Mk.Request)] : List Mk.Request) } }) [])]⟩) ⟨rfl, rfl, rfl, rfl, trivial⟩ ⟨rfl, rfl, trivial⟩ ?_
  refine PT.seq ?_
  refine PT.region ?_
  refine Ops.put rfl rfl (ox_buildSlice_val s25 z3 (.cons .int (.cons .int (.cons .int (.cons .int (.cons .int (.cons .int (.cons .int (.cons .int (.cons .int (.cons .int (.cons .int Parts.nil))))))))))) rfl (by decide)) ((.app (.nil) (.app (.nil) (.app (.nil) (.app (.nil) (.app (.nil) (.app (.nil) (.app (.nil) (.app (.nil) (.app (.nil) (.app (.nil) (.app (.nil) .nil)))))))))))) (.nil) rfl ?_
  refine Ops.put rfl rfl (ox_fieldAddr_var Machine_Store f43_0) (.one rfl) (.nil) rfl ?_
  refine Ops.put rfl rfl (ox_fieldAddr_ptr Store_Cells f30_0) (.one rfl) (.nil) rfl ?_
  refine Ops.mute rfl rfl (ox_store_fld t25 .tmp) ((.cons rfl (.one rfl))) (.one rfl) ?_
  refine Ops.nil ?_
  refine PT.sub (σ' := ⟨[(1, _), (3, .val (v2.1)), (4, .val (v2.2)), (5, _)], [(1, .var ({ v1.1 with Store := { v1.1.Store with Past := ([({ Client := (0 : Int), Token := (0 : Int), Call := ({ Kind := (5 : Int), Name := (0 : Int), Other := (0 : Int), N := (0 : Int) } : Mk.Call) } : Mk.Request)] : List Mk.Request) } }) []), (5, .var ({ ({ v1.1 with Store := { v1.1.Store with Past := ([({ Client := (0 : Int), Token := (0 : Int), Call := ({ Kind := (5 : Int), Name := (0 : Int), Other := (0 : Int), N := (0 : Int) } : Mk.Call) } : Mk.Request)] : List Mk.Request) } }) with Store := { ({ v1.1 with Store := { v1.1.Store with Past := ([({ Client := (0 : Int), Token := (0 : Int), Call := ({ Kind := (5 : Int), Name := (0 : Int), Other := (0 : Int), N := (0 : Int) } : Mk.Call) } : Mk.Request)] : List Mk.Request) } }).Store with Cells := ([(1 : Int), (7 : Int), (5 : Int), (0 : Int), (0 : Int), (0 : Int), (0 : Int), (0 : Int), (0 : Int), (0 : Int), (0 : Int)] : List Int) } }) [])]⟩) ⟨rfl, rfl, rfl, rfl, trivial⟩ ⟨rfl, rfl, trivial⟩ ?_
  refine PT.seq ?_
  obtain ⟨v3, hv3, hφ⟩ := B_some hφ
  obtain ⟨v4, hv4, hφ⟩ := B_some hφ
  obtain ⟨v5, hv5, hφ⟩ := B_some hφ
  obtain ⟨v6, hv6, hφ⟩ := B_some hφ
  refine PT.region ?_
  refine Ops.put rfl rfl (ox_load_var t43) (.one rfl) (.one rfl) rfl ?_
  refine Ops.put rfl rfl (ox_call (c_look_Whole hv3) (.cons .tmp .nil)) ((.app (.one rfl) .nil)) (.nil) rfl ?_
  refine Ops.put rfl rfl (ox_move .tmp) (.one rfl) (.nil) rfl ?_
  refine Ops.guard rfl rfl rfl rfl (.plain .nil) (fun hG => (ox_load_var t43)) ⟨rfl, trivial⟩ (.one rfl) rfl ?_
  refine Ops.guard rfl rfl rfl rfl (.cond (fun h => h) .nil) (fun hG => (ox_call (c_look_Whole (Cn_on hv4 hG)) (.cons .tmp .nil))) ⟨rfl, trivial⟩ (.nil) rfl ?_
  refine Ops.guard rfl rfl rfl rfl (.cond (fun h => h) .nil) (fun hG => (ox_not .tmp)) ⟨rfl, trivial⟩ (.nil) rfl ?_
  refine Ops.put rfl rfl ox_pick_and (⟨rfl, rfl, trivial⟩) (.nil) rfl ?_
  refine Ops.put rfl rfl (ox_move .tmp) (.one rfl) (.nil) rfl ?_
  refine Ops.guard rfl rfl rfl rfl (.plain .nil) (fun hG => (ox_load_var t43)) ⟨rfl, trivial⟩ (.one rfl) rfl ?_
  refine Ops.guard rfl rfl rfl rfl (.cond (fun h => h) .nil) (fun hG => (ox_call (c_look_Idle (Cn_on hv5 hG)) (.cons .tmp .nil))) ⟨rfl, trivial⟩ (.nil) rfl ?_
  refine Ops.guard rfl rfl rfl rfl (.cond (fun h => h) .nil) (fun hG => (ox_not .tmp)) ⟨rfl, trivial⟩ (.nil) rfl ?_
  refine Ops.put rfl rfl ox_pick_and (⟨rfl, rfl, trivial⟩) (.nil) rfl ?_
  refine Ops.put rfl rfl (ox_move .tmp) (.one rfl) (.nil) rfl ?_
  refine Ops.guard rfl rfl rfl rfl (.plain .nil) (fun hG => (ox_move .tmp)) ⟨rfl, trivial⟩ (.nil) rfl ?_
  refine Ops.guard rfl rfl rfl rfl (.cond (fun h => h) .nil) (fun hG => (ox_len s28 .tmp)) ⟨rfl, trivial⟩ (.nil) rfl ?_
  refine Ops.guard rfl rfl rfl rfl (.cond (fun h => h) .nil) (fun hG => (ox_eql .tmp .int)) ⟨rfl, trivial⟩ (.nil) rfl ?_
  refine Ops.put rfl rfl ox_pick_and (⟨rfl, rfl, trivial⟩) (.nil) rfl ?_
  refine Ops.put rfl rfl (ox_move .tmp) (.one rfl) (.nil) rfl ?_
  refine Ops.guard rfl rfl rfl rfl (.plain .nil) (fun hG => (ox_move .tmp)) ⟨rfl, trivial⟩ (.nil) rfl ?_
  refine Ops.guard rfl rfl rfl rfl (.cond (fun h => h) .nil) (fun hG => (ox_len s47 .tmp)) ⟨rfl, trivial⟩ (.nil) rfl ?_
  refine Ops.guard rfl rfl rfl rfl (.cond (fun h => h) .nil) (fun hG => (ox_eql .tmp .int)) ⟨rfl, trivial⟩ (.nil) rfl ?_
  refine Ops.put rfl rfl ox_pick_and (⟨rfl, rfl, trivial⟩) (.nil) rfl ?_
  refine Ops.put rfl rfl (ox_move .tmp) (.one rfl) (.nil) rfl ?_
  refine Ops.guard rfl rfl rfl rfl (.plain .nil) (fun hG => (ox_load_var t43)) ⟨rfl, trivial⟩ (.one rfl) rfl ?_
  refine Ops.guard rfl rfl rfl rfl (.cond (fun h => h) .nil) (fun hG => (ox_call (c_look_Now (Cn_on hv6 hG)) (.cons .tmp .nil))) ⟨rfl, trivial⟩ (.nil) rfl ?_
  refine Ops.guard rfl rfl rfl rfl (.cond (fun h => h) .nil) (fun hG => (ox_len s26 .tmp)) ⟨rfl, trivial⟩ (.nil) rfl ?_
  refine Ops.guard rfl rfl rfl rfl (.cond (fun h => h) .nil) (fun hG => (ox_eql .tmp .int)) ⟨rfl, trivial⟩ (.nil) rfl ?_
  refine Ops.put rfl rfl ox_pick_and (⟨rfl, rfl, trivial⟩) (.nil) rfl ?_
  refine Ops.put rfl rfl (ox_assign .tmp) (.one rfl) (.nil) rfl ?_
  refine Ops.nil ?_
  refine PT.sub (σ' := ⟨[(0, .val ((((((v3 && (!v4)) && (!v5)) && (decide ((v2.1.length : Int) = (1 : Int)))) && (decide ((v2.2.length : Int) = (1 : Int)))) && (decide ((v6.length : Int) = (1 : Int))))))], []⟩) ⟨rfl, trivial⟩ trivial ?_
  refine PT.ret ?_
  obtain rfl := Option.some.inj hφ
  exact PT.done hw0 rfl (.tmp rfl rfl .nil) rfl
theorem c_mklaw11_LookTells {a0 : List (List Mk.Call)} {a1 : List Mk.Step} {a2 : Int} {r : Bool} (hφ : mklaw11_LookTells a0 a1 a2 = some r) : Fn Go.Proofs.Try.prog 3 [.val a0, .val a1, .val a2] (.val r) := by
  unfold mklaw11_LookTells at hφ
  refine Fn.mk' Go.Proofs.Try.func3 rfl (by decide) rfl rfl rfl (fun w0 hw0 => ?_)
  refine PT.seq ?_
  refine PT.region ?_
  refine Ops.put rfl rfl (ox_assign .bool) (.nil) (.nil) rfl ?_
  refine Ops.nil ?_
  refine PT.sub (σ' := ⟨[(0, .val (a0)), (1, .val (a1)), (2, .val (a2))], []⟩) ⟨rfl, rfl, rfl, trivial⟩ trivial ?_
  refine PT.seq ?_
  refine PT.seq ?_
  obtain ⟨v1, hv1, hφ⟩ := B_some hφ
  refine PT.region ?_
  refine Ops.put rfl rfl (ox_move .tmp) (.one rfl) (.nil) rfl ?_
  refine Ops.put rfl rfl (ox_call (c_mkref6_Right hv1) (.cons .tmp .nil)) ((.app (.one rfl) .nil)) (.nil) rfl ?_
  refine Ops.put rfl rfl (ox_not .tmp) (.one rfl) (.nil) rfl ?_
  refine Ops.nil ?_
  refine PT.sub (σ' := ⟨[(0, .val (a0)), (1, .val (a1)), (2, .val (a2)), (16, .val ((!v1)))], []⟩) ⟨rfl, rfl, rfl, rfl, trivial⟩ trivial ?_
  refine PT.cond _ rfl (fun hc2 => ?_) (fun hc2 => ?_)
  · replace hφ := if_then hφ hc2
    refine PT.sub (σ' := ⟨[], []⟩) trivial trivial ?_
    refine PT.seq ?_
    refine PT.region ?_
    refine Ops.put rfl rfl (ox_assign .bool) (.nil) (.nil) rfl ?_
    refine Ops.nil ?_
    refine PT.sub (σ' := ⟨[(6, .val (true))], []⟩) ⟨rfl, trivial⟩ trivial ?_
    refine PT.ret ?_
    obtain rfl := Option.some.inj hφ
    exact PT.done hw0 rfl (.tmp rfl rfl .nil) rfl
  · replace hφ := if_else hφ hc2
    refine PT.sub (σ' := ⟨[(0, .val (a0)), (1, .val (a1)), (2, .val (a2))], []⟩) ⟨rfl, rfl, rfl, trivial⟩ trivial ?_
    refine PT.skip ?_
    refine PT.seq ?_
    obtain ⟨v3, hv3, hφ⟩ := B_some hφ
    refine PT.region ?_
    refine Ops.put rfl rfl (ox_move .tmp) (.one rfl) (.nil) rfl ?_
    refine Ops.put rfl rfl (ox_move .tmp) (.one rfl) (.nil) rfl ?_
    refine Ops.put rfl rfl (ox_call (c_mkref6_Play hv3) (.cons .tmp (.cons .tmp .nil))) ((.app (.one rfl) (.app (.one rfl) .nil))) (.nil) rfl ?_
    refine Ops.put rfl rfl (ox_move .tmp) (.one rfl) (.nil) rfl ?_
    refine Ops.put rfl rfl (ox_extract rfl) (.one rfl) (.nil) rfl ?_
    refine Ops.put rfl rfl (ox_extract rfl) (.one rfl) (.nil) rfl ?_
    refine Ops.putO rfl rfl (ox_alloc (id := 7) z43) (.nil) (.nil) rfl (by kernel_rfl) ?_
    refine Ops.mute rfl rfl (ox_store_var t43 .tmp) ((.cons rfl (.one rfl))) (.one rfl) ?_
    refine Ops.put rfl rfl (ox_assign .tmp) (.one rfl) (.nil) rfl ?_
    refine Ops.nil ?_
    refine PT.sub (σ' := ⟨[(2, .val (a2)), (7, _)], [(7, .var (v3.1) [])]⟩) ⟨rfl, rfl, trivial⟩ ⟨rfl, trivial⟩ ?_
    refine PT.seq ?_
    obtain ⟨v4, hv4, hφ⟩ := B_some hφ
    refine PT.region ?_
    refine Ops.put rfl rfl (ox_load_var t43) (.one rfl) (.one rfl) rfl ?_
    refine Ops.put rfl rfl (ox_move .tmp) (.one rfl) (.nil) rfl ?_
    refine Ops.put rfl rfl (ox_call (c_look_Past hv4) (.cons .tmp (.cons .tmp .nil))) ((.app (.one rfl) (.app (.one rfl) .nil))) (.nil) rfl ?_
    refine Ops.put rfl rfl (ox_move .tmp) (.one rfl) (.nil) rfl ?_
    refine Ops.put rfl rfl (ox_extract rfl) (.one rfl) (.nil) rfl ?_
    refine Ops.put rfl rfl (ox_extract rfl) (.one rfl) (.nil) rfl ?_
    refine Ops.put rfl rfl (ox_assign .tmp) (.one rfl) (.nil) rfl ?_
    refine Ops.put rfl rfl (ox_assign .tmp) (.one rfl) (.nil) rfl ?_
    refine Ops.nil ?_
    refine PT.sub (σ' := ⟨[(2, .val (a2)), (7, _), (9, .val (v4.1)), (10, .val (v4.2))], [(7, .var (v3.1) [])]⟩) ⟨rfl, rfl, rfl, rfl, trivial⟩ ⟨rfl, trivial⟩ ?_
    refine PT.seq ?_
    obtain ⟨v5, hv5, hφ⟩ := B_some hφ
    refine PT.region ?_
    refine Ops.put rfl rfl (ox_load_var t43) (.one rfl) (.one rfl) rfl ?_
    refine Ops.put rfl rfl (ox_move .tmp) (.one rfl) (.nil) rfl ?_
    refine Ops.put rfl rfl (ox_call (c_mkref6_Past hv5) (.cons .tmp (.cons .tmp .nil))) ((.app (.one rfl) (.app (.one rfl) .nil))) (.nil) rfl ?_
    refine Ops.put rfl rfl (ox_move .tmp) (.one rfl) (.nil) rfl ?_
    refine Ops.put rfl rfl (ox_extract rfl) (.one rfl) (.nil) rfl ?_
    refine Ops.put rfl rfl (ox_extract rfl) (.one rfl) (.nil) rfl ?_
    refine Ops.put rfl rfl (ox_assign .tmp) (.one rfl) (.nil) rfl ?_
    refine Ops.put rfl rfl (ox_assign .tmp) (.one rfl) (.nil) rfl ?_
    refine Ops.nil ?_
    refine PT.sub (σ' := ⟨[(7, _), (9, .val (v4.1)), (10, .val (v4.2)), (11, .val (v5.1)), (12, .val (v5.2))], [(7, .var (v3.1) [])]⟩) ⟨rfl, rfl, rfl, rfl, rfl, trivial⟩ ⟨rfl, trivial⟩ ?_
    refine PT.seq ?_
    refine PT.seq ?_
    obtain ⟨v6, hv6, hφ⟩ := B_some hφ
    refine PT.region ?_
    refine Ops.put rfl rfl (ox_move .tmp) (.one rfl) (.nil) rfl ?_
    refine Ops.put rfl rfl (ox_len s28 .tmp) (.one rfl) (.nil) rfl ?_
    refine Ops.put rfl rfl (ox_move .tmp) (.one rfl) (.nil) rfl ?_
    refine Ops.put rfl rfl (ox_len s28 .tmp) (.one rfl) (.nil) rfl ?_
    refine Ops.put rfl rfl (ox_neq .tmp .tmp) ((.app (.one rfl) (.one rfl))) (.nil) rfl ?_
    refine Ops.put rfl rfl (ox_move .tmp) (.one rfl) (.nil) rfl ?_
    refine Ops.guard rfl rfl rfl rfl (.plain .nil) (fun hG => (ox_move .tmp)) ⟨rfl, trivial⟩ (.nil) rfl ?_
    refine Ops.guard rfl rfl rfl rfl (.plain .nil) (fun hG => (ox_move .tmp)) ⟨rfl, trivial⟩ (.nil) rfl ?_
    refine Ops.guard rfl rfl rfl rfl (.cond (fun h => h) (.cond (fun h => h) .nil)) (fun hG => (ox_call (c_mkref6_SameReplies (Cn_on hv6 hG)) (.cons .tmp (.cons .tmp .nil)))) ⟨rfl, rfl, trivial⟩ (.nil) rfl ?_
    refine Ops.guard rfl rfl rfl rfl (.cond (fun h => h) .nil) (fun hG => (ox_not .tmp)) ⟨rfl, trivial⟩ (.nil) rfl ?_
    refine Ops.put rfl rfl ox_pick_or (⟨rfl, rfl, trivial⟩) (.nil) rfl ?_
    refine Ops.nil ?_
    refine PT.sub (σ' := ⟨[(7, _), (9, .val (v4.1)), (11, .val (v5.1)), (45, .val (((!decide ((v4.1.length : Int) = (v5.1.length : Int))) || (!v6))))], [(7, .var (v3.1) [])]⟩) ⟨rfl, rfl, rfl, rfl, trivial⟩ ⟨rfl, trivial⟩ ?_
    refine PT.cond _ rfl (fun hc7 => ?_) (fun hc7 => ?_)
    · replace hφ := if_then hφ hc7
      refine PT.sub (σ' := ⟨[], []⟩) trivial trivial ?_
      refine PT.seq ?_
      refine PT.region ?_
      refine Ops.put rfl rfl (ox_assign .bool) (.nil) (.nil) rfl ?_
      refine Ops.nil ?_
      refine PT.sub (σ' := ⟨[(6, .val (false))], []⟩) ⟨rfl, trivial⟩ trivial ?_
      refine PT.ret ?_
      obtain rfl := Option.some.inj hφ
      exact PT.done hw0 rfl (.tmp rfl rfl .nil) rfl
    · replace hφ := if_else hφ hc7
      refine PT.sub (σ' := ⟨[(7, _), (9, .val (v4.1)), (11, .val (v5.1))], [(7, .var (v3.1) [])]⟩) ⟨rfl, rfl, rfl, trivial⟩ ⟨rfl, trivial⟩ ?_
      refine PT.skip ?_
      obtain ⟨k8, hk8, hφ⟩ := J_some hφ
      refine PT.cut (ι := Mk.Machine) (fun p => ⟨[(7, .ptr 7 (Lens.id (α := Mk.Machine)))], [(7, .var (p) [])]⟩) (fun p => k8 (p) = some r) ?_ ?_
      · skip
        refine PT.seq ?_
        refine PT.region ?_
        refine Ops.put rfl rfl (ox_move .tmp) (.one rfl) (.nil) rfl ?_
        refine Ops.put rfl rfl (ox_len s28 .tmp) (.one rfl) (.nil) rfl ?_
        refine Ops.put rfl rfl (ox_move .int) (.nil) (.nil) rfl ?_
        refine Ops.nil ?_
        refine PT.sub (σ' := ⟨[(7, _), (9, .val (v4.1)), (11, .val (v5.1)), (47, .val ((v4.1.length : Int))), (48, .val ((0 : Int)))], [(7, .var (v3.1) [])]⟩) ⟨rfl, rfl, rfl, rfl, rfl, trivial⟩ ⟨rfl, trivial⟩ ?_
        refine PT.block ?_
        refine PT.loop (ι := Nat × (List Mk.Request) × (List Mk.Request) × Int × Int × Mk.Machine) (fun p => ⟨[(7, .ptr 7 (Lens.id (α := Mk.Machine))), (9, .val (p.2.1)), (11, .val (p.2.2.1)), (47, .val (p.2.2.2.1)), (48, .val (p.2.2.2.2.1))], [(7, .var (p.2.2.2.2.2) [])]⟩) (fun p => mklaw11_LookTells_l1 k8 p.1 (p.2.1) (p.2.2.1) (p.2.2.2.1) (p.2.2.2.2.1) (p.2.2.2.2.2) = some r) (fun p => p.1) (((v4.1.length : Int) - (0 : Int)).toNat + 1, v4.1, v5.1, (v4.1.length : Int), (0 : Int), v3.1) hφ ⟨rfl, rfl, rfl, rfl, rfl, trivial⟩ ⟨rfl, trivial⟩ ?_
        rintro ⟨m9, x9_m9, x11_m9, x47_m9, x48_m9, y7_m9⟩ (hφ : mklaw11_LookTells_l1 k8 m9 x9_m9 x11_m9 x47_m9 x48_m9 y7_m9 = some r)
        obtain _ | m9 := m9
        · exact (none_no hφ).elim
        rw [mklaw11_LookTells_l1.eq_2] at hφ
        refine PT.sub (σ' := ⟨[(7, .ptr 7 (Lens.id (α := Mk.Machine))), (9, .val (x9_m9)), (11, .val (x11_m9)), (47, .val (x47_m9)), (48, .val (x48_m9))], [(7, .var (y7_m9) [])]⟩) ⟨rfl, rfl, rfl, rfl, rfl, trivial⟩ ⟨rfl, trivial⟩ ?_
        refine PT.seq ?_
        refine PT.region ?_
        refine Ops.put rfl rfl (ox_lss .tmp .tmp) ((.app (.one rfl) (.one rfl))) (.nil) rfl ?_
        refine Ops.nil ?_
        refine PT.sub (σ' := ⟨[(7, _), (9, .val (x9_m9)), (11, .val (x11_m9)), (47, .val (x47_m9)), (48, .val (x48_m9)), (49, .val ((decide (x48_m9 < x47_m9))))], [(7, .var (y7_m9) [])]⟩) ⟨rfl, rfl, rfl, rfl, rfl, rfl, trivial⟩ ⟨rfl, trivial⟩ ?_
        refine PT.seq ?_
        refine PT.cond _ rfl (fun hc10 => ?_) (fun hc10 => ?_)
        · replace hφ := if_then hφ hc10
          refine PT.sub (σ' := ⟨[(7, _), (9, .val (x9_m9)), (11, .val (x11_m9)), (47, .val (x47_m9)), (48, .val (x48_m9))], [(7, .var (y7_m9) [])]⟩) ⟨rfl, rfl, rfl, rfl, rfl, trivial⟩ ⟨rfl, trivial⟩ ?_
          refine PT.skip ?_
          refine PT.seq ?_
          refine PT.block ?_
          refine PT.seq ?_
          refine PT.region ?_
          refine Ops.put rfl rfl (ox_move .tmp) (.one rfl) (.nil) rfl ?_
          refine Ops.put rfl rfl (ox_assign .tmp) (.one rfl) (.nil) rfl ?_
          refine Ops.nil ?_
          refine PT.sub (σ' := ⟨[(7, _), (9, .val (x9_m9)), (11, .val (x11_m9)), (13, .val (x48_m9)), (47, .val (x47_m9)), (48, .val (x48_m9))], [(7, .var (y7_m9) [])]⟩) ⟨rfl, rfl, rfl, rfl, rfl, rfl, trivial⟩ ⟨rfl, trivial⟩ ?_
          refine PT.seq ?_
          obtain ⟨hb11, hφ⟩ := G_some hφ
          obtain ⟨hb12, hφ⟩ := G_some hφ
          refine PT.draw hMixed (
              Segs.cons (Step.put rfl rfl (ox_move .tmp)) ⟨.one rfl, .nil⟩ (by kernel_rfl) rfl <|
              Segs.cons (Step.put rfl rfl (ox_move .tmp)) ⟨.one rfl, .nil⟩ (by kernel_rfl) rfl <|
              Segs.cons (Step.put rfl rfl (ox_ix s28 .tmp .tmp hb11.1 hb11.2)) ⟨(.app (.one rfl) (.one rfl)), .nil⟩ (by kernel_rfl) rfl <|
              Segs.cons (Step.put rfl rfl (ox_load_elem t35)) ⟨.one rfl, .nil⟩ (by kernel_rfl) rfl <|
              Segs.cons (Step.put rfl rfl (ox_move .tmp)) ⟨.one rfl, .nil⟩ (by kernel_rfl) rfl <|
              Segs.cons (Step.put rfl rfl (ox_move .tmp)) ⟨.one rfl, .nil⟩ (by kernel_rfl) rfl <|
              Segs.cons (Step.put rfl rfl (ox_ix s28 .tmp .tmp hb12.1 hb12.2)) ⟨(.app (.one rfl) (.one rfl)), .nil⟩ (by kernel_rfl) rfl <|
              Segs.cons (Step.put rfl rfl (ox_load_elem t35)) ⟨.one rfl, .nil⟩ (by kernel_rfl) rfl <|
              Segs.cons (Step.put rfl rfl (ox_neqT e35 .tmp .tmp)) ⟨(.app (.one rfl) (.one rfl)), .nil⟩ (by kernel_rfl) rfl <|
              Segs.nil) _ [[], [], [0, 1], [0, 1, 2], [], [], [4, 5], [4, 5, 6], [0, 1, 2, 3, 4, 5, 6, 7]] rfl (by kernel_rfl) (by kernel_rfl) ?_
          refine PT.sub (σ' := ⟨[(7, _), (9, .val (x9_m9)), (11, .val (x11_m9)), (47, .val (x47_m9)), (48, .val (x48_m9)), (59, .val ((!decide ((ix x9_m9 x48_m9) = (ix x11_m9 x48_m9)))))], [(7, .var (y7_m9) [])]⟩) ⟨rfl, rfl, rfl, rfl, rfl, rfl, trivial⟩ ⟨rfl, trivial⟩ ?_
          refine PT.cond _ rfl (fun hc13 => ?_) (fun hc13 => ?_)
          · replace hφ := if_then hφ hc13
            refine PT.sub (σ' := ⟨[], []⟩) trivial trivial ?_
            refine PT.seq ?_
            refine PT.region ?_
            refine Ops.put rfl rfl (ox_assign .bool) (.nil) (.nil) rfl ?_
            refine Ops.nil ?_
            refine PT.sub (σ' := ⟨[(6, .val (false))], []⟩) ⟨rfl, trivial⟩ trivial ?_
            refine PT.ret ?_
            obtain rfl := Option.some.inj hφ
            exact PT.done hw0 rfl (.tmp rfl rfl .nil) rfl
          · replace hφ := if_else hφ hc13
            refine PT.sub (σ' := ⟨[(7, _), (9, .val (x9_m9)), (11, .val (x11_m9)), (47, .val (x47_m9)), (48, .val (x48_m9))], [(7, .var (y7_m9) [])]⟩) ⟨rfl, rfl, rfl, rfl, rfl, trivial⟩ ⟨rfl, trivial⟩ ?_
            refine PT.skip ?_
            obtain ⟨hb14, hφ⟩ := G_some hφ
            refine PT.region ?_
            refine Ops.put rfl rfl (ox_add .tmp .int hb14) ((.app (.one rfl) (.nil))) (.nil) rfl ?_
            refine Ops.put rfl rfl (ox_move .tmp) (.one rfl) (.nil) rfl ?_
            refine Ops.nil ?_
            refine PT.sub (σ' := ⟨[(7, _), (9, .val (x9_m9)), (11, .val (x11_m9)), (47, .val (x47_m9)), (48, .val ((x48_m9 + (1 : Int))))], [(7, .var (y7_m9) [])]⟩) ⟨rfl, rfl, rfl, rfl, rfl, trivial⟩ ⟨rfl, trivial⟩ ?_
            exact PT.next (m9, x9_m9, x11_m9, x47_m9, (x48_m9 + (1 : Int)), y7_m9) hφ (Nat.lt_succ_self _) ⟨rfl, rfl, rfl, rfl, rfl, trivial⟩ ⟨rfl, trivial⟩
        · replace hφ := if_else hφ hc10
          refine PT.sub (σ' := ⟨[(7, _)], [(7, .var (y7_m9) [])]⟩) ⟨rfl, trivial⟩ ⟨rfl, trivial⟩ ?_
          refine PT.exit ?_
          exact PT.meet (y7_m9) hφ ⟨rfl, trivial⟩ ⟨rfl, trivial⟩
      · rintro y7_k8 hφ
        subst hk8
        refine PT.sub (σ' := ⟨[(7, .ptr 7 (Lens.id (α := Mk.Machine)))], [(7, .var (y7_k8) [])]⟩) ⟨rfl, trivial⟩ ⟨rfl, trivial⟩ ?_
        refine PT.seq ?_
        obtain ⟨v15, hv15, hφ⟩ := B_some hφ
        obtain ⟨v16, hv16, hφ⟩ := B_some hφ
        obtain ⟨v17, hv17, hφ⟩ := B_some hφ
        obtain ⟨v18, hv18, hφ⟩ := B_some hφ
        obtain ⟨v19, hv19, hφ⟩ := B_some hφ
        obtain ⟨v20, hv20, hφ⟩ := B_some hφ
        refine PT.draw hMixed (
            Segs.cons (Step.put rfl rfl (ox_load_var t43)) ⟨.one rfl, .one rfl⟩ (by kernel_rfl) rfl <|
            Segs.cons (Step.put rfl rfl (ox_call (c_look_Idle hv15) (.cons .tmp .nil))) ⟨(.app (.one rfl) .nil), .nil⟩ (by kernel_rfl) rfl <|
            Segs.cons (Step.put rfl rfl (ox_load_var t43)) ⟨.one rfl, .one rfl⟩ (by kernel_rfl) rfl <|
            Segs.cons (Step.put rfl rfl (ox_call (c_mkref6_Idle hv16) (.cons .tmp .nil))) ⟨(.app (.one rfl) .nil), .nil⟩ (by kernel_rfl) rfl <|
            Segs.cons (Step.put rfl rfl (ox_eqlB e4 .tmp .tmp)) ⟨(.app (.one rfl) (.one rfl)), .nil⟩ (by kernel_rfl) rfl <|
            Segs.cons (Step.put rfl rfl (ox_move .tmp)) ⟨.one rfl, .nil⟩ (by kernel_rfl) rfl <|
            Segs.cons (Step.guard rfl rfl rfl Grd.plain _ (by first | exact Iff.rfl | simp) (.plain .nil) (fun hG => (ox_load_var t43))) ⟨(.cons rfl ⟨rfl, trivial⟩), .one rfl⟩ (by kernel_rfl) rfl <|
            Segs.cons (Step.guard rfl rfl rfl Grd.plain _ (by first | exact Iff.rfl | simp) (.cond (fun h => h) .nil) (fun hG => (ox_call (c_look_Now (Cn_on hv17 hG)) (.cons .tmp .nil)))) ⟨(.cons rfl ⟨rfl, trivial⟩), .nil⟩ (by kernel_rfl) rfl <|
            Segs.cons (Step.guard rfl rfl rfl Grd.plain _ (by first | exact Iff.rfl | simp) (.plain .nil) (fun hG => (ox_fieldAddr_var Machine_Store f43_0))) ⟨(.cons rfl ⟨rfl, trivial⟩), .nil⟩ (by kernel_rfl) rfl <|
            Segs.cons (Step.guard rfl rfl rfl Grd.plain _ (by first | exact Iff.rfl | simp) (.cond (fun h => h) .nil) (fun hG => (ox_load_fld t30))) ⟨(.cons rfl ⟨rfl, trivial⟩), .one rfl⟩ (by kernel_rfl) rfl <|
            Segs.cons (Step.guard rfl rfl rfl Grd.plain _ (by first | exact Iff.rfl | simp) (.cond (fun h => h) .nil) (fun hG => (ox_call (c_mkref1_Back (Cn_on hv18 hG)) (.cons .tmp .nil)))) ⟨(.cons rfl ⟨rfl, trivial⟩), .nil⟩ (by kernel_rfl) rfl <|
            Segs.cons (Step.guard rfl rfl rfl Grd.plain _ (by first | exact Iff.rfl | simp) (.cond (fun h => h) .nil) (fun hG => (ox_field Store_Cells .tmp rfl f30_0))) ⟨(.cons rfl ⟨rfl, trivial⟩), .nil⟩ (by kernel_rfl) rfl <|
            Segs.cons (Step.guard rfl rfl rfl Grd.plain _ (by first | exact Iff.rfl | simp) (.cond (fun h => h) .nil) (fun hG => (ox_call (c_mkref1_Of (Cn_on hv19 hG)) (.cons .tmp .nil)))) ⟨(.cons rfl ⟨rfl, trivial⟩), .nil⟩ (by kernel_rfl) rfl <|
            Segs.cons (Step.guard rfl rfl rfl Grd.plain _ (by first | exact Iff.rfl | simp) (.cond (fun h => h) (.cond (fun h => h) .nil)) (fun hG => (ox_call (c_mkref1_SameWrites (Cn_on hv20 hG)) (.cons .tmp (.cons .tmp .nil))))) ⟨(.cons rfl ⟨rfl, rfl, trivial⟩), .nil⟩ (by kernel_rfl) rfl <|
            Segs.cons (Step.put rfl rfl ox_pick_and) ⟨⟨rfl, rfl, trivial⟩, .nil⟩ (by kernel_rfl) rfl <|
            Segs.cons (Step.put rfl rfl (ox_assign .tmp)) ⟨.one rfl, .nil⟩ (by kernel_rfl) rfl <|
            Segs.nil) _ [[], [0], [], [0, 1, 2], [0, 1, 2, 3], [0, 1, 2, 3, 4], [0, 1, 2, 3, 4, 5], [0, 1, 2, 3, 4, 5, 6], [0, 1, 2, 3, 4, 5], [0, 1, 2, 3, 4, 5, 8], [0, 1, 2, 3, 4, 5, 6, 7, 8, 9], [0, 1, 2, 3, 4, 5, 6, 7, 8, 9, 10], [0, 1, 2, 3, 4, 5, 6, 7, 8, 9, 10, 11], [0, 1, 2, 3, 4, 5, 6, 7, 8, 9, 10, 11, 12], [0, 1, 2, 3, 4, 5, 6, 7, 8, 9, 10, 11, 12, 13], [0, 1, 2, 3, 4, 5, 6, 7, 8, 9, 10, 11, 12, 13, 14]] rfl (by kernel_rfl) (by kernel_rfl) ?_
        refine PT.sub (σ' := ⟨[(6, .val (((decide (v15 = v16)) && v20)))], []⟩) ⟨rfl, trivial⟩ trivial ?_
        refine PT.ret ?_
        obtain rfl := Option.some.inj hφ
        exact PT.done hw0 rfl (.tmp rfl rfl .nil) rfl
theorem c_mklaw11_LookWhole {a0 : List (List Mk.Call)} {a1 : List Mk.Step} {r : Bool} (hφ : mklaw11_LookWhole a0 a1 = some r) : Fn Go.Proofs.Try.prog 4 [.val a0, .val a1] (.val r) := by
  unfold mklaw11_LookWhole at hφ
  refine Fn.mk' Go.Proofs.Try.func4 rfl (by decide) rfl rfl rfl (fun w0 hw0 => ?_)
  refine PT.seq ?_
  refine PT.region ?_
  refine Ops.put rfl rfl (ox_assign .bool) (.nil) (.nil) rfl ?_
  refine Ops.nil ?_
  refine PT.sub (σ' := ⟨[(0, .val (a0)), (1, .val (a1))], []⟩) ⟨rfl, rfl, trivial⟩ trivial ?_
  refine PT.seq ?_
  refine PT.seq ?_
  obtain ⟨v1, hv1, hφ⟩ := B_some hφ
  refine PT.region ?_
  refine Ops.put rfl rfl (ox_call (c_mklaw11_alive hv1) .nil) (.nil) (.nil) rfl ?_
  refine Ops.put rfl rfl (ox_not .tmp) (.one rfl) (.nil) rfl ?_
  refine Ops.nil ?_
  refine PT.sub (σ' := ⟨[(0, .val (a0)), (1, .val (a1)), (8, .val ((!v1)))], []⟩) ⟨rfl, rfl, rfl, trivial⟩ trivial ?_
  refine PT.cond _ rfl (fun hc2 => ?_) (fun hc2 => ?_)
  · replace hφ := if_then hφ hc2
    refine PT.sub (σ' := ⟨[], []⟩) trivial trivial ?_
    refine PT.seq ?_
    refine PT.region ?_
    refine Ops.put rfl rfl (ox_assign .bool) (.nil) (.nil) rfl ?_
    refine Ops.nil ?_
    refine PT.sub (σ' := ⟨[(4, .val (false))], []⟩) ⟨rfl, trivial⟩ trivial ?_
    refine PT.ret ?_
    obtain rfl := Option.some.inj hφ
    exact PT.done hw0 rfl (.tmp rfl rfl .nil) rfl
  · replace hφ := if_else hφ hc2
    refine PT.sub (σ' := ⟨[(0, .val (a0)), (1, .val (a1))], []⟩) ⟨rfl, rfl, trivial⟩ trivial ?_
    refine PT.skip ?_
    refine PT.seq ?_
    refine PT.seq ?_
    obtain ⟨v3, hv3, hφ⟩ := B_some hφ
    refine PT.region ?_
    refine Ops.put rfl rfl (ox_move .tmp) (.one rfl) (.nil) rfl ?_
    refine Ops.put rfl rfl (ox_call (c_mkref6_Right hv3) (.cons .tmp .nil)) ((.app (.one rfl) .nil)) (.nil) rfl ?_
    refine Ops.put rfl rfl (ox_not .tmp) (.one rfl) (.nil) rfl ?_
    refine Ops.nil ?_
    refine PT.sub (σ' := ⟨[(0, .val (a0)), (1, .val (a1)), (11, .val ((!v3)))], []⟩) ⟨rfl, rfl, rfl, trivial⟩ trivial ?_
    refine PT.cond _ rfl (fun hc4 => ?_) (fun hc4 => ?_)
    · replace hφ := if_then hφ hc4
      refine PT.sub (σ' := ⟨[], []⟩) trivial trivial ?_
      refine PT.seq ?_
      refine PT.region ?_
      refine Ops.put rfl rfl (ox_assign .bool) (.nil) (.nil) rfl ?_
      refine Ops.nil ?_
      refine PT.sub (σ' := ⟨[(4, .val (true))], []⟩) ⟨rfl, trivial⟩ trivial ?_
      refine PT.ret ?_
      obtain rfl := Option.some.inj hφ
      exact PT.done hw0 rfl (.tmp rfl rfl .nil) rfl
    · replace hφ := if_else hφ hc4
      refine PT.sub (σ' := ⟨[(0, .val (a0)), (1, .val (a1))], []⟩) ⟨rfl, rfl, trivial⟩ trivial ?_
      refine PT.skip ?_
      refine PT.seq ?_
      obtain ⟨v5, hv5, hφ⟩ := B_some hφ
      refine PT.region ?_
      refine Ops.put rfl rfl (ox_move .tmp) (.one rfl) (.nil) rfl ?_
      refine Ops.put rfl rfl (ox_move .tmp) (.one rfl) (.nil) rfl ?_
      refine Ops.put rfl rfl (ox_call (c_mkref6_Play hv5) (.cons .tmp (.cons .tmp .nil))) ((.app (.one rfl) (.app (.one rfl) .nil))) (.nil) rfl ?_
      refine Ops.put rfl rfl (ox_move .tmp) (.one rfl) (.nil) rfl ?_
      refine Ops.put rfl rfl (ox_extract rfl) (.one rfl) (.nil) rfl ?_
      refine Ops.put rfl rfl (ox_extract rfl) (.one rfl) (.nil) rfl ?_
      refine Ops.putO rfl rfl (ox_alloc (id := 5) z43) (.nil) (.nil) rfl (by kernel_rfl) ?_
      refine Ops.mute rfl rfl (ox_store_var t43 .tmp) ((.cons rfl (.one rfl))) (.one rfl) ?_
      refine Ops.put rfl rfl (ox_assign .tmp) (.one rfl) (.nil) rfl ?_
      refine Ops.nil ?_
      refine PT.sub (σ' := ⟨[(5, _)], [(5, .var (v5.1) [])]⟩) ⟨rfl, trivial⟩ ⟨rfl, trivial⟩ ?_
      refine PT.seq ?_
      obtain ⟨v6, hv6, hφ⟩ := B_some hφ
      refine PT.region ?_
      refine Ops.put rfl rfl (ox_load_var t43) (.one rfl) (.one rfl) rfl ?_
      refine Ops.put rfl rfl (ox_call (c_look_Whole hv6) (.cons .tmp .nil)) ((.app (.one rfl) .nil)) (.nil) rfl ?_
      refine Ops.put rfl rfl (ox_assign .tmp) (.one rfl) (.nil) rfl ?_
      refine Ops.nil ?_
      refine PT.sub (σ' := ⟨[(4, .val (v6))], []⟩) ⟨rfl, trivial⟩ trivial ?_
      refine PT.ret ?_
      obtain rfl := Option.some.inj hφ
      exact PT.done hw0 rfl (.tmp rfl rfl .nil) rfl
theorem c_mklaw11_LookSharp {a0 : List (List Mk.Call)} {a1 : List Mk.Step} {a2 : Int} {a3 : Int} {a4 : Int} {r : Bool} (hφ : mklaw11_LookSharp a0 a1 a2 a3 a4 = some r) : Fn Go.Proofs.Try.prog 5 [.val a0, .val a1, .val a2, .val a3, .val a4] (.val r) := by
  unfold mklaw11_LookSharp at hφ
  refine Fn.mk' Go.Proofs.Try.func5 rfl (by decide) rfl rfl rfl (fun w0 hw0 => ?_)
  refine PT.seq ?_
  refine PT.region ?_
  refine Ops.put rfl rfl (ox_assign .bool) (.nil) (.nil) rfl ?_
  refine Ops.nil ?_
  refine PT.sub (σ' := ⟨[(0, .val (a0)), (1, .val (a1)), (2, .val (a2)), (3, .val (a3)), (4, .val (a4))], []⟩) ⟨rfl, rfl, rfl, rfl, rfl, trivial⟩ trivial ?_
  refine PT.seq ?_
  refine PT.seq ?_
  obtain ⟨v1, hv1, hφ⟩ := B_some hφ
  refine PT.region ?_
  refine Ops.put rfl rfl (ox_call (c_mklaw11_alive hv1) .nil) (.nil) (.nil) rfl ?_
  refine Ops.put rfl rfl (ox_not .tmp) (.one rfl) (.nil) rfl ?_
  refine Ops.nil ?_
  refine PT.sub (σ' := ⟨[(0, .val (a0)), (1, .val (a1)), (2, .val (a2)), (3, .val (a3)), (4, .val (a4)), (14, .val ((!v1)))], []⟩) ⟨rfl, rfl, rfl, rfl, rfl, rfl, trivial⟩ trivial ?_
  refine PT.cond _ rfl (fun hc2 => ?_) (fun hc2 => ?_)
  · replace hφ := if_then hφ hc2
    refine PT.sub (σ' := ⟨[], []⟩) trivial trivial ?_
    refine PT.seq ?_
    refine PT.region ?_
    refine Ops.put rfl rfl (ox_assign .bool) (.nil) (.nil) rfl ?_
    refine Ops.nil ?_
    refine PT.sub (σ' := ⟨[(10, .val (false))], []⟩) ⟨rfl, trivial⟩ trivial ?_
    refine PT.ret ?_
    obtain rfl := Option.some.inj hφ
    exact PT.done hw0 rfl (.tmp rfl rfl .nil) rfl
  · replace hφ := if_else hφ hc2
    refine PT.sub (σ' := ⟨[(0, .val (a0)), (1, .val (a1)), (2, .val (a2)), (3, .val (a3)), (4, .val (a4))], []⟩) ⟨rfl, rfl, rfl, rfl, rfl, trivial⟩ trivial ?_
    refine PT.skip ?_
    refine PT.seq ?_
    refine PT.seq ?_
    obtain ⟨v3, hv3, hφ⟩ := B_some hφ
    refine PT.region ?_
    refine Ops.put rfl rfl (ox_move .tmp) (.one rfl) (.nil) rfl ?_
    refine Ops.put rfl rfl (ox_call (c_mkref6_Right hv3) (.cons .tmp .nil)) ((.app (.one rfl) .nil)) (.nil) rfl ?_
    refine Ops.put rfl rfl (ox_not .tmp) (.one rfl) (.nil) rfl ?_
    refine Ops.nil ?_
    refine PT.sub (σ' := ⟨[(0, .val (a0)), (1, .val (a1)), (2, .val (a2)), (3, .val (a3)), (4, .val (a4)), (17, .val ((!v3)))], []⟩) ⟨rfl, rfl, rfl, rfl, rfl, rfl, trivial⟩ trivial ?_
    refine PT.cond _ rfl (fun hc4 => ?_) (fun hc4 => ?_)
    · replace hφ := if_then hφ hc4
      refine PT.sub (σ' := ⟨[], []⟩) trivial trivial ?_
      refine PT.seq ?_
      refine PT.region ?_
      refine Ops.put rfl rfl (ox_assign .bool) (.nil) (.nil) rfl ?_
      refine Ops.nil ?_
      refine PT.sub (σ' := ⟨[(10, .val (true))], []⟩) ⟨rfl, trivial⟩ trivial ?_
      refine PT.ret ?_
      obtain rfl := Option.some.inj hφ
      exact PT.done hw0 rfl (.tmp rfl rfl .nil) rfl
    · replace hφ := if_else hφ hc4
      refine PT.sub (σ' := ⟨[(0, .val (a0)), (1, .val (a1)), (2, .val (a2)), (3, .val (a3)), (4, .val (a4))], []⟩) ⟨rfl, rfl, rfl, rfl, rfl, trivial⟩ trivial ?_
      refine PT.skip ?_
      refine PT.seq ?_
      obtain ⟨v5, hv5, hφ⟩ := B_some hφ
      refine PT.region ?_
      refine Ops.put rfl rfl (ox_move .tmp) (.one rfl) (.nil) rfl ?_
      refine Ops.put rfl rfl (ox_move .tmp) (.one rfl) (.nil) rfl ?_
      refine Ops.put rfl rfl (ox_call (c_mkref6_Play hv5) (.cons .tmp (.cons .tmp .nil))) ((.app (.one rfl) (.app (.one rfl) .nil))) (.nil) rfl ?_
      refine Ops.put rfl rfl (ox_move .tmp) (.one rfl) (.nil) rfl ?_
      refine Ops.put rfl rfl (ox_extract rfl) (.one rfl) (.nil) rfl ?_
      refine Ops.put rfl rfl (ox_extract rfl) (.one rfl) (.nil) rfl ?_
      refine Ops.putO rfl rfl (ox_alloc (id := 11) z43) (.nil) (.nil) rfl (by kernel_rfl) ?_
      refine Ops.mute rfl rfl (ox_store_var t43 .tmp) ((.cons rfl (.one rfl))) (.one rfl) ?_
      refine Ops.put rfl rfl (ox_assign .tmp) (.one rfl) (.nil) rfl ?_
      refine Ops.nil ?_
      refine PT.sub (σ' := ⟨[(2, .val (a2)), (3, .val (a3)), (4, .val (a4)), (11, _)], [(11, .var (v5.1) [])]⟩) ⟨rfl, rfl, rfl, rfl, trivial⟩ ⟨rfl, trivial⟩ ?_
      obtain ⟨k6, hk6, hφ⟩ := J_some hφ
      refine PT.cut (ι := Mk.Machine) (fun p => ⟨[(11, .ptr 11 (Lens.id (α := Mk.Machine)))], [(11, .var (p) [])]⟩) (fun p => k6 (p) = some r) ?_ ?_
      · skip
        refine PT.seq ?_
        refine PT.region ?_
        refine Ops.put rfl rfl (ox_move .tmp) (.one rfl) (.nil) rfl ?_
        refine Ops.nil ?_
        refine PT.sub (σ' := ⟨[(3, .val (a3)), (4, .val (a4)), (11, _), (24, .val (a2))], [(11, .var (v5.1) [])]⟩) ⟨rfl, rfl, rfl, rfl, trivial⟩ ⟨rfl, trivial⟩ ?_
        refine PT.block ?_
        refine PT.seq ?_
        refine PT.region ?_
        refine Ops.put rfl rfl (ox_eql .tmp .int) ((.app (.one rfl) (.nil))) (.nil) rfl ?_
        refine Ops.put rfl rfl (ox_assign .tmp) (.one rfl) (.nil) rfl ?_
        refine Ops.nil ?_
        refine PT.sub (σ' := ⟨[(3, .val (a3)), (4, .val (a4)), (11, _), (24, .val (a2)), (25, .val ((decide (a2 = (0 : Int)))))], [(11, .var (v5.1) [])]⟩) ⟨rfl, rfl, rfl, rfl, rfl, trivial⟩ ⟨rfl, trivial⟩ ?_
        refine PT.cond _ rfl (fun hc7 => ?_) (fun hc7 => ?_)
        · replace hφ := if_then hφ hc7
          refine PT.sub (σ' := ⟨[(3, .val (a3)), (4, .val (a4)), (11, _)], [(11, .var (v5.1) [])]⟩) ⟨rfl, rfl, rfl, trivial⟩ ⟨rfl, trivial⟩ ?_
          refine PT.seq ?_
          refine PT.seq ?_
          obtain ⟨hb8, hφ⟩ := G_some hφ
          obtain ⟨hb9, hφ⟩ := G_some hφ
          obtain ⟨hb10, hφ⟩ := G_some hφ
          refine PT.region ?_
          refine Ops.put rfl rfl (ox_move .tmp) (.one rfl) (.nil) rfl ?_
          refine Ops.put rfl rfl (ox_lss .tmp .int) ((.app (.one rfl) (.nil))) (.nil) rfl ?_
          refine Ops.put rfl rfl (ox_move .tmp) (.one rfl) (.nil) rfl ?_
          refine Ops.guard rfl rfl rfl rfl (.plain .nil) (fun hG => (ox_move .tmp)) ⟨rfl, trivial⟩ (.nil) rfl ?_
          refine Ops.guard rfl rfl rfl rfl (.plain .nil) (fun hG => (ox_fieldAddr_var Machine_Clients f43_5)) ⟨rfl, trivial⟩ (.nil) rfl ?_
          refine Ops.guard rfl rfl rfl rfl (.cond (fun h => h) .nil) (fun hG => (ox_load_fld t41)) ⟨rfl, trivial⟩ (.one rfl) rfl ?_
          refine Ops.guard rfl rfl rfl rfl (.cond (fun h => h) .nil) (fun hG => (ox_len s41 .tmp)) ⟨rfl, trivial⟩ (.nil) rfl ?_
          refine Ops.guard rfl rfl rfl rfl (.cond (fun h => h) (.cond (fun h => h) .nil)) (fun hG => (ox_geq .tmp .tmp)) ⟨rfl, rfl, trivial⟩ (.nil) rfl ?_
          refine Ops.put rfl rfl ox_pick_or (⟨rfl, rfl, trivial⟩) (.nil) rfl ?_
          refine Ops.put rfl rfl (ox_move .tmp) (.one rfl) (.nil) rfl ?_
          refine Ops.guard rfl rfl rfl rfl (.plain .nil) (fun hG => (ox_fieldAddr_var Machine_Clients f43_5)) ⟨rfl, trivial⟩ (.nil) rfl ?_
          refine Ops.guard rfl rfl rfl rfl (.cond (fun h => h) .nil) (fun hG => (ox_load_fld t41)) ⟨rfl, trivial⟩ (.one rfl) rfl ?_
          refine Ops.guard rfl rfl rfl rfl (.plain .nil) (fun hG => (ox_move .tmp)) ⟨rfl, trivial⟩ (.nil) rfl ?_
          refine Ops.guard rfl rfl rfl rfl (.cond (fun h => h) (.cond (fun h => h) .nil)) (fun hG => (ox_ix s41 .tmp .tmp (hb8 hG).1 (hb8 hG).2)) ⟨rfl, rfl, trivial⟩ (.nil) rfl ?_
          refine Ops.guard rfl rfl rfl rfl (.cond (fun h => h) .nil) (fun hG => (ox_fieldAddr_elem Client_Got f61_5)) ⟨rfl, trivial⟩ (.nil) rfl ?_
          refine Ops.guard rfl rfl rfl rfl (.cond (fun h => h) .nil) (fun hG => (ox_load_elem t47)) ⟨rfl, trivial⟩ (.nil) rfl ?_
          refine Ops.guard rfl rfl rfl rfl (.cond (fun h => h) .nil) (fun hG => (ox_len s47 .tmp)) ⟨rfl, trivial⟩ (.nil) rfl ?_
          refine Ops.guard rfl rfl rfl rfl (.cond (fun h => h) .nil) (fun hG => (ox_eql .tmp .int)) ⟨rfl, trivial⟩ (.nil) rfl ?_
          refine Ops.put rfl rfl ox_pick_or (⟨rfl, rfl, trivial⟩) (.nil) rfl ?_
          refine Ops.put rfl rfl (ox_move .tmp) (.one rfl) (.nil) rfl ?_
          refine Ops.guard rfl rfl rfl rfl (.plain .nil) (fun hG => (ox_fieldAddr_var Machine_Clients f43_5)) ⟨rfl, trivial⟩ (.nil) rfl ?_
          refine Ops.guard rfl rfl rfl rfl (.cond (fun h => h) .nil) (fun hG => (ox_load_fld t41)) ⟨rfl, trivial⟩ (.one rfl) rfl ?_
          refine Ops.guard rfl rfl rfl rfl (.plain .nil) (fun hG => (ox_move .tmp)) ⟨rfl, trivial⟩ (.nil) rfl ?_
          refine Ops.guard rfl rfl rfl rfl (.cond (fun h => h) (.cond (fun h => h) .nil)) (fun hG => (ox_ix s41 .tmp .tmp (hb9 hG).1 (hb9 hG).2)) ⟨rfl, rfl, trivial⟩ (.nil) rfl ?_
          refine Ops.guard rfl rfl rfl rfl (.cond (fun h => h) .nil) (fun hG => (ox_fieldAddr_elem Client_Got f61_5)) ⟨rfl, trivial⟩ (.nil) rfl ?_
          refine Ops.guard rfl rfl rfl rfl (.cond (fun h => h) .nil) (fun hG => (ox_load_elem t47)) ⟨rfl, trivial⟩ (.nil) rfl ?_
          refine Ops.guard rfl rfl rfl rfl (.cond (fun h => h) .nil) (fun hG => (ox_ix s47 .tmp .int (hb10 hG).1 (hb10 hG).2)) ⟨rfl, trivial⟩ (.nil) rfl ?_
          refine Ops.guard rfl rfl rfl rfl (.cond (fun h => h) .nil) (fun hG => (ox_load_elem t38)) ⟨rfl, trivial⟩ (.nil) rfl ?_
          refine Ops.guard rfl rfl rfl rfl (.plain .nil) (fun hG => (ox_move .tmp)) ⟨rfl, trivial⟩ (.nil) rfl ?_
          refine Ops.guard rfl rfl rfl rfl (.cond (fun h => h) .nil) (fun hG => (ox_buildB z38 u38 rfl (.cons Reply_N f38_1 .tmp Bld.nil))) ⟨rfl, trivial⟩ (.nil) rfl ?_
          refine Ops.guard rfl rfl rfl rfl (.cond (fun h => h) (.cond (fun h => h) .nil)) (fun hG => (ox_eqlT e38 .tmp .tmp)) ⟨rfl, rfl, trivial⟩ (.nil) rfl ?_
          refine Ops.put rfl rfl ox_pick_or (⟨rfl, rfl, trivial⟩) (.nil) rfl ?_
          refine Ops.nil ?_
          refine PT.sub (σ' := ⟨[(3, .val (a3)), (4, .val (a4)), (11, _), (58, .val (((((decide (a3 < (0 : Int))) || (decide ((v5.1.Clients.length : Int) ≤ a3))) || (decide (((ix v5.1.Clients a3).Got.length : Int) = (0 : Int)))) || (decide ((ix (ix v5.1.Clients a3).Got (0 : Int)) = ({ Err := (0 : Int), N := a4 } : Mk.Reply))))))], [(11, .var (v5.1) [])]⟩) ⟨rfl, rfl, rfl, rfl, trivial⟩ ⟨rfl, trivial⟩ ?_
          refine PT.cond _ rfl (fun hc11 => ?_) (fun hc11 => ?_)
          · replace hφ := if_then hφ hc11
            refine PT.sub (σ' := ⟨[], []⟩) trivial trivial ?_
            refine PT.seq ?_
            refine PT.region ?_
            refine Ops.put rfl rfl (ox_assign .bool) (.nil) (.nil) rfl ?_
            refine Ops.nil ?_
            refine PT.sub (σ' := ⟨[(10, .val (true))], []⟩) ⟨rfl, trivial⟩ trivial ?_
            refine PT.ret ?_
            obtain rfl := Option.some.inj hφ
            exact PT.done hw0 rfl (.tmp rfl rfl .nil) rfl
          · replace hφ := if_else hφ hc11
            refine PT.sub (σ' := ⟨[(3, .val (a3)), (4, .val (a4)), (11, _)], [(11, .var (v5.1) [])]⟩) ⟨rfl, rfl, rfl, trivial⟩ ⟨rfl, trivial⟩ ?_
            refine PT.skip ?_
            refine PT.seq ?_
            obtain ⟨hb12, hφ⟩ := G_some hφ
            refine PT.region ?_
            refine Ops.putO rfl rfl (ox_buildSlice_arr (id := 59) s41 z61 Parts.nil rfl (by decide)) (.nil) (.nil) rfl (by kernel_rfl) ?_
            refine Ops.put rfl rfl (ox_fieldAddr_var Machine_Clients f43_5) (.one rfl) (.nil) rfl ?_
            refine Ops.put rfl rfl (ox_load_fld t41) (.one rfl) (.one rfl) rfl ?_
            refine Ops.putK [59] rfl rfl (ox_append a41 .tmp .tmp hb12.1 hb12.2) ((.app (.one rfl) (.one rfl))) (.one rfl) rfl (by kernel_rfl) ?_
            refine Ops.put rfl rfl (ox_fieldAddr_var Machine_Clients f43_5) (.one rfl) (.nil) rfl ?_
            refine Ops.mute rfl rfl (ox_store_sl t41 .tmp rfl) ((.cons rfl (.one rfl))) (.cons rfl (.one rfl)) ?_
            refine Ops.nil ?_
            refine PT.sub (σ' := ⟨[(3, .val (a3)), (4, .val (a4)), (11, _)], [(11, .var (v5.1) [(19, 59)]), (59, .arr 61 ((([] : List Mk.Client) ++ v5.1.Clients)))]⟩) ⟨rfl, rfl, rfl, trivial⟩ ⟨rfl, rfl, trivial⟩ ?_
            obtain ⟨hb13, hφ⟩ := G_some hφ
            obtain ⟨hb14, hφ⟩ := G_some hφ
            obtain ⟨hb15, hφ⟩ := G_some hφ
            obtain ⟨hb16, hφ⟩ := G_some hφ
            refine PT.draw hMixed (
                Segs.cons (Step.put rfl rfl (ox_fieldAddr_var Machine_Clients f43_5)) ⟨.one rfl, .nil⟩ (by kernel_rfl) rfl <|
                Segs.cons (Step.put rfl rfl (ox_load_hole t41 rfl)) ⟨.one rfl, .cons rfl (.one rfl)⟩ (by kernel_rfl) rfl <|
                Segs.cons (Step.put rfl rfl (ox_move .tmp)) ⟨.one rfl, .nil⟩ (by kernel_rfl) rfl <|
                Segs.cons (Step.put rfl rfl (ox_move .tmp)) ⟨.one rfl, .nil⟩ (by kernel_rfl) rfl <|
                Segs.cons (Step.put rfl rfl (ox_buildB z38 u38 rfl (.cons Reply_N f38_1 .tmp Bld.nil))) ⟨(.app (.one rfl) .nil), .nil⟩ (by kernel_rfl) rfl <|
                Segs.cons (Step.put rfl rfl (ox_buildSlice_arr (id := 69) s47 z38 (.cons .tmp Parts.nil) rfl (by decide))) ⟨(.app (.one rfl) .nil), .nil⟩ (by kernel_rfl) rfl <|
                Segs.cons (Step.put rfl rfl (ox_fieldAddr_var Machine_Clients f43_5)) ⟨.one rfl, .nil⟩ (by kernel_rfl) rfl <|
                Segs.cons (Step.put rfl rfl (ox_load_hole t41 rfl)) ⟨.one rfl, .cons rfl (.one rfl)⟩ (by kernel_rfl) rfl <|
                Segs.cons (Step.put rfl rfl (ox_move .tmp)) ⟨.one rfl, .nil⟩ (by kernel_rfl) rfl <|
                Segs.cons (Step.put rfl rfl (ox_index_arr s41 .tmp .tmp hb13.1 hb13.2)) ⟨(.app (.one rfl) (.one rfl)), .one rfl⟩ (by kernel_rfl) rfl <|
                Segs.cons (Step.put rfl rfl (ox_fieldAddr_aptr Client_Got f61_5)) ⟨.one rfl, .nil⟩ (by kernel_rfl) rfl <|
                Segs.cons (Step.put rfl rfl (ox_load_ax t47 hb13)) ⟨.one rfl, .one rfl⟩ (by kernel_rfl) rfl <|
                Segs.cons (Step.put rfl rfl (ox_slice s47 .tmp (.some .int) .none hb14.1 hb14.2.1 hb14.2.2)) ⟨(.app (.one rfl) ((.app (.nil) (.nil)))), .nil⟩ (by kernel_rfl) rfl <|
                Segs.cons (Step.putK [69] rfl rfl (ox_appendV a47 .tmp .tmp hb15.1 hb15.2)) ⟨(.app (.one rfl) (.one rfl)), .one rfl⟩ (by kernel_rfl) rfl <|
                Segs.cons (Step.put rfl rfl (ox_index_arr s41 .tmp .tmp hb16.1 hb16.2)) ⟨(.app (.one rfl) (.one rfl)), .one rfl⟩ (by kernel_rfl) rfl <|
                Segs.cons (Step.put rfl rfl (ox_fieldAddr_aptr Client_Got f61_5)) ⟨.one rfl, .nil⟩ (by kernel_rfl) rfl <|
                Segs.cons (Step.mute rfl rfl (ox_store_ax t47 .tmp hb16)) ⟨(.cons rfl (.one rfl)), .one rfl⟩ (by kernel_rfl) rfl <|
                Segs.nil) _ [[], [0], [], [], [3], [3, 4], [], [6], [], [6, 7, 8], [6, 7, 8, 9], [6, 7, 8, 9, 10], [6, 7, 8, 9, 10, 11], [3, 4, 5, 6, 7, 8, 9, 10, 11, 12], [0, 1, 2, 3, 4, 5, 6, 7, 8, 9, 10, 11, 12, 13], [0, 1, 2, 3, 4, 5, 6, 7, 8, 9, 10, 11, 12, 13, 14], [0, 1, 2, 3, 4, 5, 6, 7, 8, 9, 10, 11, 12, 13, 14, 15]] rfl (by kernel_rfl) (by kernel_rfl) ?_
            refine PT.sub (σ' := ⟨[(11, _)], [(11, .var (v5.1) [(19, 59)]), (59, .arr 61 ((up (([] : List Mk.Client) ++ v5.1.Clients) a3 { (ix (([] : List Mk.Client) ++ v5.1.Clients) a3) with Got := (([({ Err := (0 : Int), N := a4 } : Mk.Reply)] : List Mk.Reply) ++ (sub (ix (([] : List Mk.Client) ++ v5.1.Clients) a3).Got (1 : Int) ((ix (([] : List Mk.Client) ++ v5.1.Clients) a3).Got.length : Int))) })))]⟩) ⟨rfl, trivial⟩ ⟨rfl, rfl, trivial⟩ ?_
            refine PT.freezeHole 11 59 [] Machine_Clients rfl rfl rfl rfl trivial ?_
            exact PT.meet ({ v5.1 with Clients := (up (([] : List Mk.Client) ++ v5.1.Clients) a3 { (ix (([] : List Mk.Client) ++ v5.1.Clients) a3) with Got := (([({ Err := (0 : Int), N := a4 } : Mk.Reply)] : List Mk.Reply) ++ (sub (ix (([] : List Mk.Client) ++ v5.1.Clients) a3).Got (1 : Int) ((ix (([] : List Mk.Client) ++ v5.1.Clients) a3).Got.length : Int))) }) }) hφ ⟨rfl, trivial⟩ ⟨rfl, trivial⟩
        · replace hφ := if_else hφ hc7
          refine PT.sub (σ' := ⟨[(3, .val (a3)), (4, .val (a4)), (11, _), (24, .val (a2))], [(11, .var (v5.1) [])]⟩) ⟨rfl, rfl, rfl, rfl, trivial⟩ ⟨rfl, trivial⟩ ?_
          refine PT.seq ?_
          refine PT.region ?_
          refine Ops.put rfl rfl (ox_eql .tmp .int) ((.app (.one rfl) (.nil))) (.nil) rfl ?_
          refine Ops.put rfl rfl (ox_assign .tmp) (.one rfl) (.nil) rfl ?_
          refine Ops.nil ?_
          refine PT.sub (σ' := ⟨[(3, .val (a3)), (4, .val (a4)), (11, _), (24, .val (a2)), (80, .val ((decide (a2 = (1 : Int)))))], [(11, .var (v5.1) [])]⟩) ⟨rfl, rfl, rfl, rfl, rfl, trivial⟩ ⟨rfl, trivial⟩ ?_
          refine PT.cond _ rfl (fun hc17 => ?_) (fun hc17 => ?_)
          · replace hφ := if_then hφ hc17
            refine PT.sub (σ' := ⟨[(4, .val (a4)), (11, _)], [(11, .var (v5.1) [])]⟩) ⟨rfl, rfl, trivial⟩ ⟨rfl, trivial⟩ ?_
            refine PT.seq ?_
            obtain ⟨v18, hv18, hφ⟩ := B_some hφ
            refine PT.region ?_
            refine Ops.put rfl rfl (ox_fieldAddr_var Machine_Store f43_0) (.one rfl) (.nil) rfl ?_
            refine Ops.put rfl rfl (ox_load_fld t30) (.one rfl) (.one rfl) rfl ?_
            refine Ops.put rfl rfl (ox_call (c_mkref1_Back hv18) (.cons .tmp .nil)) ((.app (.one rfl) .nil)) (.nil) rfl ?_
            refine Ops.put rfl rfl (ox_fieldAddr_var Machine_Store f43_0) (.one rfl) (.nil) rfl ?_
            refine Ops.mute rfl rfl (ox_store_fld t30 .tmp) ((.cons rfl (.one rfl))) (.one rfl) ?_
            refine Ops.nil ?_
            refine PT.sub (σ' := ⟨[(4, .val (a4)), (11, _)], [(11, .var ({ v5.1 with Store := v18 }) [])]⟩) ⟨rfl, rfl, trivial⟩ ⟨rfl, trivial⟩ ?_
            refine PT.seq ?_
            refine PT.seq ?_
            obtain ⟨hb19, hφ⟩ := G_some hφ
            obtain ⟨hb20, hφ⟩ := G_some hφ
            refine PT.region ?_
            refine Ops.put rfl rfl (ox_fieldAddr_var Machine_Store f43_0) (.one rfl) (.nil) rfl ?_
            refine Ops.put rfl rfl (ox_fieldAddr_ptr Store_Cells f30_0) (.one rfl) (.nil) rfl ?_
            refine Ops.put rfl rfl (ox_load_fld t25) (.one rfl) (.one rfl) rfl ?_
            refine Ops.put rfl rfl (ox_ix s25 .tmp .int hb19.1 hb19.2) ((.app (.one rfl) (.nil))) (.nil) rfl ?_
            refine Ops.put rfl rfl (ox_load_elem t3) (.one rfl) (.nil) rfl ?_
            refine Ops.put rfl rfl (ox_eql .tmp .int) ((.app (.one rfl) (.nil))) (.nil) rfl ?_
            refine Ops.put rfl rfl (ox_move .tmp) (.one rfl) (.nil) rfl ?_
            refine Ops.guard rfl rfl rfl rfl (.plain .nil) (fun hG => (ox_fieldAddr_var Machine_Store f43_0)) ⟨rfl, trivial⟩ (.nil) rfl ?_
            refine Ops.guard rfl rfl rfl rfl (.cond (fun h => h) .nil) (fun hG => (ox_fieldAddr_ptr Store_Cells f30_0)) ⟨rfl, trivial⟩ (.nil) rfl ?_
            refine Ops.guard rfl rfl rfl rfl (.cond (fun h => h) .nil) (fun hG => (ox_load_fld t25)) ⟨rfl, trivial⟩ (.one rfl) rfl ?_
            refine Ops.guard rfl rfl rfl rfl (.cond (fun h => h) .nil) (fun hG => (ox_ix s25 .tmp .int (hb20 hG).1 (hb20 hG).2)) ⟨rfl, trivial⟩ (.nil) rfl ?_
            refine Ops.guard rfl rfl rfl rfl (.cond (fun h => h) .nil) (fun hG => (ox_load_elem t3)) ⟨rfl, trivial⟩ (.nil) rfl ?_
            refine Ops.guard rfl rfl rfl rfl (.plain .nil) (fun hG => (ox_move .tmp)) ⟨rfl, trivial⟩ (.nil) rfl ?_
            refine Ops.guard rfl rfl rfl rfl (.cond (fun h => h) (.cond (fun h => h) .nil)) (fun hG => (ox_eql .tmp .tmp)) ⟨rfl, rfl, trivial⟩ (.nil) rfl ?_
            refine Ops.put rfl rfl ox_pick_or (⟨rfl, rfl, trivial⟩) (.nil) rfl ?_
            refine Ops.nil ?_
            refine PT.sub (σ' := ⟨[(4, .val (a4)), (11, _), (100, .val (((decide ((ix { v5.1 with Store := v18 }.Store.Cells (0 : Int)) = (0 : Int))) || (decide ((ix { v5.1 with Store := v18 }.Store.Cells (2 : Int)) = a4)))))], [(11, .var ({ v5.1 with Store := v18 }) [])]⟩) ⟨rfl, rfl, rfl, trivial⟩ ⟨rfl, trivial⟩ ?_
            refine PT.cond _ rfl (fun hc21 => ?_) (fun hc21 => ?_)
            · replace hφ := if_then hφ hc21
              refine PT.sub (σ' := ⟨[], []⟩) trivial trivial ?_
              refine PT.seq ?_
              refine PT.region ?_
              refine Ops.put rfl rfl (ox_assign .bool) (.nil) (.nil) rfl ?_
              refine Ops.nil ?_
              refine PT.sub (σ' := ⟨[(10, .val (true))], []⟩) ⟨rfl, trivial⟩ trivial ?_
              refine PT.ret ?_
              obtain rfl := Option.some.inj hφ
              exact PT.done hw0 rfl (.tmp rfl rfl .nil) rfl
            · replace hφ := if_else hφ hc21
              refine PT.sub (σ' := ⟨[(4, .val (a4)), (11, _)], [(11, .var ({ v5.1 with Store := v18 }) [])]⟩) ⟨rfl, rfl, trivial⟩ ⟨rfl, trivial⟩ ?_
              refine PT.skip ?_
              refine PT.seq ?_
              obtain ⟨hb22, hφ⟩ := G_some hφ
              refine PT.region ?_
              refine Ops.putO rfl rfl (ox_buildSlice_arr (id := 101) s25 z3 Parts.nil rfl (by decide)) (.nil) (.nil) rfl (by kernel_rfl) ?_
              refine Ops.put rfl rfl (ox_fieldAddr_var Machine_Store f43_0) (.one rfl) (.nil) rfl ?_
              refine Ops.put rfl rfl (ox_fieldAddr_ptr Store_Cells f30_0) (.one rfl) (.nil) rfl ?_
              refine Ops.put rfl rfl (ox_load_fld t25) (.one rfl) (.one rfl) rfl ?_
              refine Ops.putK [101] rfl rfl (ox_append a25 .tmp .tmp hb22.1 hb22.2) ((.app (.one rfl) (.one rfl))) (.one rfl) rfl (by kernel_rfl) ?_
              refine Ops.put rfl rfl (ox_fieldAddr_var Machine_Store f43_0) (.one rfl) (.nil) rfl ?_
              refine Ops.put rfl rfl (ox_fieldAddr_ptr Store_Cells f30_0) (.one rfl) (.nil) rfl ?_
              refine Ops.mute rfl rfl (ox_store_sl t25 .tmp rfl) ((.cons rfl (.one rfl))) (.cons rfl (.one rfl)) ?_
              refine Ops.nil ?_
              refine PT.sub (σ' := ⟨[(4, .val (a4)), (11, _)], [(11, .var ({ v5.1 with Store := v18 }) [(0, 101)]), (101, .arr 3 ((([] : List Int) ++ { v5.1 with Store := v18 }.Store.Cells)))]⟩) ⟨rfl, rfl, trivial⟩ ⟨rfl, rfl, trivial⟩ ?_
              obtain ⟨hb23, hφ⟩ := G_some hφ
              refine PT.region ?_
              refine Ops.put rfl rfl (ox_fieldAddr_var Machine_Store f43_0) (.one rfl) (.nil) rfl ?_
              refine Ops.put rfl rfl (ox_fieldAddr_ptr Store_Cells f30_0) (.one rfl) (.nil) rfl ?_
              refine Ops.put rfl rfl (ox_load_hole t25 rfl) (.one rfl) (.cons rfl (.one rfl)) rfl ?_
              refine Ops.put rfl rfl (ox_move .tmp) (.one rfl) (.nil) rfl ?_
              refine Ops.put rfl rfl (ox_index_arr s25 .tmp .int hb23.1 hb23.2) ((.app (.one rfl) (.nil))) (.one rfl) rfl ?_
              refine Ops.mute rfl rfl (ox_store_ax t3 .tmp hb23) ((.cons rfl (.one rfl))) (.one rfl) ?_
              refine Ops.nil ?_
              refine PT.sub (σ' := ⟨[(11, _)], [(11, .var ({ v5.1 with Store := v18 }) [(0, 101)]), (101, .arr 3 ((up (([] : List Int) ++ { v5.1 with Store := v18 }.Store.Cells) (2 : Int) a4)))]⟩) ⟨rfl, trivial⟩ ⟨rfl, rfl, trivial⟩ ?_
              refine PT.freezeHole 11 101 [] (Machine_Store.comp Store_Cells) rfl rfl rfl rfl trivial ?_
              exact PT.meet ({ ({ v5.1 with Store := v18 }) with Store := { ({ v5.1 with Store := v18 }).Store with Cells := (up (([] : List Int) ++ { v5.1 with Store := v18 }.Store.Cells) (2 : Int) a4) } }) hφ ⟨rfl, trivial⟩ ⟨rfl, trivial⟩
          · replace hφ := if_else hφ hc17
            refine PT.sub (σ' := ⟨[(3, .val (a3)), (11, _), (24, .val (a2))], [(11, .var (v5.1) [])]⟩) ⟨rfl, rfl, rfl, trivial⟩ ⟨rfl, trivial⟩ ?_
            refine PT.seq ?_
            refine PT.region ?_
            refine Ops.put rfl rfl (ox_eql .tmp .int) ((.app (.one rfl) (.nil))) (.nil) rfl ?_
            refine Ops.put rfl rfl (ox_assign .tmp) (.one rfl) (.nil) rfl ?_
            refine Ops.nil ?_
            refine PT.sub (σ' := ⟨[(3, .val (a3)), (11, _), (113, .val ((decide (a2 = (2 : Int)))))], [(11, .var (v5.1) [])]⟩) ⟨rfl, rfl, rfl, trivial⟩ ⟨rfl, trivial⟩ ?_
            refine PT.cond _ rfl (fun hc24 => ?_) (fun hc24 => ?_)
            · replace hφ := if_then hφ hc24
              refine PT.sub (σ' := ⟨[(3, .val (a3)), (11, _)], [(11, .var (v5.1) [])]⟩) ⟨rfl, rfl, trivial⟩ ⟨rfl, trivial⟩ ?_
              refine PT.seq ?_
              refine PT.seq ?_
              refine PT.region ?_
              refine Ops.put rfl rfl (ox_move .tmp) (.one rfl) (.nil) rfl ?_
              refine Ops.put rfl rfl (ox_lss .tmp .int) ((.app (.one rfl) (.nil))) (.nil) rfl ?_
              refine Ops.put rfl rfl (ox_move .tmp) (.one rfl) (.nil) rfl ?_
              refine Ops.guard rfl rfl rfl rfl (.plain .nil) (fun hG => (ox_move .tmp)) ⟨rfl, trivial⟩ (.nil) rfl ?_
              refine Ops.guard rfl rfl rfl rfl (.plain .nil) (fun hG => (ox_fieldAddr_var Machine_Store f43_0)) ⟨rfl, trivial⟩ (.nil) rfl ?_
              refine Ops.guard rfl rfl rfl rfl (.cond (fun h => h) .nil) (fun hG => (ox_fieldAddr_ptr Store_Past f30_3)) ⟨rfl, trivial⟩ (.nil) rfl ?_
              refine Ops.guard rfl rfl rfl rfl (.cond (fun h => h) .nil) (fun hG => (ox_load_fld t28)) ⟨rfl, trivial⟩ (.one rfl) rfl ?_
              refine Ops.guard rfl rfl rfl rfl (.cond (fun h => h) .nil) (fun hG => (ox_len s28 .tmp)) ⟨rfl, trivial⟩ (.nil) rfl ?_
              refine Ops.guard rfl rfl rfl rfl (.cond (fun h => h) (.cond (fun h => h) .nil)) (fun hG => (ox_geq .tmp .tmp)) ⟨rfl, rfl, trivial⟩ (.nil) rfl ?_
              refine Ops.put rfl rfl ox_pick_or (⟨rfl, rfl, trivial⟩) (.nil) rfl ?_
              refine Ops.nil ?_
              refine PT.sub (σ' := ⟨[(3, .val (a3)), (11, _), (124, .val (((decide (a3 < (0 : Int))) || (decide ((v5.1.Store.Past.length : Int) ≤ a3)))))], [(11, .var (v5.1) [])]⟩) ⟨rfl, rfl, rfl, trivial⟩ ⟨rfl, trivial⟩ ?_
              refine PT.cond _ rfl (fun hc25 => ?_) (fun hc25 => ?_)
              · replace hφ := if_then hφ hc25
                refine PT.sub (σ' := ⟨[], []⟩) trivial trivial ?_
                refine PT.seq ?_
                refine PT.region ?_
                refine Ops.put rfl rfl (ox_assign .bool) (.nil) (.nil) rfl ?_
                refine Ops.nil ?_
                refine PT.sub (σ' := ⟨[(10, .val (true))], []⟩) ⟨rfl, trivial⟩ trivial ?_
                refine PT.ret ?_
                obtain rfl := Option.some.inj hφ
                exact PT.done hw0 rfl (.tmp rfl rfl .nil) rfl
              · replace hφ := if_else hφ hc25
                refine PT.sub (σ' := ⟨[(3, .val (a3)), (11, _)], [(11, .var (v5.1) [])]⟩) ⟨rfl, rfl, trivial⟩ ⟨rfl, trivial⟩ ?_
                refine PT.skip ?_
                obtain ⟨hb26, hφ⟩ := G_some hφ
                obtain ⟨hb27, hφ⟩ := G_some hφ
                obtain ⟨hb28, hφ⟩ := G_some hφ
                refine PT.draw hMixed (
                    Segs.cons (Step.put rfl rfl (ox_buildSlice_arr (id := 125) s28 z35 Parts.nil rfl (by decide))) ⟨.nil, .nil⟩ (by kernel_rfl) rfl <|
                    Segs.cons (Step.put rfl rfl (ox_fieldAddr_var Machine_Store f43_0)) ⟨.one rfl, .nil⟩ (by kernel_rfl) rfl <|
                    Segs.cons (Step.put rfl rfl (ox_fieldAddr_ptr Store_Past f30_3)) ⟨.one rfl, .nil⟩ (by kernel_rfl) rfl <|
                    Segs.cons (Step.put rfl rfl (ox_load_fld t28)) ⟨.one rfl, .one rfl⟩ (by kernel_rfl) rfl <|
                    Segs.cons (Step.putK [125] rfl rfl (ox_append a28 .tmp .tmp hb26.1 hb26.2)) ⟨(.app (.one rfl) (.one rfl)), .one rfl⟩ (by kernel_rfl) rfl <|
                    Segs.cons (Step.put rfl rfl (ox_fieldAddr_var Machine_Store f43_0)) ⟨.one rfl, .nil⟩ (by kernel_rfl) rfl <|
                    Segs.cons (Step.put rfl rfl (ox_fieldAddr_ptr Store_Past f30_3)) ⟨.one rfl, .nil⟩ (by kernel_rfl) rfl <|
                    Segs.cons (Step.put rfl rfl (ox_load_fld t28)) ⟨.one rfl, .one rfl⟩ (by kernel_rfl) rfl <|
                    Segs.cons (Step.put rfl rfl (ox_move .tmp)) ⟨.one rfl, .nil⟩ (by kernel_rfl) rfl <|
                    Segs.cons (Step.put rfl rfl (ox_ix s28 .tmp .tmp hb27.1 hb27.2)) ⟨(.app (.one rfl) (.one rfl)), .nil⟩ (by kernel_rfl) rfl <|
                    Segs.cons (Step.put rfl rfl (ox_load_elem t35)) ⟨.one rfl, .nil⟩ (by kernel_rfl) rfl <|
                    Segs.cons (Step.put rfl rfl (ox_buildSlice_val s28 z35 (.cons .tmp Parts.nil) rfl (by decide))) ⟨(.app (.one rfl) .nil), .nil⟩ (by kernel_rfl) rfl <|
                    Segs.cons (Step.putK [125, 129] rfl rfl (ox_appendV a28 .tmp .tmp hb28.1 hb28.2)) ⟨(.app (.one rfl) (.one rfl)), .one rfl⟩ (by kernel_rfl) rfl <|
                    Segs.cons (Step.put rfl rfl (ox_fieldAddr_var Machine_Store f43_0)) ⟨.one rfl, .nil⟩ (by kernel_rfl) rfl <|
                    Segs.cons (Step.put rfl rfl (ox_fieldAddr_ptr Store_Past f30_3)) ⟨.one rfl, .nil⟩ (by kernel_rfl) rfl <|
                    Segs.cons (Step.mute rfl rfl (ox_store_fld t28 .tmp)) ⟨(.cons rfl (.one rfl)), .one rfl⟩ (by kernel_rfl) rfl <|
                    Segs.nil) _ [[], [], [1], [1, 2], [0, 1, 2, 3], [], [5], [5, 6], [], [5, 6, 7, 8], [5, 6, 7, 8, 9], [5, 6, 7, 8, 9, 10], [0, 1, 2, 3, 4, 5, 6, 7, 8, 9, 10, 11], [0, 1, 2, 3, 4, 5, 6, 7, 8, 9, 10, 11, 12], [0, 1, 2, 3, 4, 5, 6, 7, 8, 9, 10, 11, 12, 13], [0, 1, 2, 3, 4, 5, 6, 7, 8, 9, 10, 11, 12, 13, 14]] rfl (by kernel_rfl) (by kernel_rfl) ?_
                refine PT.sub (σ' := ⟨[(11, _)], [(11, .var ({ v5.1 with Store := { v5.1.Store with Past := ((([] : List Mk.Request) ++ v5.1.Store.Past) ++ ([(ix v5.1.Store.Past a3)] : List Mk.Request)) } }) [])]⟩) ⟨rfl, trivial⟩ ⟨rfl, trivial⟩ ?_
                exact PT.meet ({ v5.1 with Store := { v5.1.Store with Past := ((([] : List Mk.Request) ++ v5.1.Store.Past) ++ ([(ix v5.1.Store.Past a3)] : List Mk.Request)) } }) hφ ⟨rfl, trivial⟩ ⟨rfl, trivial⟩
            · replace hφ := if_else hφ hc24
              refine PT.sub (σ' := ⟨[], []⟩) trivial trivial ?_
              refine PT.seq ?_
              refine PT.region ?_
              refine Ops.put rfl rfl (ox_assign .bool) (.nil) (.nil) rfl ?_
              refine Ops.nil ?_
              refine PT.sub (σ' := ⟨[(10, .val (true))], []⟩) ⟨rfl, trivial⟩ trivial ?_
              refine PT.ret ?_
              obtain rfl := Option.some.inj hφ
              exact PT.done hw0 rfl (.tmp rfl rfl .nil) rfl
      · rintro y11_k6 hφ
        subst hk6
        refine PT.sub (σ' := ⟨[(11, .ptr 11 (Lens.id (α := Mk.Machine)))], [(11, .var (y11_k6) [])]⟩) ⟨rfl, trivial⟩ ⟨rfl, trivial⟩ ?_
        refine PT.seq ?_
        obtain ⟨v29, hv29, hφ⟩ := B_some hφ
        refine PT.region ?_
        refine Ops.put rfl rfl (ox_load_var t43) (.one rfl) (.one rfl) rfl ?_
        refine Ops.put rfl rfl (ox_call (c_look_Whole hv29) (.cons .tmp .nil)) ((.app (.one rfl) .nil)) (.nil) rfl ?_
        refine Ops.put rfl rfl (ox_not .tmp) (.one rfl) (.nil) rfl ?_
        refine Ops.put rfl rfl (ox_assign .tmp) (.one rfl) (.nil) rfl ?_
        refine Ops.nil ?_
        refine PT.sub (σ' := ⟨[(10, .val ((!v29)))], []⟩) ⟨rfl, trivial⟩ trivial ?_
        refine PT.ret ?_
        obtain rfl := Option.some.inj hφ
        exact PT.done hw0 rfl (.tmp rfl rfl .nil) rfl
end Go.Gx
end
section
namespace Go.Gx
open Go.RowKit Go.ChangeShapes Go.WideShapes Sp
set_option linter.unusedVariables false
set_option linter.unusedSimpArgs false
def full (w : World) : PH := fun b o => w.cell? ⟨b, o, none⟩
theorem full_on (w : World) : (full w).on w := fun b o v h => h
structure Opn (P : Program) (T : TypeId) (α : Type) [GoTy α] : Prop where
  sz : P.cellsOf T = GoTy.sz α
  run : ∀ {H : Type} (enc : TypeId × Value → H) (w : World) (spare : Nat → Bool) (fuel : Nat) (cs : List Value) (d : DataW H × List MemPlace),
    DataW.trod enc P w 0 spare true fuel T cs = some d → ∃ y : α, GoTy.rep (full w) y cs
section
variable {P : Program}
theorem Opn.int {T : TypeId} (hu : P.underlying T = some (.int .i64)) (hs : P.cellsOf T = 1) : Opn P T Int :=
  ⟨hs, fun enc w spare fuel cs d h => by
    obtain ⟨n, rfl, _, hw⟩ := DataW.trod_int hu h
    refine ⟨n, rfl, ?_⟩
    simpa [Lit.wf, IntKind.min, IntKind.max, IntKind.signed, IntKind.bits, I64] using hw⟩
theorem Opn.u8 {T : TypeId} (hu : P.underlying T = some (.int .u8)) (hs : P.cellsOf T = 1) : Opn P T UInt8 :=
  ⟨hs, fun enc w spare fuel cs d h => by
    obtain ⟨n, rfl, _, hw⟩ := DataW.trod_int hu h
    have h2 : 0 ≤ n ∧ n ≤ 255 := by simpa [Lit.wf, IntKind.min, IntKind.max, IntKind.signed, IntKind.bits] using hw
    refine ⟨UInt8.ofNat n.toNat, ?_⟩
    show [Value.int .u8 n] = [Value.int .u8 ((UInt8.ofNat n.toNat).toNat : Int)]
    have e : (UInt8.ofNat n.toNat).toNat = n.toNat := Nat.mod_eq_of_lt (by omega)
    rw [e, Int.toNat_of_nonneg h2.1]⟩
theorem Opn.bool {T : TypeId} (hu : P.underlying T = some .bool) (hs : P.cellsOf T = 1) : Opn P T Bool :=
  ⟨hs, fun enc w spare fuel cs d h => by
    obtain ⟨b, rfl, _⟩ := DataW.trod_bool hu h
    exact ⟨b, rfl⟩⟩
def OpnRow (P : Program) (fs : List Field) (off : Nat) (α : Type) [GoTy α] : Prop :=
  ∀ {H : Type} (enc : TypeId × Value → H) (w : World) (spare : Nat → Bool) (n : Nat) (cs : List Value),
    (∀ f ∈ fs, ∃ d, DataW.trod enc P w 0 spare true n f.type ((cs.drop f.offset).take (P.cellsOf f.type)) = some d) → ∃ y : α, GoTy.rep (full w) y ((cs.drop off).take (GoTy.sz α))
theorem OpnRow.one {off : Nat} {f : Field} {α : Type} [GoTy α] (ho : f.offset = off) (h : Opn P f.type α) : OpnRow P [f] off α := fun enc w spare n cs hd => by
  obtain ⟨d, hd⟩ := hd f (by simp)
  rw [ho, h.sz] at hd
  exact h.run enc w spare n _ d hd
theorem OpnRow.cons {off : Nat} {f : Field} {fs : List Field} {α β : Type} [GoTy α] [GoTy β] (ho : f.offset = off) (h : Opn P f.type α) (hr : OpnRow P fs (off + GoTy.sz α) β) : OpnRow P (f :: fs) off (α × β) := fun enc w spare n cs hd => by
  obtain ⟨d, h1⟩ := hd f (by simp)
  rw [ho, h.sz] at h1
  obtain ⟨y, hy⟩ := h.run enc w spare n _ d h1
  obtain ⟨z, hz⟩ := hr enc w spare n cs (fun g hg => hd g (by simp [hg]))
  refine ⟨(y, z), _, _, ?_, hy, hz⟩
  show (cs.drop off).take (GoTy.sz α + GoTy.sz β) = _
  rw [List.take_add, List.drop_drop]
theorem Opn.struct {T : TypeId} {α β : Type} [GoTy α] [GoTy β] {fs : Array Field} (g : β → α) (hrep : ∀ ph y vs, GoTy.rep (α := β) ph y vs → GoTy.rep ph (g y) vs) (hsz : P.cellsOf T = GoTy.sz α) (hszb : GoTy.sz α = GoTy.sz β)
    (hu : P.underlying T = some (.struct fs)) (hr : OpnRow P fs.toList 0 β) : Opn P T α :=
  ⟨hsz, fun enc w spare fuel cs d h => by
    obtain ⟨xs, n, rfl, _, hl, hx, hi⟩ := DataW.trod_struct hu h
    obtain ⟨y, hy⟩ := hr enc w spare n cs (fun f hf => by
      obtain ⟨i, hi', hfi⟩ := List.getElem_of_mem hf
      have h2 := hi i f (by simpa using List.getElem?_eq_some_iff.2 ⟨hi', hfi⟩)
      have hlt : i < xs.length := by rw [hx]; simpa using hi'
      exact ⟨xs[i], by rw [h2]; simp [hlt]⟩)
    refine ⟨g y, hrep _ _ _ ?_⟩
    have : (cs.drop 0).take (GoTy.sz β) = cs := by rw [List.drop_zero, List.take_of_length_le (by omega)]
    rwa [this] at hy⟩
theorem cell_spot {w : World} {a : Addr} {u : Value} (h : w.cell? a = some u) : a.spot = none := by
  unfold World.cell? at h
  split at h
  · split at h
    · cases h
    · rename_i hs; simpa using hs
  · cases h
theorem add_add_cell {w : World} {a : Addr} {k j : Nat} {u : Value} (h : w.cell? ((a.add k).add j) = some u) : full w a.block (a.off + k + j) = some u := by
  have hs := cell_spot h
  have e : (a.add k).add j = ⟨a.block, a.off + k + j, none⟩ := by
    revert hs
    unfold Addr.add
    by_cases hk : k = 0 <;> by_cases hj : j = 0 <;> simp [hk, hj] <;> (try (cases a; simp))
  rw [e] at h; exact h
theorem cells_get {w : World} {a : Addr} {k n : Nat} {cs : List Value} (h : w.cells? 0 (a.add k) n = some cs) : ∀ j u, cs[j]? = some u → full w a.block (a.off + k + j) = some u := fun j u hu => by
  unfold World.cells? at h
  rw [if_pos (Nat.zero_le _)] at h
  have hl := mapM_some_length h
  have hj : j < n := by
    have := (List.getElem?_eq_some_iff.1 hu).1
    rw [hl] at this; simpa using this
  have := mapM_some_get h j j (by simp [hj])
  rw [hu] at this
  exact add_add_cell this
theorem spot_of_cells {w : World} {a : Addr} {n : Nat} {cs : List Value} (hn : 0 < n) (h : w.cells? 0 (a.add 0) n = some cs) : a.spot = none := by
  unfold World.cells? at h
  rw [if_pos (Nat.zero_le _)] at h
  have hl := mapM_some_length h
  have := mapM_some_get h 0 0 (by simp [hn])
  have hc : (cs[0]?) = some (cs[0]'(by rw [hl]; simpa using hn)) := by simp
  rw [hc] at this
  have := cell_spot this
  simpa [Addr.add] using this
theorem Opn.slice_run {T E : TypeId} {α : Type} [GoTy α] (hE : Opn P E α) (hu : P.underlying T = some (.slice E)) {H : Type} (enc : TypeId × Value → H) (w : World) (spare : Nat → Bool) (fuel : Nat) (cs : List Value) (d : DataW H × List MemPlace)
    (h : DataW.trod enc P w 0 spare true fuel T cs = some d) : ∃ y : List α, GoTy.rep (full w) y cs ∧ ∀ n, (∀ m ∈ d.1.weights P T, m ≤ n) → y.length * P.bytesOf E ≤ n := by
    rcases DataW.trod_slice hu h with ⟨rfl, _⟩ | ⟨a, len, cap, elems, rest, n, rfl, rfl, hdx, _, h1, h2, h3, h4, _, _⟩
    · exact ⟨[], ⟨_, rfl, repS_nil _⟩, fun n _ => by rw [List.length_nil, Nat.zero_mul]; exact Nat.zero_le _⟩
    · have hpos := GoTy.pos (α := α)
      rw [hE.sz] at h4
      have one : ∀ i, i < len → ∃ c d, w.cells? 0 (a.add (i * GoTy.sz α)) (GoTy.sz α) = some c ∧ DataW.trod enc P w 0 spare true n E c = some d := by
        intro i hi
        have := h4 i hi
        rw [show elems[i]? = some (elems[i]'(by omega)) from by simp [h3, hi]] at this
        simp only [Option.bind_eq_some_iff] at this
        obtain ⟨c, e1, e2⟩ := this
        exact ⟨c, _, e1, e2⟩
      have all : ∀ m i, i + m = len → ∃ (ys : List α) (r : List Value), ys.length = m ∧ RepL (full w) ys r ∧ ∀ j u, r[j]? = some u → full w a.block (a.off + i * GoTy.sz α + j) = some u := by
        intro m
        induction m with
        | zero => intro i _; exact ⟨[], [], rfl, rfl, fun j u hu => by simp at hu⟩
        | succ m ih =>
          intro i hi
          obtain ⟨c, d, e1, e2⟩ := one i (by omega)
          obtain ⟨y, hy⟩ := hE.run enc w spare n c d e2
          obtain ⟨ys, r, f1, f2, f3⟩ := ih (i + 1) (by omega)
          have hcl := GoTy.len hy
          refine ⟨y :: ys, c ++ r, by simp [f1], ⟨c, r, rfl, hy, f2⟩, fun j u hu => ?_⟩
          by_cases hj : j < c.length
          · rw [List.getElem?_append_left hj] at hu
            exact cells_get e1 j u hu
          · rw [List.getElem?_append_right (by omega)] at hu
            have := f3 _ u hu
            rw [hcl, Nat.add_mul, Nat.one_mul] at this
            rw [show a.off + i * GoTy.sz α + j = a.off + (i * GoTy.sz α + GoTy.sz α) + (j - GoTy.sz α) from by omega]
            exact this
      obtain ⟨ys, r, f1, f2, f3⟩ := all len 0 (by omega)
      refine ⟨ys, ?_, fun n hn => ?_⟩
      rotate_left
      · have := hn ((elems.length + rest.length) * P.bytesOf E) (by
          rw [hdx]
          show _ ∈ DataW.weights P T (DataW.slice (elems.map (·.1)) (rest.map (·.1)))
          rw [DataW.weights, hu]
          simp)
        rw [f1, ← h3]
        exact Nat.le_trans (Nat.mul_le_mul_right _ (by omega)) this
      refine ⟨_, rfl, some a, cap, r, by rw [f1], by omega, by unfold maxLen at h2; omega, f2, fun e => (by cases e), ?_⟩
      by_cases h0 : len = 0
      · left
        have := f2.len
        rw [f1, h0, Nat.zero_mul] at this
        exact List.eq_nil_of_length_eq_zero this
      · right
        obtain ⟨c, d, e1, e2⟩ := one 0 (by omega)
        rw [Nat.zero_mul] at e1
        have hsp := spot_of_cells hpos e1
        refine ⟨a.block, a.off, by cases a; simp_all, fun j u hu => ?_⟩
        have := f3 j u hu
        simpa using this
theorem Opn.slice {T E : TypeId} {α : Type} [GoTy α] (hE : Opn P E α) (hu : P.underlying T = some (.slice E)) (hs : P.cellsOf T = 1) : Opn P T (List α) :=
  ⟨hs, fun {H} enc w spare fuel cs d h => by
    obtain ⟨y, hy, _⟩ := hE.slice_run hu enc w spare fuel cs d h
    exact ⟨y, hy⟩⟩
theorem Opn.top_cell {T : TypeId} {α : Type} [GoTy α] (h : Opn P T α) (hagg : GoTy.agg α = false) (hu : (∃ k, P.underlying T = some (.int k)) ∨ P.underlying T = some .bool ∨ (∃ e, P.underlying T = some (.slice e)) ∨ P.underlying T = some .string) {W : World} {b : Nat} {v : Value}
    (hok : Value.okWide P W .any b T v) {H : Type} {enc : TypeId × Value → H} {d : DataW H} {p : List MemPlace} (ht : DataW.Trod enc P W 0 (fun _ => true) true T v d p) : ∃ y : α, (Desc.val y).holds (base (full W)) v := by
  obtain ⟨fuel, ht⟩ := ht
  obtain ⟨y, hy⟩ := h.run enc W _ fuel _ _ ht
  have hv : v.cells = #[v] := by
    cases v with
    | agg cs =>
      exfalso
      rcases hu with ⟨k, hu⟩ | hu | ⟨e, hu⟩ | hu <;> simp [Value.okWide, Cell.okWide, Cell.ok, hu] at hok
    | _ => rfl
  rw [hv] at hy
  exact ⟨y, _, hy, by simp [mkVal, hagg]⟩
theorem len_of_rep {α : Type} [GoTy α] {ph : PH} {l : List α} {vs : List Value} (h : GoTy.rep ph l vs) : l.length ≤ 9223372036854775807 := by
  obtain ⟨v, rfl, a, c, cs, rfl, h1, h2, _⟩ := h
  exact Nat.le_trans h1 h2
end
end Go.Gx
end
section
namespace Go.Gx
set_option linter.unusedVariables false
theorem o3 : Opn Go.Proofs.Try.prog 3 Int := Opn.int (by kernel_rfl) (by kernel_rfl)
theorem o33 : Opn Go.Proofs.Try.prog 33 Mk.Call := Opn.struct (β := Int × Int × Int × Int) (fun y : Int × Int × Int × Int => (⟨y.1, y.2.1, y.2.2.1, y.2.2.2⟩ : Mk.Call)) (fun _ _ _ h => h) (by kernel_rfl) rfl Go.Proofs.Try.underlying33 (OpnRow.cons rfl o3 (OpnRow.cons rfl o3 (OpnRow.cons rfl o3 (OpnRow.one rfl o3))))
theorem o59 : Opn Go.Proofs.Try.prog 59 (List Mk.Call) := Opn.slice o33 (by kernel_rfl) (by kernel_rfl)
theorem o22 : Opn Go.Proofs.Try.prog 22 (List (List Mk.Call)) := Opn.slice o59 (by kernel_rfl) (by kernel_rfl)
theorem o83 : Opn Go.Proofs.Try.prog 83 Mk.Step := Opn.struct (β := Int × Int) (fun y : Int × Int => (⟨y.1, y.2⟩ : Mk.Step)) (fun _ _ _ h => h) (by kernel_rfl) rfl Go.Proofs.Try.underlying83 (OpnRow.cons rfl o3 (OpnRow.one rfl o3))
theorem o23 : Opn Go.Proofs.Try.prog 23 (List Mk.Step) := Opn.slice o83 (by kernel_rfl) (by kernel_rfl)
end Go.Gx
end
section
namespace Sp
set_option linter.unusedVariables false
set_option linter.unusedSimpArgs false
theorem G_on {α : Type} {p : Prop} [Decidable p] {k : Option α} (h : p) : G p k = k := by unfold G; rw [if_pos h]
theorem Cn_yes {α : Type} [Inhabited α] {p : Prop} [Decidable p] {k : Option α} (h : p) : Cn p k = k := by unfold Cn; rw [if_pos h]
theorem Cn_no {α : Type} [Inhabited α] {p : Prop} [Decidable p] {k : Option α} (h : ¬ p) : Cn p k = some default := by unfold Cn; rw [if_neg h]
def pos : List Mk.Write → Int → Int
  | [], _ => -1
  | w :: l, x => if w.At = x then 0 else (if pos l x < 0 then -1 else pos l x + 1)
theorem pos_range (l : List Mk.Write) (x : Int) : -1 ≤ pos l x ∧ pos l x < l.length := by
  induction l with
  | nil => simp [pos]
  | cons w l ih =>
    simp only [pos, List.length_cons]
    split
    · omega
    · split <;> omega
structure Rt (c : List Int) (l : List Mk.Write) : Prop where
  len : c.length = 11
  n : ix c 0 = l.length
  le : l.length ≤ 5
  ats : ∀ i : Nat, i < l.length → ix c (1 + 2 * (i : Int)) = (ix l i).At ∧ ix c (2 + 2 * (i : Int)) = (ix l i).N
  at1 : ∀ w ∈ l, 1 ≤ w.At ∧ w.At ≤ 255 ∧ -1073741824 ≤ w.N ∧ w.N ≤ 1073741824
  nodup : (l.map (·.At)).Nodup
theorem ix_drop {α : Type} [Inhabited α] (l : List α) (i : Nat) (h : i < l.length) : l.drop i = ix l i :: l.drop (i + 1) := by
  rw [List.drop_eq_getElem_cons h]
  simp [ix, h]
theorem rfind_loop {c : List Int} {l : List Mk.Write} (h : Rt c l) (k : Unit → Option Int) (hk : k () = some (-1)) (x : Int) : ∀ (m i : Nat), i + m = l.length → ∀ f : Nat, m < f →
    mkref1_Find_l1 k f c x (1 + 2 * (i : Int)) = some (if pos (l.drop i) x < 0 then -1 else pos (l.drop i) x + i) := by
  intro m
  induction m with
  | zero =>
    intro i hi f hf
    have hle := h.le
    have hlen := h.len
    have hn := h.n
    obtain ⟨f, rfl⟩ : ∃ g, f = g + 1 := ⟨f - 1, by omega⟩
    rw [mkref1_Find_l1, G_on (by omega), G_on (by unfold I; omega), G_on (by unfold I; omega), decide_eq_false (by omega), cond_false, hk, List.drop_of_length_le (by omega)]
    simp [pos]
  | succ m ih =>
    intro i hi f hf
    have hle := h.le
    have hlen := h.len
    have hn := h.n
    have hat := (h.ats i (by omega)).1
    obtain ⟨f, rfl⟩ : ∃ g, f = g + 1 := ⟨f - 1, by omega⟩
    rw [mkref1_Find_l1, G_on (by omega), G_on (by unfold I; omega), G_on (by unfold I; omega), decide_eq_true (by omega), cond_true, G_on (by omega), hat, ix_drop l i (by omega)]
    have ht : Int.tdiv (1 + 2 * (i : Int)) 2 = i := by
      rw [Int.tdiv_eq_ediv_of_nonneg (by omega)]; omega
    by_cases e : (ix l i).At = x
    · rw [decide_eq_true e, cond_true, ht, G_on (by unfold I; omega)]
      simp [e, pos]
    · rw [decide_eq_false e, cond_false, G_on (by unfold I; omega)]
      have := ih (i + 1) (by omega) f (by omega)
      rw [show (1 + 2 * (i : Int) + 2) = 1 + 2 * ((i + 1 : Nat) : Int) from by omega, this]
      simp only [pos, e, if_false]
      by_cases h2 : pos (l.drop (i + 1)) x < 0
      · simp [h2]
      · have := (pos_range (l.drop (i + 1)) x)
        rw [if_neg h2, if_neg h2, if_neg (by omega)]
        congr 1; omega
theorem rfind_eq {c : List Int} {l : List Mk.Write} (h : Rt c l) (x : Int) : mkref1_Find c x = some (pos l x) := by
  unfold mkref1_Find
  simp only [J]
  have hn := h.n
  have hp := pos_range l x
  have := rfind_loop h (fun _ => some (-1)) rfl x l.length 0 (by omega) ((1 + 2 * ix c 0 - 1).toNat + 1) (by omega)
  rw [show (1 + 2 * ((0 : Nat) : Int)) = 1 from rfl, List.drop_zero] at this
  rw [this]
  congr 1
  split <;> omega
theorem of_loop {c : List Int} {l : List Mk.Write} (h : Rt c l) (k : List Mk.Write → Option (List Mk.Write)) : ∀ (m i : Nat), i + m = l.length → ∀ (f : Nat), m < f → ∀ acc : List Mk.Write, acc.length = i →
    mkref1_Of_l1 k f c (1 + 2 * (i : Int)) acc = k (acc ++ l.drop i) := by
  intro m
  induction m with
  | zero =>
    intro i hi f hf acc ha
    have hle := h.le
    have hlen := h.len
    have hn := h.n
    obtain ⟨f, rfl⟩ : ∃ g, f = g + 1 := ⟨f - 1, by omega⟩
    rw [mkref1_Of_l1, G_on (by omega), G_on (by unfold I; omega), G_on (by unfold I; omega), decide_eq_false (by omega), cond_false, List.drop_of_length_le (by omega), List.append_nil]
  | succ m ih =>
    intro i hi f hf acc ha
    have hle := h.le
    have hlen := h.len
    have hn := h.n
    obtain ⟨hat, hnn⟩ := h.ats i (by omega)
    obtain ⟨f, rfl⟩ : ∃ g, f = g + 1 := ⟨f - 1, by omega⟩
    have e2 : (1 + 2 * (i : Int) + 1) = 2 + 2 * (i : Int) := by omega
    rw [mkref1_Of_l1, G_on (by omega), G_on (by unfold I; omega), G_on (by unfold I; omega), decide_eq_true (by omega), cond_true, G_on (by omega), G_on (by unfold I; omega), G_on (by omega), G_on (by simp; omega), G_on (by unfold I; omega), e2, hat, hnn,
      show (1 + 2 * (i : Int) + 2) = 1 + 2 * ((i + 1 : Nat) : Int) from by omega, ih (i + 1) (by omega) f (by omega) _ (by simp [ha]), ix_drop l i (by omega)]
    simp
theorem of_eq {c : List Int} {l : List Mk.Write} (h : Rt c l) : mkref1_Of c = some l := by
  unfold mkref1_Of
  simp only [J]
  have hn := h.n
  have := of_loop h (fun y => some y) l.length 0 (by omega) ((1 + 2 * ix c 0 - 1).toNat + 1) (by omega) [] rfl
  rw [show (1 + 2 * ((0 : Nat) : Int)) = 1 from rfl] at this
  rw [this]; simp
end Sp
end
section
namespace Sp
set_option linter.unusedVariables false
set_option linter.unusedSimpArgs false
def gt : List Mk.Write → Int → Int × Bool
  | [], _ => (0, false)
  | w :: l, x => if w.At = x then (w.N, true) else gt l x
def put (l : List Mk.Write) (x n : Int) : List Mk.Write := l.map fun w => if w.At = x then { w with N := n } else w
def has (l : List Mk.Write) (x : Int) : Bool := l.any fun w => decide (w.At = x)
def st (l : List Mk.Write) (x n : Int) : List Mk.Write := if has l x then put l x n else put l x n ++ [⟨x, n⟩]
def dp (l : List Mk.Write) (x : Int) : List Mk.Write := (l.map fun w => if w.At = x then ix l ((l.length : Int) - 1) else w).take (l.length - 1)
theorem get_loop (l : List Mk.Write) (x : Int) (hl : l.length ≤ 1000000000) (k : Unit → Option (Int × Bool)) (hk : k () = some (0, false)) : ∀ (m i : Nat), i + m = l.length → ∀ f : Nat, m < f →
    mkref1_get_l1 k f x l (l.length : Int) (i : Int) = some (gt (l.drop i) x) := by
  intro m
  induction m with
  | zero =>
    intro i hi f hf
    obtain ⟨f, rfl⟩ : ∃ g, f = g + 1 := ⟨f - 1, by omega⟩
    rw [mkref1_get_l1, decide_eq_false (by omega), cond_false, hk, List.drop_of_length_le (by omega)]
    rfl
  | succ m ih =>
    intro i hi f hf
    obtain ⟨f, rfl⟩ : ∃ g, f = g + 1 := ⟨f - 1, by omega⟩
    have e : ix l (i : Int) = ix l i := rfl
    rw [mkref1_get_l1, decide_eq_true (by omega), cond_true, G_on (by omega), ix_drop l i (by omega)]
    by_cases h : (ix l (i : Int)).At = x
    · rw [decide_eq_true h, cond_true]; simp only [gt, h, if_true]
    · rw [decide_eq_false h, cond_false, G_on (by unfold I; omega), show ((i : Int) + 1) = ((i + 1 : Nat) : Int) from by omega, ih (i + 1) (by omega) f (by omega)]
      simp only [gt, h, if_false]
theorem get_eq (l : List Mk.Write) (x : Int) (hl : l.length ≤ 1000000000) : mkref1_get l x = some (gt l x) := by
  unfold mkref1_get
  simp only [J]
  have := get_loop l x hl (fun _ => some (0, false)) rfl l.length 0 (by omega) (((l.length : Int) - 0).toNat + 1) (by omega)
  rw [show ((0 : Nat) : Int) = 0 from rfl, List.drop_zero] at this
  exact this
theorem set_loop (l : List Mk.Write) (x n : Int) (hl : l.length ≤ 1000000000) (k : Int → Int → Bool → List Mk.Write → Option (List Mk.Write)) : ∀ (m i : Nat), i + m = l.length → ∀ f : Nat, m < f → ∀ (done : Bool) (acc : List Mk.Write), acc.length = i →
    mkref1_set_l1 k f x n done l (l.length : Int) (i : Int) acc = k x n (done || has (l.drop i) x) (acc ++ put (l.drop i) x n) := by
  intro m
  induction m with
  | zero =>
    intro i hi f hf done acc ha
    obtain ⟨f, rfl⟩ : ∃ g, f = g + 1 := ⟨f - 1, by omega⟩
    rw [mkref1_set_l1, decide_eq_false (by omega), cond_false, List.drop_of_length_le (by omega)]
    simp [has, put]
  | succ m ih =>
    intro i hi f hf done acc ha
    obtain ⟨f, rfl⟩ : ∃ g, f = g + 1 := ⟨f - 1, by omega⟩
    rw [mkref1_set_l1, decide_eq_true (by omega), cond_true, G_on (by omega), ix_drop l i (by omega)]
    simp only [J]
    by_cases h : (ix l (i : Int)).At = x
    · rw [decide_eq_true h, cond_true, G_on (by simp; omega), G_on (by unfold I; omega), show ((i : Int) + 1) = ((i + 1 : Nat) : Int) from by omega, ih (i + 1) (by omega) f (by omega) _ _ (by simp [ha])]
      simp [has, put, h]
    · rw [decide_eq_false h, cond_false, G_on (by simp; omega), G_on (by unfold I; omega), show ((i : Int) + 1) = ((i + 1 : Nat) : Int) from by omega, ih (i + 1) (by omega) f (by omega) _ _ (by simp [ha])]
      simp [has, put, h]
theorem set_eq (l : List Mk.Write) (x n : Int) (hl : l.length ≤ 1000000000) : mkref1_set l x n = some (st l x n) := by
  unfold mkref1_set
  simp only [J]
  have := set_loop l x n hl (fun (x1_k1 : Int) (x2_k1 : Int) (x8_k1 : Bool) (y1007_k1 : List Mk.Write) => (bif (!x8_k1) then (
            G (((y1007_k1.length + ([({ At := x1_k1, N := x2_k1 } : Mk.Write)] : List Mk.Write).length) * 16 ≤ 140737488355328 ∧ y1007_k1.length + ([({ At := x1_k1, N := x2_k1 } : Mk.Write)] : List Mk.Write).length ≤ 9223372036854775807)) (
              some ((y1007_k1 ++ ([({ At := x1_k1, N := x2_k1 } : Mk.Write)] : List Mk.Write))))) else (
            some (y1007_k1)))) l.length 0 (by omega) (((l.length : Int) - 0).toNat + 1) (by omega) false [] rfl
  rw [show ((0 : Nat) : Int) = 0 from rfl, List.drop_zero] at this
  rw [this]
  unfold st
  cases h : has l x with
  | true => simp
  | false => simp [put]; rw [G_on (by omega)]
theorem drop_loop (l : List Mk.Write) (c : Mk.Call) (hl : l.length ≤ 1000000000) (k : Int → Mk.Reply → List Mk.Write → Option (List Mk.Write × Mk.Reply)) (n : Int) (r : Mk.Reply) : ∀ (m i : Nat), i + m = l.length → ∀ f : Nat, m < f → ∀ acc : List Mk.Write, acc.length ≤ i →
    mkref1_Do_l1 k f l n l (l.length : Int) (i : Int) c r acc = k n r (acc ++ ((l.drop i).map fun w => if w.At = c.Name then ix l ((l.length : Int) - 1) else w).take (l.length - 1 - i)) := by
  intro m
  induction m with
  | zero =>
    intro i hi f hf acc ha
    obtain ⟨f, rfl⟩ : ∃ g, f = g + 1 := ⟨f - 1, by omega⟩
    rw [mkref1_Do_l1, decide_eq_false (by omega), cond_false, List.drop_of_length_le (by omega)]
    simp
  | succ m ih =>
    intro i hi f hf acc ha
    obtain ⟨f, rfl⟩ : ∃ g, f = g + 1 := ⟨f - 1, by omega⟩
    rw [mkref1_Do_l1, decide_eq_true (by omega), cond_true]
    simp only [J]
    rw [G_on (by omega), ix_drop l i (by omega)]
    have step : ∀ (w : Mk.Write) (hw : w = if (ix l (i : Int)).At = c.Name then ix l ((l.length : Int) - 1) else ix l (i : Int)),
        (G (I ((l.length : Int) - 1)) (bif decide ((i : Int) < (l.length : Int) - 1) then G (((acc.length + [w].length) * 16 ≤ 140737488355328 ∧ acc.length + [w].length ≤ 9223372036854775807)) (G (I ((i : Int) + 1)) (mkref1_Do_l1 k f l n l (l.length : Int) ((i : Int) + 1) c r (acc ++ [w]))) else (G (I ((i : Int) + 1)) (mkref1_Do_l1 k f l n l (l.length : Int) ((i : Int) + 1) c r acc)))) =
          k n r (acc ++ ((ix l (i : Int) :: l.drop (i + 1)).map fun w => if w.At = c.Name then ix l ((l.length : Int) - 1) else w).take (l.length - 1 - i)) := by
      intro w hw
      rw [G_on (by unfold I; omega)]
      by_cases hlast : (i : Int) < (l.length : Int) - 1
      · rw [decide_eq_true hlast, cond_true, G_on (by simp; omega), G_on (by unfold I; omega), show ((i : Int) + 1) = ((i + 1 : Nat) : Int) from by omega, ih (i + 1) (by omega) f (by omega) _ (by simp; omega)]
        rw [show l.length - 1 - i = (l.length - 1 - (i + 1)) + 1 from by omega, List.map_cons, List.take_succ_cons, ← hw]
        simp
      · rw [decide_eq_false hlast, cond_false, G_on (by unfold I; omega), show ((i : Int) + 1) = ((i + 1 : Nat) : Int) from by omega, ih (i + 1) (by omega) f (by omega) _ (by omega)]
        rw [show l.length - 1 - i = 0 from by omega, show l.length - 1 - (i + 1) = 0 from by omega]
        simp
    by_cases h : (ix l (i : Int)).At = c.Name
    · rw [decide_eq_true h, cond_true, G_on (by unfold I; omega), G_on (by omega)]
      exact step _ (by rw [if_pos h])
    · rw [decide_eq_false h, cond_false]
      exact step _ (by rw [if_neg h])
theorem st_len (l : List Mk.Write) (x n : Int) : (st l x n).length ≤ l.length + 1 := by
  unfold st put
  split <;> simp
def doR (l : List Mk.Write) (c : Mk.Call) : List Mk.Write × Mk.Reply :=
  if c.Kind = 5 then (l, ⟨0, l.length⟩)
  else if c.Kind = 1 then (if (gt l c.Name).2 = false ∧ 5 ≤ (l.length : Int) then (l, ⟨9, 0⟩) else (st l c.Name c.N, ⟨0, (gt l c.Name).1⟩))
  else if (gt l c.Name).2 = false then (l, ⟨6, 0⟩)
  else if c.Kind = 2 then (l, ⟨0, (gt l c.Name).1⟩)
  else if c.Kind = 3 then (dp l c.Name, ⟨0, (gt l c.Name).1⟩)
  else if c.Kind = 4 then (if 1073741824 < (gt l c.Name).1 + c.N ∨ (gt l c.Name).1 + c.N < -1073741824 then (l, ⟨3, 0⟩) else (st l c.Name ((gt l c.Name).1 + c.N), ⟨0, (gt l c.Name).1 + c.N⟩))
  else if (gt l c.Other).2 = false then (l, ⟨6, 0⟩)
  else (st (st l c.Name (gt l c.Other).1) c.Other (gt l c.Name).1, ⟨0, (gt l c.Other).1⟩)
theorem do_eq (l : List Mk.Write) (c : Mk.Call) (hl : l.length ≤ 100000000) (hI : c.Kind = 4 → I ((gt l c.Name).1 + c.N)) : mkref1_Do l c = some (doR l c) := by
  have hs := fun x n => st_len l x n
  unfold mkref1_Do doR
  rw [get_eq l c.Name (by omega)]
  simp only [Option.bind_some, mkref1_Do_1]
  by_cases k5 : c.Kind = 5
  · simp [k5]
  rw [decide_eq_false k5, cond_false, if_neg k5]
  by_cases k1 : c.Kind = 1
  · rw [if_pos k1, decide_eq_true k1]
    simp only [Bool.true_and, cond_true, set_eq l c.Name c.N (by omega), Option.bind_some]
    by_cases h : (gt l c.Name).2 = false ∧ 5 ≤ (l.length : Int)
    · rw [if_pos h, h.1, decide_eq_true h.2]; rfl
    · rw [if_neg h]
      have : (!(gt l c.Name).2 && decide (5 ≤ (l.length : Int))) = false := by
        cases h1 : (gt l c.Name).2 with
        | true => rfl
        | false =>
          rw [decide_eq_false (fun h2 => h ⟨h1, h2⟩)]; rfl
      rw [this, cond_false]
  rw [if_neg k1, decide_eq_false k1]
  simp only [Bool.false_and, cond_false]
  by_cases h : (gt l c.Name).2 = false
  · rw [if_pos h, h]; rfl
  rw [if_neg h]
  have h' : (gt l c.Name).2 = true := by simpa using h
  rw [h']
  simp only [Bool.not_true, cond_false]
  by_cases k2 : c.Kind = 2
  · rw [if_pos k2, decide_eq_true k2, cond_true]
  rw [if_neg k2, decide_eq_false k2, cond_false]
  by_cases k3 : c.Kind = 3
  · rw [if_pos k3, decide_eq_true k3, cond_true]
    simp only [J]
    have := drop_loop l c (by omega) (fun (x6 : Int) (y5 : Mk.Reply) (y : List Mk.Write) => some (y, ({ Err := 0, N := x6 } : Mk.Reply))) (gt l c.Name).1 ⟨0, 0⟩ l.length 0 (by omega) (((l.length : Int) - 0).toNat + 1) (by omega) [] (Nat.le_refl _)
    rw [show ((0 : Nat) : Int) = 0 from rfl] at this
    rw [this]
    simp [dp]
  rw [if_neg k3, decide_eq_false k3, cond_false]
  by_cases k4 : c.Kind = 4
  · rw [if_pos k4, decide_eq_true k4, cond_true, G_on (hI k4), G_on (fun _ => hI k4)]
    by_cases hb : 1073741824 < (gt l c.Name).1 + c.N ∨ (gt l c.Name).1 + c.N < -1073741824
    · rw [if_pos hb]
      have : (decide (1073741824 < (gt l c.Name).1 + c.N) || decide ((gt l c.Name).1 + c.N < -1073741824)) = true := by simpa using hb
      rw [this]; rfl
    · rw [if_neg hb]
      have : (decide (1073741824 < (gt l c.Name).1 + c.N) || decide ((gt l c.Name).1 + c.N < -1073741824)) = false := by
        rw [Bool.or_eq_false_iff]
        exact ⟨decide_eq_false fun h => hb (.inl h), decide_eq_false fun h => hb (.inr h)⟩
      rw [this, cond_false, G_on (hI k4), set_eq _ _ _ (by omega), Option.bind_some, G_on (hI k4)]
  rw [if_neg k4, decide_eq_false k4, cond_false, get_eq l c.Other (by omega), Option.bind_some]
  by_cases ho : (gt l c.Other).2 = false
  · rw [if_pos ho, ho]; rfl
  have ho' : (gt l c.Other).2 = true := by simpa using ho
  rw [if_neg ho, ho', Bool.not_true, cond_false, set_eq _ _ _ (by omega), Option.bind_some, set_eq _ _ _ (by have := hs c.Name (gt l c.Other).1; omega), Option.bind_some]
end Sp
end
section
namespace Sp
set_option linter.unusedVariables false
set_option linter.unusedSimpArgs false
def cat (c : List Int) (i : Nat) : Int := ix c (1 + 2 * (i : Int))
def cnum (c : List Int) (i : Nat) : Int := ix c (2 + 2 * (i : Int))
def entries (c : List Int) : List Mk.Write := (List.range (ix c 0).toNat).map fun i => ⟨cat c i, cnum c i⟩
theorem ix_entries {c : List Int} {i : Nat} (hi : i < (ix c 0).toNat) : ix (entries c) i = ⟨cat c i, cnum c i⟩ := by
  unfold entries
  generalize (ix c 0).toNat = n at hi
  simp [ix, hi, cat, cnum]
end Sp
end
section
namespace Sp
set_option linter.unusedVariables false
set_option linter.unusedSimpArgs false
structure Nm (l : List Mk.Write) : Prop where
  le : l.length ≤ 5
  at1 : ∀ w ∈ l, 1 ≤ w.At ∧ w.At ≤ 255 ∧ -1073741824 ≤ w.N ∧ w.N ≤ 1073741824
  nodup : (l.map (·.At)).Nodup
theorem Rt.nm {c : List Int} {l : List Mk.Write} (h : Rt c l) : Nm l := ⟨h.le, h.at1, h.nodup⟩
structure CallOk (c : Mk.Call) : Prop where
  kind : 1 ≤ c.Kind ∧ c.Kind ≤ 6
  name : (c.Kind = 5 → c.Name = 0) ∧ (c.Kind ≠ 5 → 1 ≤ c.Name ∧ c.Name ≤ 255)
  other : (c.Kind = 6 → 1 ≤ c.Other ∧ c.Other ≤ 255) ∧ (c.Kind ≠ 6 → c.Other = 0)
  num : -1073741824 ≤ c.N ∧ c.N ≤ 1073741824 ∧ (c.Kind ≠ 1 → c.Kind ≠ 4 → c.N = 0)
theorem ix_mem {α : Type} [Inhabited α] (l : List α) (i : Int) (h : 0 ≤ i ∧ i < l.length) : ix l i ∈ l := by
  have : i.toNat < l.length := by omega
  simp [ix, this]
theorem ix_nat {α : Type} [Inhabited α] (l : List α) (i : Nat) (h : i < l.length) : ix l (i : Int) = l[i] := by simp [ix, h]
theorem ix_app {α : Type} [Inhabited α] (l m : List α) (i : Int) (h : 0 ≤ i ∧ i < l.length) : ix (l ++ m) i = ix l i := by
  have : i.toNat < l.length := by omega
  simp [ix, List.getElem?_append_left this]
theorem pos_spec (l : List Mk.Write) (x : Int) (h : 0 ≤ pos l x) : (ix l (pos l x)).At = x ∧ ∀ j : Nat, (j : Int) < pos l x → (ix l (j : Int)).At ≠ x := by
  induction l with
  | nil => simp [pos] at h
  | cons w l ih =>
    by_cases e : w.At = x
    · have e0 : pos (w :: l) x = 0 := by simp [pos, e]
      rw [e0]
      refine ⟨by simpa [ix] using e, fun j hj => by omega⟩
    · by_cases h2 : pos l x < 0
      · simp [pos, e, h2] at h
      · have h3 : pos (w :: l) x = pos l x + 1 := by simp [pos, e, h2]
        obtain ⟨h4, h5⟩ := ih (by omega)
        rw [h3]
        have h6 : (pos l x + 1).toNat = (pos l x).toNat + 1 := by omega
        refine ⟨?_, fun j hj => ?_⟩
        · simpa [ix, h6] using h4
        · cases j with
          | zero => simpa [ix] using e
          | succ j =>
            have := h5 j (by omega)
            simpa [ix] using this
theorem pos_neg (l : List Mk.Write) (x : Int) (h : pos l x < 0) : ∀ w ∈ l, w.At ≠ x := by
  induction l with
  | nil => simp
  | cons w l ih =>
    by_cases e : w.At = x
    · simp [pos, e] at h
    · by_cases h2 : pos l x < 0
      · intro v hv
        rcases List.mem_cons.1 hv with rfl | hv
        · exact e
        · exact ih h2 v hv
      · simp [pos, e, h2] at h; omega
theorem gt_eq (l : List Mk.Write) (x : Int) : gt l x = if pos l x < 0 then (0, false) else ((ix l (pos l x)).N, true) := by
  induction l with
  | nil => simp [gt, pos]
  | cons w l ih =>
    by_cases e : w.At = x
    · simp [gt, pos, e, ix]
    · by_cases h2 : pos l x < 0
      · simp [gt, pos, e, ih, h2]
      · have h6 : (pos l x + 1).toNat = (pos l x).toNat + 1 := by omega
        have h7 : ¬ (pos l x + 1 < 0) := by omega
        simp [gt, pos, e, ih, h2, ix, h6, h7]
theorem has_eq (l : List Mk.Write) (x : Int) : has l x = decide (0 ≤ pos l x) := by
  induction l with
  | nil => simp [has, pos]
  | cons w l ih =>
    by_cases e : w.At = x
    · simp [has, pos, e]
    · have : has (w :: l) x = has l x := by simp [has, e]
      rw [this, ih]
      by_cases h2 : pos l x < 0
      · simp [pos, e, h2]
      · have h7 : 0 ≤ pos l x + 1 := by omega
        have h8 : 0 ≤ pos l x := by omega
        simp [pos, e, h2, h7, h8]
theorem nodup_at {l : List Mk.Write} (h : (l.map (·.At)).Nodup) {i j : Nat} (hi : i < l.length) (hj : j < l.length) (e : l[i].At = l[j].At) : i = j := by
  have := List.nodup_iff_pairwise_ne.1 h
  rw [List.pairwise_map, List.pairwise_iff_getElem] at this
  rcases Nat.lt_trichotomy i j with h1 | h1 | h1
  · exact absurd e (this i j hi hj h1)
  · exact h1
  · exact absurd e.symm (this j i hj hi h1)
theorem map_at {l : List Mk.Write} (h : (l.map (·.At)).Nodup) (x : Int) (f : Mk.Write → Mk.Write) (hk : 0 ≤ pos l x) : (l.map fun w => if w.At = x then f w else w) = l.set (pos l x).toNat (f (ix l (pos l x))) := by
  have hr := pos_range l x
  have hs := (pos_spec l x hk).1
  have hp : (pos l x).toNat < l.length := by omega
  have hix : ix l (pos l x) = l[(pos l x).toNat] := by simp [ix, hp]
  rw [hix] at hs ⊢
  apply List.ext_getElem
  · simp
  · intro i h1 h2
    simp only [List.length_map] at h1
    rw [List.getElem_map, List.getElem_set]
    by_cases e : (pos l x).toNat = i
    · subst e; simp [hs]
    · rw [if_neg e, if_neg]
      intro e2
      exact e (nodup_at h hp h1 (hs.trans e2.symm))
theorem st_eq {l : List Mk.Write} (h : (l.map (·.At)).Nodup) (x n : Int) : st l x n = if pos l x < 0 then l ++ [⟨x, n⟩] else l.set (pos l x).toNat ⟨x, n⟩ := by
  unfold st
  rw [has_eq]
  by_cases hk : pos l x < 0
  · have h0 : ¬ (0 ≤ pos l x) := by omega
    have : put l x n = l := by
      unfold put
      conv => rhs; rw [← List.map_id l]
      apply List.map_congr_left
      intro w hw
      rw [if_neg (pos_neg l x hk w hw)]; rfl
    simp [hk, h0, this]
  · have h0 : 0 ≤ pos l x := by omega
    have hs := (pos_spec l x h0).1
    simp only [h0, hk, decide_true, if_true, if_false]
    unfold put
    rw [map_at h x (fun w => { w with N := n }) h0, hs]
theorem dp_eq {l : List Mk.Write} (h : (l.map (·.At)).Nodup) (x : Int) (hk : 0 ≤ pos l x) : dp l x = (l.set (pos l x).toNat (ix l ((l.length : Int) - 1))).take (l.length - 1) := by
  unfold dp
  rw [map_at h x (fun _ => ix l ((l.length : Int) - 1)) hk]
def doP (l : List Mk.Write) (c : Mk.Call) : List Mk.Write × Mk.Reply :=
  if c.Kind = 5 then (l, ⟨0, l.length⟩)
  else if c.Kind = 1 then
    (if pos l c.Name < 0 then (if 5 ≤ l.length then (l, ⟨9, 0⟩) else (l ++ [⟨c.Name, c.N⟩], ⟨0, 0⟩))
     else (l.set (pos l c.Name).toNat ⟨c.Name, c.N⟩, ⟨0, (ix l (pos l c.Name)).N⟩))
  else if pos l c.Name < 0 then (l, ⟨6, 0⟩)
  else if c.Kind = 2 then (l, ⟨0, (ix l (pos l c.Name)).N⟩)
  else if c.Kind = 3 then ((l.set (pos l c.Name).toNat (ix l ((l.length : Int) - 1))).take (l.length - 1), ⟨0, (ix l (pos l c.Name)).N⟩)
  else if c.Kind = 4 then
    (if 1073741824 < (ix l (pos l c.Name)).N + c.N ∨ (ix l (pos l c.Name)).N + c.N < -1073741824 then (l, ⟨3, 0⟩)
     else (l.set (pos l c.Name).toNat ⟨c.Name, (ix l (pos l c.Name)).N + c.N⟩, ⟨0, (ix l (pos l c.Name)).N + c.N⟩))
  else if pos l c.Other < 0 then (l, ⟨6, 0⟩)
  else ((l.set (pos l c.Name).toNat ⟨c.Name, (ix l (pos l c.Other)).N⟩).set (pos l c.Other).toNat ⟨c.Other, (ix l (pos l c.Name)).N⟩, ⟨0, (ix l (pos l c.Other)).N⟩)
theorem pos_map {l m : List Mk.Write} (h : l.map (·.At) = m.map (·.At)) (x : Int) : pos l x = pos m x := by
  induction l generalizing m with
  | nil => cases m with
    | nil => rfl
    | cons w m => simp at h
  | cons w l ih =>
    cases m with
    | nil => simp at h
    | cons v m =>
      simp only [List.map_cons, List.cons.injEq] at h
      simp only [pos, h.1, ih h.2]
theorem set_names {l : List Mk.Write} {k : Int} {w : Mk.Write} (hk : 0 ≤ k ∧ k < l.length) (h : (ix l k).At = w.At) : (l.set k.toNat w).map (·.At) = l.map (·.At) := by
  have hp : k.toNat < l.length := by omega
  have hix : ix l k = l[k.toNat] := by simp [ix, hp]
  rw [hix] at h
  rw [List.map_set, ← h]
  apply List.ext_getElem
  · simp
  · intro i h1 h2
    rw [List.getElem_set]
    by_cases e : k.toNat = i
    · subst e; simp
    · rw [if_neg e]
theorem Nm.call {l : List Mk.Write} (h : Nm l) {x : Int} (hk : 0 ≤ pos l x) : -1073741824 ≤ (ix l (pos l x)).N ∧ (ix l (pos l x)).N ≤ 1073741824 := by
  have hr := pos_range l x
  have := h.at1 _ (ix_mem l (pos l x) ⟨hk, hr.2⟩)
  omega
theorem do_eqP {l : List Mk.Write} {c : Mk.Call} (h : Nm l) (hc : CallOk c) : mkref1_Do l c = some (doP l c) := by
  have hle := h.le
  have hnum := hc.num
  rw [do_eq l c (by omega)]
  · unfold doR doP
    simp only [gt_eq]
    by_cases k5 : c.Kind = 5
    · simp [k5]
    simp only [if_neg k5]
    by_cases hp : pos l c.Name < 0
    · simp only [hp, if_true, true_and, st_eq h.nodup]
      by_cases k1 : c.Kind = 1
      · by_cases h5 : 5 ≤ l.length
        · have : (5 : Int) ≤ l.length := by omega
          simp [k1, h5, this]
        · have : ¬ (5 : Int) ≤ l.length := by omega
          simp [k1, h5, this]
      · simp [k1]
    · have hr := pos_range l c.Name
      have hp0 : 0 ≤ pos l c.Name := by omega
      simp only [hp, if_false, Bool.true_eq_false, false_and, dp_eq h.nodup c.Name hp0, st_eq h.nodup c.Name]
      by_cases k1 : c.Kind = 1
      · simp [k1]
      by_cases k2 : c.Kind = 2
      · simp [k1, k2]
      by_cases k3 : c.Kind = 3
      · simp [k1, k2, k3]
      by_cases k4 : c.Kind = 4
      · simp [k1, k2, k3, k4]
      simp only [k1, k2, k3, k4, if_false]
      by_cases ho : pos l c.Other < 0
      · simp [ho]
      · have hs := (pos_spec l c.Name hp0).1
        have hnames := set_names (l := l) (k := pos l c.Name) (w := ⟨c.Name, (ix l (pos l c.Other)).N⟩) ⟨hp0, hr.2⟩ hs
        simp only [ho, if_false, Bool.true_eq_false]
        rw [st_eq (by rw [hnames]; exact h.nodup), pos_map hnames, if_neg ho]
  · intro k4
    rw [gt_eq]
    by_cases hp : pos l c.Name < 0
    · simp only [hp, if_true]; unfold I; omega
    · have := h.call (x := c.Name) (by omega)
      simp only [hp, if_false]; unfold I; omega
def wcall (c : Mk.Call) : Int :=
  if c.Kind < 1 ∨ 6 < c.Kind then 1
  else if (c.Kind = 5 ∧ c.Name ≠ 0) ∨ (c.Kind ≠ 5 ∧ (c.Name < 1 ∨ 255 < c.Name)) ∨ (c.Kind = 6 ∧ (c.Other < 1 ∨ 255 < c.Other)) ∨ (c.Kind ≠ 6 ∧ c.Other ≠ 0) then 7
  else if c.N < -1073741824 ∨ 1073741824 < c.N ∨ (c.Kind ≠ 1 ∧ c.Kind ≠ 4 ∧ c.N ≠ 0) then 3 else 0
theorem wrongCall_eq (c : Mk.Call) : mkref1_WrongCall c = some (wcall c) := by
  unfold mkref1_WrongCall wcall
  simp only [J, G, I, Bool.cond_eq_ite, Bool.or_eq_true, decide_eq_true_eq]
  repeat' split
  all_goals first | rfl | omega
theorem wcall_ok (c : Mk.Call) : wcall c = 0 ↔ CallOk c := by
  unfold wcall
  constructor
  · intro h
    repeat' split at h
    all_goals first | (exfalso; omega) | (constructor <;> omega)
  · intro h
    have h1 := h.kind
    have h2 := h.name
    have h3 := h.other
    have h4 := h.num
    repeat' split
    all_goals first | rfl | omega
theorem G_true {α : Type} (k : Option α) : G True k = k := G_on trivial
end Sp
end
section
namespace Sp
set_option linter.unusedVariables false
set_option linter.unusedSimpArgs false
set_option maxHeartbeats 1000000
def planR (l : List Mk.Write) (c : Mk.Call) : List Mk.Write × Mk.Reply :=
  if c.Kind = 5 then ([], ⟨0, l.length⟩)
  else if pos l c.Name < 0 then
    (if c.Kind = 1 then (if 5 ≤ (l.length : Int) then ([], ⟨9, 0⟩) else ([⟨1 + 2 * (l.length : Int), c.Name⟩, ⟨2 + 2 * (l.length : Int), c.N⟩, ⟨0, (l.length : Int) + 1⟩], ⟨0, 0⟩)) else ([], ⟨6, 0⟩))
  else if c.Kind = 1 then ([⟨2 + 2 * pos l c.Name, c.N⟩], ⟨0, (ix l (pos l c.Name)).N⟩)
  else if c.Kind = 3 then
    (if pos l c.Name < (l.length : Int) - 1 then [⟨1 + 2 * pos l c.Name, (ix l ((l.length : Int) - 1)).At⟩, ⟨2 + 2 * pos l c.Name, (ix l ((l.length : Int) - 1)).N⟩, ⟨0, (l.length : Int) - 1⟩] else [⟨0, (l.length : Int) - 1⟩], ⟨0, (ix l (pos l c.Name)).N⟩)
  else if c.Kind = 4 then
    (if 1073741824 < (ix l (pos l c.Name)).N + c.N ∨ (ix l (pos l c.Name)).N + c.N < -1073741824 then ([], ⟨3, 0⟩) else ([⟨2 + 2 * pos l c.Name, (ix l (pos l c.Name)).N + c.N⟩], ⟨0, (ix l (pos l c.Name)).N + c.N⟩))
  else if c.Kind = 6 then
    (if pos l c.Other < 0 then ([], ⟨6, 0⟩) else ([⟨2 + 2 * pos l c.Name, (ix l (pos l c.Other)).N⟩, ⟨2 + 2 * pos l c.Other, (ix l (pos l c.Name)).N⟩], ⟨0, (ix l (pos l c.Other)).N⟩))
  else ([], ⟨0, (ix l (pos l c.Name)).N⟩)
theorem Rt.at (c : List Int) (l : List Mk.Write) (h : Rt c l) (k : Int) (hk : 0 ≤ k ∧ k < l.length) : ix c (1 + 2 * k) = (ix l k).At ∧ ix c (2 + 2 * k) = (ix l k).N := by
  have := h.ats k.toNat (by omega)
  rwa [show ((k.toNat : Nat) : Int) = k from by omega] at this
end Sp
end
section
namespace Sp
set_option linter.unusedVariables false
set_option linter.unusedSimpArgs false
set_option maxHeartbeats 1000000
theorem sameWrites_loop (a b : List Mk.Write) (hab : a.length = b.length) (hl : a.length ≤ 9223372036854775807) (k : Unit → Option Bool) (hk : k () = some true) : ∀ (m i : Nat), i + m = a.length → ∀ f : Nat, m < f →
    mkref1_SameWrites_l1 k f a b (a.length : Int) (i : Int) = some (decide (a.drop i = b.drop i)) := by
  intro m
  induction m with
  | zero =>
    intro i hi f hf
    obtain ⟨f, rfl⟩ : ∃ g, f = g + 1 := ⟨f - 1, by omega⟩
    rw [mkref1_SameWrites_l1, decide_eq_false (by omega), cond_false, hk, List.drop_of_length_le (by omega), List.drop_of_length_le (by omega)]
    simp
  | succ m ih =>
    intro i hi f hf
    obtain ⟨f, rfl⟩ : ∃ g, f = g + 1 := ⟨f - 1, by omega⟩
    rw [mkref1_SameWrites_l1, decide_eq_true (by omega), cond_true, G_on (by omega), G_on (by omega), ix_drop a i (by omega), ix_drop b i (by omega)]
    by_cases h : ix a (i : Int) = ix b (i : Int)
    · rw [decide_eq_true h, Bool.not_true, cond_false, G_on (by unfold I; omega), show ((i : Int) + 1) = ((i + 1 : Nat) : Int) from by omega, ih (i + 1) (by omega) f (by omega)]
      simp [h]
    · rw [decide_eq_false h, Bool.not_false, cond_true]
      simp [h]
theorem sameWrites_eq (a b : List Mk.Write) (hl : a.length ≤ 9223372036854775807) : mkref1_SameWrites a b = some (decide (a = b)) := by
  unfold mkref1_SameWrites
  simp only [J]
  by_cases h : a.length = b.length
  · rw [decide_eq_true (by omega), Bool.not_true, cond_false]
    have := sameWrites_loop a b h hl (fun _ => some true) rfl a.length 0 (by omega) (((a.length : Int) - 0).toNat + 1) (by omega)
    rw [show ((0 : Nat) : Int) = 0 from rfl] at this
    rw [this]; simp
  · rw [decide_eq_false (by omega), Bool.not_false, cond_true]
    congr 1
    exact (decide_eq_false fun e => h (by rw [e])).symm
theorem ix_set_same {l : List Mk.Write} (k : Int) (w : Mk.Write) (hk : 0 ≤ k ∧ k < l.length) : ix (l.set k.toNat w) k = w := by
  have : k.toNat < l.length := by omega
  simp [ix, this]
theorem ix_set_other {l : List Mk.Write} (k j : Int) (w : Mk.Write) (hk : 0 ≤ k ∧ k < l.length) (hj : 0 ≤ j) (hkj : k ≠ j) : ix (l.set k.toNat w) j = ix l j := by
  have : k.toNat ≠ j.toNat := by omega
  simp [ix, List.getElem?_set, this]
theorem ix_take {l : List Mk.Write} (n : Nat) (j : Int) (hj : 0 ≤ j ∧ j < n) : ix (l.take n) j = ix l j := by
  have : j.toNat < n := by omega
  simp [ix, List.getElem?_take, this]
theorem rplan_eq {c : List Int} {l : List Mk.Write} {call : Mk.Call} (h : Rt c l) (hc : CallOk call) : mkref1_Plan c call = some (planR l call) := by
  have hle := h.le
  have hlen := h.len
  have hn := h.n
  have hr := pos_range l call.Name
  have ho := pos_range l call.Other
  have hnum := hc.num
  have hk := hc.kind
  unfold mkref1_Plan planR
  rw [of_eq h, Option.bind_some, do_eqP h.nm hc, Option.bind_some]
  have kk : call.Kind = 1 ∨ call.Kind = 2 ∨ call.Kind = 3 ∨ call.Kind = 4 ∨ call.Kind = 5 ∨ call.Kind = 6 := by omega
  by_cases hp : pos l call.Name < 0
  · by_cases h5 : 5 ≤ l.length
    · have h5' : 5 ≤ (l.length : Int) := by omega
      rcases kk with k | k | k | k | k | k
      all_goals simp (disch := first | omega | (unfold I; omega)) [doP, k, hp, h5, h5', ↓G_on, ↓Bool.cond_eq_ite, ↓reduceIte, J, rfind_eq h]
    · have h5' : ¬ 5 ≤ (l.length : Int) := by omega
      rcases kk with k | k | k | k | k | k
      · have e1 : 2 * ((l.length : Int) + 1) - 1 = 1 + 2 * (l.length : Int) := by omega
        have e2 : 2 * ((l.length : Int) + 1) = 2 + 2 * (l.length : Int) := by omega
        have e3 : 2 + 2 * (l.length : Int) - 1 = 1 + 2 * (l.length : Int) := by omega
        have e4 : ¬ ((l.length : Int) + 1 = l.length) := by omega
        simp (disch := first | omega | (simp; omega) | (unfold I; omega) | (unfold I; simp; omega)) [doP, k, hp, h5, h5', ↓G_on, ↓Bool.cond_eq_ite, ↓reduceIte, J, rfind_eq h, e1, e2, e3, e4, G_true]
      all_goals simp (disch := first | omega | (unfold I; omega)) [doP, k, hp, h5, h5', ↓G_on, ↓Bool.cond_eq_ite, ↓reduceIte, J, rfind_eq h]
  · have hp0 : 0 ≤ pos l call.Name := by omega
    have hs := (pos_spec l call.Name hp0).1
    have hlt : l.length - 1 + 1 = l.length := by omega
    rcases kk with k | k | k | k | k | k
    · have hx := ix_set_same (l := l) (pos l call.Name) ⟨call.Name, call.N⟩ ⟨hp0, hr.2⟩
      simp (disch := first | omega | (simp; omega) | (unfold I; omega)) [doP, k, hp, ↓G_on, ↓Bool.cond_eq_ite, ↓reduceIte, J, rfind_eq h, hx]
    · simp (disch := first | omega | (simp; omega) | (unfold I; omega)) [doP, k, hp, ↓G_on, ↓Bool.cond_eq_ite, ↓reduceIte, J, rfind_eq h]
    · have hx : pos l call.Name < (l.length : Int) - 1 → ix ((l.set (pos l call.Name).toNat (ix l ((l.length : Int) - 1))).take (l.length - 1)) (pos l call.Name) = ix l ((l.length : Int) - 1) := by
        intro hl
        rw [ix_take _ _ (by omega), ix_set_same _ _ ⟨hp0, hr.2⟩]
      have hd : doP l call = ((l.set (pos l call.Name).toNat (ix l ((l.length : Int) - 1))).take (l.length - 1), ⟨0, (ix l (pos l call.Name)).N⟩) := by simp [doP, k, hp]
      have ht : (((l.set (pos l call.Name).toNat (ix l ((l.length : Int) - 1))).take (l.length - 1)).length : Int) = (l.length : Int) - 1 := by simp; omega
      rw [hd]
      revert ht hx
      generalize (l.set (pos l call.Name).toNat (ix l ((l.length : Int) - 1))).take (l.length - 1) = t
      intro hx ht
      have e4 : ¬ ((l.length : Int) - 1 = l.length) := by omega
      by_cases hl : pos l call.Name < (l.length : Int) - 1
      · simp (disch := first | omega | (simp; omega) | (unfold I; omega)) [k, hp, ↓G_on, ↓Bool.cond_eq_ite, ↓reduceIte, J, rfind_eq h, hx hl, hl, ht, e4, G_true]
      · simp (disch := first | omega | (simp; omega) | (unfold I; omega)) [k, hp, ↓G_on, ↓Bool.cond_eq_ite, ↓reduceIte, J, rfind_eq h, hl, ht, e4, G_true]
    · generalize hx : (ix l (pos l call.Name)).N + call.N = x
      have hy := ix_set_same (l := l) (pos l call.Name) ⟨call.Name, x⟩ ⟨hp0, hr.2⟩
      by_cases l1 : x < -1073741824
      · simp (disch := first | omega | (simp; omega) | (unfold I; omega)) [doP, k, hp, ↓G_on, ↓Bool.cond_eq_ite, ↓reduceIte, J, rfind_eq h, hx, l1]
      · by_cases l2 : 1073741824 < x
        · simp (disch := first | omega | (simp; omega) | (unfold I; omega)) [doP, k, hp, ↓G_on, ↓Bool.cond_eq_ite, ↓reduceIte, J, rfind_eq h, hx, l1, l2]
        · simp (disch := first | omega | (simp; omega) | (unfold I; omega)) [doP, k, hp, ↓G_on, ↓Bool.cond_eq_ite, ↓reduceIte, J, rfind_eq h, hx, l1, l2, hy]
    · simp (disch := first | omega | (simp; omega) | (unfold I; omega)) [doP, k, hp, ↓G_on, ↓Bool.cond_eq_ite, ↓reduceIte, J, rfind_eq h]
    · by_cases hl : pos l call.Other < 0
      · simp (disch := first | omega | (simp; omega) | (unfold I; omega)) [doP, k, hp, ↓G_on, ↓Bool.cond_eq_ite, ↓reduceIte, J, rfind_eq h, hl]
      · have ho0 : 0 ≤ pos l call.Other := by omega
        have hso := (pos_spec l call.Other ho0).1
        have hy := ix_set_same (l := l.set (pos l call.Name).toNat ⟨call.Name, (ix l (pos l call.Other)).N⟩) (pos l call.Other) ⟨call.Other, (ix l (pos l call.Name)).N⟩ ⟨ho0, by simp; omega⟩
        have hz : (ix ((l.set (pos l call.Name).toNat ⟨call.Name, (ix l (pos l call.Other)).N⟩).set (pos l call.Other).toNat ⟨call.Other, (ix l (pos l call.Name)).N⟩) (pos l call.Name)).N = (ix l (pos l call.Other)).N := by
          by_cases e : pos l call.Other = pos l call.Name
          · simp only [e] at hy ⊢; rw [hy]
          · rw [ix_set_other _ _ _ ⟨ho0, by simp; omega⟩ hp0 e, ix_set_same _ _ ⟨hp0, hr.2⟩]
        simp (disch := first | omega | (simp; omega) | (unfold I; omega)) [doP, k, hp, ↓G_on, ↓Bool.cond_eq_ite, ↓reduceIte, J, rfind_eq h, hl, hy, hz]
theorem planR_len (l : List Mk.Write) (c : Mk.Call) : (planR l c).1.length ≤ 3 := by
  unfold planR
  repeat' split
  all_goals simp
end Sp
end
section
namespace Sp
set_option linter.unusedVariables false
set_option linter.unusedSimpArgs false
set_option maxHeartbeats 1000000
def wr (c : List Int) (w : Mk.Write) : List Int := if 0 ≤ w.At ∧ w.At < c.length then c.set w.At.toNat w.N else c
def wrs (c : List Int) (l : List Mk.Write) : List Int := l.foldl wr c
theorem wr_len (c : List Int) (w : Mk.Write) : (wr c w).length = c.length := by unfold wr; split <;> simp
theorem wrs_len (c : List Int) (l : List Mk.Write) : (wrs c l).length = c.length := by
  induction l generalizing c with
  | nil => rfl
  | cons w l ih => rw [wrs, List.foldl_cons, ← wrs, ih, wr_len]
theorem wrs_cons (c : List Int) (w : Mk.Write) (l : List Mk.Write) : wrs c (w :: l) = wrs (wr c w) l := rfl
theorem wrs_append (c : List Int) (l m : List Mk.Write) : wrs c (l ++ m) = wrs (wrs c l) m := by simp [wrs]
theorem ix_wr (c : List Int) (w : Mk.Write) (i : Int) (hi : 0 ≤ i ∧ i < c.length) : ix (wr c w) i = if w.At = i then w.N else ix c i := by
  unfold wr
  by_cases h : w.At = i
  · subst h
    have : w.At.toNat < c.length := by omega
    simp [hi, ix, this]
  · rw [if_neg h]
    split
    · have : w.At.toNat ≠ i.toNat := by omega
      simp [ix, List.getElem?_set, this]
    · rfl
def cellBehind (i : Int) (n : Int) (l : List Mk.Write) : Int := l.foldl (fun n w => if w.At = i then w.N else n) n
theorem ix_wrs (c : List Int) (l : List Mk.Write) (i : Int) (hi : 0 ≤ i ∧ i < c.length) : ix (wrs c l) i = cellBehind i (ix c i) l := by
  induction l generalizing c with
  | nil => rfl
  | cons w l ih =>
    rw [wrs_cons, ih _ (by rw [wr_len]; exact hi), ix_wr _ _ _ hi]
    rfl
theorem ix_ext {c d : List Int} (hl : c.length = d.length) (h : ∀ i : Nat, i < c.length → ix c (i : Int) = ix d (i : Int)) : c = d := by
  apply List.ext_getElem hl
  intro i h1 h2
  have := h i h1
  rwa [ix_nat c i h1, ix_nat d i h2] at this
theorem rset_loop2 (l : List Mk.Write) (hl : l.length ≤ 9223372036854775807) (cs : List Int) (k : List Mk.Write → Int → List Int → Int → Int → List Int → Option (List Int)) (i cn ci : Int) (acc : List Int) : ∀ (m j : Nat), j + m = l.length → ∀ f : Nat, m < f → ∀ n : Int,
    mkref1_Set_l2 k f l i n cs cn ci l (l.length : Int) (j : Int) acc = k l (cellBehind i n (l.drop j)) cs cn ci acc := by
  intro m
  induction m with
  | zero =>
    intro j hj f hf n
    obtain ⟨f, rfl⟩ : ∃ g, f = g + 1 := ⟨f - 1, by omega⟩
    rw [mkref1_Set_l2, decide_eq_false (by omega), cond_false, List.drop_of_length_le (by omega)]
    rfl
  | succ m ih =>
    intro j hj f hf n
    obtain ⟨f, rfl⟩ : ∃ g, f = g + 1 := ⟨f - 1, by omega⟩
    rw [mkref1_Set_l2, decide_eq_true (by omega), cond_true]
    simp only [J]
    rw [G_on (by omega), ix_drop l j (by omega)]
    by_cases h : (ix l (j : Int)).At = i
    · rw [decide_eq_true h, cond_true, G_on (by unfold I; omega), show ((j : Int) + 1) = ((j + 1 : Nat) : Int) from by omega, ih (j + 1) (by omega) f (by omega)]
      simp [cellBehind, h]
    · rw [decide_eq_false h, cond_false, G_on (by unfold I; omega), show ((j : Int) + 1) = ((j + 1 : Nat) : Int) from by omega, ih (j + 1) (by omega) f (by omega)]
      simp [cellBehind, h]
theorem rset_loop1 (c : List Int) (hc : c.length * 8 ≤ 140737488355328) (l : List Mk.Write) (hl : l.length ≤ 9223372036854775807) (k : List Int → Option (List Int)) : ∀ (m i : Nat), i + m = c.length → ∀ f : Nat, m < f → ∀ acc : List Int, acc.length = i →
    mkref1_Set_l1 k f l c (c.length : Int) (i : Int) acc = k (acc ++ (wrs c l).drop i) := by
  intro m
  induction m with
  | zero =>
    intro i hi f hf acc ha
    obtain ⟨f, rfl⟩ : ∃ g, f = g + 1 := ⟨f - 1, by omega⟩
    rw [mkref1_Set_l1, decide_eq_false (by omega), cond_false, List.drop_of_length_le (by rw [wrs_len]; omega), List.append_nil]
  | succ m ih =>
    intro i hi f hf acc ha
    obtain ⟨f, rfl⟩ : ∃ g, f = g + 1 := ⟨f - 1, by omega⟩
    rw [mkref1_Set_l1, decide_eq_true (by omega), cond_true]
    simp only [J]
    rw [G_on (by omega)]
    have h2 := rset_loop2 l hl c (fun x1 x7 x10 x11 x12 y => G (((y.length + ([x7] : List Int).length) * 8 ≤ 140737488355328 ∧ y.length + ([x7] : List Int).length ≤ 9223372036854775807)) (G (I (x12 + 1)) (mkref1_Set_l1 k f x1 x10 x11 (x12 + 1) (y ++ [x7])))) (i : Int) (c.length : Int) (i : Int) acc l.length 0 (by omega) (((l.length : Int) - 0).toNat + 1) (by omega) (ix c (i : Int))
    rw [show ((0 : Nat) : Int) = 0 from rfl] at h2
    rw [h2, G_on (by simp; omega), G_on (by unfold I; omega), show ((i : Int) + 1) = ((i + 1 : Nat) : Int) from by omega, ih (i + 1) (by omega) f (by omega) _ (by simp [ha]), ix_drop (wrs c l) i (by rw [wrs_len]; omega), ix_wrs c l i (by omega)]
    simp
theorem rset_eq (c : List Int) (hc : c.length * 8 ≤ 140737488355328) (l : List Mk.Write) (hl : l.length ≤ 9223372036854775807) : mkref1_Set c l = some (wrs c l) := by
  unfold mkref1_Set
  simp only [J]
  have := rset_loop1 c hc l hl (fun y => some y) c.length 0 (by omega) (((c.length : Int) - 0).toNat + 1) (by omega) [] rfl
  rw [show ((0 : Nat) : Int) = 0 from rfl] at this
  rw [this]; simp
theorem rset2_loop (l : List Mk.Write) (hl : l.length ≤ 9223372036854775807) (k : List Int → Option (List Int)) : ∀ (m i : Nat), i + m = l.length → ∀ f : Nat, m < f → ∀ c : List Int, c.length * 8 ≤ 140737488355328 →
    mkref1_Set2_l1 k f c l (l.length : Int) (i : Int) = k (wrs c (l.drop i)) := by
  intro m
  induction m with
  | zero =>
    intro i hi f hf c hc
    obtain ⟨f, rfl⟩ : ∃ g, f = g + 1 := ⟨f - 1, by omega⟩
    rw [mkref1_Set2_l1, decide_eq_false (by omega), cond_false, List.drop_of_length_le (by omega)]; rfl
  | succ m ih =>
    intro i hi f hf c hc
    obtain ⟨f, rfl⟩ : ∃ g, f = g + 1 := ⟨f - 1, by omega⟩
    rw [mkref1_Set2_l1, decide_eq_true (by omega), cond_true, G_on (by omega), rset_eq c hc _ (by simp), Option.bind_some, G_on (by unfold I; omega), show ((i : Int) + 1) = ((i + 1 : Nat) : Int) from by omega, ih (i + 1) (by omega) f (by omega) _ (by rw [wrs_len]; exact hc), ix_drop l i (by omega)]
    rfl
theorem rset2_eq (c : List Int) (hc : c.length * 8 ≤ 140737488355328) (l : List Mk.Write) (hl : l.length ≤ 9223372036854775807) : mkref1_Set2 c l = some (wrs c l) := by
  unfold mkref1_Set2
  simp only [J]
  have := rset2_loop l hl (fun y => some y) l.length 0 (by omega) (((l.length : Int) - 0).toNat + 1) (by omega) c hc
  rw [show ((0 : Nat) : Int) = 0 from rfl] at this
  rw [this]; simp
theorem entries_of {c : List Int} {l : List Mk.Write} (h : Rt c l) : entries c = l := by
  unfold entries
  rw [h.n]
  apply List.ext_getElem
  · simp
  · intro i h1 h2
    simp only [Int.toNat_natCast, List.length_map, List.length_range] at h1
    have := h.ats i h1
    simp only [Int.toNat_natCast, List.getElem_map, List.getElem_range, cat, cnum, this, ix_nat l i h1]
end Sp
end
section
namespace Sp
set_option linter.unusedVariables false
set_option linter.unusedSimpArgs false
set_option maxHeartbeats 1000000
theorem ix_set {l : List Mk.Write} (k j : Int) (w : Mk.Write) (hk : 0 ≤ k ∧ k < l.length) (hj : 0 ≤ j) : ix (l.set k.toNat w) j = if k = j then w else ix l j := by
  by_cases e : k = j
  · subst e; rw [if_pos rfl, ix_set_same k w hk]
  · rw [if_neg e, ix_set_other k j w hk hj e]
theorem ix_snoc {l : List Mk.Write} (w : Mk.Write) (j : Int) (hj : 0 ≤ j ∧ j ≤ l.length) : ix (l ++ [w]) j = if j = l.length then w else ix l j := by
  by_cases e : j = l.length
  · subst e; simp [ix]
  · rw [if_neg e, ix_app l _ j (by omega)]
theorem mem_ix {l : List Mk.Write} {w : Mk.Write} (h : w ∈ l) : ∃ i : Nat, i < l.length ∧ ix l (i : Int) = w := by
  obtain ⟨i, hi, rfl⟩ := List.mem_iff_getElem.1 h
  exact ⟨i, hi, ix_nat l i hi⟩
theorem Nm.ix {l : List Mk.Write} (h : Nm l) (i : Int) (hi : 0 ≤ i ∧ i < l.length) : 1 ≤ (ix l i).At ∧ (ix l i).At ≤ 255 ∧ -1073741824 ≤ (ix l i).N ∧ (ix l i).N ≤ 1073741824 := h.at1 _ (ix_mem l i hi)
theorem nm_of {l : List Mk.Write} (hle : l.length ≤ 5) (h1 : ∀ i : Nat, i < l.length → 1 ≤ (ix l (i : Int)).At ∧ (ix l (i : Int)).At ≤ 255 ∧ -1073741824 ≤ (ix l (i : Int)).N ∧ (ix l (i : Int)).N ≤ 1073741824)
    (h2 : ∀ i j : Nat, i < j → j < l.length → (ix l (i : Int)).At ≠ (ix l (j : Int)).At) : Nm l := by
  refine ⟨hle, fun w hw => ?_, ?_⟩
  · obtain ⟨i, hi, rfl⟩ := mem_ix hw
    exact h1 i hi
  · rw [List.nodup_iff_pairwise_ne, List.pairwise_map, List.pairwise_iff_getElem]
    intro i j hi hj hij
    have := h2 i j hij hj
    rwa [ix_nat l i hi, ix_nat l j hj] at this
theorem Nm.ne {l : List Mk.Write} (h : Nm l) {i j : Nat} (hi : i < l.length) (hj : j < l.length) (hij : i ≠ j) : (Sp.ix l (i : Int)).At ≠ (Sp.ix l (j : Int)).At := by
  rw [ix_nat l i hi, ix_nat l j hj]
  exact fun e => hij (nodup_at h.nodup hi hj e)
theorem nm_set {l : List Mk.Write} (h : Nm l) {k : Int} (hk : 0 ≤ k ∧ k < l.length) {w : Mk.Write} (hw : (Sp.ix l k).At = w.At) (hn : -1073741824 ≤ w.N ∧ w.N ≤ 1073741824) : Nm (l.set k.toNat w) := by
  refine ⟨by simpa using h.le, fun v hv => ?_, by rw [set_names hk hw]; exact h.nodup⟩
  rcases List.mem_or_eq_of_mem_set hv with hv | rfl
  · exact h.at1 v hv
  · have := h.ix k hk
    rw [hw] at this
    exact ⟨this.1, this.2.1, hn⟩
theorem nm_drop {l : List Mk.Write} (h : Nm l) {k : Int} (hk : 0 ≤ k ∧ k < l.length) : Nm ((l.set k.toNat (Sp.ix l ((l.length : Int) - 1))).take (l.length - 1)) := by
  have hle := h.le
  have hl : ((l.set k.toNat (Sp.ix l ((l.length : Int) - 1))).take (l.length - 1)).length = l.length - 1 := by simp
  have hix : ∀ i : Nat, i < l.length - 1 → Sp.ix ((l.set k.toNat (Sp.ix l ((l.length : Int) - 1))).take (l.length - 1)) (i : Int) = if k = i then Sp.ix l ((l.length - 1 : Nat) : Int) else Sp.ix l (i : Int) := by
    intro i hi
    rw [ix_take _ _ (by omega), ix_set _ _ _ hk (by omega), show ((l.length : Int) - 1) = ((l.length - 1 : Nat) : Int) from by omega]
  refine nm_of (by omega) (fun i hi => ?_) (fun i j hij hj => ?_)
  · rw [hl] at hi
    rw [hix i hi]
    split
    · exact h.ix _ (by omega)
    · exact h.ix _ (by omega)
  · rw [hl] at hj
    rw [hix i (by omega), hix j (by omega)]
    split
    · split
      · omega
      · exact h.ne (by omega) (by omega) (by omega)
    · split
      · exact h.ne (by omega) (by omega) (by omega)
      · exact h.ne (by omega) (by omega) (by omega)
theorem nm_snoc {l : List Mk.Write} (h : Nm l) {x n : Int} (hl : l.length < 5) (hp : pos l x < 0) (hx : 1 ≤ x ∧ x ≤ 255) (hn : -1073741824 ≤ n ∧ n ≤ 1073741824) : Nm (l ++ [⟨x, n⟩]) := by
  refine ⟨by simp; omega, fun w hw => ?_, ?_⟩
  · rcases List.mem_append.1 hw with hw | hw
    · exact h.at1 w hw
    · simp at hw; subst hw; exact ⟨hx.1, hx.2, hn⟩
  · rw [List.map_append, List.nodup_append]
    refine ⟨h.nodup, by simp, fun a ha b hb => ?_⟩
    simp only [List.map_cons, List.map_nil, List.mem_singleton] at hb
    simp only [List.mem_map] at ha
    obtain ⟨w, hw, rfl⟩ := ha
    rw [hb]
    exact pos_neg l x hp w hw
theorem nm_doP {l : List Mk.Write} (h : Nm l) {c : Mk.Call} (hc : CallOk c) : Nm (doP l c).1 := by
  have hr := pos_range l c.Name
  have ho := pos_range l c.Other
  have hnum := hc.num
  have hnm := hc.name
  unfold doP
  repeat' split
  all_goals first | exact h | skip
  · exact nm_snoc h (by omega) (by assumption) (by omega) (by omega)
  · exact nm_set h (by omega) (pos_spec l c.Name (by omega)).1 ⟨hnum.1, hnum.2.1⟩
  · exact nm_drop h (by omega)
  · exact nm_set h (by omega) (pos_spec l c.Name (by omega)).1 (by simp only; omega)
  · have h1 := (pos_spec l c.Name (by omega)).1
    have h2 := (pos_spec l c.Other (by omega)).1
    have h3 : Nm (l.set (pos l c.Name).toNat ⟨c.Name, (Sp.ix l (pos l c.Other)).N⟩) := nm_set h (by omega) h1 (h.call (by omega))
    refine nm_set h3 (by simp; omega) ?_ (h.call (by omega))
    rw [ix_set _ _ _ (by omega) (by omega)]
    split
    · rename_i e; rw [← h1, e, h2]
    · exact h2
theorem rt_of {c : List Int} {l : List Mk.Write} (hlen : c.length = 11) (h : Nm l) (hn : Sp.ix c 0 = l.length) (hat : ∀ i : Nat, i < l.length → Sp.ix c (1 + 2 * (i : Int)) = (Sp.ix l i).At ∧ Sp.ix c (2 + 2 * (i : Int)) = (Sp.ix l i).N) : Rt c l :=
  ⟨hlen, hn, h.le, hat, h.at1, h.nodup⟩
theorem plan_rt {c : List Int} {l : List Mk.Write} {call : Mk.Call} (h : Rt c l) (hc : CallOk call) : Rt (wrs c (planR l call).1) (doP l call).1 ∧ (planR l call).2 = (doP l call).2 := by
  have hle := h.le
  have hlen := h.len
  have hn := h.n
  have hr := pos_range l call.Name
  have ho := pos_range l call.Other
  have hk := hc.kind
  have hnm := nm_doP h.nm hc
  have kk : call.Kind = 1 ∨ call.Kind = 2 ∨ call.Kind = 3 ∨ call.Kind = 4 ∨ call.Kind = 5 ∨ call.Kind = 6 := by omega
  have hsame : Rt (wrs c []) l := h
  by_cases hp : pos l call.Name < 0
  · by_cases h5 : 5 ≤ l.length
    · have h5' : 5 ≤ (l.length : Int) := by omega
      rcases kk with k | k | k | k | k | k
      all_goals simp [planR, doP, k, hp, h5, h5', h, wrs]
    · have h5' : ¬ 5 ≤ (l.length : Int) := by omega
      rcases kk with k | k | k | k | k | k
      · have e : (doP l call) = (l ++ [⟨call.Name, call.N⟩], ⟨0, 0⟩) := by simp [doP, k, hp, h5]
        have e2 : planR l call = ([⟨1 + 2 * (l.length : Int), call.Name⟩, ⟨2 + 2 * (l.length : Int), call.N⟩, ⟨0, (l.length : Int) + 1⟩], ⟨0, 0⟩) := by simp [planR, k, hp, h5']
        rw [e] at hnm ⊢
        rw [e2]
        refine ⟨rt_of (by rw [wrs_len]; omega) hnm ?_ fun i hi => ?_, rfl⟩
        · rw [ix_wrs _ _ _ (by omega)]
          simp [cellBehind]
        · simp only [List.length_append, List.length_cons, List.length_nil] at hi
          rw [ix_wrs _ _ _ (by omega), ix_wrs _ _ _ (by omega), ix_snoc _ _ (by omega)]
          simp only [cellBehind, List.foldl_cons, List.foldl_nil]
          by_cases hi2 : (i : Int) = l.length
          · constructor
            · rw [if_neg (by omega), if_neg (by omega), if_pos (by omega), if_pos hi2]
            · rw [if_neg (by omega), if_pos (by omega), if_pos hi2]
          · have := h.ats i (by omega)
            constructor
            · rw [if_neg (by omega), if_neg (by omega), if_neg (by omega), if_neg hi2, this.1]
            · rw [if_neg (by omega), if_neg (by omega), if_neg (by omega), if_neg hi2, this.2]
      all_goals simp [planR, doP, k, hp, h5, h5', h, wrs]
  · have hp0 : 0 ≤ pos l call.Name := by omega
    have hs := (pos_spec l call.Name hp0).1
    have one : ∀ x : Int, Nm (l.set (pos l call.Name).toNat ⟨call.Name, x⟩) → Rt (wrs c [⟨2 + 2 * pos l call.Name, x⟩]) (l.set (pos l call.Name).toNat ⟨call.Name, x⟩) := by
      intro x hm
      refine rt_of (by rw [wrs_len]; omega) hm ?_ fun i hi => ?_
      · rw [ix_wrs _ _ _ (by omega)]
        simp only [cellBehind, List.foldl_cons, List.foldl_nil, List.length_set]
        rw [if_neg (by omega), hn]
      · simp only [List.length_set] at hi
        have := h.ats i hi
        rw [ix_wrs _ _ _ (by omega), ix_wrs _ _ _ (by omega), ix_set _ _ _ (by omega) (by omega)]
        simp only [cellBehind, List.foldl_cons, List.foldl_nil]
        by_cases hi2 : pos l call.Name = i
        · rw [if_pos hi2, if_neg (by omega : ¬ (2 + 2 * pos l call.Name = 1 + 2 * (i : Int))), if_pos (by omega : 2 + 2 * pos l call.Name = 2 + 2 * (i : Int)), this.1, ← hi2, hs]
          exact ⟨rfl, rfl⟩
        · rw [if_neg hi2, if_neg (by omega), if_neg (by omega), this.1, this.2]
          exact ⟨rfl, rfl⟩
    rcases kk with k | k | k | k | k | k
    · have e : doP l call = (l.set (pos l call.Name).toNat ⟨call.Name, call.N⟩, ⟨0, (ix l (pos l call.Name)).N⟩) := by simp [doP, k, hp]
      have e2 : planR l call = ([⟨2 + 2 * pos l call.Name, call.N⟩], ⟨0, (ix l (pos l call.Name)).N⟩) := by simp [planR, k, hp]
      rw [e] at hnm ⊢
      rw [e2]
      exact ⟨one _ hnm, rfl⟩
    · simp [planR, doP, k, hp, h, wrs]
    · have e : doP l call = ((l.set (pos l call.Name).toNat (ix l ((l.length : Int) - 1))).take (l.length - 1), ⟨0, (ix l (pos l call.Name)).N⟩) := by simp [doP, k, hp]
      have hl := h.ats (l.length - 1) (by omega)
      have hcast : ((l.length - 1 : Nat) : Int) = (l.length : Int) - 1 := by omega
      rw [hcast] at hl
      rw [e] at hnm ⊢
      have hl2 : ((l.set (pos l call.Name).toNat (ix l ((l.length : Int) - 1))).take (l.length - 1)).length = l.length - 1 := by simp
      have hix : ∀ i : Nat, i < l.length - 1 → ix ((l.set (pos l call.Name).toNat (ix l ((l.length : Int) - 1))).take (l.length - 1)) (i : Int) = if pos l call.Name = i then ix l ((l.length : Int) - 1) else ix l (i : Int) := by
        intro i hi
        rw [ix_take _ _ (by omega), ix_set _ _ _ (by omega) (by omega)]
      by_cases hlast : pos l call.Name < (l.length : Int) - 1
      · have e2 : planR l call = ([⟨1 + 2 * pos l call.Name, (ix l ((l.length : Int) - 1)).At⟩, ⟨2 + 2 * pos l call.Name, (ix l ((l.length : Int) - 1)).N⟩, ⟨0, (l.length : Int) - 1⟩], ⟨0, (ix l (pos l call.Name)).N⟩) := by simp [planR, k, hp, hlast]
        rw [e2]
        refine ⟨rt_of (by rw [wrs_len]; omega) hnm ?_ fun i hi => ?_, rfl⟩
        · rw [ix_wrs _ _ _ (by omega), hl2, hcast]
          simp [cellBehind]
        · rw [hl2] at hi
          have := h.ats i (by omega)
          rw [ix_wrs _ _ _ (by omega), ix_wrs _ _ _ (by omega), hix i hi]
          simp only [cellBehind, List.foldl_cons, List.foldl_nil]
          by_cases hi2 : pos l call.Name = i
          · rw [if_pos hi2]
            constructor
            · rw [if_neg (by omega), if_neg (by omega), if_pos (by omega)]
            · rw [if_neg (by omega), if_pos (by omega)]
          · rw [if_neg hi2]
            constructor
            · rw [if_neg (by omega), if_neg (by omega), if_neg (by omega), this.1]
            · rw [if_neg (by omega), if_neg (by omega), if_neg (by omega), this.2]
      · have e2 : planR l call = ([⟨0, (l.length : Int) - 1⟩], ⟨0, (ix l (pos l call.Name)).N⟩) := by simp [planR, k, hp, hlast]
        rw [e2]
        refine ⟨rt_of (by rw [wrs_len]; omega) hnm ?_ fun i hi => ?_, rfl⟩
        · rw [ix_wrs _ _ _ (by omega), hl2, hcast]
          simp [cellBehind]
        · rw [hl2] at hi
          have := h.ats i (by omega)
          rw [ix_wrs _ _ _ (by omega), ix_wrs _ _ _ (by omega), hix i hi]
          simp only [cellBehind, List.foldl_cons, List.foldl_nil]
          rw [if_neg (by omega), if_neg (by omega), if_neg (by omega), this.1, this.2]
          exact ⟨rfl, rfl⟩
    · by_cases hb : 1073741824 < (ix l (pos l call.Name)).N + call.N ∨ (ix l (pos l call.Name)).N + call.N < -1073741824
      · have e : doP l call = (l, ⟨3, 0⟩) := by simp [doP, k, hp, hb]
        have e2 : planR l call = ([], ⟨3, 0⟩) := by simp [planR, k, hp, hb]
        rw [e, e2]
        exact ⟨hsame, rfl⟩
      · have e : doP l call = (l.set (pos l call.Name).toNat ⟨call.Name, (ix l (pos l call.Name)).N + call.N⟩, ⟨0, (ix l (pos l call.Name)).N + call.N⟩) := by simp [doP, k, hp, hb]
        have e2 : planR l call = ([⟨2 + 2 * pos l call.Name, (ix l (pos l call.Name)).N + call.N⟩], ⟨0, (ix l (pos l call.Name)).N + call.N⟩) := by simp [planR, k, hp, hb]
        rw [e] at hnm ⊢
        rw [e2]
        exact ⟨one _ hnm, rfl⟩
    · simp [planR, doP, k, hp, h, wrs]
    · by_cases hb : pos l call.Other < 0
      · have e : doP l call = (l, ⟨6, 0⟩) := by simp [doP, k, hp, hb]
        have e2 : planR l call = ([], ⟨6, 0⟩) := by simp [planR, k, hp, hb]
        rw [e, e2]
        exact ⟨hsame, rfl⟩
      · have hso := (pos_spec l call.Other (by omega)).1
        have e : doP l call = ((l.set (pos l call.Name).toNat ⟨call.Name, (ix l (pos l call.Other)).N⟩).set (pos l call.Other).toNat ⟨call.Other, (ix l (pos l call.Name)).N⟩, ⟨0, (ix l (pos l call.Other)).N⟩) := by simp [doP, k, hp, hb]
        have e2 : planR l call = ([⟨2 + 2 * pos l call.Name, (ix l (pos l call.Other)).N⟩, ⟨2 + 2 * pos l call.Other, (ix l (pos l call.Name)).N⟩], ⟨0, (ix l (pos l call.Other)).N⟩) := by simp [planR, k, hp, hb]
        rw [e] at hnm ⊢
        rw [e2]
        refine ⟨rt_of (by rw [wrs_len]; omega) hnm ?_ fun i hi => ?_, rfl⟩
        · rw [ix_wrs _ _ _ (by omega)]
          simp only [cellBehind, List.foldl_cons, List.foldl_nil, List.length_set]
          rw [if_neg (by omega), if_neg (by omega), hn]
        · simp only [List.length_set] at hi
          have := h.ats i (by omega)
          rw [ix_wrs _ _ _ (by omega), ix_wrs _ _ _ (by omega), ix_set _ _ _ (by simp; omega) (by omega), ix_set _ _ _ (by omega) (by omega)]
          simp only [cellBehind, List.foldl_cons, List.foldl_nil]
          by_cases hi3 : pos l call.Other = i
          · rw [if_pos hi3, if_neg (by omega : ¬ (2 + 2 * pos l call.Other = 1 + 2 * (i : Int))), if_neg (by omega : ¬ (2 + 2 * pos l call.Name = 1 + 2 * (i : Int))), if_pos (by omega : 2 + 2 * pos l call.Other = 2 + 2 * (i : Int)), this.1, ← hi3, hso]
            exact ⟨rfl, rfl⟩
          · rw [if_neg hi3, if_neg (by omega : ¬ (2 + 2 * pos l call.Other = 1 + 2 * (i : Int))), if_neg (by omega : ¬ (2 + 2 * pos l call.Name = 1 + 2 * (i : Int))), if_neg (by omega : ¬ (2 + 2 * pos l call.Other = 2 + 2 * (i : Int)))]
            by_cases hi2 : pos l call.Name = i
            · rw [if_pos hi2, if_pos (by omega), this.1, ← hi2, hs]
              exact ⟨rfl, rfl⟩
            · rw [if_neg hi2, if_neg (by omega), this.1, this.2]
              exact ⟨rfl, rfl⟩
end Sp
end
section
namespace Sp
set_option linter.unusedVariables false
set_option linter.unusedSimpArgs false
def allN : List Mk.Write → List Mk.Request → List Mk.Write
  | l, [] => l
  | l, r :: rs => allN (doP l r.Call).1 rs
def allR : List Mk.Write → List Mk.Request → List Mk.Reply
  | _, [] => []
  | l, r :: rs => (doP l r.Call).2 :: allR (doP l r.Call).1 rs
theorem allR_len (l : List Mk.Write) (rs : List Mk.Request) : (allR l rs).length = rs.length := by
  induction rs generalizing l with
  | nil => rfl
  | cons r rs ih => simp [allR, ih]
theorem nm_allN {l : List Mk.Write} (h : Nm l) {rs : List Mk.Request} (hr : ∀ r ∈ rs, CallOk r.Call) : Nm (allN l rs) := by
  induction rs generalizing l with
  | nil => exact h
  | cons r rs ih => exact ih (nm_doP h (hr r (by simp))) fun x hx => hr x (by simp [hx])
theorem nm_nil : Nm [] := ⟨by simp, by simp, by simp⟩
end Sp
end
section
namespace Sp
set_option linter.unusedVariables false
set_option linter.unusedSimpArgs false
set_option maxHeartbeats 1000000
theorem cloneI_eq (l : List Int) (h : l.length * 8 ≤ 140737488355328) : slices_Clone___int_int_ l = some l := by
  unfold slices_Clone___int_int_
  rw [G_on (by simp; omega)]; simp
theorem cloneW_eq (l : List Mk.Write) (h : l.length * 16 ≤ 140737488355328) : slices_Clone___api_Write_api_Write_ l = some l := by
  unfold slices_Clone___api_Write_api_Write_
  rw [G_on (by simp; omega)]; simp
def wcl (c : List Int) : Nat → Nat → Int
  | 0, _ => 0
  | m + 1, i => if ¬ (1 ≤ cat c i ∧ cat c i ≤ 255 ∧ -1073741824 ≤ cnum c i ∧ cnum c i ≤ 1073741824) then 3 else if cat c i ∈ (List.range i).map (cat c) then 7 else wcl c m (i + 1)
def wcells (c : List Int) : Int := if c.length ≠ 11 then 5 else if ix c 0 < 0 ∨ 5 < ix c 0 then 3 else wcl c (ix c 0).toNat 0
theorem up_wr (c : List Int) (w : Mk.Write) (h : 0 ≤ w.At ∧ w.At < c.length) : up c w.At w.N = wr c w := by
  unfold wr up; rw [if_pos h]
theorem cset_loop (l : List Mk.Write) (hl : l.length ≤ 9223372036854775807) (k : List Int → Option (List Int)) : ∀ (m i : Nat), i + m = l.length → ∀ f : Nat, m < f → ∀ c : List Int,
    cell_Set_l1 k f l (l.length : Int) (i : Int) c = k (wrs c (l.drop i)) := by
  intro m
  induction m with
  | zero =>
    intro i hi f hf c
    obtain ⟨f, rfl⟩ : ∃ g, f = g + 1 := ⟨f - 1, by omega⟩
    rw [cell_Set_l1, decide_eq_false (by omega), cond_false, List.drop_of_length_le (by omega)]; rfl
  | succ m ih =>
    intro i hi f hf c
    obtain ⟨f, rfl⟩ : ∃ g, f = g + 1 := ⟨f - 1, by omega⟩
    rw [cell_Set_l1, decide_eq_true (by omega), cond_true]
    simp only [J]
    rw [G_on (by omega), ix_drop l i (by omega), wrs_cons]
    by_cases h : 0 ≤ (ix l (i : Int)).At ∧ (ix l (i : Int)).At < c.length
    · rw [decide_eq_true h.1, decide_eq_true h.2, Bool.and_self, cond_true, G_on h, up_wr c _ h, G_on (by unfold I; omega), show ((i : Int) + 1) = ((i + 1 : Nat) : Int) from by omega, ih (i + 1) (by omega) f (by omega)]
    · have hb : (decide (0 ≤ (ix l (i : Int)).At) && decide ((ix l (i : Int)).At < (c.length : Int))) = false := by
        simp only [Bool.and_eq_false_iff, decide_eq_false_iff_not]; omega
      have hw : wr c (ix l (i : Int)) = c := by unfold wr; rw [if_neg h]
      rw [hb, cond_false, hw, G_on (by unfold I; omega), show ((i : Int) + 1) = ((i + 1 : Nat) : Int) from by omega, ih (i + 1) (by omega) f (by omega)]
theorem cset_eq (c : List Int) (hc : c.length * 8 ≤ 140737488355328) (l : List Mk.Write) (hl : l.length ≤ 9223372036854775807) : cell_Set c l = some (wrs c l) := by
  unfold cell_Set
  simp only [J]
  rw [cloneI_eq c hc, Option.bind_some]
  have := cset_loop l hl (fun y => some y) l.length 0 (by omega) (((l.length : Int) - 0).toNat + 1) (by omega) c
  rw [show ((0 : Nat) : Int) = 0 from rfl] at this
  rw [this]; simp
theorem up_len {α : Type} (l : List α) (i : Int) (y : α) : (up l i y).length = l.length := by simp [up]
theorem ix_up {α : Type} [Inhabited α] (l : List α) (i j : Int) (y : α) (hi : 0 ≤ i ∧ i < l.length) (hj : 0 ≤ j) : ix (up l i y) j = if i = j then y else ix l j := by
  have h1 : i.toNat < l.length := by omega
  by_cases e : i = j
  · subst e; simp [ix, up, h1]
  · have : i.toNat ≠ j.toNat := by omega
    simp [ix, up, List.getElem?_set, this, e]
def fwd : List Int → List Mk.Write → List Mk.Write
  | _, [] => []
  | c, w :: l => if 0 ≤ w.At ∧ w.At < c.length then ⟨w.At, ix c w.At⟩ :: fwd (wr c w) l else fwd c l
theorem fwd_len (c : List Int) (l : List Mk.Write) : (fwd c l).length ≤ l.length := by
  induction l generalizing c with
  | nil => simp [fwd]
  | cons w l ih =>
    unfold fwd
    split
    · have := ih (wr c w); simp; omega
    · have := ih c; simp; omega
theorem fwd_snoc (c : List Int) (l : List Mk.Write) (w : Mk.Write) : fwd c (l ++ [w]) = fwd c l ++ (if 0 ≤ w.At ∧ w.At < c.length then [⟨w.At, ix (wrs c l) w.At⟩] else []) := by
  induction l generalizing c with
  | nil => simp [fwd, wrs]
  | cons v l ih =>
    rw [List.cons_append, fwd, fwd]
    split
    · rename_i h
      rw [ih, wr_len]; rfl
    · rename_i h
      rw [ih]
      have : wrs c (v :: l) = wrs c l := by rw [wrs_cons]; unfold wr; rw [if_neg h]
      rw [this]
theorem wrs_back (c : List Int) (l : List Mk.Write) : wrs (wrs c l) (fwd c l).reverse = c := by
  induction l generalizing c with
  | nil => rfl
  | cons w l ih =>
    rw [wrs_cons, fwd]
    split
    · rename_i h
      rw [List.reverse_cons, wrs_append, ih]
      apply ix_ext
      · rw [wrs_len, wr_len]
      · intro i hi
        rw [wrs_len, wr_len] at hi
        show ix (wr (wr c w) ⟨w.At, ix c w.At⟩) i = _
        rw [ix_wr _ _ _ (by rw [wr_len]; omega), ix_wr _ _ _ (by omega)]
        show (if w.At = (i : Int) then ix c w.At else _) = _
        split
        · rename_i e; rw [e]
        · rfl
    · rename_i h
      have : wr c w = c := by unfold wr; rw [if_neg h]
      rw [this, ih]
end Sp
end
