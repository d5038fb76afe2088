/- WHAT THE STATEMENTS OF THIS GROUP NEED, part 3: laid together by prune.py out of own texts. -/
import Derived.Test.YtkmokkhcoombnaaZMo2
section
namespace Go.Gx
open Sp
set_option linter.unusedVariables false
set_option linter.unusedSimpArgs false
set_option maxRecDepth 20000
theorem c_mklaw2_right {a0 : List Mk.Write} {r : Bool} (hφ : mklaw2_right a0 = some r) : Fn Go.Proofs.Try.prog 78 [.val a0] (.val r) := by
  unfold mklaw2_right at hφ
  refine Fn.mk' Go.Proofs.Try.func78 rfl (by decide) rfl rfl rfl (fun w0 hw0 => ?_)
  refine PT.seq ?_
  refine PT.region ?_
  refine Ops.put rfl rfl (ox_assign .bool) (.nil) (.nil) rfl ?_
  refine Ops.nil ?_
  refine PT.sub (σ' := ⟨[(0, .val (a0))], []⟩) ⟨rfl, trivial⟩ trivial ?_
  refine PT.seq ?_
  refine PT.seq ?_
  refine PT.region ?_
  refine Ops.put rfl rfl (ox_move .tmp) (.one rfl) (.nil) rfl ?_
  refine Ops.put rfl rfl (ox_len s44 .tmp) (.one rfl) (.nil) rfl ?_
  refine Ops.put rfl rfl (ox_gtr .tmp .int) ((.app (.one rfl) (.nil))) (.nil) rfl ?_
  refine Ops.nil ?_
  refine PT.sub (σ' := ⟨[(0, .val (a0)), (9, .val ((decide ((5 : Int) < (a0.length : Int)))))], []⟩) ⟨rfl, rfl, trivial⟩ trivial ?_
  refine PT.cond _ rfl (fun hc1 => ?_) (fun hc1 => ?_)
  · replace hφ := if_then hφ hc1
    refine PT.sub (σ' := ⟨[], []⟩) trivial trivial ?_
    refine PT.seq ?_
    refine PT.region ?_
    refine Ops.put rfl rfl (ox_assign .bool) (.nil) (.nil) rfl ?_
    refine Ops.nil ?_
    refine PT.sub (σ' := ⟨[(2, .val (false))], []⟩) ⟨rfl, trivial⟩ trivial ?_
    refine PT.ret ?_
    obtain rfl := Option.some.inj hφ
    exact PT.done hw0 rfl (.tmp rfl rfl .nil) rfl
  · replace hφ := if_else hφ hc1
    refine PT.sub (σ' := ⟨[(0, .val (a0))], []⟩) ⟨rfl, trivial⟩ trivial ?_
    refine PT.skip ?_
    obtain ⟨k2, hk2, hφ⟩ := J_some hφ
    refine PT.cut (ι := Unit) (fun p => ⟨[], []⟩) (fun p => k2 () = some r) ?_ ?_
    · skip
      refine PT.seq ?_
      refine PT.region ?_
      refine Ops.put rfl rfl (ox_move .tmp) (.one rfl) (.nil) rfl ?_
      refine Ops.put rfl rfl (ox_len s44 .tmp) (.one rfl) (.nil) rfl ?_
      refine Ops.put rfl rfl (ox_move .int) (.nil) (.nil) rfl ?_
      refine Ops.nil ?_
      refine PT.sub (σ' := ⟨[(0, .val (a0)), (10, .val (a0)), (11, .val ((a0.length : Int))), (12, .val ((0 : Int)))], []⟩) ⟨rfl, rfl, rfl, rfl, trivial⟩ trivial ?_
      refine PT.block ?_
      refine PT.loop (ι := Nat × (List Mk.Write) × (List Mk.Write) × Int × Int) (fun p => ⟨[(0, .val (p.2.1)), (10, .val (p.2.2.1)), (11, .val (p.2.2.2.1)), (12, .val (p.2.2.2.2))], []⟩) (fun p => mklaw2_right_l1 k2 p.1 (p.2.1) (p.2.2.1) (p.2.2.2.1) (p.2.2.2.2) = some r) (fun p => p.1) (((a0.length : Int) - (0 : Int)).toNat + 1, a0, a0, (a0.length : Int), (0 : Int)) hφ ⟨rfl, rfl, rfl, rfl, trivial⟩ trivial ?_
      rintro ⟨m3, x0_m3, x10_m3, x11_m3, x12_m3⟩ (hφ : mklaw2_right_l1 k2 m3 x0_m3 x10_m3 x11_m3 x12_m3 = some r)
      obtain _ | m3 := m3
      · exact (none_no hφ).elim
      rw [mklaw2_right_l1.eq_2] at hφ
      refine PT.sub (σ' := ⟨[(0, .val (x0_m3)), (10, .val (x10_m3)), (11, .val (x11_m3)), (12, .val (x12_m3))], []⟩) ⟨rfl, rfl, rfl, rfl, trivial⟩ trivial ?_
      refine PT.seq ?_
      refine PT.region ?_
      refine Ops.put rfl rfl (ox_lss .tmp .tmp) ((.app (.one rfl) (.one rfl))) (.nil) rfl ?_
      refine Ops.nil ?_
      refine PT.sub (σ' := ⟨[(0, .val (x0_m3)), (10, .val (x10_m3)), (11, .val (x11_m3)), (12, .val (x12_m3)), (13, .val ((decide (x12_m3 < x11_m3))))], []⟩) ⟨rfl, rfl, rfl, rfl, rfl, trivial⟩ trivial ?_
      refine PT.seq ?_
      refine PT.cond _ rfl (fun hc4 => ?_) (fun hc4 => ?_)
      · replace hφ := if_then hφ hc4
        refine PT.sub (σ' := ⟨[(0, .val (x0_m3)), (10, .val (x10_m3)), (11, .val (x11_m3)), (12, .val (x12_m3))], []⟩) ⟨rfl, rfl, rfl, rfl, trivial⟩ trivial ?_
        refine PT.skip ?_
        obtain ⟨k5, hk5, hφ⟩ := J_some hφ
        refine PT.cut (ι := (List Mk.Write) × (List Mk.Write) × Int × Int) (fun p => ⟨[(0, .val (p.1)), (10, .val (p.2.1)), (11, .val (p.2.2.1)), (12, .val (p.2.2.2))], []⟩) (fun p => k5 (p.1) (p.2.1) (p.2.2.1) (p.2.2.2) = some r) ?_ ?_
        · skip
          refine PT.block ?_
          refine PT.seq ?_
          obtain ⟨hb6, hφ⟩ := G_some hφ
          refine PT.region ?_
          refine Ops.put rfl rfl (ox_move .tmp) (.one rfl) (.nil) rfl ?_
          refine Ops.put rfl rfl (ox_ix s44 .tmp .tmp hb6.1 hb6.2) ((.app (.one rfl) (.one rfl))) (.nil) rfl ?_
          refine Ops.put rfl rfl (ox_load_elem t50) (.one rfl) (.nil) rfl ?_
          refine Ops.putO rfl rfl (ox_alloc (id := 4) z50) (.nil) (.nil) rfl (by kernel_rfl) ?_
          refine Ops.put rfl rfl (ox_assign .tmp) (.one rfl) (.nil) rfl ?_
          refine Ops.mute rfl rfl (ox_store_var t50 .tmp) ((.cons rfl (.one rfl))) (.one rfl) ?_
          refine Ops.nil ?_
          refine PT.sub (σ' := ⟨[(0, .val (x0_m3)), (3, .val (x12_m3)), (4, _), (10, .val (x10_m3)), (11, .val (x11_m3)), (12, .val (x12_m3))], [(4, .var ((ix x10_m3 x12_m3)) [])]⟩) ⟨rfl, rfl, rfl, rfl, rfl, rfl, trivial⟩ ⟨rfl, trivial⟩ ?_
          refine PT.seq ?_
          refine PT.seq ?_
          refine PT.region ?_
          refine Ops.put rfl rfl (ox_fieldAddr_var Write_At f50_0) (.one rfl) (.nil) rfl ?_
          refine Ops.put rfl rfl (ox_load_fld t3) (.one rfl) (.one rfl) rfl ?_
          refine Ops.put rfl rfl (ox_lss .tmp .int) ((.app (.one rfl) (.nil))) (.nil) rfl ?_
          refine Ops.put rfl rfl (ox_move .tmp) (.one rfl) (.nil) rfl ?_
          refine Ops.guard rfl rfl rfl rfl (.plain .nil) (fun hG => (ox_fieldAddr_var Write_At f50_0)) ⟨rfl, trivial⟩ (.nil) rfl ?_
          refine Ops.guard rfl rfl rfl rfl (.cond (fun h => h) .nil) (fun hG => (ox_load_fld t3)) ⟨rfl, trivial⟩ (.one rfl) rfl ?_
          refine Ops.guard rfl rfl rfl rfl (.cond (fun h => h) .nil) (fun hG => (ox_gtr .tmp .int)) ⟨rfl, trivial⟩ (.nil) rfl ?_
          refine Ops.put rfl rfl ox_pick_or (⟨rfl, rfl, trivial⟩) (.nil) rfl ?_
          refine Ops.put rfl rfl (ox_move .tmp) (.one rfl) (.nil) rfl ?_
          refine Ops.guard rfl rfl rfl rfl (.plain .nil) (fun hG => (ox_fieldAddr_var Write_N f50_1)) ⟨rfl, trivial⟩ (.nil) rfl ?_
          refine Ops.guard rfl rfl rfl rfl (.cond (fun h => h) .nil) (fun hG => (ox_load_fld t3)) ⟨rfl, trivial⟩ (.one rfl) rfl ?_
          refine Ops.guard rfl rfl rfl rfl (.cond (fun h => h) .nil) (fun hG => (ox_lss .tmp .int)) ⟨rfl, trivial⟩ (.nil) rfl ?_
          refine Ops.put rfl rfl ox_pick_or (⟨rfl, rfl, trivial⟩) (.nil) rfl ?_
          refine Ops.put rfl rfl (ox_move .tmp) (.one rfl) (.nil) rfl ?_
          refine Ops.guard rfl rfl rfl rfl (.plain .nil) (fun hG => (ox_fieldAddr_var Write_N f50_1)) ⟨rfl, trivial⟩ (.nil) rfl ?_
          refine Ops.guard rfl rfl rfl rfl (.cond (fun h => h) .nil) (fun hG => (ox_load_fld t3)) ⟨rfl, trivial⟩ (.one rfl) rfl ?_
          refine Ops.guard rfl rfl rfl rfl (.cond (fun h => h) .nil) (fun hG => (ox_gtr .tmp .int)) ⟨rfl, trivial⟩ (.nil) rfl ?_
          refine Ops.put rfl rfl ox_pick_or (⟨rfl, rfl, trivial⟩) (.nil) rfl ?_
          refine Ops.nil ?_
          refine PT.sub (σ' := ⟨[(0, .val (x0_m3)), (3, .val (x12_m3)), (4, _), (10, .val (x10_m3)), (11, .val (x11_m3)), (12, .val (x12_m3)), (34, .val (((((decide ((ix x10_m3 x12_m3).At < (1 : Int))) || (decide ((255 : Int) < (ix x10_m3 x12_m3).At))) || (decide ((ix x10_m3 x12_m3).N < (-1073741824 : Int)))) || (decide ((1073741824 : Int) < (ix x10_m3 x12_m3).N)))))], [(4, .var ((ix x10_m3 x12_m3)) [])]⟩) ⟨rfl, rfl, rfl, rfl, rfl, rfl, rfl, trivial⟩ ⟨rfl, trivial⟩ ?_
          refine PT.cond _ rfl (fun hc7 => ?_) (fun hc7 => ?_)
          · replace hφ := if_then hφ hc7
            refine PT.sub (σ' := ⟨[], []⟩) trivial trivial ?_
            refine PT.seq ?_
            refine PT.region ?_
            refine Ops.put rfl rfl (ox_assign .bool) (.nil) (.nil) rfl ?_
            refine Ops.nil ?_
            refine PT.sub (σ' := ⟨[(2, .val (false))], []⟩) ⟨rfl, trivial⟩ trivial ?_
            refine PT.ret ?_
            obtain rfl := Option.some.inj hφ
            exact PT.done hw0 rfl (.tmp rfl rfl .nil) rfl
          · replace hφ := if_else hφ hc7
            refine PT.sub (σ' := ⟨[(0, .val (x0_m3)), (3, .val (x12_m3)), (4, _), (10, .val (x10_m3)), (11, .val (x11_m3)), (12, .val (x12_m3))], [(4, .var ((ix x10_m3 x12_m3)) [])]⟩) ⟨rfl, rfl, rfl, rfl, rfl, rfl, trivial⟩ ⟨rfl, trivial⟩ ?_
            refine PT.skip ?_
            refine PT.seq ?_
            obtain ⟨hb8, hφ⟩ := G_some hφ
            refine PT.region ?_
            refine Ops.put rfl rfl (ox_move .tmp) (.one rfl) (.nil) rfl ?_
            refine Ops.put rfl rfl (ox_move .tmp) (.one rfl) (.nil) rfl ?_
            refine Ops.put rfl rfl (ox_slice s44 .tmp .none (.some .tmp) hb8.1 hb8.2.1 hb8.2.2) ((.app (.one rfl) ((.app (.nil) (.one rfl))))) (.nil) rfl ?_
            refine Ops.put rfl rfl (ox_len s44 .tmp) (.one rfl) (.nil) rfl ?_
            refine Ops.put rfl rfl (ox_move .int) (.nil) (.nil) rfl ?_
            refine Ops.nil ?_
            refine PT.sub (σ' := ⟨[(0, .val (x0_m3)), (4, _), (10, .val (x10_m3)), (11, .val (x11_m3)), (12, .val (x12_m3)), (37, .val ((sub x0_m3 (0 : Int) x12_m3))), (38, .val (((sub x0_m3 (0 : Int) x12_m3).length : Int))), (39, .val ((0 : Int)))], [(4, .var ((ix x10_m3 x12_m3)) [])]⟩) ⟨rfl, rfl, rfl, rfl, rfl, rfl, rfl, rfl, trivial⟩ ⟨rfl, trivial⟩ ?_
            refine PT.block ?_
            refine PT.loop (ι := Nat × (List Mk.Write) × (List Mk.Write) × Int × Int × (List Mk.Write) × Int × Int × Mk.Write) (fun p => ⟨[(0, .val (p.2.1)), (4, .ptr 4 (Lens.id (α := Mk.Write))), (10, .val (p.2.2.1)), (11, .val (p.2.2.2.1)), (12, .val (p.2.2.2.2.1)), (37, .val (p.2.2.2.2.2.1)), (38, .val (p.2.2.2.2.2.2.1)), (39, .val (p.2.2.2.2.2.2.2.1))], [(4, .var (p.2.2.2.2.2.2.2.2) [])]⟩) (fun p => mklaw2_right_l2 k5 p.1 (p.2.1) (p.2.2.1) (p.2.2.2.1) (p.2.2.2.2.1) (p.2.2.2.2.2.1) (p.2.2.2.2.2.2.1) (p.2.2.2.2.2.2.2.1) (p.2.2.2.2.2.2.2.2) = some r) (fun p => p.1) ((((sub x0_m3 (0 : Int) x12_m3).length : Int) - (0 : Int)).toNat + 1, x0_m3, x10_m3, x11_m3, x12_m3, (sub x0_m3 (0 : Int) x12_m3), ((sub x0_m3 (0 : Int) x12_m3).length : Int), (0 : Int), (ix x10_m3 x12_m3)) hφ ⟨rfl, rfl, rfl, rfl, rfl, rfl, rfl, rfl, trivial⟩ ⟨rfl, trivial⟩ ?_
            rintro ⟨m9, x0_m9, x10_m9, x11_m9, x12_m9, x37_m9, x38_m9, x39_m9, y4_m9⟩ (hφ : mklaw2_right_l2 k5 m9 x0_m9 x10_m9 x11_m9 x12_m9 x37_m9 x38_m9 x39_m9 y4_m9 = some r)
            obtain _ | m9 := m9
            · exact (none_no hφ).elim
            rw [mklaw2_right_l2.eq_2] at hφ
            refine PT.sub (σ' := ⟨[(0, .val (x0_m9)), (4, .ptr 4 (Lens.id (α := Mk.Write))), (10, .val (x10_m9)), (11, .val (x11_m9)), (12, .val (x12_m9)), (37, .val (x37_m9)), (38, .val (x38_m9)), (39, .val (x39_m9))], [(4, .var (y4_m9) [])]⟩) ⟨rfl, rfl, rfl, rfl, rfl, rfl, rfl, rfl, trivial⟩ ⟨rfl, trivial⟩ ?_
            refine PT.seq ?_
            refine PT.region ?_
            refine Ops.put rfl rfl (ox_lss .tmp .tmp) ((.app (.one rfl) (.one rfl))) (.nil) rfl ?_
            refine Ops.nil ?_
            refine PT.sub (σ' := ⟨[(0, .val (x0_m9)), (4, _), (10, .val (x10_m9)), (11, .val (x11_m9)), (12, .val (x12_m9)), (37, .val (x37_m9)), (38, .val (x38_m9)), (39, .val (x39_m9)), (40, .val ((decide (x39_m9 < x38_m9))))], [(4, .var (y4_m9) [])]⟩) ⟨rfl, rfl, rfl, rfl, rfl, rfl, rfl, rfl, rfl, trivial⟩ ⟨rfl, trivial⟩ ?_
            refine PT.seq ?_
            refine PT.cond _ rfl (fun hc10 => ?_) (fun hc10 => ?_)
            · replace hφ := if_then hφ hc10
              refine PT.sub (σ' := ⟨[(0, .val (x0_m9)), (4, _), (10, .val (x10_m9)), (11, .val (x11_m9)), (12, .val (x12_m9)), (37, .val (x37_m9)), (38, .val (x38_m9)), (39, .val (x39_m9))], [(4, .var (y4_m9) [])]⟩) ⟨rfl, rfl, rfl, rfl, rfl, rfl, rfl, rfl, trivial⟩ ⟨rfl, trivial⟩ ?_
              refine PT.skip ?_
              refine PT.seq ?_
              refine PT.block ?_
              refine PT.seq ?_
              obtain ⟨hb11, hφ⟩ := G_some hφ
              refine PT.region ?_
              refine Ops.put rfl rfl (ox_ix s44 .tmp .tmp hb11.1 hb11.2) ((.app (.one rfl) (.one rfl))) (.nil) rfl ?_
              refine Ops.put rfl rfl (ox_load_elem t50) (.one rfl) (.nil) rfl ?_
              refine Ops.putO rfl rfl (ox_alloc (id := 6) z50) (.nil) (.nil) rfl (by kernel_rfl) ?_
              refine Ops.mute rfl rfl (ox_store_var t50 .tmp) ((.cons rfl (.one rfl))) (.one rfl) ?_
              refine Ops.nil ?_
              refine PT.sub (σ' := ⟨[(0, .val (x0_m9)), (4, _), (6, _), (10, .val (x10_m9)), (11, .val (x11_m9)), (12, .val (x12_m9)), (37, .val (x37_m9)), (38, .val (x38_m9)), (39, .val (x39_m9))], [(4, .var (y4_m9) []), (6, .var ((ix x37_m9 x39_m9)) [])]⟩) ⟨rfl, rfl, rfl, rfl, rfl, rfl, rfl, rfl, rfl, trivial⟩ ⟨rfl, rfl, trivial⟩ ?_
              refine PT.seq ?_
              refine PT.region ?_
              refine Ops.put rfl rfl (ox_fieldAddr_var Write_At f50_0) (.one rfl) (.nil) rfl ?_
              refine Ops.put rfl rfl (ox_load_fld t3) (.one rfl) (.one rfl) rfl ?_
              refine Ops.put rfl rfl (ox_fieldAddr_var Write_At f50_0) (.one rfl) (.nil) rfl ?_
              refine Ops.put rfl rfl (ox_load_fld t3) (.one rfl) (.one rfl) rfl ?_
              refine Ops.put rfl rfl (ox_eql .tmp .tmp) ((.app (.one rfl) (.one rfl))) (.nil) rfl ?_
              refine Ops.nil ?_
              refine PT.sub (σ' := ⟨[(0, .val (x0_m9)), (4, _), (10, .val (x10_m9)), (11, .val (x11_m9)), (12, .val (x12_m9)), (37, .val (x37_m9)), (38, .val (x38_m9)), (39, .val (x39_m9)), (47, .val ((decide ((ix x37_m9 x39_m9).At = y4_m9.At))))], [(4, .var (y4_m9) [])]⟩) ⟨rfl, rfl, rfl, rfl, rfl, rfl, rfl, rfl, rfl, trivial⟩ ⟨rfl, trivial⟩ ?_
              refine PT.cond _ rfl (fun hc12 => ?_) (fun hc12 => ?_)
              · replace hφ := if_then hφ hc12
                refine PT.sub (σ' := ⟨[], []⟩) trivial trivial ?_
                refine PT.seq ?_
                refine PT.region ?_
                refine Ops.put rfl rfl (ox_assign .bool) (.nil) (.nil) rfl ?_
                refine Ops.nil ?_
                refine PT.sub (σ' := ⟨[(2, .val (false))], []⟩) ⟨rfl, trivial⟩ trivial ?_
                refine PT.ret ?_
                obtain rfl := Option.some.inj hφ
                exact PT.done hw0 rfl (.tmp rfl rfl .nil) rfl
              · replace hφ := if_else hφ hc12
                refine PT.sub (σ' := ⟨[(0, .val (x0_m9)), (4, _), (10, .val (x10_m9)), (11, .val (x11_m9)), (12, .val (x12_m9)), (37, .val (x37_m9)), (38, .val (x38_m9)), (39, .val (x39_m9))], [(4, .var (y4_m9) [])]⟩) ⟨rfl, rfl, rfl, rfl, rfl, rfl, rfl, rfl, trivial⟩ ⟨rfl, trivial⟩ ?_
                refine PT.skip ?_
                obtain ⟨hb13, hφ⟩ := G_some hφ
                refine PT.region ?_
                refine Ops.put rfl rfl (ox_add .tmp .int hb13) ((.app (.one rfl) (.nil))) (.nil) rfl ?_
                refine Ops.put rfl rfl (ox_move .tmp) (.one rfl) (.nil) rfl ?_
                refine Ops.nil ?_
                refine PT.sub (σ' := ⟨[(0, .val (x0_m9)), (4, _), (10, .val (x10_m9)), (11, .val (x11_m9)), (12, .val (x12_m9)), (37, .val (x37_m9)), (38, .val (x38_m9)), (39, .val ((x39_m9 + (1 : Int))))], [(4, .var (y4_m9) [])]⟩) ⟨rfl, rfl, rfl, rfl, rfl, rfl, rfl, rfl, trivial⟩ ⟨rfl, trivial⟩ ?_
                exact PT.next (m9, x0_m9, x10_m9, x11_m9, x12_m9, x37_m9, x38_m9, (x39_m9 + (1 : Int)), y4_m9) hφ (Nat.lt_succ_self _) ⟨rfl, rfl, rfl, rfl, rfl, rfl, rfl, rfl, trivial⟩ ⟨rfl, trivial⟩
            · replace hφ := if_else hφ hc10
              refine PT.sub (σ' := ⟨[(0, .val (x0_m9)), (10, .val (x10_m9)), (11, .val (x11_m9)), (12, .val (x12_m9))], []⟩) ⟨rfl, rfl, rfl, rfl, trivial⟩ trivial ?_
              refine PT.exit ?_
              exact PT.meet (x0_m9, x10_m9, x11_m9, x12_m9) hφ ⟨rfl, rfl, rfl, rfl, trivial⟩ trivial
        · rintro ⟨x0_k5, x10_k5, x11_k5, x12_k5⟩ hφ
          subst hk5
          refine PT.sub (σ' := ⟨[(0, .val (x0_k5)), (10, .val (x10_k5)), (11, .val (x11_k5)), (12, .val (x12_k5))], []⟩) ⟨rfl, rfl, rfl, rfl, trivial⟩ trivial ?_
          obtain ⟨hb14, hφ⟩ := G_some hφ
          refine PT.region ?_
          refine Ops.put rfl rfl (ox_add .tmp .int hb14) ((.app (.one rfl) (.nil))) (.nil) rfl ?_
          refine Ops.put rfl rfl (ox_move .tmp) (.one rfl) (.nil) rfl ?_
          refine Ops.nil ?_
          refine PT.sub (σ' := ⟨[(0, .val (x0_k5)), (10, .val (x10_k5)), (11, .val (x11_k5)), (12, .val ((x12_k5 + (1 : Int))))], []⟩) ⟨rfl, rfl, rfl, rfl, trivial⟩ trivial ?_
          exact PT.next (m3, x0_k5, x10_k5, x11_k5, (x12_k5 + (1 : Int))) hφ (Nat.lt_succ_self _) ⟨rfl, rfl, rfl, rfl, trivial⟩ trivial
      · replace hφ := if_else hφ hc4
        refine PT.sub (σ' := ⟨[], []⟩) trivial trivial ?_
        refine PT.exit ?_
        exact PT.meet () hφ trivial trivial
    · rintro ⟨⟩ hφ
      subst hk2
      refine PT.sub (σ' := ⟨[], []⟩) trivial trivial ?_
      refine PT.seq ?_
      refine PT.region ?_
      refine Ops.put rfl rfl (ox_assign .bool) (.nil) (.nil) rfl ?_
      refine Ops.nil ?_
      refine PT.sub (σ' := ⟨[(2, .val (true))], []⟩) ⟨rfl, trivial⟩ trivial ?_
      refine PT.ret ?_
      obtain rfl := Option.some.inj hφ
      exact PT.done hw0 rfl (.tmp rfl rfl .nil) rfl
theorem c_mklaw2_alive  {r : Bool} (hφ : mklaw2_alive  = some r) : Fn Go.Proofs.Try.prog 85 [] (.val r) := by
  unfold mklaw2_alive at hφ
  refine Fn.mk' Go.Proofs.Try.func85 rfl (by decide) rfl rfl rfl (fun w0 hw0 => ?_)
  refine PT.seq ?_
  refine PT.region ?_
  refine Ops.put rfl rfl (ox_assign .bool) (.nil) (.nil) rfl ?_
  refine Ops.nil ?_
  refine PT.sub (σ' := ⟨[], []⟩) trivial trivial ?_
  refine PT.seq ?_
  obtain ⟨v1, hv1, hφ⟩ := B_some hφ
  refine PT.region ?_
  refine Ops.put rfl rfl (ox_buildB z23 u23 rfl (.cons Call_Kind f23_0 .int (.cons Call_Name f23_1 .int (.cons Call_N f23_3 .int Bld.nil)))) ((.app (.nil) (.app (.nil) (.app (.nil) .nil)))) (.nil) rfl ?_
  refine Ops.put rfl rfl (ox_call (c_model_Do hv1) (.cons (.nilL (α := Mk.Write)) (.cons .tmp .nil))) ((.app (.nil) (.app (.one rfl) .nil))) (.nil) rfl ?_
  refine Ops.put rfl rfl (ox_move .tmp) (.one rfl) (.nil) rfl ?_
  refine Ops.put rfl rfl (ox_extract rfl) (.one rfl) (.nil) rfl ?_
  refine Ops.put rfl rfl (ox_extract rfl) (.one rfl) (.nil) rfl ?_
  refine Ops.putO rfl rfl (ox_alloc (id := 2) z28) (.nil) (.nil) rfl (by kernel_rfl) ?_
  refine Ops.put rfl rfl (ox_assign .tmp) (.one rfl) (.nil) rfl ?_
  refine Ops.mute rfl rfl (ox_store_var t28 .tmp) ((.cons rfl (.one rfl))) (.one rfl) ?_
  refine Ops.nil ?_
  refine PT.sub (σ' := ⟨[(1, .val (v1.1)), (2, _)], [(2, .var (v1.2) [])]⟩) ⟨rfl, rfl, trivial⟩ ⟨rfl, trivial⟩ ?_
  refine PT.seq ?_
  obtain ⟨v2, hv2, hφ⟩ := B_some hφ
  refine PT.region ?_
  refine Ops.put rfl rfl (ox_move .tmp) (.one rfl) (.nil) rfl ?_
  refine Ops.put rfl rfl (ox_buildB z23 u23 rfl (.cons Call_Kind f23_0 .int (.cons Call_Name f23_1 .int (.cons Call_N f23_3 .int Bld.nil)))) ((.app (.nil) (.app (.nil) (.app (.nil) .nil)))) (.nil) rfl ?_
  refine Ops.put rfl rfl (ox_call (c_model_Do hv2) (.cons .tmp (.cons .tmp .nil))) ((.app (.one rfl) (.app (.one rfl) .nil))) (.nil) rfl ?_
  refine Ops.put rfl rfl (ox_move .tmp) (.one rfl) (.nil) rfl ?_
  refine Ops.put rfl rfl (ox_extract rfl) (.one rfl) (.nil) rfl ?_
  refine Ops.put rfl rfl (ox_extract rfl) (.one rfl) (.nil) rfl ?_
  refine Ops.putO rfl rfl (ox_alloc (id := 4) z28) (.nil) (.nil) rfl (by kernel_rfl) ?_
  refine Ops.put rfl rfl (ox_assign .tmp) (.one rfl) (.nil) rfl ?_
  refine Ops.mute rfl rfl (ox_store_var t28 .tmp) ((.cons rfl (.one rfl))) (.one rfl) ?_
  refine Ops.nil ?_
  refine PT.sub (σ' := ⟨[(1, .val (v1.1)), (2, _), (3, .val (v2.1)), (4, _)], [(2, .var (v1.2) []), (4, .var (v2.2) [])]⟩) ⟨rfl, rfl, rfl, rfl, trivial⟩ ⟨rfl, rfl, trivial⟩ ?_
  refine PT.seq ?_
  obtain ⟨v3, hv3, hφ⟩ := B_some hφ
  refine PT.region ?_
  refine Ops.put rfl rfl (ox_buildB z23 u23 rfl (.cons Call_Kind f23_0 .int Bld.nil)) ((.app (.nil) .nil)) (.nil) rfl ?_
  refine Ops.put rfl rfl (ox_buildB z25 u25 rfl (.cons Request_Call f25_2 .tmp Bld.nil)) ((.app (.one rfl) .nil)) (.nil) rfl ?_
  refine Ops.put rfl rfl (ox_buildSlice_val s46 z25 (.cons .tmp Parts.nil) rfl (by decide)) ((.app (.one rfl) .nil)) (.nil) rfl ?_
  refine Ops.put rfl rfl (ox_call (c_model_All hv3) (.cons .tmp .nil)) ((.app (.one rfl) .nil)) (.nil) rfl ?_
  refine Ops.put rfl rfl (ox_move .tmp) (.one rfl) (.nil) rfl ?_
  refine Ops.put rfl rfl (ox_extract rfl) (.one rfl) (.nil) rfl ?_
  refine Ops.put rfl rfl (ox_extract rfl) (.one rfl) (.nil) rfl ?_
  refine Ops.put rfl rfl (ox_assign .tmp) (.one rfl) (.nil) rfl ?_
  refine Ops.put rfl rfl (ox_assign .tmp) (.one rfl) (.nil) rfl ?_
  refine Ops.nil ?_
  refine PT.sub (σ' := ⟨[(1, .val (v1.1)), (2, _), (3, .val (v2.1)), (4, _), (5, .val (v3.1)), (6, .val (v3.2))], [(2, .var (v1.2) []), (4, .var (v2.2) [])]⟩) ⟨rfl, rfl, rfl, rfl, rfl, rfl, trivial⟩ ⟨rfl, rfl, trivial⟩ ?_
  refine PT.seq ?_
  obtain ⟨v4, hv4, hφ⟩ := B_some hφ
  obtain ⟨v5, hv5, hφ⟩ := B_some hφ
  refine PT.region ?_
  refine Ops.put rfl rfl (ox_move .tmp) (.one rfl) (.nil) rfl ?_
  refine Ops.put rfl rfl (ox_len s44 .tmp) (.one rfl) (.nil) rfl ?_
  refine Ops.put rfl rfl (ox_eql .tmp .int) ((.app (.one rfl) (.nil))) (.nil) rfl ?_
  refine Ops.put rfl rfl (ox_move .tmp) (.one rfl) (.nil) rfl ?_
  refine Ops.guard rfl rfl rfl rfl (.plain .nil) (fun hG => (ox_fieldAddr_var Reply_Err f28_0)) ⟨rfl, trivial⟩ (.nil) rfl ?_
  refine Ops.guard rfl rfl rfl rfl (.cond (fun h => h) .nil) (fun hG => (ox_load_fld t26)) ⟨rfl, trivial⟩ (.one rfl) rfl ?_
  refine Ops.guard rfl rfl rfl rfl (.cond (fun h => h) .nil) (fun hG => (ox_eql .tmp .int)) ⟨rfl, trivial⟩ (.nil) rfl ?_
  refine Ops.put rfl rfl ox_pick_and (⟨rfl, rfl, trivial⟩) (.nil) rfl ?_
  refine Ops.put rfl rfl (ox_move .tmp) (.one rfl) (.nil) rfl ?_
  refine Ops.guard rfl rfl rfl rfl (.plain .nil) (fun hG => (ox_move .tmp)) ⟨rfl, trivial⟩ (.nil) rfl ?_
  refine Ops.guard rfl rfl rfl rfl (.cond (fun h => h) .nil) (fun hG => (ox_len s44 .tmp)) ⟨rfl, trivial⟩ (.nil) rfl ?_
  refine Ops.guard rfl rfl rfl rfl (.cond (fun h => h) .nil) (fun hG => (ox_eql .tmp .int)) ⟨rfl, trivial⟩ (.nil) rfl ?_
  refine Ops.put rfl rfl ox_pick_and (⟨rfl, rfl, trivial⟩) (.nil) rfl ?_
  refine Ops.put rfl rfl (ox_move .tmp) (.one rfl) (.nil) rfl ?_
  refine Ops.guard rfl rfl rfl rfl (.plain .nil) (fun hG => (ox_fieldAddr_var Reply_N f28_1)) ⟨rfl, trivial⟩ (.nil) rfl ?_
  refine Ops.guard rfl rfl rfl rfl (.cond (fun h => h) .nil) (fun hG => (ox_load_fld t3)) ⟨rfl, trivial⟩ (.one rfl) rfl ?_
  refine Ops.guard rfl rfl rfl rfl (.cond (fun h => h) .nil) (fun hG => (ox_eql .tmp .int)) ⟨rfl, trivial⟩ (.nil) rfl ?_
  refine Ops.put rfl rfl ox_pick_and (⟨rfl, rfl, trivial⟩) (.nil) rfl ?_
  refine Ops.put rfl rfl (ox_move .tmp) (.one rfl) (.nil) rfl ?_
  refine Ops.guard rfl rfl rfl rfl (.plain .nil) (fun hG => (ox_move .tmp)) ⟨rfl, trivial⟩ (.nil) rfl ?_
  refine Ops.guard rfl rfl rfl rfl (.cond (fun h => h) .nil) (fun hG => (ox_len s44 .tmp)) ⟨rfl, trivial⟩ (.nil) rfl ?_
  refine Ops.guard rfl rfl rfl rfl (.cond (fun h => h) .nil) (fun hG => (ox_eql .tmp .int)) ⟨rfl, trivial⟩ (.nil) rfl ?_
  refine Ops.put rfl rfl ox_pick_and (⟨rfl, rfl, trivial⟩) (.nil) rfl ?_
  refine Ops.put rfl rfl (ox_move .tmp) (.one rfl) (.nil) rfl ?_
  refine Ops.guard rfl rfl rfl rfl (.plain .nil) (fun hG => (ox_move .tmp)) ⟨rfl, trivial⟩ (.nil) rfl ?_
  refine Ops.guard rfl rfl rfl rfl (.cond (fun h => h) .nil) (fun hG => (ox_len s76 .tmp)) ⟨rfl, trivial⟩ (.nil) rfl ?_
  refine Ops.guard rfl rfl rfl rfl (.cond (fun h => h) .nil) (fun hG => (ox_eql .tmp .int)) ⟨rfl, trivial⟩ (.nil) rfl ?_
  refine Ops.put rfl rfl ox_pick_and (⟨rfl, rfl, trivial⟩) (.nil) rfl ?_
  refine Ops.put rfl rfl (ox_move .tmp) (.one rfl) (.nil) rfl ?_
  refine Ops.guard rfl rfl rfl rfl .nil (fun hG => (ox_buildB z23 u23 rfl Bld.nil)) .nil (.nil) rfl ?_
  refine Ops.guard rfl rfl rfl rfl (.cond (fun h => h) .nil) (fun hG => (ox_call (c_model_Wrong (Cn_on hv4 hG)) (.cons .tmp .nil))) ⟨rfl, trivial⟩ (.nil) rfl ?_
  refine Ops.guard rfl rfl rfl rfl (.cond (fun h => h) .nil) (fun hG => (ox_eql .tmp .int)) ⟨rfl, trivial⟩ (.nil) rfl ?_
  refine Ops.put rfl rfl ox_pick_and (⟨rfl, rfl, trivial⟩) (.nil) rfl ?_
  refine Ops.put rfl rfl (ox_move .tmp) (.one rfl) (.nil) rfl ?_
  refine Ops.guard rfl rfl rfl rfl .nil (fun hG => (ox_buildSlice_val s43 z3 (.cons .int (.cons .int (.cons .int (.cons .int (.cons .int (.cons .int (.cons .int (.cons .int (.cons .int (.cons .int (.cons .int Parts.nil))))))))))) rfl (by decide))) .nil (.nil) rfl ?_
  refine Ops.guard rfl rfl rfl rfl (.cond (fun h => h) .nil) (fun hG => (ox_call (c_model_Of (Cn_on hv5 hG)) (.cons .tmp .nil))) ⟨rfl, trivial⟩ (.nil) rfl ?_
  refine Ops.guard rfl rfl rfl rfl (.cond (fun h => h) .nil) (fun hG => (ox_len s44 .tmp)) ⟨rfl, trivial⟩ (.nil) rfl ?_
  refine Ops.guard rfl rfl rfl rfl (.cond (fun h => h) .nil) (fun hG => (ox_eql .tmp .int)) ⟨rfl, trivial⟩ (.nil) rfl ?_
  refine Ops.put rfl rfl ox_pick_and (⟨rfl, rfl, trivial⟩) (.nil) rfl ?_
  refine Ops.put rfl rfl (ox_assign .tmp) (.one rfl) (.nil) rfl ?_
  refine Ops.nil ?_
  refine PT.sub (σ' := ⟨[(0, .val (((((((((decide ((v1.1.length : Int) = (1 : Int))) && (decide (v1.2.Err = (0 : Int)))) && (decide ((v2.1.length : Int) = (1 : Int)))) && (decide (v2.2.N = (3 : Int)))) && (decide ((v3.1.length : Int) = (0 : Int)))) && (decide ((v3.2.length : Int) = (1 : Int)))) && (decide (v4 = (1 : Int)))) && (decide ((v5.length : Int) = (1 : Int))))))], []⟩) ⟨rfl, trivial⟩ trivial ?_
  refine PT.ret ?_
  obtain rfl := Option.some.inj hφ
  exact PT.done hw0 rfl (.tmp rfl rfl .nil) rfl
theorem c_mklaw2_ModelTells {a0 : List Mk.Write} {a1 : Mk.Call} {a2 : List Mk.Request} {a3 : List Int} {r : Bool} (hφ : mklaw2_ModelTells a0 a1 a2 a3 = some r) : Fn Go.Proofs.Try.prog 18 [.val a0, .val a1, .val a2, .val a3] (.val r) := by
  unfold mklaw2_ModelTells at hφ
  refine Fn.mk' Go.Proofs.Try.func18 rfl (by decide) rfl rfl rfl (fun w0 hw0 => ?_)
  refine PT.seq ?_
  refine PT.region ?_
  refine Ops.putO rfl rfl (ox_box (id := 5) .tmp) (.one rfl) (.nil) rfl (by kernel_rfl) ?_
  refine Ops.put rfl rfl (ox_assign .bool) (.nil) (.nil) rfl ?_
  refine Ops.nil ?_
  refine PT.sub (σ' := ⟨[(0, .val (a0)), (2, .val (a2)), (3, .val (a3)), (5, _)], [(5, .var (a1) [])]⟩) ⟨rfl, rfl, rfl, rfl, trivial⟩ ⟨rfl, trivial⟩ ?_
  refine PT.seq ?_
  refine PT.seq ?_
  obtain ⟨v1, hv1, hφ⟩ := B_some hφ
  obtain ⟨v2, hv2, hφ⟩ := B_some hφ
  refine PT.draw hMixed (
      Segs.cons (Step.put rfl rfl (ox_load_var t23)) ⟨.one rfl, .one rfl⟩ (by kernel_rfl) rfl <|
      Segs.cons (Step.put rfl rfl (ox_call (c_model_Wrong hv1) (.cons .tmp .nil))) ⟨(.app (.one rfl) .nil), .nil⟩ (by kernel_rfl) rfl <|
      Segs.cons (Step.put rfl rfl (ox_load_var t23)) ⟨.one rfl, .one rfl⟩ (by kernel_rfl) rfl <|
      Segs.cons (Step.put rfl rfl (ox_call (c_mkref1_WrongCall hv2) (.cons .tmp .nil))) ⟨(.app (.one rfl) .nil), .nil⟩ (by kernel_rfl) rfl <|
      Segs.cons (Step.put rfl rfl (ox_neq .tmp .tmp)) ⟨(.app (.one rfl) (.one rfl)), .nil⟩ (by kernel_rfl) rfl <|
      Segs.nil) _ [[], [0], [], [0, 1, 2], [0, 1, 2, 3]] rfl (by kernel_rfl) (by kernel_rfl) ?_
  refine PT.sub (σ' := ⟨[(0, .val (a0)), (2, .val (a2)), (3, .val (a3)), (5, _), (24, .val ((!decide (v1 = v2))))], [(5, .var (a1) [])]⟩) ⟨rfl, rfl, rfl, rfl, rfl, trivial⟩ ⟨rfl, trivial⟩ ?_
  refine PT.cond _ rfl (fun hc3 => ?_) (fun hc3 => ?_)
  · replace hφ := if_then hφ hc3
    refine PT.sub (σ' := ⟨[], []⟩) trivial trivial ?_
    refine PT.seq ?_
    refine PT.region ?_
    refine Ops.put rfl rfl (ox_assign .bool) (.nil) (.nil) rfl ?_
    refine Ops.nil ?_
    refine PT.sub (σ' := ⟨[(8, .val (false))], []⟩) ⟨rfl, trivial⟩ trivial ?_
    refine PT.ret ?_
    obtain rfl := Option.some.inj hφ
    exact PT.done hw0 rfl (.tmp rfl rfl .nil) rfl
  · replace hφ := if_else hφ hc3
    refine PT.sub (σ' := ⟨[(0, .val (a0)), (2, .val (a2)), (3, .val (a3)), (5, _)], [(5, .var (a1) [])]⟩) ⟨rfl, rfl, rfl, rfl, trivial⟩ ⟨rfl, trivial⟩ ?_
    refine PT.skip ?_
    obtain ⟨k4, hk4, hφ⟩ := J_some hφ
    refine PT.cut (ι := (List Mk.Request) × (List Int)) (fun p => ⟨[(2, .val (p.1)), (3, .val (p.2))], []⟩) (fun p => k4 (p.1) (p.2) = some r) ?_ ?_
    · skip
      refine PT.seq ?_
      obtain ⟨v5, hv5, hφ⟩ := B_some hφ
      obtain ⟨v6, hv6, hφ⟩ := B_some hφ
      refine PT.region ?_
      refine Ops.put rfl rfl (ox_move .tmp) (.one rfl) (.nil) rfl ?_
      refine Ops.put rfl rfl (ox_call (c_mklaw2_right hv5) (.cons .tmp .nil)) ((.app (.one rfl) .nil)) (.nil) rfl ?_
      refine Ops.put rfl rfl (ox_move .tmp) (.one rfl) (.nil) rfl ?_
      refine Ops.guard rfl rfl rfl rfl (.plain .nil) (fun hG => (ox_load_var t23)) ⟨rfl, trivial⟩ (.one rfl) rfl ?_
      refine Ops.guard rfl rfl rfl rfl (.cond (fun h => h) .nil) (fun hG => (ox_call (c_mkref1_WrongCall (Cn_on hv6 hG)) (.cons .tmp .nil))) ⟨rfl, trivial⟩ (.nil) rfl ?_
      refine Ops.guard rfl rfl rfl rfl (.cond (fun h => h) .nil) (fun hG => (ox_eql .tmp .int)) ⟨rfl, trivial⟩ (.nil) rfl ?_
      refine Ops.put rfl rfl ox_pick_and (⟨rfl, rfl, trivial⟩) (.nil) rfl ?_
      refine Ops.nil ?_
      refine PT.sub (σ' := ⟨[(0, .val (a0)), (2, .val (a2)), (3, .val (a3)), (5, _), (31, .val ((v5 && (decide (v6 = (0 : Int))))))], [(5, .var (a1) [])]⟩) ⟨rfl, rfl, rfl, rfl, rfl, trivial⟩ ⟨rfl, trivial⟩ ?_
      refine PT.cond _ rfl (fun hc7 => ?_) (fun hc7 => ?_)
      · replace hφ := if_then hφ hc7
        refine PT.sub (σ' := ⟨[(0, .val (a0)), (2, .val (a2)), (3, .val (a3)), (5, _)], [(5, .var (a1) [])]⟩) ⟨rfl, rfl, rfl, rfl, trivial⟩ ⟨rfl, trivial⟩ ?_
        refine PT.seq ?_
        obtain ⟨v8, hv8, hφ⟩ := B_some hφ
        refine PT.region ?_
        refine Ops.put rfl rfl (ox_move .tmp) (.one rfl) (.nil) rfl ?_
        refine Ops.put rfl rfl (ox_load_var t23) (.one rfl) (.one rfl) rfl ?_
        refine Ops.put rfl rfl (ox_call (c_model_Do hv8) (.cons .tmp (.cons .tmp .nil))) ((.app (.one rfl) (.app (.one rfl) .nil))) (.nil) rfl ?_
        refine Ops.put rfl rfl (ox_move .tmp) (.one rfl) (.nil) rfl ?_
        refine Ops.put rfl rfl (ox_extract rfl) (.one rfl) (.nil) rfl ?_
        refine Ops.put rfl rfl (ox_extract rfl) (.one rfl) (.nil) rfl ?_
        refine Ops.putO rfl rfl (ox_alloc (id := 10) z28) (.nil) (.nil) rfl (by kernel_rfl) ?_
        refine Ops.put rfl rfl (ox_assign .tmp) (.one rfl) (.nil) rfl ?_
        refine Ops.mute rfl rfl (ox_store_var t28 .tmp) ((.cons rfl (.one rfl))) (.one rfl) ?_
        refine Ops.nil ?_
        refine PT.sub (σ' := ⟨[(0, .val (a0)), (2, .val (a2)), (3, .val (a3)), (5, _), (9, .val (v8.1)), (10, _)], [(5, .var (a1) []), (10, .var (v8.2) [])]⟩) ⟨rfl, rfl, rfl, rfl, rfl, rfl, trivial⟩ ⟨rfl, rfl, trivial⟩ ?_
        refine PT.seq ?_
        obtain ⟨v9, hv9, hφ⟩ := B_some hφ
        refine PT.region ?_
        refine Ops.put rfl rfl (ox_move .tmp) (.one rfl) (.nil) rfl ?_
        refine Ops.put rfl rfl (ox_load_var t23) (.one rfl) (.one rfl) rfl ?_
        refine Ops.put rfl rfl (ox_call (c_mkref1_Do hv9) (.cons .tmp (.cons .tmp .nil))) ((.app (.one rfl) (.app (.one rfl) .nil))) (.nil) rfl ?_
        refine Ops.put rfl rfl (ox_move .tmp) (.one rfl) (.nil) rfl ?_
        refine Ops.put rfl rfl (ox_extract rfl) (.one rfl) (.nil) rfl ?_
        refine Ops.put rfl rfl (ox_extract rfl) (.one rfl) (.nil) rfl ?_
        refine Ops.putO rfl rfl (ox_alloc (id := 12) z28) (.nil) (.nil) rfl (by kernel_rfl) ?_
        refine Ops.put rfl rfl (ox_assign .tmp) (.one rfl) (.nil) rfl ?_
        refine Ops.mute rfl rfl (ox_store_var t28 .tmp) ((.cons rfl (.one rfl))) (.one rfl) ?_
        refine Ops.nil ?_
        refine PT.sub (σ' := ⟨[(2, .val (a2)), (3, .val (a3)), (9, .val (v8.1)), (10, _), (11, .val (v9.1)), (12, _)], [(10, .var (v8.2) []), (12, .var (v9.2) [])]⟩) ⟨rfl, rfl, rfl, rfl, rfl, rfl, trivial⟩ ⟨rfl, rfl, trivial⟩ ?_
        refine PT.seq ?_
        obtain ⟨v10, hv10, hφ⟩ := B_some hφ
        refine PT.region ?_
        refine Ops.put rfl rfl (ox_load_var t28) (.one rfl) (.one rfl) rfl ?_
        refine Ops.put rfl rfl (ox_load_var t28) (.one rfl) (.one rfl) rfl ?_
        refine Ops.put rfl rfl (ox_neqT e28 .tmp .tmp) ((.app (.one rfl) (.one rfl))) (.nil) rfl ?_
        refine Ops.put rfl rfl (ox_move .tmp) (.one rfl) (.nil) rfl ?_
        refine Ops.guard rfl rfl rfl rfl (.plain .nil) (fun hG => (ox_move .tmp)) ⟨rfl, trivial⟩ (.nil) rfl ?_
        refine Ops.guard rfl rfl rfl rfl (.plain .nil) (fun hG => (ox_move .tmp)) ⟨rfl, trivial⟩ (.nil) rfl ?_
        refine Ops.guard rfl rfl rfl rfl (.cond (fun h => h) (.cond (fun h => h) .nil)) (fun hG => (ox_call (c_mkref1_SameWrites (Cn_on hv10 hG)) (.cons .tmp (.cons .tmp .nil)))) ⟨rfl, rfl, trivial⟩ (.nil) rfl ?_
        refine Ops.guard rfl rfl rfl rfl (.cond (fun h => h) .nil) (fun hG => (ox_not .tmp)) ⟨rfl, trivial⟩ (.nil) rfl ?_
        refine Ops.put rfl rfl ox_pick_or (⟨rfl, rfl, trivial⟩) (.nil) rfl ?_
        refine Ops.nil ?_
        refine PT.sub (σ' := ⟨[(2, .val (a2)), (3, .val (a3)), (52, .val (((!decide (v8.2 = v9.2)) || (!v10))))], []⟩) ⟨rfl, rfl, rfl, trivial⟩ trivial ?_
        refine PT.cond _ rfl (fun hc11 => ?_) (fun hc11 => ?_)
        · replace hφ := if_then hφ hc11
          refine PT.sub (σ' := ⟨[], []⟩) trivial trivial ?_
          refine PT.seq ?_
          refine PT.region ?_
          refine Ops.put rfl rfl (ox_assign .bool) (.nil) (.nil) rfl ?_
          refine Ops.nil ?_
          refine PT.sub (σ' := ⟨[(8, .val (false))], []⟩) ⟨rfl, trivial⟩ trivial ?_
          refine PT.ret ?_
          obtain rfl := Option.some.inj hφ
          exact PT.done hw0 rfl (.tmp rfl rfl .nil) rfl
        · replace hφ := if_else hφ hc11
          refine PT.sub (σ' := ⟨[(2, .val (a2)), (3, .val (a3))], []⟩) ⟨rfl, rfl, trivial⟩ trivial ?_
          refine PT.skip ?_
          exact PT.meet (a2, a3) hφ ⟨rfl, rfl, trivial⟩ trivial
      · replace hφ := if_else hφ hc7
        refine PT.sub (σ' := ⟨[(2, .val (a2)), (3, .val (a3))], []⟩) ⟨rfl, rfl, trivial⟩ trivial ?_
        refine PT.skip ?_
        exact PT.meet (a2, a3) hφ ⟨rfl, rfl, trivial⟩ trivial
    · rintro ⟨x2_k4, x3_k4⟩ hφ
      subst hk4
      refine PT.sub (σ' := ⟨[(2, .val (x2_k4)), (3, .val (x3_k4))], []⟩) ⟨rfl, rfl, trivial⟩ trivial ?_
      refine PT.seq ?_
      refine PT.seq ?_
      obtain ⟨v12, hv12, hφ⟩ := B_some hφ
      obtain ⟨v13, hv13, hφ⟩ := B_some hφ
      obtain ⟨v14, hv14, hφ⟩ := B_some hφ
      obtain ⟨v15, hv15, hφ⟩ := B_some hφ
      refine PT.region ?_
      refine Ops.put rfl rfl (ox_move .tmp) (.one rfl) (.nil) rfl ?_
      refine Ops.put rfl rfl (ox_call (c_mkref1_WrongCells hv12) (.cons .tmp .nil)) ((.app (.one rfl) .nil)) (.nil) rfl ?_
      refine Ops.put rfl rfl (ox_eql .tmp .int) ((.app (.one rfl) (.nil))) (.nil) rfl ?_
      refine Ops.put rfl rfl (ox_move .tmp) (.one rfl) (.nil) rfl ?_
      refine Ops.guard rfl rfl rfl rfl (.plain .nil) (fun hG => (ox_move .tmp)) ⟨rfl, trivial⟩ (.nil) rfl ?_
      refine Ops.guard rfl rfl rfl rfl (.cond (fun h => h) .nil) (fun hG => (ox_call (c_model_Of (Cn_on hv13 hG)) (.cons .tmp .nil))) ⟨rfl, trivial⟩ (.nil) rfl ?_
      refine Ops.guard rfl rfl rfl rfl (.plain .nil) (fun hG => (ox_move .tmp)) ⟨rfl, trivial⟩ (.nil) rfl ?_
      refine Ops.guard rfl rfl rfl rfl (.cond (fun h => h) .nil) (fun hG => (ox_call (c_mkref1_Of (Cn_on hv14 hG)) (.cons .tmp .nil))) ⟨rfl, trivial⟩ (.nil) rfl ?_
      refine Ops.guard rfl rfl rfl rfl (.cond (fun h => h) (.cond (fun h => h) .nil)) (fun hG => (ox_call (c_mkref1_SameWrites (Cn_on hv15 hG)) (.cons .tmp (.cons .tmp .nil)))) ⟨rfl, rfl, trivial⟩ (.nil) rfl ?_
      refine Ops.guard rfl rfl rfl rfl (.cond (fun h => h) .nil) (fun hG => (ox_not .tmp)) ⟨rfl, trivial⟩ (.nil) rfl ?_
      refine Ops.put rfl rfl ox_pick_and (⟨rfl, rfl, trivial⟩) (.nil) rfl ?_
      refine Ops.nil ?_
      refine PT.sub (σ' := ⟨[(2, .val (x2_k4)), (63, .val (((decide (v12 = (0 : Int))) && (!v15))))], []⟩) ⟨rfl, rfl, trivial⟩ trivial ?_
      refine PT.cond _ rfl (fun hc16 => ?_) (fun hc16 => ?_)
      · replace hφ := if_then hφ hc16
        refine PT.sub (σ' := ⟨[], []⟩) trivial trivial ?_
        refine PT.seq ?_
        refine PT.region ?_
        refine Ops.put rfl rfl (ox_assign .bool) (.nil) (.nil) rfl ?_
        refine Ops.nil ?_
        refine PT.sub (σ' := ⟨[(8, .val (false))], []⟩) ⟨rfl, trivial⟩ trivial ?_
        refine PT.ret ?_
        obtain rfl := Option.some.inj hφ
        exact PT.done hw0 rfl (.tmp rfl rfl .nil) rfl
      · replace hφ := if_else hφ hc16
        refine PT.sub (σ' := ⟨[(2, .val (x2_k4))], []⟩) ⟨rfl, trivial⟩ trivial ?_
        refine PT.skip ?_
        obtain ⟨k17, hk17, hφ⟩ := J_some hφ
        refine PT.cut (ι := (List Mk.Request)) (fun p => ⟨[(2, .val (p))], []⟩) (fun p => k17 (p) = some r) ?_ ?_
        · skip
          refine PT.seq ?_
          refine PT.region ?_
          refine Ops.put rfl rfl (ox_move .tmp) (.one rfl) (.nil) rfl ?_
          refine Ops.put rfl rfl (ox_len s46 .tmp) (.one rfl) (.nil) rfl ?_
          refine Ops.put rfl rfl (ox_move .int) (.nil) (.nil) rfl ?_
          refine Ops.nil ?_
          refine PT.sub (σ' := ⟨[(2, .val (x2_k4)), (64, .val (x2_k4)), (65, .val ((x2_k4.length : Int))), (66, .val ((0 : Int)))], []⟩) ⟨rfl, rfl, rfl, rfl, trivial⟩ trivial ?_
          refine PT.block ?_
          refine PT.loop (ι := Nat × (List Mk.Request) × (List Mk.Request) × Int × Int) (fun p => ⟨[(2, .val (p.2.1)), (64, .val (p.2.2.1)), (65, .val (p.2.2.2.1)), (66, .val (p.2.2.2.2))], []⟩) (fun p => mklaw2_ModelTells_l1 k17 p.1 (p.2.1) (p.2.2.1) (p.2.2.2.1) (p.2.2.2.2) = some r) (fun p => p.1) (((x2_k4.length : Int) - (0 : Int)).toNat + 1, x2_k4, x2_k4, (x2_k4.length : Int), (0 : Int)) hφ ⟨rfl, rfl, rfl, rfl, trivial⟩ trivial ?_
          rintro ⟨m18, x2_m18, x64_m18, x65_m18, x66_m18⟩ (hφ : mklaw2_ModelTells_l1 k17 m18 x2_m18 x64_m18 x65_m18 x66_m18 = some r)
          obtain _ | m18 := m18
          · exact (none_no hφ).elim
          rw [mklaw2_ModelTells_l1.eq_2] at hφ
          refine PT.sub (σ' := ⟨[(2, .val (x2_m18)), (64, .val (x64_m18)), (65, .val (x65_m18)), (66, .val (x66_m18))], []⟩) ⟨rfl, rfl, rfl, rfl, trivial⟩ trivial ?_
          refine PT.seq ?_
          refine PT.region ?_
          refine Ops.put rfl rfl (ox_lss .tmp .tmp) ((.app (.one rfl) (.one rfl))) (.nil) rfl ?_
          refine Ops.nil ?_
          refine PT.sub (σ' := ⟨[(2, .val (x2_m18)), (64, .val (x64_m18)), (65, .val (x65_m18)), (66, .val (x66_m18)), (67, .val ((decide (x66_m18 < x65_m18))))], []⟩) ⟨rfl, rfl, rfl, rfl, rfl, trivial⟩ trivial ?_
          refine PT.seq ?_
          refine PT.cond _ rfl (fun hc19 => ?_) (fun hc19 => ?_)
          · replace hφ := if_then hφ hc19
            refine PT.sub (σ' := ⟨[(2, .val (x2_m18)), (64, .val (x64_m18)), (65, .val (x65_m18)), (66, .val (x66_m18))], []⟩) ⟨rfl, rfl, rfl, rfl, trivial⟩ trivial ?_
            refine PT.skip ?_
            refine PT.seq ?_
            refine PT.block ?_
            refine PT.seq ?_
            obtain ⟨hb20, hφ⟩ := G_some hφ
            refine PT.region ?_
            refine Ops.put rfl rfl (ox_ix s46 .tmp .tmp hb20.1 hb20.2) ((.app (.one rfl) (.one rfl))) (.nil) rfl ?_
            refine Ops.put rfl rfl (ox_load_elem t25) (.one rfl) (.nil) rfl ?_
            refine Ops.putO rfl rfl (ox_alloc (id := 14) z25) (.nil) (.nil) rfl (by kernel_rfl) ?_
            refine Ops.mute rfl rfl (ox_store_var t25 .tmp) ((.cons rfl (.one rfl))) (.one rfl) ?_
            refine Ops.nil ?_
            refine PT.sub (σ' := ⟨[(2, .val (x2_m18)), (14, _), (64, .val (x64_m18)), (65, .val (x65_m18)), (66, .val (x66_m18))], [(14, .var ((ix x64_m18 x66_m18)) [])]⟩) ⟨rfl, rfl, rfl, rfl, rfl, trivial⟩ ⟨rfl, trivial⟩ ?_
            refine PT.seq ?_
            obtain ⟨v21, hv21, hφ⟩ := B_some hφ
            refine PT.region ?_
            refine Ops.put rfl rfl (ox_fieldAddr_var Request_Call f25_2) (.one rfl) (.nil) rfl ?_
            refine Ops.put rfl rfl (ox_load_fld t23) (.one rfl) (.one rfl) rfl ?_
            refine Ops.put rfl rfl (ox_call (c_mkref1_WrongCall hv21) (.cons .tmp .nil)) ((.app (.one rfl) .nil)) (.nil) rfl ?_
            refine Ops.put rfl rfl (ox_neq .tmp .int) ((.app (.one rfl) (.nil))) (.nil) rfl ?_
            refine Ops.nil ?_
            refine PT.sub (σ' := ⟨[(2, .val (x2_m18)), (64, .val (x64_m18)), (65, .val (x65_m18)), (66, .val (x66_m18)), (73, .val ((!decide (v21 = (0 : Int)))))], []⟩) ⟨rfl, rfl, rfl, rfl, rfl, trivial⟩ trivial ?_
            refine PT.cond _ rfl (fun hc22 => ?_) (fun hc22 => ?_)
            · replace hφ := if_then hφ hc22
              refine PT.sub (σ' := ⟨[], []⟩) trivial trivial ?_
              refine PT.seq ?_
              refine PT.region ?_
              refine Ops.put rfl rfl (ox_assign .bool) (.nil) (.nil) rfl ?_
              refine Ops.nil ?_
              refine PT.sub (σ' := ⟨[(8, .val (true))], []⟩) ⟨rfl, trivial⟩ trivial ?_
              refine PT.ret ?_
              obtain rfl := Option.some.inj hφ
              exact PT.done hw0 rfl (.tmp rfl rfl .nil) rfl
            · replace hφ := if_else hφ hc22
              refine PT.sub (σ' := ⟨[(2, .val (x2_m18)), (64, .val (x64_m18)), (65, .val (x65_m18)), (66, .val (x66_m18))], []⟩) ⟨rfl, rfl, rfl, rfl, trivial⟩ trivial ?_
              refine PT.skip ?_
              obtain ⟨hb23, hφ⟩ := G_some hφ
              refine PT.region ?_
              refine Ops.put rfl rfl (ox_add .tmp .int hb23) ((.app (.one rfl) (.nil))) (.nil) rfl ?_
              refine Ops.put rfl rfl (ox_move .tmp) (.one rfl) (.nil) rfl ?_
              refine Ops.nil ?_
              refine PT.sub (σ' := ⟨[(2, .val (x2_m18)), (64, .val (x64_m18)), (65, .val (x65_m18)), (66, .val ((x66_m18 + (1 : Int))))], []⟩) ⟨rfl, rfl, rfl, rfl, trivial⟩ trivial ?_
              exact PT.next (m18, x2_m18, x64_m18, x65_m18, (x66_m18 + (1 : Int))) hφ (Nat.lt_succ_self _) ⟨rfl, rfl, rfl, rfl, trivial⟩ trivial
          · replace hφ := if_else hφ hc19
            refine PT.sub (σ' := ⟨[(2, .val (x2_m18))], []⟩) ⟨rfl, trivial⟩ trivial ?_
            refine PT.exit ?_
            exact PT.meet (x2_m18) hφ ⟨rfl, trivial⟩ trivial
        · rintro x2_k17 hφ
          subst hk17
          refine PT.sub (σ' := ⟨[(2, .val (x2_k17))], []⟩) ⟨rfl, trivial⟩ trivial ?_
          refine PT.seq ?_
          obtain ⟨v24, hv24, hφ⟩ := B_some hφ
          refine PT.region ?_
          refine Ops.put rfl rfl (ox_move .tmp) (.one rfl) (.nil) rfl ?_
          refine Ops.put rfl rfl (ox_call (c_model_All hv24) (.cons .tmp .nil)) ((.app (.one rfl) .nil)) (.nil) rfl ?_
          refine Ops.put rfl rfl (ox_move .tmp) (.one rfl) (.nil) rfl ?_
          refine Ops.put rfl rfl (ox_extract rfl) (.one rfl) (.nil) rfl ?_
          refine Ops.put rfl rfl (ox_extract rfl) (.one rfl) (.nil) rfl ?_
          refine Ops.put rfl rfl (ox_assign .tmp) (.one rfl) (.nil) rfl ?_
          refine Ops.put rfl rfl (ox_assign .tmp) (.one rfl) (.nil) rfl ?_
          refine Ops.nil ?_
          refine PT.sub (σ' := ⟨[(2, .val (x2_k17)), (15, .val (v24.1)), (16, .val (v24.2))], []⟩) ⟨rfl, rfl, rfl, trivial⟩ trivial ?_
          refine PT.seq ?_
          obtain ⟨v25, hv25, hφ⟩ := B_some hφ
          refine PT.region ?_
          refine Ops.put rfl rfl (ox_move .tmp) (.one rfl) (.nil) rfl ?_
          refine Ops.put rfl rfl (ox_call (c_mkref1_All hv25) (.cons .tmp .nil)) ((.app (.one rfl) .nil)) (.nil) rfl ?_
          refine Ops.put rfl rfl (ox_move .tmp) (.one rfl) (.nil) rfl ?_
          refine Ops.put rfl rfl (ox_extract rfl) (.one rfl) (.nil) rfl ?_
          refine Ops.put rfl rfl (ox_extract rfl) (.one rfl) (.nil) rfl ?_
          refine Ops.put rfl rfl (ox_assign .tmp) (.one rfl) (.nil) rfl ?_
          refine Ops.put rfl rfl (ox_assign .tmp) (.one rfl) (.nil) rfl ?_
          refine Ops.nil ?_
          refine PT.sub (σ' := ⟨[(15, .val (v24.1)), (16, .val (v24.2)), (17, .val (v25.1)), (18, .val (v25.2))], []⟩) ⟨rfl, rfl, rfl, rfl, trivial⟩ trivial ?_
          refine PT.seq ?_
          refine PT.seq ?_
          obtain ⟨v26, hv26, hφ⟩ := B_some hφ
          refine PT.region ?_
          refine Ops.put rfl rfl (ox_move .tmp) (.one rfl) (.nil) rfl ?_
          refine Ops.put rfl rfl (ox_len s76 .tmp) (.one rfl) (.nil) rfl ?_
          refine Ops.put rfl rfl (ox_move .tmp) (.one rfl) (.nil) rfl ?_
          refine Ops.put rfl rfl (ox_len s76 .tmp) (.one rfl) (.nil) rfl ?_
          refine Ops.put rfl rfl (ox_neq .tmp .tmp) ((.app (.one rfl) (.one rfl))) (.nil) rfl ?_
          refine Ops.put rfl rfl (ox_move .tmp) (.one rfl) (.nil) rfl ?_
          refine Ops.guard rfl rfl rfl rfl (.plain .nil) (fun hG => (ox_move .tmp)) ⟨rfl, trivial⟩ (.nil) rfl ?_
          refine Ops.guard rfl rfl rfl rfl (.plain .nil) (fun hG => (ox_move .tmp)) ⟨rfl, trivial⟩ (.nil) rfl ?_
          refine Ops.guard rfl rfl rfl rfl (.cond (fun h => h) (.cond (fun h => h) .nil)) (fun hG => (ox_call (c_mkref1_SameWrites (Cn_on hv26 hG)) (.cons .tmp (.cons .tmp .nil)))) ⟨rfl, rfl, trivial⟩ (.nil) rfl ?_
          refine Ops.guard rfl rfl rfl rfl (.cond (fun h => h) .nil) (fun hG => (ox_not .tmp)) ⟨rfl, trivial⟩ (.nil) rfl ?_
          refine Ops.put rfl rfl ox_pick_or (⟨rfl, rfl, trivial⟩) (.nil) rfl ?_
          refine Ops.nil ?_
          refine PT.sub (σ' := ⟨[(16, .val (v24.2)), (18, .val (v25.2)), (95, .val (((!decide ((v24.2.length : Int) = (v25.2.length : Int))) || (!v26))))], []⟩) ⟨rfl, rfl, rfl, trivial⟩ trivial ?_
          refine PT.cond _ rfl (fun hc27 => ?_) (fun hc27 => ?_)
          · replace hφ := if_then hφ hc27
            refine PT.sub (σ' := ⟨[], []⟩) trivial trivial ?_
            refine PT.seq ?_
            refine PT.region ?_
            refine Ops.put rfl rfl (ox_assign .bool) (.nil) (.nil) rfl ?_
            refine Ops.nil ?_
            refine PT.sub (σ' := ⟨[(8, .val (false))], []⟩) ⟨rfl, trivial⟩ trivial ?_
            refine PT.ret ?_
            obtain rfl := Option.some.inj hφ
            exact PT.done hw0 rfl (.tmp rfl rfl .nil) rfl
          · replace hφ := if_else hφ hc27
            refine PT.sub (σ' := ⟨[(16, .val (v24.2)), (18, .val (v25.2))], []⟩) ⟨rfl, rfl, trivial⟩ trivial ?_
            refine PT.skip ?_
            obtain ⟨k28, hk28, hφ⟩ := J_some hφ
            refine PT.cut (ι := Unit) (fun p => ⟨[], []⟩) (fun p => k28 () = some r) ?_ ?_
            · skip
              refine PT.seq ?_
              refine PT.region ?_
              refine Ops.put rfl rfl (ox_move .tmp) (.one rfl) (.nil) rfl ?_
              refine Ops.put rfl rfl (ox_len s76 .tmp) (.one rfl) (.nil) rfl ?_
              refine Ops.put rfl rfl (ox_move .int) (.nil) (.nil) rfl ?_
              refine Ops.nil ?_
              refine PT.sub (σ' := ⟨[(16, .val (v24.2)), (18, .val (v25.2)), (97, .val ((v24.2.length : Int))), (98, .val ((0 : Int)))], []⟩) ⟨rfl, rfl, rfl, rfl, trivial⟩ trivial ?_
              refine PT.block ?_
              refine PT.loop (ι := Nat × (List Mk.Reply) × (List Mk.Reply) × Int × Int) (fun p => ⟨[(16, .val (p.2.1)), (18, .val (p.2.2.1)), (97, .val (p.2.2.2.1)), (98, .val (p.2.2.2.2))], []⟩) (fun p => mklaw2_ModelTells_l2 k28 p.1 (p.2.1) (p.2.2.1) (p.2.2.2.1) (p.2.2.2.2) = some r) (fun p => p.1) (((v24.2.length : Int) - (0 : Int)).toNat + 1, v24.2, v25.2, (v24.2.length : Int), (0 : Int)) hφ ⟨rfl, rfl, rfl, rfl, trivial⟩ trivial ?_
              rintro ⟨m29, x16_m29, x18_m29, x97_m29, x98_m29⟩ (hφ : mklaw2_ModelTells_l2 k28 m29 x16_m29 x18_m29 x97_m29 x98_m29 = some r)
              obtain _ | m29 := m29
              · exact (none_no hφ).elim
              rw [mklaw2_ModelTells_l2.eq_2] at hφ
              refine PT.sub (σ' := ⟨[(16, .val (x16_m29)), (18, .val (x18_m29)), (97, .val (x97_m29)), (98, .val (x98_m29))], []⟩) ⟨rfl, rfl, rfl, rfl, trivial⟩ trivial ?_
              refine PT.seq ?_
              refine PT.region ?_
              refine Ops.put rfl rfl (ox_lss .tmp .tmp) ((.app (.one rfl) (.one rfl))) (.nil) rfl ?_
              refine Ops.nil ?_
              refine PT.sub (σ' := ⟨[(16, .val (x16_m29)), (18, .val (x18_m29)), (97, .val (x97_m29)), (98, .val (x98_m29)), (99, .val ((decide (x98_m29 < x97_m29))))], []⟩) ⟨rfl, rfl, rfl, rfl, rfl, trivial⟩ trivial ?_
              refine PT.seq ?_
              refine PT.cond _ rfl (fun hc30 => ?_) (fun hc30 => ?_)
              · replace hφ := if_then hφ hc30
                refine PT.sub (σ' := ⟨[(16, .val (x16_m29)), (18, .val (x18_m29)), (97, .val (x97_m29)), (98, .val (x98_m29))], []⟩) ⟨rfl, rfl, rfl, rfl, trivial⟩ trivial ?_
                refine PT.skip ?_
                refine PT.seq ?_
                refine PT.block ?_
                refine PT.seq ?_
                refine PT.region ?_
                refine Ops.put rfl rfl (ox_move .tmp) (.one rfl) (.nil) rfl ?_
                refine Ops.put rfl rfl (ox_assign .tmp) (.one rfl) (.nil) rfl ?_
                refine Ops.nil ?_
                refine PT.sub (σ' := ⟨[(16, .val (x16_m29)), (18, .val (x18_m29)), (19, .val (x98_m29)), (97, .val (x97_m29)), (98, .val (x98_m29))], []⟩) ⟨rfl, rfl, rfl, rfl, rfl, trivial⟩ trivial ?_
                refine PT.seq ?_
                obtain ⟨hb31, hφ⟩ := G_some hφ
                obtain ⟨hb32, hφ⟩ := G_some hφ
                refine PT.draw hMixed (
                    Segs.cons (Step.put rfl rfl (ox_move .tmp)) ⟨.one rfl, .nil⟩ (by kernel_rfl) rfl <|
                    Segs.cons (Step.put rfl rfl (ox_move .tmp)) ⟨.one rfl, .nil⟩ (by kernel_rfl) rfl <|
                    Segs.cons (Step.put rfl rfl (ox_ix s76 .tmp .tmp hb31.1 hb31.2)) ⟨(.app (.one rfl) (.one rfl)), .nil⟩ (by kernel_rfl) rfl <|
                    Segs.cons (Step.put rfl rfl (ox_load_elem t28)) ⟨.one rfl, .nil⟩ (by kernel_rfl) rfl <|
                    Segs.cons (Step.put rfl rfl (ox_move .tmp)) ⟨.one rfl, .nil⟩ (by kernel_rfl) rfl <|
                    Segs.cons (Step.put rfl rfl (ox_move .tmp)) ⟨.one rfl, .nil⟩ (by kernel_rfl) rfl <|
                    Segs.cons (Step.put rfl rfl (ox_ix s76 .tmp .tmp hb32.1 hb32.2)) ⟨(.app (.one rfl) (.one rfl)), .nil⟩ (by kernel_rfl) rfl <|
                    Segs.cons (Step.put rfl rfl (ox_load_elem t28)) ⟨.one rfl, .nil⟩ (by kernel_rfl) rfl <|
                    Segs.cons (Step.put rfl rfl (ox_neqT e28 .tmp .tmp)) ⟨(.app (.one rfl) (.one rfl)), .nil⟩ (by kernel_rfl) rfl <|
                    Segs.nil) _ [[], [], [0, 1], [0, 1, 2], [], [], [4, 5], [4, 5, 6], [0, 1, 2, 3, 4, 5, 6, 7]] rfl (by kernel_rfl) (by kernel_rfl) ?_
                refine PT.sub (σ' := ⟨[(16, .val (x16_m29)), (18, .val (x18_m29)), (97, .val (x97_m29)), (98, .val (x98_m29)), (109, .val ((!decide ((ix x16_m29 x98_m29) = (ix x18_m29 x98_m29)))))], []⟩) ⟨rfl, rfl, rfl, rfl, rfl, trivial⟩ trivial ?_
                refine PT.cond _ rfl (fun hc33 => ?_) (fun hc33 => ?_)
                · replace hφ := if_then hφ hc33
                  refine PT.sub (σ' := ⟨[], []⟩) trivial trivial ?_
                  refine PT.seq ?_
                  refine PT.region ?_
                  refine Ops.put rfl rfl (ox_assign .bool) (.nil) (.nil) rfl ?_
                  refine Ops.nil ?_
                  refine PT.sub (σ' := ⟨[(8, .val (false))], []⟩) ⟨rfl, trivial⟩ trivial ?_
                  refine PT.ret ?_
                  obtain rfl := Option.some.inj hφ
                  exact PT.done hw0 rfl (.tmp rfl rfl .nil) rfl
                · replace hφ := if_else hφ hc33
                  refine PT.sub (σ' := ⟨[(16, .val (x16_m29)), (18, .val (x18_m29)), (97, .val (x97_m29)), (98, .val (x98_m29))], []⟩) ⟨rfl, rfl, rfl, rfl, trivial⟩ trivial ?_
                  refine PT.skip ?_
                  obtain ⟨hb34, hφ⟩ := G_some hφ
                  refine PT.region ?_
                  refine Ops.put rfl rfl (ox_add .tmp .int hb34) ((.app (.one rfl) (.nil))) (.nil) rfl ?_
                  refine Ops.put rfl rfl (ox_move .tmp) (.one rfl) (.nil) rfl ?_
                  refine Ops.nil ?_
                  refine PT.sub (σ' := ⟨[(16, .val (x16_m29)), (18, .val (x18_m29)), (97, .val (x97_m29)), (98, .val ((x98_m29 + (1 : Int))))], []⟩) ⟨rfl, rfl, rfl, rfl, trivial⟩ trivial ?_
                  exact PT.next (m29, x16_m29, x18_m29, x97_m29, (x98_m29 + (1 : Int))) hφ (Nat.lt_succ_self _) ⟨rfl, rfl, rfl, rfl, trivial⟩ trivial
              · replace hφ := if_else hφ hc30
                refine PT.sub (σ' := ⟨[], []⟩) trivial trivial ?_
                refine PT.exit ?_
                exact PT.meet () hφ trivial trivial
            · rintro ⟨⟩ hφ
              subst hk28
              refine PT.sub (σ' := ⟨[], []⟩) trivial trivial ?_
              refine PT.seq ?_
              refine PT.region ?_
              refine Ops.put rfl rfl (ox_assign .bool) (.nil) (.nil) rfl ?_
              refine Ops.nil ?_
              refine PT.sub (σ' := ⟨[(8, .val (true))], []⟩) ⟨rfl, trivial⟩ trivial ?_
              refine PT.ret ?_
              obtain rfl := Option.some.inj hφ
              exact PT.done hw0 rfl (.tmp rfl rfl .nil) rfl
theorem c_mklaw2_ModelRight {a0 : List Mk.Write} {a1 : Mk.Call} {r : Bool} (hφ : mklaw2_ModelRight a0 a1 = some r) : Fn Go.Proofs.Try.prog 19 [.val a0, .val a1] (.val r) := by
  unfold mklaw2_ModelRight at hφ
  refine Fn.mk' Go.Proofs.Try.func19 rfl (by decide) rfl rfl rfl (fun w0 hw0 => ?_)
  refine PT.seq ?_
  refine PT.region ?_
  refine Ops.putO rfl rfl (ox_box (id := 3) .tmp) (.one rfl) (.nil) rfl (by kernel_rfl) ?_
  refine Ops.put rfl rfl (ox_assign .bool) (.nil) (.nil) rfl ?_
  refine Ops.nil ?_
  refine PT.sub (σ' := ⟨[(0, .val (a0)), (3, _)], [(3, .var (a1) [])]⟩) ⟨rfl, rfl, trivial⟩ ⟨rfl, trivial⟩ ?_
  refine PT.seq ?_
  refine PT.seq ?_
  obtain ⟨v1, hv1, hφ⟩ := B_some hφ
  refine PT.region ?_
  refine Ops.put rfl rfl (ox_call (c_mklaw2_alive hv1) .nil) (.nil) (.nil) rfl ?_
  refine Ops.put rfl rfl (ox_not .tmp) (.one rfl) (.nil) rfl ?_
  refine Ops.nil ?_
  refine PT.sub (σ' := ⟨[(0, .val (a0)), (3, _), (8, .val ((!v1)))], [(3, .var (a1) [])]⟩) ⟨rfl, rfl, rfl, trivial⟩ ⟨rfl, trivial⟩ ?_
  refine PT.cond _ rfl (fun hc2 => ?_) (fun hc2 => ?_)
  · replace hφ := if_then hφ hc2
    refine PT.sub (σ' := ⟨[], []⟩) trivial trivial ?_
    refine PT.seq ?_
    refine PT.region ?_
    refine Ops.put rfl rfl (ox_assign .bool) (.nil) (.nil) rfl ?_
    refine Ops.nil ?_
    refine PT.sub (σ' := ⟨[(4, .val (false))], []⟩) ⟨rfl, trivial⟩ trivial ?_
    refine PT.ret ?_
    obtain rfl := Option.some.inj hφ
    exact PT.done hw0 rfl (.tmp rfl rfl .nil) rfl
  · replace hφ := if_else hφ hc2
    refine PT.sub (σ' := ⟨[(0, .val (a0)), (3, _)], [(3, .var (a1) [])]⟩) ⟨rfl, rfl, trivial⟩ ⟨rfl, trivial⟩ ?_
    refine PT.skip ?_
    refine PT.seq ?_
    refine PT.seq ?_
    obtain ⟨v3, hv3, hφ⟩ := B_some hφ
    obtain ⟨v4, hv4, hφ⟩ := B_some hφ
    refine PT.region ?_
    refine Ops.put rfl rfl (ox_move .tmp) (.one rfl) (.nil) rfl ?_
    refine Ops.put rfl rfl (ox_call (c_mklaw2_right hv3) (.cons .tmp .nil)) ((.app (.one rfl) .nil)) (.nil) rfl ?_
    refine Ops.put rfl rfl (ox_not .tmp) (.one rfl) (.nil) rfl ?_
    refine Ops.put rfl rfl (ox_move .tmp) (.one rfl) (.nil) rfl ?_
    refine Ops.guard rfl rfl rfl rfl (.plain .nil) (fun hG => (ox_load_var t23)) ⟨rfl, trivial⟩ (.one rfl) rfl ?_
    refine Ops.guard rfl rfl rfl rfl (.cond (fun h => h) .nil) (fun hG => (ox_call (c_model_Wrong (Cn_on hv4 hG)) (.cons .tmp .nil))) ⟨rfl, trivial⟩ (.nil) rfl ?_
    refine Ops.guard rfl rfl rfl rfl (.cond (fun h => h) .nil) (fun hG => (ox_neq .tmp .int)) ⟨rfl, trivial⟩ (.nil) rfl ?_
    refine Ops.put rfl rfl ox_pick_or (⟨rfl, rfl, trivial⟩) (.nil) rfl ?_
    refine Ops.nil ?_
    refine PT.sub (σ' := ⟨[(0, .val (a0)), (3, _), (16, .val (((!v3) || (!decide (v4 = (0 : Int))))))], [(3, .var (a1) [])]⟩) ⟨rfl, rfl, rfl, trivial⟩ ⟨rfl, trivial⟩ ?_
    refine PT.cond _ rfl (fun hc5 => ?_) (fun hc5 => ?_)
    · replace hφ := if_then hφ hc5
      refine PT.sub (σ' := ⟨[], []⟩) trivial trivial ?_
      refine PT.seq ?_
      refine PT.region ?_
      refine Ops.put rfl rfl (ox_assign .bool) (.nil) (.nil) rfl ?_
      refine Ops.nil ?_
      refine PT.sub (σ' := ⟨[(4, .val (true))], []⟩) ⟨rfl, trivial⟩ trivial ?_
      refine PT.ret ?_
      obtain rfl := Option.some.inj hφ
      exact PT.done hw0 rfl (.tmp rfl rfl .nil) rfl
    · replace hφ := if_else hφ hc5
      refine PT.sub (σ' := ⟨[(0, .val (a0)), (3, _)], [(3, .var (a1) [])]⟩) ⟨rfl, rfl, trivial⟩ ⟨rfl, trivial⟩ ?_
      refine PT.skip ?_
      refine PT.seq ?_
      obtain ⟨v6, hv6, hφ⟩ := B_some hφ
      refine PT.region ?_
      refine Ops.put rfl rfl (ox_move .tmp) (.one rfl) (.nil) rfl ?_
      refine Ops.put rfl rfl (ox_load_var t23) (.one rfl) (.one rfl) rfl ?_
      refine Ops.put rfl rfl (ox_call (c_model_Do hv6) (.cons .tmp (.cons .tmp .nil))) ((.app (.one rfl) (.app (.one rfl) .nil))) (.nil) rfl ?_
      refine Ops.put rfl rfl (ox_move .tmp) (.one rfl) (.nil) rfl ?_
      refine Ops.put rfl rfl (ox_extract rfl) (.one rfl) (.nil) rfl ?_
      refine Ops.put rfl rfl (ox_extract rfl) (.one rfl) (.nil) rfl ?_
      refine Ops.putO rfl rfl (ox_alloc (id := 6) z28) (.nil) (.nil) rfl (by kernel_rfl) ?_
      refine Ops.put rfl rfl (ox_assign .tmp) (.one rfl) (.nil) rfl ?_
      refine Ops.mute rfl rfl (ox_store_var t28 .tmp) ((.cons rfl (.one rfl))) (.one rfl) ?_
      refine Ops.nil ?_
      refine PT.sub (σ' := ⟨[(0, .val (a0)), (5, .val (v6.1)), (6, _)], [(6, .var (v6.2) [])]⟩) ⟨rfl, rfl, rfl, trivial⟩ ⟨rfl, trivial⟩ ?_
      refine PT.seq ?_
      obtain ⟨v7, hv7, hφ⟩ := B_some hφ
      obtain ⟨v8, hv8, hφ⟩ := B_some hφ
      refine PT.region ?_
      refine Ops.put rfl rfl (ox_move .tmp) (.one rfl) (.nil) rfl ?_
      refine Ops.put rfl rfl (ox_call (c_mklaw2_right hv7) (.cons .tmp .nil)) ((.app (.one rfl) .nil)) (.nil) rfl ?_
      refine Ops.put rfl rfl (ox_move .tmp) (.one rfl) (.nil) rfl ?_
      refine Ops.guard rfl rfl rfl rfl (.plain .nil) (fun hG => (ox_fieldAddr_var Reply_Err f28_0)) ⟨rfl, trivial⟩ (.nil) rfl ?_
      refine Ops.guard rfl rfl rfl rfl (.cond (fun h => h) .nil) (fun hG => (ox_load_fld t26)) ⟨rfl, trivial⟩ (.one rfl) rfl ?_
      refine Ops.guard rfl rfl rfl rfl (.cond (fun h => h) .nil) (fun hG => (ox_eql .tmp .int)) ⟨rfl, trivial⟩ (.nil) rfl ?_
      refine Ops.guard rfl rfl rfl rfl (.cond (fun h => h) .nil) (fun hG => (ox_move .tmp)) ⟨rfl, trivial⟩ (.nil) rfl ?_
      refine Ops.guard2 rfl rfl rfl rfl (.plain .nil) (fun hG => (ox_fieldAddr_var Reply_N f28_1)) ⟨rfl, trivial⟩ (.nil) rfl ?_
      refine Ops.guard2 rfl rfl rfl rfl (.cond (fun h => h) .nil) (fun hG => (ox_load_fld t3)) ⟨rfl, trivial⟩ (.one rfl) rfl ?_
      refine Ops.guard2 rfl rfl rfl rfl (.cond (fun h => h) .nil) (fun hG => (ox_eql .tmp .int)) ⟨rfl, trivial⟩ (.nil) rfl ?_
      refine Ops.guard2 rfl rfl rfl rfl (.cond (fun h => h) .nil) (fun hG => (ox_move .tmp)) ⟨rfl, trivial⟩ (.nil) rfl ?_
      refine Ops.guard2 rfl rfl rfl rfl (.plain .nil) (fun hG => (ox_move .tmp)) ⟨rfl, trivial⟩ (.nil) rfl ?_
      refine Ops.guard2 rfl rfl rfl rfl (.plain .nil) (fun hG => (ox_move .tmp)) ⟨rfl, trivial⟩ (.nil) rfl ?_
      refine Ops.guard2 rfl rfl rfl rfl (.cond (fun h => h) (.cond (fun h => h) .nil)) (fun hG => (ox_call (c_mkref1_SameWrites (Cn_on hv8 hG)) (.cons .tmp (.cons .tmp .nil)))) ⟨rfl, rfl, trivial⟩ (.nil) rfl ?_
      refine Ops.guard2 rfl rfl rfl rfl (.cond (fun h => h) (.part (fun h => h) .nil)) (fun hG => ox_pick_and) ⟨rfl, rfl, trivial⟩ (.nil) rfl ?_
      refine Ops.guard rfl rfl rfl rfl (.cond (fun h => h) (.part (fun h => h) .nil)) (fun hG => ox_pick_or) ⟨rfl, rfl, trivial⟩ (.nil) rfl ?_
      refine Ops.put rfl rfl ox_pick_and (⟨rfl, rfl, trivial⟩) (.nil) rfl ?_
      refine Ops.put rfl rfl (ox_move .tmp) (.one rfl) (.nil) rfl ?_
      refine Ops.guard rfl rfl rfl rfl (.plain .nil) (fun hG => (ox_fieldAddr_var Reply_N f28_1)) ⟨rfl, trivial⟩ (.nil) rfl ?_
      refine Ops.guard rfl rfl rfl rfl (.cond (fun h => h) .nil) (fun hG => (ox_load_fld t3)) ⟨rfl, trivial⟩ (.one rfl) rfl ?_
      refine Ops.guard rfl rfl rfl rfl (.cond (fun h => h) .nil) (fun hG => (ox_geq .tmp .int)) ⟨rfl, trivial⟩ (.nil) rfl ?_
      refine Ops.put rfl rfl ox_pick_and (⟨rfl, rfl, trivial⟩) (.nil) rfl ?_
      refine Ops.put rfl rfl (ox_move .tmp) (.one rfl) (.nil) rfl ?_
      refine Ops.guard rfl rfl rfl rfl (.plain .nil) (fun hG => (ox_fieldAddr_var Reply_N f28_1)) ⟨rfl, trivial⟩ (.nil) rfl ?_
      refine Ops.guard rfl rfl rfl rfl (.cond (fun h => h) .nil) (fun hG => (ox_load_fld t3)) ⟨rfl, trivial⟩ (.one rfl) rfl ?_
      refine Ops.guard rfl rfl rfl rfl (.cond (fun h => h) .nil) (fun hG => (ox_leq .tmp .int)) ⟨rfl, trivial⟩ (.nil) rfl ?_
      refine Ops.put rfl rfl ox_pick_and (⟨rfl, rfl, trivial⟩) (.nil) rfl ?_
      refine Ops.put rfl rfl (ox_assign .tmp) (.one rfl) (.nil) rfl ?_
      refine Ops.nil ?_
      refine PT.sub (σ' := ⟨[(4, .val ((((v7 && ((decide (v6.2.Err = (0 : Int))) || ((decide (v6.2.N = (0 : Int))) && v8))) && (decide ((-1073741824 : Int) ≤ v6.2.N))) && (decide (v6.2.N ≤ (1073741824 : Int))))))], []⟩) ⟨rfl, trivial⟩ trivial ?_
      refine PT.ret ?_
      obtain rfl := Option.some.inj hφ
      exact PT.done hw0 rfl (.tmp rfl rfl .nil) rfl
theorem c_mklaw2_ModelSwap {a0 : List Mk.Write} {a1 : Int} {a2 : Int} {r : Bool} (hφ : mklaw2_ModelSwap a0 a1 a2 = some r) : Fn Go.Proofs.Try.prog 20 [.val a0, .val a1, .val a2] (.val r) := by
  unfold mklaw2_ModelSwap at hφ
  refine Fn.mk' Go.Proofs.Try.func20 rfl (by decide) rfl rfl rfl (fun w0 hw0 => ?_)
  refine PT.seq ?_
  refine PT.region ?_
  refine Ops.put rfl rfl (ox_assign .bool) (.nil) (.nil) rfl ?_
  refine Ops.nil ?_
  refine PT.sub (σ' := ⟨[(0, .val (a0)), (1, .val (a1)), (2, .val (a2))], []⟩) ⟨rfl, rfl, rfl, trivial⟩ trivial ?_
  refine PT.seq ?_
  refine PT.seq ?_
  obtain ⟨v1, hv1, hφ⟩ := B_some hφ
  refine PT.region ?_
  refine Ops.put rfl rfl (ox_call (c_mklaw2_alive hv1) .nil) (.nil) (.nil) rfl ?_
  refine Ops.put rfl rfl (ox_not .tmp) (.one rfl) (.nil) rfl ?_
  refine Ops.nil ?_
  refine PT.sub (σ' := ⟨[(0, .val (a0)), (1, .val (a1)), (2, .val (a2)), (14, .val ((!v1)))], []⟩) ⟨rfl, rfl, rfl, rfl, trivial⟩ trivial ?_
  refine PT.cond _ rfl (fun hc2 => ?_) (fun hc2 => ?_)
  · replace hφ := if_then hφ hc2
    refine PT.sub (σ' := ⟨[], []⟩) trivial trivial ?_
    refine PT.seq ?_
    refine PT.region ?_
    refine Ops.put rfl rfl (ox_assign .bool) (.nil) (.nil) rfl ?_
    refine Ops.nil ?_
    refine PT.sub (σ' := ⟨[(6, .val (false))], []⟩) ⟨rfl, trivial⟩ trivial ?_
    refine PT.ret ?_
    obtain rfl := Option.some.inj hφ
    exact PT.done hw0 rfl (.tmp rfl rfl .nil) rfl
  · replace hφ := if_else hφ hc2
    refine PT.sub (σ' := ⟨[(0, .val (a0)), (1, .val (a1)), (2, .val (a2))], []⟩) ⟨rfl, rfl, rfl, trivial⟩ trivial ?_
    refine PT.skip ?_
    refine PT.seq ?_
    refine PT.region ?_
    refine Ops.put rfl rfl (ox_move .tmp) (.one rfl) (.nil) rfl ?_
    refine Ops.put rfl rfl (ox_move .tmp) (.one rfl) (.nil) rfl ?_
    refine Ops.put rfl rfl (ox_buildB z23 u23 rfl (.cons Call_Kind f23_0 .int (.cons Call_Name f23_1 .tmp (.cons Call_Other f23_2 .tmp Bld.nil)))) ((.app (.nil) (.app (.one rfl) (.app (.one rfl) .nil)))) (.nil) rfl ?_
    refine Ops.put rfl rfl (ox_move .tmp) (.one rfl) (.nil) rfl ?_
    refine Ops.put rfl rfl (ox_move .tmp) (.one rfl) (.nil) rfl ?_
    refine Ops.put rfl rfl (ox_buildB z23 u23 rfl (.cons Call_Kind f23_0 .int (.cons Call_Name f23_1 .tmp (.cons Call_Other f23_2 .tmp Bld.nil)))) ((.app (.nil) (.app (.one rfl) (.app (.one rfl) .nil)))) (.nil) rfl ?_
    refine Ops.putO rfl rfl (ox_alloc (id := 7) z23) (.nil) (.nil) rfl (by kernel_rfl) ?_
    refine Ops.putO rfl rfl (ox_alloc (id := 8) z23) (.nil) (.nil) rfl (by kernel_rfl) ?_
    refine Ops.mute rfl rfl (ox_store_var t23 .tmp) ((.cons rfl (.one rfl))) (.one rfl) ?_
    refine Ops.mute rfl rfl (ox_store_var t23 .tmp) ((.cons rfl (.one rfl))) (.one rfl) ?_
    refine Ops.nil ?_
    refine PT.sub (σ' := ⟨[(0, .val (a0)), (7, _), (8, _)], [(7, .var (({ Kind := (6 : Int), Name := a1, Other := a2, N := (0 : Int) } : Mk.Call)) []), (8, .var (({ Kind := (6 : Int), Name := a2, Other := a1, N := (0 : Int) } : Mk.Call)) [])]⟩) ⟨rfl, rfl, rfl, trivial⟩ ⟨rfl, rfl, trivial⟩ ?_
    refine PT.seq ?_
    refine PT.seq ?_
    obtain ⟨v3, hv3, hφ⟩ := B_some hφ
    obtain ⟨v4, hv4, hφ⟩ := B_some hφ
    refine PT.region ?_
    refine Ops.put rfl rfl (ox_move .tmp) (.one rfl) (.nil) rfl ?_
    refine Ops.put rfl rfl (ox_call (c_mklaw2_right hv3) (.cons .tmp .nil)) ((.app (.one rfl) .nil)) (.nil) rfl ?_
    refine Ops.put rfl rfl (ox_not .tmp) (.one rfl) (.nil) rfl ?_
    refine Ops.put rfl rfl (ox_move .tmp) (.one rfl) (.nil) rfl ?_
    refine Ops.guard rfl rfl rfl rfl (.plain .nil) (fun hG => (ox_load_var t23)) ⟨rfl, trivial⟩ (.one rfl) rfl ?_
    refine Ops.guard rfl rfl rfl rfl (.cond (fun h => h) .nil) (fun hG => (ox_call (c_model_Wrong (Cn_on hv4 hG)) (.cons .tmp .nil))) ⟨rfl, trivial⟩ (.nil) rfl ?_
    refine Ops.guard rfl rfl rfl rfl (.cond (fun h => h) .nil) (fun hG => (ox_neq .tmp .int)) ⟨rfl, trivial⟩ (.nil) rfl ?_
    refine Ops.put rfl rfl ox_pick_or (⟨rfl, rfl, trivial⟩) (.nil) rfl ?_
    refine Ops.nil ?_
    refine PT.sub (σ' := ⟨[(0, .val (a0)), (7, _), (8, _), (28, .val (((!v3) || (!decide (v4 = (0 : Int))))))], [(7, .var (({ Kind := (6 : Int), Name := a1, Other := a2, N := (0 : Int) } : Mk.Call)) []), (8, .var (({ Kind := (6 : Int), Name := a2, Other := a1, N := (0 : Int) } : Mk.Call)) [])]⟩) ⟨rfl, rfl, rfl, rfl, trivial⟩ ⟨rfl, rfl, trivial⟩ ?_
    refine PT.cond _ rfl (fun hc5 => ?_) (fun hc5 => ?_)
    · replace hφ := if_then hφ hc5
      refine PT.sub (σ' := ⟨[], []⟩) trivial trivial ?_
      refine PT.seq ?_
      refine PT.region ?_
      refine Ops.put rfl rfl (ox_assign .bool) (.nil) (.nil) rfl ?_
      refine Ops.nil ?_
      refine PT.sub (σ' := ⟨[(6, .val (true))], []⟩) ⟨rfl, trivial⟩ trivial ?_
      refine PT.ret ?_
      obtain rfl := Option.some.inj hφ
      exact PT.done hw0 rfl (.tmp rfl rfl .nil) rfl
    · replace hφ := if_else hφ hc5
      refine PT.sub (σ' := ⟨[(0, .val (a0)), (7, _), (8, _)], [(7, .var (({ Kind := (6 : Int), Name := a1, Other := a2, N := (0 : Int) } : Mk.Call)) []), (8, .var (({ Kind := (6 : Int), Name := a2, Other := a1, N := (0 : Int) } : Mk.Call)) [])]⟩) ⟨rfl, rfl, rfl, trivial⟩ ⟨rfl, rfl, trivial⟩ ?_
      refine PT.skip ?_
      refine PT.seq ?_
      obtain ⟨v6, hv6, hφ⟩ := B_some hφ
      refine PT.region ?_
      refine Ops.put rfl rfl (ox_move .tmp) (.one rfl) (.nil) rfl ?_
      refine Ops.put rfl rfl (ox_load_var t23) (.one rfl) (.one rfl) rfl ?_
      refine Ops.put rfl rfl (ox_call (c_model_Do hv6) (.cons .tmp (.cons .tmp .nil))) ((.app (.one rfl) (.app (.one rfl) .nil))) (.nil) rfl ?_
      refine Ops.put rfl rfl (ox_move .tmp) (.one rfl) (.nil) rfl ?_
      refine Ops.put rfl rfl (ox_extract rfl) (.one rfl) (.nil) rfl ?_
      refine Ops.put rfl rfl (ox_extract rfl) (.one rfl) (.nil) rfl ?_
      refine Ops.putO rfl rfl (ox_alloc (id := 10) z28) (.nil) (.nil) rfl (by kernel_rfl) ?_
      refine Ops.put rfl rfl (ox_assign .tmp) (.one rfl) (.nil) rfl ?_
      refine Ops.mute rfl rfl (ox_store_var t28 .tmp) ((.cons rfl (.one rfl))) (.one rfl) ?_
      refine Ops.nil ?_
      refine PT.sub (σ' := ⟨[(0, .val (a0)), (8, _), (9, .val (v6.1)), (10, _)], [(8, .var (({ Kind := (6 : Int), Name := a2, Other := a1, N := (0 : Int) } : Mk.Call)) []), (10, .var (v6.2) [])]⟩) ⟨rfl, rfl, rfl, rfl, trivial⟩ ⟨rfl, rfl, trivial⟩ ?_
      refine PT.seq ?_
      obtain ⟨v7, hv7, hφ⟩ := B_some hφ
      refine PT.region ?_
      refine Ops.put rfl rfl (ox_move .tmp) (.one rfl) (.nil) rfl ?_
      refine Ops.put rfl rfl (ox_load_var t23) (.one rfl) (.one rfl) rfl ?_
      refine Ops.put rfl rfl (ox_call (c_model_Do hv7) (.cons .tmp (.cons .tmp .nil))) ((.app (.one rfl) (.app (.one rfl) .nil))) (.nil) rfl ?_
      refine Ops.put rfl rfl (ox_move .tmp) (.one rfl) (.nil) rfl ?_
      refine Ops.put rfl rfl (ox_extract rfl) (.one rfl) (.nil) rfl ?_
      refine Ops.put rfl rfl (ox_extract rfl) (.one rfl) (.nil) rfl ?_
      refine Ops.putO rfl rfl (ox_alloc (id := 12) z28) (.nil) (.nil) rfl (by kernel_rfl) ?_
      refine Ops.put rfl rfl (ox_assign .tmp) (.one rfl) (.nil) rfl ?_
      refine Ops.mute rfl rfl (ox_store_var t28 .tmp) ((.cons rfl (.one rfl))) (.one rfl) ?_
      refine Ops.nil ?_
      refine PT.sub (σ' := ⟨[(0, .val (a0)), (10, _), (11, .val (v7.1)), (12, _)], [(10, .var (v6.2) []), (12, .var (v7.2) [])]⟩) ⟨rfl, rfl, rfl, rfl, trivial⟩ ⟨rfl, rfl, trivial⟩ ?_
      refine PT.seq ?_
      obtain ⟨v8, hv8, hφ⟩ := B_some hφ
      refine PT.region ?_
      refine Ops.put rfl rfl (ox_fieldAddr_var Reply_Err f28_0) (.one rfl) (.nil) rfl ?_
      refine Ops.put rfl rfl (ox_load_fld t26) (.one rfl) (.one rfl) rfl ?_
      refine Ops.put rfl rfl (ox_fieldAddr_var Reply_Err f28_0) (.one rfl) (.nil) rfl ?_
      refine Ops.put rfl rfl (ox_load_fld t26) (.one rfl) (.one rfl) rfl ?_
      refine Ops.put rfl rfl (ox_eql .tmp .tmp) ((.app (.one rfl) (.one rfl))) (.nil) rfl ?_
      refine Ops.put rfl rfl (ox_move .tmp) (.one rfl) (.nil) rfl ?_
      refine Ops.guard rfl rfl rfl rfl (.plain .nil) (fun hG => (ox_move .tmp)) ⟨rfl, trivial⟩ (.nil) rfl ?_
      refine Ops.guard rfl rfl rfl rfl (.plain .nil) (fun hG => (ox_move .tmp)) ⟨rfl, trivial⟩ (.nil) rfl ?_
      refine Ops.guard rfl rfl rfl rfl (.cond (fun h => h) (.cond (fun h => h) .nil)) (fun hG => (ox_call (c_mkref1_SameWrites (Cn_on hv8 hG)) (.cons .tmp (.cons .tmp .nil)))) ⟨rfl, rfl, trivial⟩ (.nil) rfl ?_
      refine Ops.put rfl rfl ox_pick_and (⟨rfl, rfl, trivial⟩) (.nil) rfl ?_
      refine Ops.put rfl rfl (ox_assign .tmp) (.one rfl) (.nil) rfl ?_
      refine Ops.nil ?_
      refine PT.sub (σ' := ⟨[(6, .val (((decide (v6.2.Err = v7.2.Err)) && v8)))], []⟩) ⟨rfl, trivial⟩ trivial ?_
      refine PT.ret ?_
      obtain rfl := Option.some.inj hφ
      exact PT.done hw0 rfl (.tmp rfl rfl .nil) rfl
end Go.Gx
end
section
namespace Go.Gx
open Go.RowKit Go.ChangeShapes Go.WideShapes Sp
set_option linter.unusedVariables false
set_option linter.unusedSimpArgs false
def full (w : World) : PH := fun b o => w.cell? ⟨b, o, none⟩
theorem full_on (w : World) : (full w).on w := fun b o v h => h
structure Opn (P : Program) (T : TypeId) (α : Type) [GoTy α] : Prop where
  sz : P.cellsOf T = GoTy.sz α
  run : ∀ {H : Type} (enc : TypeId × Value → H) (w : World) (spare : Nat → Bool) (fuel : Nat) (cs : List Value) (d : DataW H × List MemPlace),
    DataW.trod enc P w 0 spare true fuel T cs = some d → ∃ y : α, GoTy.rep (full w) y cs
section
variable {P : Program}
theorem Opn.int {T : TypeId} (hu : P.underlying T = some (.int .i64)) (hs : P.cellsOf T = 1) : Opn P T Int :=
  ⟨hs, fun enc w spare fuel cs d h => by
    obtain ⟨n, rfl, _, hw⟩ := DataW.trod_int hu h
    refine ⟨n, rfl, ?_⟩
    simpa [Lit.wf, IntKind.min, IntKind.max, IntKind.signed, IntKind.bits, I64] using hw⟩
theorem Opn.u8 {T : TypeId} (hu : P.underlying T = some (.int .u8)) (hs : P.cellsOf T = 1) : Opn P T UInt8 :=
  ⟨hs, fun enc w spare fuel cs d h => by
    obtain ⟨n, rfl, _, hw⟩ := DataW.trod_int hu h
    have h2 : 0 ≤ n ∧ n ≤ 255 := by simpa [Lit.wf, IntKind.min, IntKind.max, IntKind.signed, IntKind.bits] using hw
    refine ⟨UInt8.ofNat n.toNat, ?_⟩
    show [Value.int .u8 n] = [Value.int .u8 ((UInt8.ofNat n.toNat).toNat : Int)]
    have e : (UInt8.ofNat n.toNat).toNat = n.toNat := Nat.mod_eq_of_lt (by omega)
    rw [e, Int.toNat_of_nonneg h2.1]⟩
theorem Opn.bool {T : TypeId} (hu : P.underlying T = some .bool) (hs : P.cellsOf T = 1) : Opn P T Bool :=
  ⟨hs, fun enc w spare fuel cs d h => by
    obtain ⟨b, rfl, _⟩ := DataW.trod_bool hu h
    exact ⟨b, rfl⟩⟩
def OpnRow (P : Program) (fs : List Field) (off : Nat) (α : Type) [GoTy α] : Prop :=
  ∀ {H : Type} (enc : TypeId × Value → H) (w : World) (spare : Nat → Bool) (n : Nat) (cs : List Value),
    (∀ f ∈ fs, ∃ d, DataW.trod enc P w 0 spare true n f.type ((cs.drop f.offset).take (P.cellsOf f.type)) = some d) → ∃ y : α, GoTy.rep (full w) y ((cs.drop off).take (GoTy.sz α))
theorem OpnRow.one {off : Nat} {f : Field} {α : Type} [GoTy α] (ho : f.offset = off) (h : Opn P f.type α) : OpnRow P [f] off α := fun enc w spare n cs hd => by
  obtain ⟨d, hd⟩ := hd f (by simp)
  rw [ho, h.sz] at hd
  exact h.run enc w spare n _ d hd
theorem OpnRow.cons {off : Nat} {f : Field} {fs : List Field} {α β : Type} [GoTy α] [GoTy β] (ho : f.offset = off) (h : Opn P f.type α) (hr : OpnRow P fs (off + GoTy.sz α) β) : OpnRow P (f :: fs) off (α × β) := fun enc w spare n cs hd => by
  obtain ⟨d, h1⟩ := hd f (by simp)
  rw [ho, h.sz] at h1
  obtain ⟨y, hy⟩ := h.run enc w spare n _ d h1
  obtain ⟨z, hz⟩ := hr enc w spare n cs (fun g hg => hd g (by simp [hg]))
  refine ⟨(y, z), _, _, ?_, hy, hz⟩
  show (cs.drop off).take (GoTy.sz α + GoTy.sz β) = _
  rw [List.take_add, List.drop_drop]
theorem Opn.struct {T : TypeId} {α β : Type} [GoTy α] [GoTy β] {fs : Array Field} (g : β → α) (hrep : ∀ ph y vs, GoTy.rep (α := β) ph y vs → GoTy.rep ph (g y) vs) (hsz : P.cellsOf T = GoTy.sz α) (hszb : GoTy.sz α = GoTy.sz β)
    (hu : P.underlying T = some (.struct fs)) (hr : OpnRow P fs.toList 0 β) : Opn P T α :=
  ⟨hsz, fun enc w spare fuel cs d h => by
    obtain ⟨xs, n, rfl, _, hl, hx, hi⟩ := DataW.trod_struct hu h
    obtain ⟨y, hy⟩ := hr enc w spare n cs (fun f hf => by
      obtain ⟨i, hi', hfi⟩ := List.getElem_of_mem hf
      have h2 := hi i f (by simpa using List.getElem?_eq_some_iff.2 ⟨hi', hfi⟩)
      have hlt : i < xs.length := by rw [hx]; simpa using hi'
      exact ⟨xs[i], by rw [h2]; simp [hlt]⟩)
    refine ⟨g y, hrep _ _ _ ?_⟩
    have : (cs.drop 0).take (GoTy.sz β) = cs := by rw [List.drop_zero, List.take_of_length_le (by omega)]
    rwa [this] at hy⟩
theorem cell_spot {w : World} {a : Addr} {u : Value} (h : w.cell? a = some u) : a.spot = none := by
  unfold World.cell? at h
  split at h
  · split at h
    · cases h
    · rename_i hs; simpa using hs
  · cases h
theorem add_add_cell {w : World} {a : Addr} {k j : Nat} {u : Value} (h : w.cell? ((a.add k).add j) = some u) : full w a.block (a.off + k + j) = some u := by
  have hs := cell_spot h
  have e : (a.add k).add j = ⟨a.block, a.off + k + j, none⟩ := by
    revert hs
    unfold Addr.add
    by_cases hk : k = 0 <;> by_cases hj : j = 0 <;> simp [hk, hj] <;> (try (cases a; simp))
  rw [e] at h; exact h
theorem cells_get {w : World} {a : Addr} {k n : Nat} {cs : List Value} (h : w.cells? 0 (a.add k) n = some cs) : ∀ j u, cs[j]? = some u → full w a.block (a.off + k + j) = some u := fun j u hu => by
  unfold World.cells? at h
  rw [if_pos (Nat.zero_le _)] at h
  have hl := mapM_some_length h
  have hj : j < n := by
    have := (List.getElem?_eq_some_iff.1 hu).1
    rw [hl] at this; simpa using this
  have := mapM_some_get h j j (by simp [hj])
  rw [hu] at this
  exact add_add_cell this
theorem spot_of_cells {w : World} {a : Addr} {n : Nat} {cs : List Value} (hn : 0 < n) (h : w.cells? 0 (a.add 0) n = some cs) : a.spot = none := by
  unfold World.cells? at h
  rw [if_pos (Nat.zero_le _)] at h
  have hl := mapM_some_length h
  have := mapM_some_get h 0 0 (by simp [hn])
  have hc : (cs[0]?) = some (cs[0]'(by rw [hl]; simpa using hn)) := by simp
  rw [hc] at this
  have := cell_spot this
  simpa [Addr.add] using this
theorem Opn.slice_run {T E : TypeId} {α : Type} [GoTy α] (hE : Opn P E α) (hu : P.underlying T = some (.slice E)) {H : Type} (enc : TypeId × Value → H) (w : World) (spare : Nat → Bool) (fuel : Nat) (cs : List Value) (d : DataW H × List MemPlace)
    (h : DataW.trod enc P w 0 spare true fuel T cs = some d) : ∃ y : List α, GoTy.rep (full w) y cs ∧ ∀ n, (∀ m ∈ d.1.weights P T, m ≤ n) → y.length * P.bytesOf E ≤ n := by
    rcases DataW.trod_slice hu h with ⟨rfl, _⟩ | ⟨a, len, cap, elems, rest, n, rfl, rfl, hdx, _, h1, h2, h3, h4, _, _⟩
    · exact ⟨[], ⟨_, rfl, repS_nil _⟩, fun n _ => by rw [List.length_nil, Nat.zero_mul]; exact Nat.zero_le _⟩
    · have hpos := GoTy.pos (α := α)
      rw [hE.sz] at h4
      have one : ∀ i, i < len → ∃ c d, w.cells? 0 (a.add (i * GoTy.sz α)) (GoTy.sz α) = some c ∧ DataW.trod enc P w 0 spare true n E c = some d := by
        intro i hi
        have := h4 i hi
        rw [show elems[i]? = some (elems[i]'(by omega)) from by simp [h3, hi]] at this
        simp only [Option.bind_eq_some_iff] at this
        obtain ⟨c, e1, e2⟩ := this
        exact ⟨c, _, e1, e2⟩
      have all : ∀ m i, i + m = len → ∃ (ys : List α) (r : List Value), ys.length = m ∧ RepL (full w) ys r ∧ ∀ j u, r[j]? = some u → full w a.block (a.off + i * GoTy.sz α + j) = some u := by
        intro m
        induction m with
        | zero => intro i _; exact ⟨[], [], rfl, rfl, fun j u hu => by simp at hu⟩
        | succ m ih =>
          intro i hi
          obtain ⟨c, d, e1, e2⟩ := one i (by omega)
          obtain ⟨y, hy⟩ := hE.run enc w spare n c d e2
          obtain ⟨ys, r, f1, f2, f3⟩ := ih (i + 1) (by omega)
          have hcl := GoTy.len hy
          refine ⟨y :: ys, c ++ r, by simp [f1], ⟨c, r, rfl, hy, f2⟩, fun j u hu => ?_⟩
          by_cases hj : j < c.length
          · rw [List.getElem?_append_left hj] at hu
            exact cells_get e1 j u hu
          · rw [List.getElem?_append_right (by omega)] at hu
            have := f3 _ u hu
            rw [hcl, Nat.add_mul, Nat.one_mul] at this
            rw [show a.off + i * GoTy.sz α + j = a.off + (i * GoTy.sz α + GoTy.sz α) + (j - GoTy.sz α) from by omega]
            exact this
      obtain ⟨ys, r, f1, f2, f3⟩ := all len 0 (by omega)
      refine ⟨ys, ?_, fun n hn => ?_⟩
      rotate_left
      · have := hn ((elems.length + rest.length) * P.bytesOf E) (by
          rw [hdx]
          show _ ∈ DataW.weights P T (DataW.slice (elems.map (·.1)) (rest.map (·.1)))
          rw [DataW.weights, hu]
          simp)
        rw [f1, ← h3]
        exact Nat.le_trans (Nat.mul_le_mul_right _ (by omega)) this
      refine ⟨_, rfl, some a, cap, r, by rw [f1], by omega, by unfold maxLen at h2; omega, f2, fun e => (by cases e), ?_⟩
      by_cases h0 : len = 0
      · left
        have := f2.len
        rw [f1, h0, Nat.zero_mul] at this
        exact List.eq_nil_of_length_eq_zero this
      · right
        obtain ⟨c, d, e1, e2⟩ := one 0 (by omega)
        rw [Nat.zero_mul] at e1
        have hsp := spot_of_cells hpos e1
        refine ⟨a.block, a.off, by cases a; simp_all, fun j u hu => ?_⟩
        have := f3 j u hu
        simpa using this
theorem Opn.slice {T E : TypeId} {α : Type} [GoTy α] (hE : Opn P E α) (hu : P.underlying T = some (.slice E)) (hs : P.cellsOf T = 1) : Opn P T (List α) :=
  ⟨hs, fun {H} enc w spare fuel cs d h => by
    obtain ⟨y, hy, _⟩ := hE.slice_run hu enc w spare fuel cs d h
    exact ⟨y, hy⟩⟩
theorem Opn.top_struct {T : TypeId} {α : Type} [GoTy α] (h : Opn P T α) (hagg : GoTy.agg α = true) {fs : Array Field} (hu : P.underlying T = some (.struct fs)) {W : World} {b : Nat} {v : Value} (hok : Value.okWide P W .any b T v)
    {H : Type} {enc : TypeId × Value → H} {d : DataW H} {p : List MemPlace} (ht : DataW.Trod enc P W 0 (fun _ => true) true T v d p) : ∃ y : α, (Desc.val y).holds (base (full W)) v := by
  obtain ⟨fuel, ht⟩ := ht
  obtain ⟨y, hy⟩ := h.run enc W _ fuel _ _ ht
  unfold Value.okWide at hok
  rw [hu] at hok
  obtain ⟨cs, rfl, _⟩ := hok
  exact ⟨y, _, hy, by simp [mkVal, hagg, Value.cells]⟩
theorem Opn.top_cell {T : TypeId} {α : Type} [GoTy α] (h : Opn P T α) (hagg : GoTy.agg α = false) (hu : (∃ k, P.underlying T = some (.int k)) ∨ P.underlying T = some .bool ∨ (∃ e, P.underlying T = some (.slice e)) ∨ P.underlying T = some .string) {W : World} {b : Nat} {v : Value}
    (hok : Value.okWide P W .any b T v) {H : Type} {enc : TypeId × Value → H} {d : DataW H} {p : List MemPlace} (ht : DataW.Trod enc P W 0 (fun _ => true) true T v d p) : ∃ y : α, (Desc.val y).holds (base (full W)) v := by
  obtain ⟨fuel, ht⟩ := ht
  obtain ⟨y, hy⟩ := h.run enc W _ fuel _ _ ht
  have hv : v.cells = #[v] := by
    cases v with
    | agg cs =>
      exfalso
      rcases hu with ⟨k, hu⟩ | hu | ⟨e, hu⟩ | hu <;> simp [Value.okWide, Cell.okWide, Cell.ok, hu] at hok
    | _ => rfl
  rw [hv] at hy
  exact ⟨y, _, hy, by simp [mkVal, hagg]⟩
theorem Opn.top_slice {T E : TypeId} {α : Type} [GoTy α] (h : Opn P E α) (hu : P.underlying T = some (.slice E)) {W : World} {b : Nat} {v : Value}
    (hok : Value.okWide P W .any b T v) {H : Type} {enc : TypeId × Value → H} {d : DataW H} {p : List MemPlace} (ht : DataW.Trod enc P W 0 (fun _ => true) true T v d p) {ts : List TypeId} {ds : List (DataW H)} (hsz : (DataW.weightsEach P ts ds).all (· ≤ reachBytes) = true) {j : Nat} (h1 : ts[j]? = some T) (h2 : ds[j]? = some d) :
    ∃ y : List α, (Desc.val y).holds (base (full W)) v ∧ y.length * P.bytesOf E ≤ reachBytes := by
  obtain ⟨fuel, ht⟩ := ht
  obtain ⟨y, hy, hl⟩ := h.slice_run hu enc W _ fuel _ _ ht
  have hv : v.cells = #[v] := by
    cases v with
    | agg cs => exfalso; simp [Value.okWide, Cell.okWide, Cell.ok, hu] at hok
    | _ => rfl
  rw [hv] at hy
  exact ⟨y, ⟨_, hy, by simp [mkVal, GoTy.agg]⟩, hl _ fun m hm => by simpa using List.all_eq_true.1 hsz _ (DataW.weights_mem_each h1 h2 m hm)⟩
end
end Go.Gx
end
section
namespace Go.Gx
set_option linter.unusedVariables false
theorem o3 : Opn Go.Proofs.Try.prog 3 Int := Opn.int (by kernel_rfl) (by kernel_rfl)
theorem o23 : Opn Go.Proofs.Try.prog 23 Mk.Call := Opn.struct (β := Int × Int × Int × Int) (fun y : Int × Int × Int × Int => (⟨y.1, y.2.1, y.2.2.1, y.2.2.2⟩ : Mk.Call)) (fun _ _ _ h => h) (by kernel_rfl) rfl Go.Proofs.Try.underlying23 (OpnRow.cons rfl o3 (OpnRow.cons rfl o3 (OpnRow.cons rfl o3 (OpnRow.one rfl o3))))
theorem o25 : Opn Go.Proofs.Try.prog 25 Mk.Request := Opn.struct (β := Int × Int × Mk.Call) (fun y : Int × Int × Mk.Call => (⟨y.1, y.2.1, y.2.2⟩ : Mk.Request)) (fun _ _ _ h => h) (by kernel_rfl) rfl Go.Proofs.Try.underlying25 (OpnRow.cons rfl o3 (OpnRow.cons rfl o3 (OpnRow.one rfl o23)))
theorem o43 : Opn Go.Proofs.Try.prog 43 (List Int) := Opn.slice o3 (by kernel_rfl) (by kernel_rfl)
theorem o50 : Opn Go.Proofs.Try.prog 50 Mk.Write := Opn.struct (β := Int × Int) (fun y : Int × Int => (⟨y.1, y.2⟩ : Mk.Write)) (fun _ _ _ h => h) (by kernel_rfl) rfl Go.Proofs.Try.underlying50 (OpnRow.cons rfl o3 (OpnRow.one rfl o3))
theorem o44 : Opn Go.Proofs.Try.prog 44 (List Mk.Write) := Opn.slice o50 (by kernel_rfl) (by kernel_rfl)
end Go.Gx
end
section
namespace Sp
set_option linter.unusedVariables false
set_option linter.unusedSimpArgs false
theorem G_on {α : Type} {p : Prop} [Decidable p] {k : Option α} (h : p) : G p k = k := by unfold G; rw [if_pos h]
theorem Cn_yes {α : Type} [Inhabited α] {p : Prop} [Decidable p] {k : Option α} (h : p) : Cn p k = k := by unfold Cn; rw [if_pos h]
theorem Cn_no {α : Type} [Inhabited α] {p : Prop} [Decidable p] {k : Option α} (h : ¬ p) : Cn p k = some default := by unfold Cn; rw [if_neg h]
def pos : List Mk.Write → Int → Int
  | [], _ => -1
  | w :: l, x => if w.At = x then 0 else (if pos l x < 0 then -1 else pos l x + 1)
theorem pos_range (l : List Mk.Write) (x : Int) : -1 ≤ pos l x ∧ pos l x < l.length := by
  induction l with
  | nil => simp [pos]
  | cons w l ih =>
    simp only [pos, List.length_cons]
    split
    · omega
    · split <;> omega
structure Rt (c : List Int) (l : List Mk.Write) : Prop where
  len : c.length = 11
  n : ix c 0 = l.length
  le : l.length ≤ 5
  ats : ∀ i : Nat, i < l.length → ix c (1 + 2 * (i : Int)) = (ix l i).At ∧ ix c (2 + 2 * (i : Int)) = (ix l i).N
  at1 : ∀ w ∈ l, 1 ≤ w.At ∧ w.At ≤ 255 ∧ -1073741824 ≤ w.N ∧ w.N ≤ 1073741824
  nodup : (l.map (·.At)).Nodup
theorem ix_drop {α : Type} [Inhabited α] (l : List α) (i : Nat) (h : i < l.length) : l.drop i = ix l i :: l.drop (i + 1) := by
  rw [List.drop_eq_getElem_cons h]
  simp [ix, h]
theorem of_loop {c : List Int} {l : List Mk.Write} (h : Rt c l) (k : List Mk.Write → Option (List Mk.Write)) : ∀ (m i : Nat), i + m = l.length → ∀ (f : Nat), m < f → ∀ acc : List Mk.Write, acc.length = i →
    mkref1_Of_l1 k f c (1 + 2 * (i : Int)) acc = k (acc ++ l.drop i) := by
  intro m
  induction m with
  | zero =>
    intro i hi f hf acc ha
    have hle := h.le
    have hlen := h.len
    have hn := h.n
    obtain ⟨f, rfl⟩ : ∃ g, f = g + 1 := ⟨f - 1, by omega⟩
    rw [mkref1_Of_l1, G_on (by omega), G_on (by unfold I; omega), G_on (by unfold I; omega), decide_eq_false (by omega), cond_false, List.drop_of_length_le (by omega), List.append_nil]
  | succ m ih =>
    intro i hi f hf acc ha
    have hle := h.le
    have hlen := h.len
    have hn := h.n
    obtain ⟨hat, hnn⟩ := h.ats i (by omega)
    obtain ⟨f, rfl⟩ : ∃ g, f = g + 1 := ⟨f - 1, by omega⟩
    have e2 : (1 + 2 * (i : Int) + 1) = 2 + 2 * (i : Int) := by omega
    rw [mkref1_Of_l1, G_on (by omega), G_on (by unfold I; omega), G_on (by unfold I; omega), decide_eq_true (by omega), cond_true, G_on (by omega), G_on (by unfold I; omega), G_on (by omega), G_on (by simp; omega), G_on (by unfold I; omega), e2, hat, hnn,
      show (1 + 2 * (i : Int) + 2) = 1 + 2 * ((i + 1 : Nat) : Int) from by omega, ih (i + 1) (by omega) f (by omega) _ (by simp [ha]), ix_drop l i (by omega)]
    simp
theorem of_eq {c : List Int} {l : List Mk.Write} (h : Rt c l) : mkref1_Of c = some l := by
  unfold mkref1_Of
  simp only [J]
  have hn := h.n
  have := of_loop h (fun y => some y) l.length 0 (by omega) ((1 + 2 * ix c 0 - 1).toNat + 1) (by omega) [] rfl
  rw [show (1 + 2 * ((0 : Nat) : Int)) = 1 from rfl] at this
  rw [this]; simp
end Sp
end
section
namespace Sp
set_option linter.unusedVariables false
set_option linter.unusedSimpArgs false
def gt : List Mk.Write → Int → Int × Bool
  | [], _ => (0, false)
  | w :: l, x => if w.At = x then (w.N, true) else gt l x
def put (l : List Mk.Write) (x n : Int) : List Mk.Write := l.map fun w => if w.At = x then { w with N := n } else w
def has (l : List Mk.Write) (x : Int) : Bool := l.any fun w => decide (w.At = x)
def st (l : List Mk.Write) (x n : Int) : List Mk.Write := if has l x then put l x n else put l x n ++ [⟨x, n⟩]
def dp (l : List Mk.Write) (x : Int) : List Mk.Write := (l.map fun w => if w.At = x then ix l ((l.length : Int) - 1) else w).take (l.length - 1)
theorem get_loop (l : List Mk.Write) (x : Int) (hl : l.length ≤ 1000000000) (k : Unit → Option (Int × Bool)) (hk : k () = some (0, false)) : ∀ (m i : Nat), i + m = l.length → ∀ f : Nat, m < f →
    mkref1_get_l1 k f x l (l.length : Int) (i : Int) = some (gt (l.drop i) x) := by
  intro m
  induction m with
  | zero =>
    intro i hi f hf
    obtain ⟨f, rfl⟩ : ∃ g, f = g + 1 := ⟨f - 1, by omega⟩
    rw [mkref1_get_l1, decide_eq_false (by omega), cond_false, hk, List.drop_of_length_le (by omega)]
    rfl
  | succ m ih =>
    intro i hi f hf
    obtain ⟨f, rfl⟩ : ∃ g, f = g + 1 := ⟨f - 1, by omega⟩
    have e : ix l (i : Int) = ix l i := rfl
    rw [mkref1_get_l1, decide_eq_true (by omega), cond_true, G_on (by omega), ix_drop l i (by omega)]
    by_cases h : (ix l (i : Int)).At = x
    · rw [decide_eq_true h, cond_true]; simp only [gt, h, if_true]
    · rw [decide_eq_false h, cond_false, G_on (by unfold I; omega), show ((i : Int) + 1) = ((i + 1 : Nat) : Int) from by omega, ih (i + 1) (by omega) f (by omega)]
      simp only [gt, h, if_false]
theorem get_eq (l : List Mk.Write) (x : Int) (hl : l.length ≤ 1000000000) : mkref1_get l x = some (gt l x) := by
  unfold mkref1_get
  simp only [J]
  have := get_loop l x hl (fun _ => some (0, false)) rfl l.length 0 (by omega) (((l.length : Int) - 0).toNat + 1) (by omega)
  rw [show ((0 : Nat) : Int) = 0 from rfl, List.drop_zero] at this
  exact this
theorem set_loop (l : List Mk.Write) (x n : Int) (hl : l.length ≤ 1000000000) (k : Int → Int → Bool → List Mk.Write → Option (List Mk.Write)) : ∀ (m i : Nat), i + m = l.length → ∀ f : Nat, m < f → ∀ (done : Bool) (acc : List Mk.Write), acc.length = i →
    mkref1_set_l1 k f x n done l (l.length : Int) (i : Int) acc = k x n (done || has (l.drop i) x) (acc ++ put (l.drop i) x n) := by
  intro m
  induction m with
  | zero =>
    intro i hi f hf done acc ha
    obtain ⟨f, rfl⟩ : ∃ g, f = g + 1 := ⟨f - 1, by omega⟩
    rw [mkref1_set_l1, decide_eq_false (by omega), cond_false, List.drop_of_length_le (by omega)]
    simp [has, put]
  | succ m ih =>
    intro i hi f hf done acc ha
    obtain ⟨f, rfl⟩ : ∃ g, f = g + 1 := ⟨f - 1, by omega⟩
    rw [mkref1_set_l1, decide_eq_true (by omega), cond_true, G_on (by omega), ix_drop l i (by omega)]
    simp only [J]
    by_cases h : (ix l (i : Int)).At = x
    · rw [decide_eq_true h, cond_true, G_on (by simp; omega), G_on (by unfold I; omega), show ((i : Int) + 1) = ((i + 1 : Nat) : Int) from by omega, ih (i + 1) (by omega) f (by omega) _ _ (by simp [ha])]
      simp [has, put, h]
    · rw [decide_eq_false h, cond_false, G_on (by simp; omega), G_on (by unfold I; omega), show ((i : Int) + 1) = ((i + 1 : Nat) : Int) from by omega, ih (i + 1) (by omega) f (by omega) _ _ (by simp [ha])]
      simp [has, put, h]
theorem set_eq (l : List Mk.Write) (x n : Int) (hl : l.length ≤ 1000000000) : mkref1_set l x n = some (st l x n) := by
  unfold mkref1_set
  simp only [J]
  have := set_loop l x n hl (fun (x1_k1 : Int) (x2_k1 : Int) (x8_k1 : Bool) (y1007_k1 : List Mk.Write) => (bif (!x8_k1) then (
            G (((y1007_k1.length + ([({ At := x1_k1, N := x2_k1 } : Mk.Write)] : List Mk.Write).length) * 16 ≤ 140737488355328 ∧ y1007_k1.length + ([({ At := x1_k1, N := x2_k1 } : Mk.Write)] : List Mk.Write).length ≤ 9223372036854775807)) (
              some ((y1007_k1 ++ ([({ At := x1_k1, N := x2_k1 } : Mk.Write)] : List Mk.Write))))) else (
            some (y1007_k1)))) l.length 0 (by omega) (((l.length : Int) - 0).toNat + 1) (by omega) false [] rfl
  rw [show ((0 : Nat) : Int) = 0 from rfl, List.drop_zero] at this
  rw [this]
  unfold st
  cases h : has l x with
  | true => simp
  | false => simp [put]; rw [G_on (by omega)]
theorem drop_loop (l : List Mk.Write) (c : Mk.Call) (hl : l.length ≤ 1000000000) (k : Int → Mk.Reply → List Mk.Write → Option (List Mk.Write × Mk.Reply)) (n : Int) (r : Mk.Reply) : ∀ (m i : Nat), i + m = l.length → ∀ f : Nat, m < f → ∀ acc : List Mk.Write, acc.length ≤ i →
    mkref1_Do_l1 k f l n l (l.length : Int) (i : Int) c r acc = k n r (acc ++ ((l.drop i).map fun w => if w.At = c.Name then ix l ((l.length : Int) - 1) else w).take (l.length - 1 - i)) := by
  intro m
  induction m with
  | zero =>
    intro i hi f hf acc ha
    obtain ⟨f, rfl⟩ : ∃ g, f = g + 1 := ⟨f - 1, by omega⟩
    rw [mkref1_Do_l1, decide_eq_false (by omega), cond_false, List.drop_of_length_le (by omega)]
    simp
  | succ m ih =>
    intro i hi f hf acc ha
    obtain ⟨f, rfl⟩ : ∃ g, f = g + 1 := ⟨f - 1, by omega⟩
    rw [mkref1_Do_l1, decide_eq_true (by omega), cond_true]
    simp only [J]
    rw [G_on (by omega), ix_drop l i (by omega)]
    have step : ∀ (w : Mk.Write) (hw : w = if (ix l (i : Int)).At = c.Name then ix l ((l.length : Int) - 1) else ix l (i : Int)),
        (G (I ((l.length : Int) - 1)) (bif decide ((i : Int) < (l.length : Int) - 1) then G (((acc.length + [w].length) * 16 ≤ 140737488355328 ∧ acc.length + [w].length ≤ 9223372036854775807)) (G (I ((i : Int) + 1)) (mkref1_Do_l1 k f l n l (l.length : Int) ((i : Int) + 1) c r (acc ++ [w]))) else (G (I ((i : Int) + 1)) (mkref1_Do_l1 k f l n l (l.length : Int) ((i : Int) + 1) c r acc)))) =
          k n r (acc ++ ((ix l (i : Int) :: l.drop (i + 1)).map fun w => if w.At = c.Name then ix l ((l.length : Int) - 1) else w).take (l.length - 1 - i)) := by
      intro w hw
      rw [G_on (by unfold I; omega)]
      by_cases hlast : (i : Int) < (l.length : Int) - 1
      · rw [decide_eq_true hlast, cond_true, G_on (by simp; omega), G_on (by unfold I; omega), show ((i : Int) + 1) = ((i + 1 : Nat) : Int) from by omega, ih (i + 1) (by omega) f (by omega) _ (by simp; omega)]
        rw [show l.length - 1 - i = (l.length - 1 - (i + 1)) + 1 from by omega, List.map_cons, List.take_succ_cons, ← hw]
        simp
      · rw [decide_eq_false hlast, cond_false, G_on (by unfold I; omega), show ((i : Int) + 1) = ((i + 1 : Nat) : Int) from by omega, ih (i + 1) (by omega) f (by omega) _ (by omega)]
        rw [show l.length - 1 - i = 0 from by omega, show l.length - 1 - (i + 1) = 0 from by omega]
        simp
    by_cases h : (ix l (i : Int)).At = c.Name
    · rw [decide_eq_true h, cond_true, G_on (by unfold I; omega), G_on (by omega)]
      exact step _ (by rw [if_pos h])
    · rw [decide_eq_false h, cond_false]
      exact step _ (by rw [if_neg h])
theorem st_len (l : List Mk.Write) (x n : Int) : (st l x n).length ≤ l.length + 1 := by
  unfold st put
  split <;> simp
def doR (l : List Mk.Write) (c : Mk.Call) : List Mk.Write × Mk.Reply :=
  if c.Kind = 5 then (l, ⟨0, l.length⟩)
  else if c.Kind = 1 then (if (gt l c.Name).2 = false ∧ 5 ≤ (l.length : Int) then (l, ⟨9, 0⟩) else (st l c.Name c.N, ⟨0, (gt l c.Name).1⟩))
  else if (gt l c.Name).2 = false then (l, ⟨6, 0⟩)
  else if c.Kind = 2 then (l, ⟨0, (gt l c.Name).1⟩)
  else if c.Kind = 3 then (dp l c.Name, ⟨0, (gt l c.Name).1⟩)
  else if c.Kind = 4 then (if 1073741824 < (gt l c.Name).1 + c.N ∨ (gt l c.Name).1 + c.N < -1073741824 then (l, ⟨3, 0⟩) else (st l c.Name ((gt l c.Name).1 + c.N), ⟨0, (gt l c.Name).1 + c.N⟩))
  else if (gt l c.Other).2 = false then (l, ⟨6, 0⟩)
  else (st (st l c.Name (gt l c.Other).1) c.Other (gt l c.Name).1, ⟨0, (gt l c.Other).1⟩)
theorem do_eq (l : List Mk.Write) (c : Mk.Call) (hl : l.length ≤ 100000000) (hI : c.Kind = 4 → I ((gt l c.Name).1 + c.N)) : mkref1_Do l c = some (doR l c) := by
  have hs := fun x n => st_len l x n
  unfold mkref1_Do doR
  rw [get_eq l c.Name (by omega)]
  simp only [Option.bind_some, mkref1_Do_1]
  by_cases k5 : c.Kind = 5
  · simp [k5]
  rw [decide_eq_false k5, cond_false, if_neg k5]
  by_cases k1 : c.Kind = 1
  · rw [if_pos k1, decide_eq_true k1]
    simp only [Bool.true_and, cond_true, set_eq l c.Name c.N (by omega), Option.bind_some]
    by_cases h : (gt l c.Name).2 = false ∧ 5 ≤ (l.length : Int)
    · rw [if_pos h, h.1, decide_eq_true h.2]; rfl
    · rw [if_neg h]
      have : (!(gt l c.Name).2 && decide (5 ≤ (l.length : Int))) = false := by
        cases h1 : (gt l c.Name).2 with
        | true => rfl
        | false =>
          rw [decide_eq_false (fun h2 => h ⟨h1, h2⟩)]; rfl
      rw [this, cond_false]
  rw [if_neg k1, decide_eq_false k1]
  simp only [Bool.false_and, cond_false]
  by_cases h : (gt l c.Name).2 = false
  · rw [if_pos h, h]; rfl
  rw [if_neg h]
  have h' : (gt l c.Name).2 = true := by simpa using h
  rw [h']
  simp only [Bool.not_true, cond_false]
  by_cases k2 : c.Kind = 2
  · rw [if_pos k2, decide_eq_true k2, cond_true]
  rw [if_neg k2, decide_eq_false k2, cond_false]
  by_cases k3 : c.Kind = 3
  · rw [if_pos k3, decide_eq_true k3, cond_true]
    simp only [J]
    have := drop_loop l c (by omega) (fun (x6 : Int) (y5 : Mk.Reply) (y : List Mk.Write) => some (y, ({ Err := 0, N := x6 } : Mk.Reply))) (gt l c.Name).1 ⟨0, 0⟩ l.length 0 (by omega) (((l.length : Int) - 0).toNat + 1) (by omega) [] (Nat.le_refl _)
    rw [show ((0 : Nat) : Int) = 0 from rfl] at this
    rw [this]
    simp [dp]
  rw [if_neg k3, decide_eq_false k3, cond_false]
  by_cases k4 : c.Kind = 4
  · rw [if_pos k4, decide_eq_true k4, cond_true, G_on (hI k4), G_on (fun _ => hI k4)]
    by_cases hb : 1073741824 < (gt l c.Name).1 + c.N ∨ (gt l c.Name).1 + c.N < -1073741824
    · rw [if_pos hb]
      have : (decide (1073741824 < (gt l c.Name).1 + c.N) || decide ((gt l c.Name).1 + c.N < -1073741824)) = true := by simpa using hb
      rw [this]; rfl
    · rw [if_neg hb]
      have : (decide (1073741824 < (gt l c.Name).1 + c.N) || decide ((gt l c.Name).1 + c.N < -1073741824)) = false := by
        rw [Bool.or_eq_false_iff]
        exact ⟨decide_eq_false fun h => hb (.inl h), decide_eq_false fun h => hb (.inr h)⟩
      rw [this, cond_false, G_on (hI k4), set_eq _ _ _ (by omega), Option.bind_some, G_on (hI k4)]
  rw [if_neg k4, decide_eq_false k4, cond_false, get_eq l c.Other (by omega), Option.bind_some]
  by_cases ho : (gt l c.Other).2 = false
  · rw [if_pos ho, ho]; rfl
  have ho' : (gt l c.Other).2 = true := by simpa using ho
  rw [if_neg ho, ho', Bool.not_true, cond_false, set_eq _ _ _ (by omega), Option.bind_some, set_eq _ _ _ (by have := hs c.Name (gt l c.Other).1; omega), Option.bind_some]
end Sp
end
section
namespace Sp
set_option linter.unusedVariables false
set_option linter.unusedSimpArgs false
def cat (c : List Int) (i : Nat) : Int := ix c (1 + 2 * (i : Int))
def cnum (c : List Int) (i : Nat) : Int := ix c (2 + 2 * (i : Int))
def good (c : List Int) (j : Nat) : Prop := (1 ≤ cat c j ∧ cat c j ≤ 255 ∧ -1073741824 ≤ cnum c j ∧ cnum c j ≤ 1073741824) ∧ ∀ h, h < j → cat c h ≠ cat c j
open Classical in
theorem wc_loop2 {c : List Int} (hlen : c.length = 11) (k : List Int → Int → Option Int) (i : Nat) (hi : i < 5) : ∀ (m j : Nat), j + m = i → ∀ f : Nat, m < f →
    mkref1_WrongCells_l2 k f c (1 + 2 * (i : Int)) (1 + 2 * (j : Int)) = if (∃ h, j ≤ h ∧ h < i ∧ cat c h = cat c i) then some 7 else k c (1 + 2 * (i : Int)) := by
  intro m
  induction m with
  | zero =>
    intro j hj f hf
    obtain ⟨f, rfl⟩ : ∃ g, f = g + 1 := ⟨f - 1, by omega⟩
    rw [mkref1_WrongCells_l2, decide_eq_false (by omega), cond_false, if_neg (by rintro ⟨h, h1, h2, _⟩; omega)]
  | succ m ih =>
    intro j hj f hf
    obtain ⟨f, rfl⟩ : ∃ g, f = g + 1 := ⟨f - 1, by omega⟩
    rw [mkref1_WrongCells_l2, decide_eq_true (by omega), cond_true, G_on (by omega), G_on (by omega)]
    by_cases e : ix c (1 + 2 * (j : Int)) = ix c (1 + 2 * (i : Int))
    · rw [decide_eq_true e, cond_true, if_pos ⟨j, Nat.le_refl _, by omega, e⟩]
    · rw [decide_eq_false e, cond_false, G_on (by unfold I; omega), show (1 + 2 * (j : Int) + 2) = 1 + 2 * ((j + 1 : Nat) : Int) from by omega, ih (j + 1) (by omega) f (by omega)]
      congr 1
      apply propext
      constructor
      · rintro ⟨h, h1, h2, h3⟩; exact ⟨h, by omega, h2, h3⟩
      · rintro ⟨h, h1, h2, h3⟩
        by_cases hh : h = j
        · subst hh; exact absurd h3 e
        · exact ⟨h, by omega, h2, h3⟩
open Classical in
theorem wc_loop1 {c : List Int} (hlen : c.length = 11) (n : Nat) (hn : ix c 0 = n) (hn5 : n ≤ 5) (k : Unit → Option Int) (hk : k () = some 0) : ∀ (m i : Nat), i + m = n → ∀ f : Nat, m < f →
    ∃ e : Int, mkref1_WrongCells_l1 k f c (1 + 2 * (i : Int)) = some e ∧ (e = 0 ↔ ∀ j, i ≤ j → j < n → good c j) := by
  intro m
  induction m with
  | zero =>
    intro i hi f hf
    obtain ⟨f, rfl⟩ : ∃ g, f = g + 1 := ⟨f - 1, by omega⟩
    rw [mkref1_WrongCells_l1, hn, G_on (by omega), G_on (by unfold I; omega), G_on (by unfold I; omega), decide_eq_false (by omega), cond_false, hk]
    exact ⟨0, rfl, by simp; intro j h1 h2; omega⟩
  | succ m ih =>
    intro i hi f hf
    obtain ⟨f, rfl⟩ : ∃ g, f = g + 1 := ⟨f - 1, by omega⟩
    have e2 : (1 + 2 * (i : Int) + 1) = 2 + 2 * (i : Int) := by omega
    rw [mkref1_WrongCells_l1, hn, G_on (by omega), G_on (by unfold I; omega), G_on (by unfold I; omega), decide_eq_true (by omega), cond_true]
    simp only [J]
    rw [G_on (by omega), G_on (fun _ => by omega), G_on (fun _ => by unfold I; omega), G_on (fun _ => by omega), G_on (fun _ => by unfold I; omega), G_on (fun _ => by omega), e2]
    by_cases hb : 1 ≤ cat c i ∧ cat c i ≤ 255 ∧ -1073741824 ≤ cnum c i ∧ cnum c i ≤ 1073741824
    · have h0 : (((decide (ix c (1 + 2 * (i : Int)) < 1) || decide (255 < ix c (1 + 2 * (i : Int)))) || decide (ix c (2 + 2 * (i : Int)) < -1073741824)) || decide (1073741824 < ix c (2 + 2 * (i : Int)))) = false := by
        simp only [Bool.or_eq_false_iff, decide_eq_false_iff_not]
        unfold cat cnum at hb
        omega
      rw [h0, cond_false]
      have h2 := wc_loop2 hlen (fun x0 x3 => G (I (x3 + 2)) (mkref1_WrongCells_l1 k f x0 (x3 + 2))) i (by omega) i 0 (by omega) ((1 + 2 * (i : Int) - 1).toNat + 1) (by omega)
      rw [show (1 + 2 * ((0 : Nat) : Int)) = 1 from rfl] at h2
      rw [h2]
      by_cases he : ∃ h, 0 ≤ h ∧ h < i ∧ cat c h = cat c i
      · rw [if_pos he]
        refine ⟨7, rfl, fun h => absurd h (by decide), fun hall => ?_⟩
        obtain ⟨h, _, h3, h4⟩ := he
        exact absurd h4 ((hall i (Nat.le_refl _) (by omega)).2 h h3)
      · rw [if_neg he, G_on (by unfold I; omega), show (1 + 2 * (i : Int) + 2) = 1 + 2 * ((i + 1 : Nat) : Int) from by omega]
        obtain ⟨e, h3, h4⟩ := ih (i + 1) (by omega) f (by omega)
        refine ⟨e, h3, h4.trans ⟨fun h j h5 h6 => ?_, fun h j h5 h6 => h j (by omega) h6⟩⟩
        by_cases hj : j = i
        · subst hj; exact ⟨hb, fun h hh hc => he ⟨h, Nat.zero_le _, hh, hc⟩⟩
        · exact h j (by omega) h6
    · have h0 : (((decide (ix c (1 + 2 * (i : Int)) < 1) || decide (255 < ix c (1 + 2 * (i : Int)))) || decide (ix c (2 + 2 * (i : Int)) < -1073741824)) || decide (1073741824 < ix c (2 + 2 * (i : Int)))) = true := by
        simp only [Bool.or_eq_true, decide_eq_true_eq]
        unfold cat cnum at hb
        omega
      rw [h0, cond_true]
      exact ⟨3, rfl, fun h => absurd h (by decide), fun hall => absurd (hall i (Nat.le_refl _) (by omega)).1 hb⟩
def entries (c : List Int) : List Mk.Write := (List.range (ix c 0).toNat).map fun i => ⟨cat c i, cnum c i⟩
theorem ix_entries {c : List Int} {i : Nat} (hi : i < (ix c 0).toNat) : ix (entries c) i = ⟨cat c i, cnum c i⟩ := by
  unfold entries
  generalize (ix c 0).toNat = n at hi
  simp [ix, hi, cat, cnum]
theorem wc_eq (c : List Int) : ∃ e : Int, mkref1_WrongCells c = some e ∧ (e = 0 → Rt c (entries c)) := by
  unfold mkref1_WrongCells
  by_cases hlen : (c.length : Int) = 11
  · rw [decide_eq_true hlen, Bool.not_true, cond_false, G_on (by omega), G_on (fun _ => by omega)]
    by_cases hr : 0 ≤ ix c 0 ∧ ix c 0 ≤ 5
    · have h0 : (decide (ix c 0 < 0) || decide (5 < ix c 0)) = false := by
        simp only [Bool.or_eq_false_iff, decide_eq_false_iff_not]; omega
      rw [h0, cond_false]
      simp only [J]
      obtain ⟨e, h1, h2⟩ := wc_loop1 (c := c) (by omega) (ix c 0).toNat (by omega) (by omega) (fun _ => some 0) rfl (ix c 0).toNat 0 (by omega) ((1 + 2 * ix c 0 - 1).toNat + 1) (by omega)
      rw [show (1 + 2 * ((0 : Nat) : Int)) = 1 from rfl] at h1
      refine ⟨e, h1, fun he => ?_⟩
      have hg := h2.1 he
      have hl : (entries c).length = (ix c 0).toNat := by simp [entries]
      refine ⟨by omega, by rw [hl]; omega, by rw [hl]; omega, fun i hi => ?_, fun w hw => ?_, ?_⟩
      · rw [hl] at hi
        rw [ix_entries hi]
        exact ⟨rfl, rfl⟩
      · simp only [entries, List.mem_map, List.mem_range] at hw
        obtain ⟨i, hi, rfl⟩ := hw
        exact (hg i (Nat.zero_le _) hi).1
      · simp only [entries, List.map_map]
        rw [List.nodup_iff_pairwise_ne, List.pairwise_map]
        refine List.Pairwise.imp_of_mem ?_ (List.pairwise_lt_range (n := (ix c 0).toNat))
        intro a b ha hb hab
        exact (hg b (Nat.zero_le _) (by simpa using hb)).2 a hab
    · have h0 : (decide (ix c 0 < 0) || decide (5 < ix c 0)) = true := by
        simp only [Bool.or_eq_true, decide_eq_true_eq]; omega
      rw [h0, cond_true]
      exact ⟨3, rfl, by simp⟩
  · rw [decide_eq_false hlen, Bool.not_false, cond_true]
    exact ⟨5, rfl, by simp⟩
end Sp
end
section
namespace Sp
set_option linter.unusedVariables false
set_option linter.unusedSimpArgs false
structure Nm (l : List Mk.Write) : Prop where
  le : l.length ≤ 5
  at1 : ∀ w ∈ l, 1 ≤ w.At ∧ w.At ≤ 255 ∧ -1073741824 ≤ w.N ∧ w.N ≤ 1073741824
  nodup : (l.map (·.At)).Nodup
structure CallOk (c : Mk.Call) : Prop where
  kind : 1 ≤ c.Kind ∧ c.Kind ≤ 6
  name : (c.Kind = 5 → c.Name = 0) ∧ (c.Kind ≠ 5 → 1 ≤ c.Name ∧ c.Name ≤ 255)
  other : (c.Kind = 6 → 1 ≤ c.Other ∧ c.Other ≤ 255) ∧ (c.Kind ≠ 6 → c.Other = 0)
  num : -1073741824 ≤ c.N ∧ c.N ≤ 1073741824 ∧ (c.Kind ≠ 1 → c.Kind ≠ 4 → c.N = 0)
theorem ix_mem {α : Type} [Inhabited α] (l : List α) (i : Int) (h : 0 ≤ i ∧ i < l.length) : ix l i ∈ l := by
  have : i.toNat < l.length := by omega
  simp [ix, this]
theorem ix_nat {α : Type} [Inhabited α] (l : List α) (i : Nat) (h : i < l.length) : ix l (i : Int) = l[i] := by simp [ix, h]
theorem pos_spec (l : List Mk.Write) (x : Int) (h : 0 ≤ pos l x) : (ix l (pos l x)).At = x ∧ ∀ j : Nat, (j : Int) < pos l x → (ix l (j : Int)).At ≠ x := by
  induction l with
  | nil => simp [pos] at h
  | cons w l ih =>
    by_cases e : w.At = x
    · have e0 : pos (w :: l) x = 0 := by simp [pos, e]
      rw [e0]
      refine ⟨by simpa [ix] using e, fun j hj => by omega⟩
    · by_cases h2 : pos l x < 0
      · simp [pos, e, h2] at h
      · have h3 : pos (w :: l) x = pos l x + 1 := by simp [pos, e, h2]
        obtain ⟨h4, h5⟩ := ih (by omega)
        rw [h3]
        have h6 : (pos l x + 1).toNat = (pos l x).toNat + 1 := by omega
        refine ⟨?_, fun j hj => ?_⟩
        · simpa [ix, h6] using h4
        · cases j with
          | zero => simpa [ix] using e
          | succ j =>
            have := h5 j (by omega)
            simpa [ix] using this
theorem pos_neg (l : List Mk.Write) (x : Int) (h : pos l x < 0) : ∀ w ∈ l, w.At ≠ x := by
  induction l with
  | nil => simp
  | cons w l ih =>
    by_cases e : w.At = x
    · simp [pos, e] at h
    · by_cases h2 : pos l x < 0
      · intro v hv
        rcases List.mem_cons.1 hv with rfl | hv
        · exact e
        · exact ih h2 v hv
      · simp [pos, e, h2] at h; omega
theorem gt_eq (l : List Mk.Write) (x : Int) : gt l x = if pos l x < 0 then (0, false) else ((ix l (pos l x)).N, true) := by
  induction l with
  | nil => simp [gt, pos]
  | cons w l ih =>
    by_cases e : w.At = x
    · simp [gt, pos, e, ix]
    · by_cases h2 : pos l x < 0
      · simp [gt, pos, e, ih, h2]
      · have h6 : (pos l x + 1).toNat = (pos l x).toNat + 1 := by omega
        have h7 : ¬ (pos l x + 1 < 0) := by omega
        simp [gt, pos, e, ih, h2, ix, h6, h7]
theorem has_eq (l : List Mk.Write) (x : Int) : has l x = decide (0 ≤ pos l x) := by
  induction l with
  | nil => simp [has, pos]
  | cons w l ih =>
    by_cases e : w.At = x
    · simp [has, pos, e]
    · have : has (w :: l) x = has l x := by simp [has, e]
      rw [this, ih]
      by_cases h2 : pos l x < 0
      · simp [pos, e, h2]
      · have h7 : 0 ≤ pos l x + 1 := by omega
        have h8 : 0 ≤ pos l x := by omega
        simp [pos, e, h2, h7, h8]
theorem nodup_at {l : List Mk.Write} (h : (l.map (·.At)).Nodup) {i j : Nat} (hi : i < l.length) (hj : j < l.length) (e : l[i].At = l[j].At) : i = j := by
  have := List.nodup_iff_pairwise_ne.1 h
  rw [List.pairwise_map, List.pairwise_iff_getElem] at this
  rcases Nat.lt_trichotomy i j with h1 | h1 | h1
  · exact absurd e (this i j hi hj h1)
  · exact h1
  · exact absurd e.symm (this j i hj hi h1)
theorem map_at {l : List Mk.Write} (h : (l.map (·.At)).Nodup) (x : Int) (f : Mk.Write → Mk.Write) (hk : 0 ≤ pos l x) : (l.map fun w => if w.At = x then f w else w) = l.set (pos l x).toNat (f (ix l (pos l x))) := by
  have hr := pos_range l x
  have hs := (pos_spec l x hk).1
  have hp : (pos l x).toNat < l.length := by omega
  have hix : ix l (pos l x) = l[(pos l x).toNat] := by simp [ix, hp]
  rw [hix] at hs ⊢
  apply List.ext_getElem
  · simp
  · intro i h1 h2
    simp only [List.length_map] at h1
    rw [List.getElem_map, List.getElem_set]
    by_cases e : (pos l x).toNat = i
    · subst e; simp [hs]
    · rw [if_neg e, if_neg]
      intro e2
      exact e (nodup_at h hp h1 (hs.trans e2.symm))
theorem st_eq {l : List Mk.Write} (h : (l.map (·.At)).Nodup) (x n : Int) : st l x n = if pos l x < 0 then l ++ [⟨x, n⟩] else l.set (pos l x).toNat ⟨x, n⟩ := by
  unfold st
  rw [has_eq]
  by_cases hk : pos l x < 0
  · have h0 : ¬ (0 ≤ pos l x) := by omega
    have : put l x n = l := by
      unfold put
      conv => rhs; rw [← List.map_id l]
      apply List.map_congr_left
      intro w hw
      rw [if_neg (pos_neg l x hk w hw)]; rfl
    simp [hk, h0, this]
  · have h0 : 0 ≤ pos l x := by omega
    have hs := (pos_spec l x h0).1
    simp only [h0, hk, decide_true, if_true, if_false]
    unfold put
    rw [map_at h x (fun w => { w with N := n }) h0, hs]
theorem dp_eq {l : List Mk.Write} (h : (l.map (·.At)).Nodup) (x : Int) (hk : 0 ≤ pos l x) : dp l x = (l.set (pos l x).toNat (ix l ((l.length : Int) - 1))).take (l.length - 1) := by
  unfold dp
  rw [map_at h x (fun _ => ix l ((l.length : Int) - 1)) hk]
def doP (l : List Mk.Write) (c : Mk.Call) : List Mk.Write × Mk.Reply :=
  if c.Kind = 5 then (l, ⟨0, l.length⟩)
  else if c.Kind = 1 then
    (if pos l c.Name < 0 then (if 5 ≤ l.length then (l, ⟨9, 0⟩) else (l ++ [⟨c.Name, c.N⟩], ⟨0, 0⟩))
     else (l.set (pos l c.Name).toNat ⟨c.Name, c.N⟩, ⟨0, (ix l (pos l c.Name)).N⟩))
  else if pos l c.Name < 0 then (l, ⟨6, 0⟩)
  else if c.Kind = 2 then (l, ⟨0, (ix l (pos l c.Name)).N⟩)
  else if c.Kind = 3 then ((l.set (pos l c.Name).toNat (ix l ((l.length : Int) - 1))).take (l.length - 1), ⟨0, (ix l (pos l c.Name)).N⟩)
  else if c.Kind = 4 then
    (if 1073741824 < (ix l (pos l c.Name)).N + c.N ∨ (ix l (pos l c.Name)).N + c.N < -1073741824 then (l, ⟨3, 0⟩)
     else (l.set (pos l c.Name).toNat ⟨c.Name, (ix l (pos l c.Name)).N + c.N⟩, ⟨0, (ix l (pos l c.Name)).N + c.N⟩))
  else if pos l c.Other < 0 then (l, ⟨6, 0⟩)
  else ((l.set (pos l c.Name).toNat ⟨c.Name, (ix l (pos l c.Other)).N⟩).set (pos l c.Other).toNat ⟨c.Other, (ix l (pos l c.Name)).N⟩, ⟨0, (ix l (pos l c.Other)).N⟩)
theorem pos_map {l m : List Mk.Write} (h : l.map (·.At) = m.map (·.At)) (x : Int) : pos l x = pos m x := by
  induction l generalizing m with
  | nil => cases m with
    | nil => rfl
    | cons w m => simp at h
  | cons w l ih =>
    cases m with
    | nil => simp at h
    | cons v m =>
      simp only [List.map_cons, List.cons.injEq] at h
      simp only [pos, h.1, ih h.2]
theorem set_names {l : List Mk.Write} {k : Int} {w : Mk.Write} (hk : 0 ≤ k ∧ k < l.length) (h : (ix l k).At = w.At) : (l.set k.toNat w).map (·.At) = l.map (·.At) := by
  have hp : k.toNat < l.length := by omega
  have hix : ix l k = l[k.toNat] := by simp [ix, hp]
  rw [hix] at h
  rw [List.map_set, ← h]
  apply List.ext_getElem
  · simp
  · intro i h1 h2
    rw [List.getElem_set]
    by_cases e : k.toNat = i
    · subst e; simp
    · rw [if_neg e]
theorem Nm.call {l : List Mk.Write} (h : Nm l) {x : Int} (hk : 0 ≤ pos l x) : -1073741824 ≤ (ix l (pos l x)).N ∧ (ix l (pos l x)).N ≤ 1073741824 := by
  have hr := pos_range l x
  have := h.at1 _ (ix_mem l (pos l x) ⟨hk, hr.2⟩)
  omega
theorem do_eqP {l : List Mk.Write} {c : Mk.Call} (h : Nm l) (hc : CallOk c) : mkref1_Do l c = some (doP l c) := by
  have hle := h.le
  have hnum := hc.num
  rw [do_eq l c (by omega)]
  · unfold doR doP
    simp only [gt_eq]
    by_cases k5 : c.Kind = 5
    · simp [k5]
    simp only [if_neg k5]
    by_cases hp : pos l c.Name < 0
    · simp only [hp, if_true, true_and, st_eq h.nodup]
      by_cases k1 : c.Kind = 1
      · by_cases h5 : 5 ≤ l.length
        · have : (5 : Int) ≤ l.length := by omega
          simp [k1, h5, this]
        · have : ¬ (5 : Int) ≤ l.length := by omega
          simp [k1, h5, this]
      · simp [k1]
    · have hr := pos_range l c.Name
      have hp0 : 0 ≤ pos l c.Name := by omega
      simp only [hp, if_false, Bool.true_eq_false, false_and, dp_eq h.nodup c.Name hp0, st_eq h.nodup c.Name]
      by_cases k1 : c.Kind = 1
      · simp [k1]
      by_cases k2 : c.Kind = 2
      · simp [k1, k2]
      by_cases k3 : c.Kind = 3
      · simp [k1, k2, k3]
      by_cases k4 : c.Kind = 4
      · simp [k1, k2, k3, k4]
      simp only [k1, k2, k3, k4, if_false]
      by_cases ho : pos l c.Other < 0
      · simp [ho]
      · have hs := (pos_spec l c.Name hp0).1
        have hnames := set_names (l := l) (k := pos l c.Name) (w := ⟨c.Name, (ix l (pos l c.Other)).N⟩) ⟨hp0, hr.2⟩ hs
        simp only [ho, if_false, Bool.true_eq_false]
        rw [st_eq (by rw [hnames]; exact h.nodup), pos_map hnames, if_neg ho]
  · intro k4
    rw [gt_eq]
    by_cases hp : pos l c.Name < 0
    · simp only [hp, if_true]; unfold I; omega
    · have := h.call (x := c.Name) (by omega)
      simp only [hp, if_false]; unfold I; omega
def wcall (c : Mk.Call) : Int :=
  if c.Kind < 1 ∨ 6 < c.Kind then 1
  else if (c.Kind = 5 ∧ c.Name ≠ 0) ∨ (c.Kind ≠ 5 ∧ (c.Name < 1 ∨ 255 < c.Name)) ∨ (c.Kind = 6 ∧ (c.Other < 1 ∨ 255 < c.Other)) ∨ (c.Kind ≠ 6 ∧ c.Other ≠ 0) then 7
  else if c.N < -1073741824 ∨ 1073741824 < c.N ∨ (c.Kind ≠ 1 ∧ c.Kind ≠ 4 ∧ c.N ≠ 0) then 3 else 0
theorem wrongCall_eq (c : Mk.Call) : mkref1_WrongCall c = some (wcall c) := by
  unfold mkref1_WrongCall wcall
  simp only [J, G, I, Bool.cond_eq_ite, Bool.or_eq_true, decide_eq_true_eq]
  repeat' split
  all_goals first | rfl | omega
theorem wcall_ok (c : Mk.Call) : wcall c = 0 ↔ CallOk c := by
  unfold wcall
  constructor
  · intro h
    repeat' split at h
    all_goals first | (exfalso; omega) | (constructor <;> omega)
  · intro h
    have h1 := h.kind
    have h2 := h.name
    have h3 := h.other
    have h4 := h.num
    repeat' split
    all_goals first | rfl | omega
end Sp
end
section
namespace Sp
set_option linter.unusedVariables false
set_option linter.unusedSimpArgs false
set_option maxHeartbeats 1000000
theorem Rt.at (c : List Int) (l : List Mk.Write) (h : Rt c l) (k : Int) (hk : 0 ≤ k ∧ k < l.length) : ix c (1 + 2 * k) = (ix l k).At ∧ ix c (2 + 2 * k) = (ix l k).N := by
  have := h.ats k.toNat (by omega)
  rwa [show ((k.toNat : Nat) : Int) = k from by omega] at this
end Sp
end
section
namespace Sp
set_option linter.unusedVariables false
set_option linter.unusedSimpArgs false
set_option maxHeartbeats 1000000
theorem sameWrites_loop (a b : List Mk.Write) (hab : a.length = b.length) (hl : a.length ≤ 9223372036854775807) (k : Unit → Option Bool) (hk : k () = some true) : ∀ (m i : Nat), i + m = a.length → ∀ f : Nat, m < f →
    mkref1_SameWrites_l1 k f a b (a.length : Int) (i : Int) = some (decide (a.drop i = b.drop i)) := by
  intro m
  induction m with
  | zero =>
    intro i hi f hf
    obtain ⟨f, rfl⟩ : ∃ g, f = g + 1 := ⟨f - 1, by omega⟩
    rw [mkref1_SameWrites_l1, decide_eq_false (by omega), cond_false, hk, List.drop_of_length_le (by omega), List.drop_of_length_le (by omega)]
    simp
  | succ m ih =>
    intro i hi f hf
    obtain ⟨f, rfl⟩ : ∃ g, f = g + 1 := ⟨f - 1, by omega⟩
    rw [mkref1_SameWrites_l1, decide_eq_true (by omega), cond_true, G_on (by omega), G_on (by omega), ix_drop a i (by omega), ix_drop b i (by omega)]
    by_cases h : ix a (i : Int) = ix b (i : Int)
    · rw [decide_eq_true h, Bool.not_true, cond_false, G_on (by unfold I; omega), show ((i : Int) + 1) = ((i + 1 : Nat) : Int) from by omega, ih (i + 1) (by omega) f (by omega)]
      simp [h]
    · rw [decide_eq_false h, Bool.not_false, cond_true]
      simp [h]
theorem sameWrites_eq (a b : List Mk.Write) (hl : a.length ≤ 9223372036854775807) : mkref1_SameWrites a b = some (decide (a = b)) := by
  unfold mkref1_SameWrites
  simp only [J]
  by_cases h : a.length = b.length
  · rw [decide_eq_true (by omega), Bool.not_true, cond_false]
    have := sameWrites_loop a b h hl (fun _ => some true) rfl a.length 0 (by omega) (((a.length : Int) - 0).toNat + 1) (by omega)
    rw [show ((0 : Nat) : Int) = 0 from rfl] at this
    rw [this]; simp
  · rw [decide_eq_false (by omega), Bool.not_false, cond_true]
    congr 1
    exact (decide_eq_false fun e => h (by rw [e])).symm
theorem ix_set_same {l : List Mk.Write} (k : Int) (w : Mk.Write) (hk : 0 ≤ k ∧ k < l.length) : ix (l.set k.toNat w) k = w := by
  have : k.toNat < l.length := by omega
  simp [ix, this]
theorem ix_set_other {l : List Mk.Write} (k j : Int) (w : Mk.Write) (hk : 0 ≤ k ∧ k < l.length) (hj : 0 ≤ j) (hkj : k ≠ j) : ix (l.set k.toNat w) j = ix l j := by
  have : k.toNat ≠ j.toNat := by omega
  simp [ix, List.getElem?_set, this]
theorem ix_take {l : List Mk.Write} (n : Nat) (j : Int) (hj : 0 ≤ j ∧ j < n) : ix (l.take n) j = ix l j := by
  have : j.toNat < n := by omega
  simp [ix, List.getElem?_take, this]
end Sp
end
section
namespace Sp
set_option linter.unusedVariables false
set_option linter.unusedSimpArgs false
set_option maxHeartbeats 1000000
def wr (c : List Int) (w : Mk.Write) : List Int := if 0 ≤ w.At ∧ w.At < c.length then c.set w.At.toNat w.N else c
end Sp
end
section
namespace Sp
set_option linter.unusedVariables false
set_option linter.unusedSimpArgs false
set_option maxHeartbeats 1000000
theorem ix_set {l : List Mk.Write} (k j : Int) (w : Mk.Write) (hk : 0 ≤ k ∧ k < l.length) (hj : 0 ≤ j) : ix (l.set k.toNat w) j = if k = j then w else ix l j := by
  by_cases e : k = j
  · subst e; rw [if_pos rfl, ix_set_same k w hk]
  · rw [if_neg e, ix_set_other k j w hk hj e]
theorem mem_ix {l : List Mk.Write} {w : Mk.Write} (h : w ∈ l) : ∃ i : Nat, i < l.length ∧ ix l (i : Int) = w := by
  obtain ⟨i, hi, rfl⟩ := List.mem_iff_getElem.1 h
  exact ⟨i, hi, ix_nat l i hi⟩
theorem Nm.ix {l : List Mk.Write} (h : Nm l) (i : Int) (hi : 0 ≤ i ∧ i < l.length) : 1 ≤ (ix l i).At ∧ (ix l i).At ≤ 255 ∧ -1073741824 ≤ (ix l i).N ∧ (ix l i).N ≤ 1073741824 := h.at1 _ (ix_mem l i hi)
theorem nm_of {l : List Mk.Write} (hle : l.length ≤ 5) (h1 : ∀ i : Nat, i < l.length → 1 ≤ (ix l (i : Int)).At ∧ (ix l (i : Int)).At ≤ 255 ∧ -1073741824 ≤ (ix l (i : Int)).N ∧ (ix l (i : Int)).N ≤ 1073741824)
    (h2 : ∀ i j : Nat, i < j → j < l.length → (ix l (i : Int)).At ≠ (ix l (j : Int)).At) : Nm l := by
  refine ⟨hle, fun w hw => ?_, ?_⟩
  · obtain ⟨i, hi, rfl⟩ := mem_ix hw
    exact h1 i hi
  · rw [List.nodup_iff_pairwise_ne, List.pairwise_map, List.pairwise_iff_getElem]
    intro i j hi hj hij
    have := h2 i j hij hj
    rwa [ix_nat l i hi, ix_nat l j hj] at this
theorem Nm.ne {l : List Mk.Write} (h : Nm l) {i j : Nat} (hi : i < l.length) (hj : j < l.length) (hij : i ≠ j) : (Sp.ix l (i : Int)).At ≠ (Sp.ix l (j : Int)).At := by
  rw [ix_nat l i hi, ix_nat l j hj]
  exact fun e => hij (nodup_at h.nodup hi hj e)
theorem nm_set {l : List Mk.Write} (h : Nm l) {k : Int} (hk : 0 ≤ k ∧ k < l.length) {w : Mk.Write} (hw : (Sp.ix l k).At = w.At) (hn : -1073741824 ≤ w.N ∧ w.N ≤ 1073741824) : Nm (l.set k.toNat w) := by
  refine ⟨by simpa using h.le, fun v hv => ?_, by rw [set_names hk hw]; exact h.nodup⟩
  rcases List.mem_or_eq_of_mem_set hv with hv | rfl
  · exact h.at1 v hv
  · have := h.ix k hk
    rw [hw] at this
    exact ⟨this.1, this.2.1, hn⟩
theorem nm_drop {l : List Mk.Write} (h : Nm l) {k : Int} (hk : 0 ≤ k ∧ k < l.length) : Nm ((l.set k.toNat (Sp.ix l ((l.length : Int) - 1))).take (l.length - 1)) := by
  have hle := h.le
  have hl : ((l.set k.toNat (Sp.ix l ((l.length : Int) - 1))).take (l.length - 1)).length = l.length - 1 := by simp
  have hix : ∀ i : Nat, i < l.length - 1 → Sp.ix ((l.set k.toNat (Sp.ix l ((l.length : Int) - 1))).take (l.length - 1)) (i : Int) = if k = i then Sp.ix l ((l.length - 1 : Nat) : Int) else Sp.ix l (i : Int) := by
    intro i hi
    rw [ix_take _ _ (by omega), ix_set _ _ _ hk (by omega), show ((l.length : Int) - 1) = ((l.length - 1 : Nat) : Int) from by omega]
  refine nm_of (by omega) (fun i hi => ?_) (fun i j hij hj => ?_)
  · rw [hl] at hi
    rw [hix i hi]
    split
    · exact h.ix _ (by omega)
    · exact h.ix _ (by omega)
  · rw [hl] at hj
    rw [hix i (by omega), hix j (by omega)]
    split
    · split
      · omega
      · exact h.ne (by omega) (by omega) (by omega)
    · split
      · exact h.ne (by omega) (by omega) (by omega)
      · exact h.ne (by omega) (by omega) (by omega)
theorem nm_snoc {l : List Mk.Write} (h : Nm l) {x n : Int} (hl : l.length < 5) (hp : pos l x < 0) (hx : 1 ≤ x ∧ x ≤ 255) (hn : -1073741824 ≤ n ∧ n ≤ 1073741824) : Nm (l ++ [⟨x, n⟩]) := by
  refine ⟨by simp; omega, fun w hw => ?_, ?_⟩
  · rcases List.mem_append.1 hw with hw | hw
    · exact h.at1 w hw
    · simp at hw; subst hw; exact ⟨hx.1, hx.2, hn⟩
  · rw [List.map_append, List.nodup_append]
    refine ⟨h.nodup, by simp, fun a ha b hb => ?_⟩
    simp only [List.map_cons, List.map_nil, List.mem_singleton] at hb
    simp only [List.mem_map] at ha
    obtain ⟨w, hw, rfl⟩ := ha
    rw [hb]
    exact pos_neg l x hp w hw
theorem nm_doP {l : List Mk.Write} (h : Nm l) {c : Mk.Call} (hc : CallOk c) : Nm (doP l c).1 := by
  have hr := pos_range l c.Name
  have ho := pos_range l c.Other
  have hnum := hc.num
  have hnm := hc.name
  unfold doP
  repeat' split
  all_goals first | exact h | skip
  · exact nm_snoc h (by omega) (by assumption) (by omega) (by omega)
  · exact nm_set h (by omega) (pos_spec l c.Name (by omega)).1 ⟨hnum.1, hnum.2.1⟩
  · exact nm_drop h (by omega)
  · exact nm_set h (by omega) (pos_spec l c.Name (by omega)).1 (by simp only; omega)
  · have h1 := (pos_spec l c.Name (by omega)).1
    have h2 := (pos_spec l c.Other (by omega)).1
    have h3 : Nm (l.set (pos l c.Name).toNat ⟨c.Name, (Sp.ix l (pos l c.Other)).N⟩) := nm_set h (by omega) h1 (h.call (by omega))
    refine nm_set h3 (by simp; omega) ?_ (h.call (by omega))
    rw [ix_set _ _ _ (by omega) (by omega)]
    split
    · rename_i e; rw [← h1, e, h2]
    · exact h2
end Sp
end
section
namespace Sp
set_option linter.unusedVariables false
set_option linter.unusedSimpArgs false
def allN : List Mk.Write → List Mk.Request → List Mk.Write
  | l, [] => l
  | l, r :: rs => allN (doP l r.Call).1 rs
def allR : List Mk.Write → List Mk.Request → List Mk.Reply
  | _, [] => []
  | l, r :: rs => (doP l r.Call).2 :: allR (doP l r.Call).1 rs
theorem allR_len (l : List Mk.Write) (rs : List Mk.Request) : (allR l rs).length = rs.length := by
  induction rs generalizing l with
  | nil => rfl
  | cons r rs ih => simp [allR, ih]
theorem nm_allN {l : List Mk.Write} (h : Nm l) {rs : List Mk.Request} (hr : ∀ r ∈ rs, CallOk r.Call) : Nm (allN l rs) := by
  induction rs generalizing l with
  | nil => exact h
  | cons r rs ih => exact ih (nm_doP h (hr r (by simp))) fun x hx => hr x (by simp [hx])
theorem nm_nil : Nm [] := ⟨by simp, by simp, by simp⟩
end Sp
end
section
namespace Sp
set_option linter.unusedVariables false
set_option linter.unusedSimpArgs false
set_option maxHeartbeats 1000000
theorem cloneW_eq (l : List Mk.Write) (h : l.length * 16 ≤ 140737488355328) : slices_Clone___api_Write_api_Write_ l = some l := by
  unfold slices_Clone___api_Write_api_Write_
  rw [G_on (by simp; omega)]; simp
def wcl (c : List Int) : Nat → Nat → Int
  | 0, _ => 0
  | m + 1, i => if ¬ (1 ≤ cat c i ∧ cat c i ≤ 255 ∧ -1073741824 ≤ cnum c i ∧ cnum c i ≤ 1073741824) then 3 else if cat c i ∈ (List.range i).map (cat c) then 7 else wcl c m (i + 1)
def wcells (c : List Int) : Int := if c.length ≠ 11 then 5 else if ix c 0 < 0 ∨ 5 < ix c 0 then 3 else wcl c (ix c 0).toNat 0
theorem rwc_loop {c : List Int} (hlen : c.length = 11) (n : Nat) (hn : ix c 0 = n) (hn5 : n ≤ 5) (k : Unit → Option Int) (hk : k () = some 0) : ∀ (m i : Nat), i + m = n → ∀ f : Nat, m < f →
    mkref1_WrongCells_l1 k f c (1 + 2 * (i : Int)) = some (wcl c m i) := by
  intro m
  induction m with
  | zero =>
    intro i hi f hf
    obtain ⟨f, rfl⟩ : ∃ g, f = g + 1 := ⟨f - 1, by omega⟩
    rw [mkref1_WrongCells_l1, hn, G_on (by omega), G_on (by unfold I; omega), G_on (by unfold I; omega), decide_eq_false (by omega), cond_false, hk]
    rfl
  | succ m ih =>
    intro i hi f hf
    obtain ⟨f, rfl⟩ : ∃ g, f = g + 1 := ⟨f - 1, by omega⟩
    have e2 : (1 + 2 * (i : Int) + 1) = 2 + 2 * (i : Int) := by omega
    rw [mkref1_WrongCells_l1, hn, G_on (by omega), G_on (by unfold I; omega), G_on (by unfold I; omega), decide_eq_true (by omega), cond_true]
    simp only [J]
    rw [G_on (by omega), G_on (fun _ => by omega), G_on (fun _ => by unfold I; omega), G_on (fun _ => by omega), G_on (fun _ => by unfold I; omega), G_on (fun _ => by omega), e2, wcl]
    by_cases hb : 1 ≤ cat c i ∧ cat c i ≤ 255 ∧ -1073741824 ≤ cnum c i ∧ cnum c i ≤ 1073741824
    · have h0 : (((decide (ix c (1 + 2 * (i : Int)) < 1) || decide (255 < ix c (1 + 2 * (i : Int)))) || decide (ix c (2 + 2 * (i : Int)) < -1073741824)) || decide (1073741824 < ix c (2 + 2 * (i : Int)))) = false := by
        simp only [Bool.or_eq_false_iff, decide_eq_false_iff_not]
        unfold cat cnum at hb
        omega
      rw [h0, cond_false, if_neg (by simpa using hb)]
      have h2 := wc_loop2 hlen (fun x0 x3 => G (I (x3 + 2)) (mkref1_WrongCells_l1 k f x0 (x3 + 2))) i (by omega) i 0 (by omega) ((1 + 2 * (i : Int) - 1).toNat + 1) (by omega)
      rw [show (1 + 2 * ((0 : Nat) : Int)) = 1 from rfl] at h2
      rw [h2]
      by_cases he : ∃ h, 0 ≤ h ∧ h < i ∧ cat c h = cat c i
      · rw [if_pos he, if_pos]
        obtain ⟨h, _, h3, h4⟩ := he
        exact List.mem_map.2 ⟨h, by simpa using h3, h4⟩
      · rw [if_neg he, if_neg, G_on (by unfold I; omega), show (1 + 2 * (i : Int) + 2) = 1 + 2 * ((i + 1 : Nat) : Int) from by omega, ih (i + 1) (by omega) f (by omega)]
        intro hm
        obtain ⟨h, h3, h4⟩ := List.mem_map.1 hm
        exact he ⟨h, Nat.zero_le _, by simpa using h3, h4⟩
    · have h0 : (((decide (ix c (1 + 2 * (i : Int)) < 1) || decide (255 < ix c (1 + 2 * (i : Int)))) || decide (ix c (2 + 2 * (i : Int)) < -1073741824)) || decide (1073741824 < ix c (2 + 2 * (i : Int)))) = true := by
        simp only [Bool.or_eq_true, decide_eq_true_eq]
        unfold cat cnum at hb
        omega
      rw [h0, cond_true, if_pos (by simpa using hb)]
theorem rwcells_eq (c : List Int) : mkref1_WrongCells c = some (wcells c) := by
  unfold mkref1_WrongCells wcells
  by_cases hlen : c.length = 11
  · rw [decide_eq_true (by omega), Bool.not_true, cond_false, G_on (by omega), G_on (fun _ => by omega), if_neg (by simpa using hlen)]
    by_cases hr : 0 ≤ ix c 0 ∧ ix c 0 ≤ 5
    · have h0 : (decide (ix c 0 < 0) || decide (5 < ix c 0)) = false := by
        simp only [Bool.or_eq_false_iff, decide_eq_false_iff_not]; omega
      rw [h0, cond_false, if_neg (by omega)]
      simp only [J]
      have h1 := rwc_loop (c := c) hlen (ix c 0).toNat (by omega) (by omega) (fun _ => some 0) rfl (ix c 0).toNat 0 (by omega) ((1 + 2 * ix c 0 - 1).toNat + 1) (by omega)
      rw [show (1 + 2 * ((0 : Nat) : Int)) = 1 from rfl] at h1
      exact h1
    · have h0 : (decide (ix c 0 < 0) || decide (5 < ix c 0)) = true := by
        simp only [Bool.or_eq_true, decide_eq_true_eq]; omega
      rw [h0, cond_true, if_pos (by omega)]
  · rw [decide_eq_false (by omega), Bool.not_false, cond_true, if_pos hlen]
theorem wcells_rt {c : List Int} (h : wcells c = 0) : Rt c (entries c) := by
  obtain ⟨e, h1, h2⟩ := wc_eq c
  rw [rwcells_eq] at h1
  exact h2 (by rw [← Option.some.inj h1]; exact h)
theorem up_len {α : Type} (l : List α) (i : Int) (y : α) : (up l i y).length = l.length := by simp [up]
theorem ix_up {α : Type} [Inhabited α] (l : List α) (i j : Int) (y : α) (hi : 0 ≤ i ∧ i < l.length) (hj : 0 ≤ j) : ix (up l i y) j = if i = j then y else ix l j := by
  have h1 : i.toNat < l.length := by omega
  by_cases e : i = j
  · subst e; simp [ix, up, h1]
  · have : i.toNat ≠ j.toNat := by omega
    simp [ix, up, List.getElem?_set, this, e]
end Sp
end
section
namespace Sp
set_option linter.unusedVariables false
set_option linter.unusedSimpArgs false
set_option maxHeartbeats 1000000
set_option maxRecDepth 8000
theorem model_Wrong_eq (c : Mk.Call) : model_Wrong c = some (wcall c) := by
  unfold model_Wrong wcall model_Wrong_1
  simp only [J, Option.bind_some, Bool.cond_eq_ite, Bool.or_eq_true, Bool.and_eq_true, Bool.not_eq_true', decide_eq_true_eq, decide_eq_false_iff_not, Bool.not_eq_eq_eq_not, Bool.decide_eq_true, Bool.not_true]
  by_cases k : c.Kind < 1 ∨ 6 < c.Kind
  · simp [k]
  simp only [k, if_false]
  by_cases k5 : c.Kind = 5
  · by_cases hn : c.Name = 0
    · by_cases ho : c.Other = 0
      · simp [k5, hn, ho]; try grind
      · simp [k5, hn, ho]; try grind
    · simp [k5, hn]; try grind
  · by_cases k6 : c.Kind = 6
    · simp [k6]; grind
    · simp [k5, k6]; grind
end Sp
end
section
namespace Sp
set_option linter.unusedVariables false
set_option linter.unusedSimpArgs false
set_option maxHeartbeats 1000000
theorem entry_loop (l : List Mk.Write) (x : Int) (hl : l.length ≤ 1000000000) (k : Unit → Option Int) (hk : k () = some (-1)) : ∀ (m i : Nat), i + m = l.length → ∀ f : Nat, m < f →
    slices_IndexFunc___api_Write_api_Write__entry_l1 x k f l (l.length : Int) (i : Int) = some (if pos (l.drop i) x < 0 then -1 else pos (l.drop i) x + i) := by
  intro m
  induction m with
  | zero =>
    intro i hi f hf
    obtain ⟨f, rfl⟩ : ∃ g, f = g + 1 := ⟨f - 1, by omega⟩
    rw [slices_IndexFunc___api_Write_api_Write__entry_l1, decide_eq_false (by omega), cond_false, hk, List.drop_of_length_le (by omega)]
    simp [pos]
  | succ m ih =>
    intro i hi f hf
    obtain ⟨f, rfl⟩ : ∃ g, f = g + 1 := ⟨f - 1, by omega⟩
    rw [slices_IndexFunc___api_Write_api_Write__entry_l1, decide_eq_true (by omega), cond_true, G_on (by omega), model_entry_1, Option.bind_some, ix_drop l i (by omega)]
    by_cases e : (ix l (i : Int)).At = x
    · rw [decide_eq_true e, cond_true]
      simp [pos, e]
    · rw [decide_eq_false e, cond_false, G_on (by unfold I; omega), show ((i : Int) + 1) = ((i + 1 : Nat) : Int) from by omega, ih (i + 1) (by omega) f (by omega)]
      simp only [pos, e, if_false]
      by_cases h2 : pos (l.drop (i + 1)) x < 0
      · simp [h2]
      · have := (pos_range (l.drop (i + 1)) x)
        rw [if_neg h2, if_neg h2, if_neg (by omega)]
        congr 1; omega
theorem entry_eq (l : List Mk.Write) (x : Int) (hl : l.length ≤ 1000000000) : model_entry l x = some (pos l x) := by
  unfold model_entry slices_IndexFunc___api_Write_api_Write__entry
  simp only [J]
  have hp := pos_range l x
  have := entry_loop l x hl (fun _ => some (-1)) rfl l.length 0 (by omega) (((l.length : Int) - 0).toNat + 1) (by omega)
  rw [show ((0 : Nat) : Int) = 0 from rfl, List.drop_zero] at this
  rw [this, Option.bind_some]
  congr 1
  split <;> omega
theorem up_set {α : Type} (l : List α) (i : Int) (y : α) : up l i y = l.set i.toNat y := rfl
theorem model_do_eq {l : List Mk.Write} {c : Mk.Call} (h : Nm l) (hc : CallOk c) : model_Do l c = some (doP l c) := by
  have hle := h.le
  have hnum := hc.num
  have hkind := hc.kind
  have hr := pos_range l c.Name
  have ho := pos_range l c.Other
  unfold model_Do doP
  rw [cloneW_eq l (by omega), Option.bind_some, entry_eq l _ (by omega), Option.bind_some]
  simp only [J]
  by_cases hp : pos l c.Name < 0
  · rw [decide_eq_false (show ¬ (0 : Int) ≤ pos l c.Name from by omega), cond_false]
    by_cases k5 : c.Kind = 5
    · simp [k5]
    by_cases k1 : c.Kind = 1
    · by_cases h5 : 5 ≤ l.length
      · have : (5 : Int) ≤ l.length := by omega
        simp [k1, hp, h5, this]
      · have : ¬ (5 : Int) ≤ l.length := by omega
        have hg : (l.length + 1) * 16 ≤ 140737488355328 ∧ l.length + 1 ≤ 9223372036854775807 := by omega
        simp [k1, hp, h5, this, G, hg]
    · simp [k5, k1, hp]
  · have hp0 : 0 ≤ pos l c.Name := by omega
    have hs := (pos_spec l c.Name hp0).1
    have hb := h.call (x := c.Name) hp0
    have hg : 0 ≤ pos l c.Name ∧ pos l c.Name < (l.length : Int) := ⟨hp0, hr.2⟩
    rw [decide_eq_true hp0, cond_true, G_on hg]
    by_cases k5 : c.Kind = 5
    · simp [k5]
    by_cases k1 : c.Kind = 1
    · simp only [k1, hp, decide_true, decide_false, cond_true, cond_false, Bool.false_and, if_true, if_false, G_on hg, up_set, hs]
      simp
    simp only [k5, k1, hp, decide_false, cond_false, if_false]
    by_cases k2 : c.Kind = 2
    · simp [k2, G_on hg]
    by_cases k3 : c.Kind = 3
    · simp only [k3, decide_true, cond_true, G_on hg]
      rw [G_on (by unfold I; omega), G_on (by omega), G_on (by rw [up_len]; omega)]
      have e : ((l.length : Int) - 1).toNat - (0 : Int).toNat = l.length - 1 := by omega
      simp [up_set, e]
    by_cases k4 : c.Kind = 4
    · simp only [k3, k2, decide_false, cond_false, if_false]
      simp only [k4, decide_true, cond_true, if_true]
      rw [G_on (by unfold I; omega)]
      by_cases hx : 1073741824 < (ix l (pos l c.Name)).N + c.N ∨ (ix l (pos l c.Name)).N + c.N < -1073741824
      · have hb2 : (decide ((ix l (pos l c.Name)).N + c.N < -1073741824) || decide (1073741824 < (ix l (pos l c.Name)).N + c.N)) = true := by
          simp only [Bool.or_eq_true, decide_eq_true_eq]; omega
        rw [hb2, cond_true, if_pos hx]
      · have hb2 : (decide ((ix l (pos l c.Name)).N + c.N < -1073741824) || decide (1073741824 < (ix l (pos l c.Name)).N + c.N)) = false := by
          simp only [Bool.or_eq_false_iff, decide_eq_false_iff_not]; omega
        rw [hb2, cond_false, if_neg hx, G_on hg, G_on (by rw [up_len]; exact hg), ix_up _ _ _ _ hg hp0, if_pos rfl]
        simp [up_set, hs]
    have k6 : c.Kind = 6 := by omega
    simp only [k3, k4, k2, decide_false, cond_false, if_false]
    simp only [k6, decide_true, cond_true]
    rw [entry_eq l _ (by omega), Option.bind_some]
    by_cases hq : pos l c.Other < 0
    · rw [decide_eq_true hq, cond_true]
      simp [hq]
    · have hq0 : 0 ≤ pos l c.Other := by omega
      have hgo : 0 ≤ pos l c.Other ∧ pos l c.Other < (l.length : Int) := ⟨hq0, ho.2⟩
      have hs2 := (pos_spec l c.Other hq0).1
      rw [decide_eq_false hq, cond_false, G_on hgo, G_on hg, G_on hg, G_on (by rw [up_len]; exact hgo), G_on (by rw [up_len, up_len]; exact hg), if_neg hq]
      have e1 : (ix (up l (pos l c.Name) { (ix l (pos l c.Name)) with N := (ix l (pos l c.Other)).N }) (pos l c.Other)).At = c.Other := by
        rw [ix_up _ _ _ _ hg hq0]
        split
        · rename_i e; rw [← hs2, ← e]
        · exact hs2
      have e2 : (ix (up (up l (pos l c.Name) { (ix l (pos l c.Name)) with N := (ix l (pos l c.Other)).N }) (pos l c.Other) { (ix (up l (pos l c.Name) { (ix l (pos l c.Name)) with N := (ix l (pos l c.Other)).N }) (pos l c.Other)) with N := (ix l (pos l c.Name)).N }) (pos l c.Name)).N = (ix l (pos l c.Other)).N := by
        rw [ix_up _ _ _ _ (by rw [up_len]; exact hgo) hp0]
        split
        · rename_i e; rw [e]
        · rw [ix_up _ _ _ _ hg hp0, if_pos rfl]
      rw [e2]
      simp only [up_set, hs] at e1 ⊢
      rw [e1]
theorem mright_loop2 (l0 : List Mk.Write) (e : List Mk.Write) (x : Mk.Write) (he : e.length ≤ 1000000) (k : List Mk.Write → List Mk.Write → Int → Int → Option Bool) (l1 : List Mk.Write) (n q : Int) : ∀ (m j : Nat), j + m = e.length → ∀ f : Nat, m < f →
    mklaw2_right_l2 k f l0 l1 n q e (e.length : Int) (j : Int) x = if (e.drop j).all (fun b => decide (b.At ≠ x.At)) then k l0 l1 n q else some false := by
  intro m
  induction m with
  | zero =>
    intro j hj f hf
    obtain ⟨f, rfl⟩ : ∃ g, f = g + 1 := ⟨f - 1, by omega⟩
    rw [mklaw2_right_l2, decide_eq_false (by omega), cond_false, List.drop_of_length_le (by omega)]; simp
  | succ m ih =>
    intro j hj f hf
    obtain ⟨f, rfl⟩ : ∃ g, f = g + 1 := ⟨f - 1, by omega⟩
    rw [mklaw2_right_l2, decide_eq_true (by omega), cond_true, G_on (by omega), ix_drop e j (by omega)]
    by_cases h : (ix e (j : Int)).At = x.At
    · rw [decide_eq_true h, cond_true]; simp [h]
    · rw [decide_eq_false h, cond_false, G_on (by unfold I; omega), show ((j : Int) + 1) = ((j + 1 : Nat) : Int) from by omega, ih (j + 1) (by omega) f (by omega)]
      simp [h]
def okN (l : List Mk.Write) : Nat → Nat → Bool
  | 0, _ => true
  | m + 1, i => decide (1 ≤ (ix l (i : Int)).At ∧ (ix l (i : Int)).At ≤ 255 ∧ -1073741824 ≤ (ix l (i : Int)).N ∧ (ix l (i : Int)).N ≤ 1073741824) && (l.take i).all (fun b => decide (b.At ≠ (ix l (i : Int)).At)) && okN l m (i + 1)
theorem mright_loop1 (l : List Mk.Write) (hl : l.length ≤ 1000000) (k : Unit → Option Bool) : ∀ (m i : Nat), i + m = l.length → ∀ f : Nat, m < f →
    mklaw2_right_l1 k f l l (l.length : Int) (i : Int) = if okN l m i then k () else some false := by
  intro m
  induction m with
  | zero =>
    intro i hi f hf
    obtain ⟨f, rfl⟩ : ∃ g, f = g + 1 := ⟨f - 1, by omega⟩
    rw [mklaw2_right_l1, decide_eq_false (by omega), cond_false]; simp [okN]
  | succ m ih =>
    intro i hi f hf
    obtain ⟨f, rfl⟩ : ∃ g, f = g + 1 := ⟨f - 1, by omega⟩
    rw [mklaw2_right_l1, decide_eq_true (by omega), cond_true]
    simp only [J]
    rw [G_on (by omega), okN]
    by_cases h : 1 ≤ (ix l (i : Int)).At ∧ (ix l (i : Int)).At ≤ 255 ∧ -1073741824 ≤ (ix l (i : Int)).N ∧ (ix l (i : Int)).N ≤ 1073741824
    · have hb : (((decide ((ix l (i : Int)).At < 1) || decide (255 < (ix l (i : Int)).At)) || decide ((ix l (i : Int)).N < -1073741824)) || decide (1073741824 < (ix l (i : Int)).N)) = false := by
        simp only [Bool.or_eq_false_iff, decide_eq_false_iff_not]; omega
      have hs : sub l 0 (i : Int) = l.take i := by simp
      have h2 := fun k => mright_loop2 l (l.take i) (ix l (i : Int)) (by simp; omega) k l (l.length : Int) (i : Int) (l.take i).length 0 (by omega) ((((l.take i).length : Int) - 0).toNat + 1) (by omega)
      rw [show ((0 : Nat) : Int) = 0 from rfl] at h2
      rw [hb, cond_false, G_on (by omega), hs, h2, List.drop_zero, G_on (by unfold I; omega), show ((i : Int) + 1) = ((i + 1 : Nat) : Int) from by omega, ih (i + 1) (by omega) f (by omega), decide_eq_true h, Bool.true_and]
      by_cases h3 : (l.take i).all (fun b => decide (b.At ≠ (ix l (i : Int)).At)) = true
      · rw [if_pos h3, h3, Bool.true_and]
      · rw [if_neg h3]; simp only [Bool.not_eq_true] at h3; rw [h3]; simp
    · have hb : (((decide ((ix l (i : Int)).At < 1) || decide (255 < (ix l (i : Int)).At)) || decide ((ix l (i : Int)).N < -1073741824)) || decide (1073741824 < (ix l (i : Int)).N)) = true := by
        simp only [Bool.or_eq_true, decide_eq_true_eq]; omega
      rw [hb, cond_true, decide_eq_false h]; simp
theorem okN_nm (l : List Mk.Write) : ∀ (m i : Nat), i + m = l.length → (okN l m i = true ↔ (∀ j : Nat, i ≤ j → j < l.length → (1 ≤ (ix l (j : Int)).At ∧ (ix l (j : Int)).At ≤ 255 ∧ -1073741824 ≤ (ix l (j : Int)).N ∧ (ix l (j : Int)).N ≤ 1073741824) ∧ ∀ h : Nat, h < j → (ix l (h : Int)).At ≠ (ix l (j : Int)).At)) := by
  intro m
  induction m with
  | zero => intro i hi; simp only [okN, true_iff]; intro j h1 h2; omega
  | succ m ih =>
    intro i hi
    rw [okN, Bool.and_eq_true, Bool.and_eq_true, ih (i + 1) (by omega), decide_eq_true_eq, List.all_eq_true]
    have ht : (∀ b ∈ l.take i, decide (b.At ≠ (ix l (i : Int)).At) = true) ↔ ∀ h : Nat, h < i → (ix l (h : Int)).At ≠ (ix l (i : Int)).At := by
      constructor
      · intro hh h hlt
        have hm : ix l (h : Int) ∈ l.take i := by
          rw [ix_nat l h (by omega)]
          exact List.mem_take_iff_getElem.2 ⟨h, by omega, rfl⟩
        exact of_decide_eq_true (hh _ hm)
      · intro hh b hb
        obtain ⟨h, hlt, e⟩ := List.mem_take_iff_getElem.1 hb
        rw [← e, ← ix_nat l h (by omega)]
        exact decide_eq_true (hh h (by omega))
    rw [ht]
    constructor
    · rintro ⟨⟨h1, h2⟩, h3⟩ j hj1 hj2
      by_cases e : j = i
      · subst e; exact ⟨h1, h2⟩
      · exact h3 j (by omega) hj2
    · intro hh
      exact ⟨⟨(hh i (by omega) (by omega)).1, (hh i (by omega) (by omega)).2⟩, fun j h1 h2 => hh j (by omega) h2⟩
theorem nm_iff (l : List Mk.Write) (h5 : l.length ≤ 5) : okN l l.length 0 = true ↔ Nm l := by
  rw [okN_nm l l.length 0 (by omega)]
  constructor
  · intro hh
    refine nm_of h5 (fun i hi => (hh i (by omega) hi).1) ?_
    intro i j hij hj
    exact (hh j (by omega) hj).2 i hij
  · intro h j h1 h2
    exact ⟨h.ix _ (by omega), fun i hi => h.ne (by omega) h2 (by omega)⟩
theorem mright_eq (l : List Mk.Write) : ∃ b, mklaw2_right l = some b ∧ (b = true ↔ Nm l) := by
  unfold mklaw2_right
  by_cases h5 : l.length ≤ 5
  · rw [decide_eq_false (by omega), cond_false]
    simp only [J]
    have l1 := fun k => mright_loop1 l (by omega) k l.length 0 (by omega) (((l.length : Int) - 0).toNat + 1) (by omega)
    rw [show ((0 : Nat) : Int) = 0 from rfl] at l1
    rw [l1]
    by_cases h : okN l l.length 0 = true
    · rw [if_pos h]; exact ⟨true, rfl, fun _ => (nm_iff l h5).1 h, fun _ => rfl⟩
    · rw [if_neg h]; exact ⟨false, rfl, ⟨fun e => (by cases e), fun e => (h ((nm_iff l h5).2 e)).elim⟩⟩
  · rw [decide_eq_true (by omega), cond_true]
    exact ⟨false, rfl, ⟨fun e => (by cases e), fun e => (h5 e.le).elim⟩⟩
theorem mall_loop (rs : List Mk.Request) (hl : rs.length * 48 ≤ 140737488355328) (hr : ∀ r ∈ rs, CallOk r.Call) (k : List Mk.Write → List Mk.Reply → Option (List Mk.Write × List Mk.Reply)) : ∀ (m i : Nat), i + m = rs.length → ∀ f : Nat, m < f → ∀ (l : List Mk.Write) (acc : List Mk.Reply), Nm l → acc.length = i →
    model_All_l1 k f l rs (rs.length : Int) (i : Int) acc = k (allN l (rs.drop i)) (acc ++ allR l (rs.drop i)) := by
  intro m
  induction m with
  | zero =>
    intro i hi f hf l acc hn ha
    obtain ⟨f, rfl⟩ : ∃ g, f = g + 1 := ⟨f - 1, by omega⟩
    rw [model_All_l1, decide_eq_false (by omega), cond_false, List.drop_of_length_le (by omega)]; simp [allN, allR]
  | succ m ih =>
    intro i hi f hf l acc hn ha
    obtain ⟨f, rfl⟩ : ∃ g, f = g + 1 := ⟨f - 1, by omega⟩
    have hc := hr _ (ix_mem rs (i : Int) (by omega))
    rw [model_All_l1, decide_eq_true (by omega), cond_true, G_on (by omega), model_do_eq hn hc, Option.bind_some, G_on (by simp; omega), G_on (by unfold I; omega), show ((i : Int) + 1) = ((i + 1 : Nat) : Int) from by omega,
      ih (i + 1) (by omega) f (by omega) _ _ (nm_doP hn hc) (by simp [ha]), ix_drop rs i (by omega)]
    simp [allN, allR]
theorem mall_eq (rs : List Mk.Request) (hl : rs.length * 48 ≤ 140737488355328) (hr : ∀ r ∈ rs, CallOk r.Call) : model_All rs = some (allN [] rs, allR [] rs) := by
  unfold model_All
  simp only [J]
  have := mall_loop rs hl hr (fun a b => some (a, b)) rs.length 0 (by omega) (((rs.length : Int) - 0).toNat + 1) (by omega) [] [] nm_nil rfl
  rw [show ((0 : Nat) : Int) = 0 from rfl] at this
  rw [this]; simp
theorem rall_loop (rs : List Mk.Request) (hl : rs.length * 48 ≤ 140737488355328) (hr : ∀ r ∈ rs, CallOk r.Call) (k : List Mk.Write → List Mk.Reply → Option (List Mk.Write × List Mk.Reply)) : ∀ (m i : Nat), i + m = rs.length → ∀ f : Nat, m < f → ∀ (l : List Mk.Write) (acc : List Mk.Reply), Nm l → acc.length = i →
    mkref1_All_l1 k f l rs (rs.length : Int) (i : Int) acc = k (allN l (rs.drop i)) (acc ++ allR l (rs.drop i)) := by
  intro m
  induction m with
  | zero =>
    intro i hi f hf l acc hn ha
    obtain ⟨f, rfl⟩ : ∃ g, f = g + 1 := ⟨f - 1, by omega⟩
    rw [mkref1_All_l1, decide_eq_false (by omega), cond_false, List.drop_of_length_le (by omega)]; simp [allN, allR]
  | succ m ih =>
    intro i hi f hf l acc hn ha
    obtain ⟨f, rfl⟩ : ∃ g, f = g + 1 := ⟨f - 1, by omega⟩
    have hc := hr _ (ix_mem rs (i : Int) (by omega))
    rw [mkref1_All_l1, decide_eq_true (by omega), cond_true, G_on (by omega), do_eqP hn hc, Option.bind_some, G_on (by simp; omega), G_on (by unfold I; omega), show ((i : Int) + 1) = ((i + 1 : Nat) : Int) from by omega,
      ih (i + 1) (by omega) f (by omega) _ _ (nm_doP hn hc) (by simp [ha]), ix_drop rs i (by omega)]
    simp [allN, allR]
theorem rall_eq (rs : List Mk.Request) (hl : rs.length * 48 ≤ 140737488355328) (hr : ∀ r ∈ rs, CallOk r.Call) : mkref1_All rs = some (allN [] rs, allR [] rs) := by
  unfold mkref1_All
  simp only [J]
  have := rall_loop rs hl hr (fun a b => some (a, b)) rs.length 0 (by omega) (((rs.length : Int) - 0).toNat + 1) (by omega) [] [] nm_nil rfl
  rw [show ((0 : Nat) : Int) = 0 from rfl] at this
  rw [this]; simp
theorem mof_loop {c : List Int} {l : List Mk.Write} (h : Rt c l) (k : List Mk.Write → Option (List Mk.Write)) : ∀ (m i : Nat), i + m = l.length → ∀ (f : Nat), m < f → ∀ acc : List Mk.Write, acc.length = i →
    model_Of_l1 k f c (l.length : Int) (i : Int) acc = k (acc ++ l.drop i) := by
  intro m
  induction m with
  | zero =>
    intro i hi f hf acc ha
    obtain ⟨f, rfl⟩ : ∃ g, f = g + 1 := ⟨f - 1, by omega⟩
    rw [model_Of_l1, decide_eq_false (by omega), cond_false, List.drop_of_length_le (by omega), List.append_nil]
  | succ m ih =>
    intro i hi f hf acc ha
    have hle := h.le
    have hlen := h.len
    obtain ⟨hat, hnn⟩ := h.ats i (by omega)
    obtain ⟨f, rfl⟩ : ∃ g, f = g + 1 := ⟨f - 1, by omega⟩
    rw [model_Of_l1, decide_eq_true (by omega), cond_true, G_on (by unfold I; omega), G_on (by unfold I; omega), G_on (by omega), G_on (by unfold I; omega), G_on (by unfold I; omega), G_on (by omega), G_on (by simp; omega), G_on (by unfold I; omega), hat, hnn,
      show ((i : Int) + 1) = ((i + 1 : Nat) : Int) from by omega, ih (i + 1) (by omega) f (by omega) _ (by simp [ha]), ix_drop l i (by omega)]
    simp
theorem mof_eq {c : List Int} {l : List Mk.Write} (h : Rt c l) : model_Of c = some l := by
  unfold model_Of
  simp only [J]
  have hn := h.n
  have hlen := h.len
  have := mof_loop h (fun y => some y) l.length 0 (by omega) (((l.length : Int) - 0).toNat + 1) (by omega) [] rfl
  rw [show ((0 : Nat) : Int) = 0 from rfl] at this
  rw [G_on (by omega), hn, this]; simp
end Sp
end
section
namespace Sp
set_option linter.unusedVariables false
set_option linter.unusedSimpArgs false
set_option maxHeartbeats 1000000
theorem law2_alive : mklaw2_alive = some true := by decide +kernel
theorem modelTells_loop1 (rs : List Mk.Request) (hl : rs.length ≤ 9223372036854775807) (k : List Mk.Request → Option Bool) (hk : (∀ r ∈ rs, CallOk r.Call) → k rs = some true) : ∀ (m i : Nat), i + m = rs.length → ∀ f : Nat, m < f → (∀ j : Nat, j < i → CallOk (ix rs (j : Int)).Call) →
    mklaw2_ModelTells_l1 k f rs rs (rs.length : Int) (i : Int) = some true := by
  intro m
  induction m with
  | zero =>
    intro i hi f hf ha
    obtain ⟨f, rfl⟩ : ∃ g, f = g + 1 := ⟨f - 1, by omega⟩
    rw [mklaw2_ModelTells_l1, decide_eq_false (by omega), cond_false]
    apply hk
    intro r hr
    obtain ⟨j, hj, e⟩ := List.mem_iff_getElem.1 hr
    have := ha j (by omega)
    rwa [ix_nat rs j hj, e] at this
  | succ m ih =>
    intro i hi f hf ha
    obtain ⟨f, rfl⟩ : ∃ g, f = g + 1 := ⟨f - 1, by omega⟩
    rw [mklaw2_ModelTells_l1, decide_eq_true (by omega), cond_true, G_on (by omega), wrongCall_eq, Option.bind_some]
    by_cases h : wcall (ix rs (i : Int)).Call = 0
    · rw [decide_eq_true h, Bool.not_true, cond_false, G_on (by unfold I; omega), show ((i : Int) + 1) = ((i + 1 : Nat) : Int) from by omega, ih (i + 1) (by omega) f (by omega)]
      intro j hj
      by_cases e : j = i
      · subst e; exact (wcall_ok _).1 h
      · exact ha j (by omega)
    · rw [decide_eq_false h, Bool.not_false, cond_true]
theorem modelTells_loop2 (a : List Mk.Reply) (hl : a.length ≤ 9223372036854775807) (k : Unit → Option Bool) (hk : k () = some true) : ∀ (m i : Nat), i + m = a.length → ∀ f : Nat, m < f →
    mklaw2_ModelTells_l2 k f a a (a.length : Int) (i : Int) = some true := by
  intro m
  induction m with
  | zero =>
    intro i hi f hf
    obtain ⟨f, rfl⟩ : ∃ g, f = g + 1 := ⟨f - 1, by omega⟩
    rw [mklaw2_ModelTells_l2, decide_eq_false (by omega), cond_false, hk]
  | succ m ih =>
    intro i hi f hf
    obtain ⟨f, rfl⟩ : ∃ g, f = g + 1 := ⟨f - 1, by omega⟩
    rw [mklaw2_ModelTells_l2, decide_eq_true (by omega), cond_true, G_on (by omega), G_on (by omega), decide_eq_true rfl, Bool.not_true, cond_false, G_on (by unfold I; omega), show ((i : Int) + 1) = ((i + 1 : Nat) : Int) from by omega, ih (i + 1) (by omega) f (by omega)]
theorem modelTells (l : List Mk.Write) (c : Mk.Call) (past : List Mk.Request) (cells : List Int) (hp : past.length * 48 ≤ 140737488355328) : mklaw2_ModelTells l c past cells = some true := by
  unfold mklaw2_ModelTells
  rw [model_Wrong_eq, Option.bind_some, wrongCall_eq, Option.bind_some, decide_eq_true rfl, Bool.not_true, cond_false]
  simp only [J]
  have tail : ((mkref1_WrongCells cells).bind (fun v12 =>
      (Cn (((decide (v12 = (0 : Int)))) = true) (model_Of cells)).bind (fun v13 =>
      (Cn (((decide (v12 = (0 : Int)))) = true) (mkref1_Of cells)).bind (fun v14 =>
      (Cn (((decide (v12 = (0 : Int)))) = true) (mkref1_SameWrites v13 v14)).bind (fun v15 =>
      (bif ((decide (v12 = (0 : Int))) && (!v15)) then some false else
        mklaw2_ModelTells_l1 (fun x2 => (model_All x2).bind (fun v24 => (mkref1_All x2).bind (fun v25 =>
          (Cn (((!decide ((v24.2.length : Int) = (v25.2.length : Int)))) = false) (mkref1_SameWrites (v24.1) (v25.1))).bind (fun v26 =>
          (bif ((!decide ((v24.2.length : Int) = (v25.2.length : Int))) || (!v26)) then some false else
            mklaw2_ModelTells_l2 (fun _ => some true) (((v24.2.length : Int) - (0 : Int)).toNat + 1) (v24.2) (v25.2) ((v24.2.length : Int)) ((0 : Int)))))))
          (((past.length : Int) - (0 : Int)).toNat + 1) past past ((past.length : Int)) ((0 : Int)))))))) = some true := by
    have hall : mklaw2_ModelTells_l1 (fun x2 => (model_All x2).bind (fun v24 => (mkref1_All x2).bind (fun v25 =>
          (Cn (((!decide ((v24.2.length : Int) = (v25.2.length : Int)))) = false) (mkref1_SameWrites (v24.1) (v25.1))).bind (fun v26 =>
          (bif ((!decide ((v24.2.length : Int) = (v25.2.length : Int))) || (!v26)) then some false else
            mklaw2_ModelTells_l2 (fun _ => some true) (((v24.2.length : Int) - (0 : Int)).toNat + 1) (v24.2) (v25.2) ((v24.2.length : Int)) ((0 : Int)))))))
          (((past.length : Int) - (0 : Int)).toNat + 1) past past ((past.length : Int)) ((0 : Int)) = some true := by
      have h1 := fun k hk => modelTells_loop1 past (by omega) k hk past.length 0 (by omega) (((past.length : Int) - 0).toNat + 1) (by omega) (fun j hj => by omega)
      rw [show ((0 : Nat) : Int) = 0 from rfl] at h1
      apply h1
      intro hr
      have hn := (nm_allN nm_nil hr).le
      have hlen := allR_len [] past
      rw [mall_eq past hp hr, Option.bind_some, rall_eq past hp hr, Option.bind_some]
      simp only [decide_true, Bool.not_true]
      rw [Cn_yes trivial, sameWrites_eq _ _ (by omega), Option.bind_some, decide_eq_true rfl]
      simp only [Bool.not_true, Bool.or_self, cond_false]
      have h2 := modelTells_loop2 (allR [] past) (by omega) (fun _ => some true) rfl (allR [] past).length 0 (by omega) (((allR [] past).length : Int) - 0).toNat.succ (by omega)
      exact h2
    rw [hall, rwcells_eq, Option.bind_some]
    by_cases h : wcells cells = 0
    · have hR := wcells_rt h
      have hle := hR.le
      simp [h, Cn, mof_eq hR, of_eq hR, sameWrites_eq _ _ (show (entries cells).length ≤ 9223372036854775807 from by omega)]
    · simp [h, Cn]
  obtain ⟨b, hb, hbn⟩ := mright_eq l
  rw [hb, Option.bind_some]
  cases b with
  | false => rw [Cn_no (by simp), Option.bind_some, Bool.false_and, cond_false]; exact tail
  | true =>
    have hn := hbn.1 rfl
    rw [Cn_yes rfl, Option.bind_some, Bool.true_and]
    by_cases hc : wcall c = 0
    · have hc2 := (wcall_ok c).1 hc
      have hle := (nm_doP hn hc2).le
      rw [decide_eq_true hc, cond_true, model_do_eq hn hc2, Option.bind_some, do_eqP hn hc2, Option.bind_some, decide_eq_true rfl, Bool.not_true, Cn_yes rfl, sameWrites_eq _ _ (by omega), Option.bind_some, decide_eq_true rfl, Bool.not_true, Bool.or_self, cond_false]
      exact tail
    · rw [decide_eq_false hc, cond_false]; exact tail
theorem doP_told {l : List Mk.Write} {c : Mk.Call} (h : Nm l) (hc : CallOk c) : ((doP l c).2.Err = 0 ∨ ((doP l c).2.N = 0 ∧ (doP l c).1 = l)) ∧ -1073741824 ≤ (doP l c).2.N ∧ (doP l c).2.N ≤ 1073741824 := by
  have hle := h.le
  have hr := pos_range l c.Name
  have ho := pos_range l c.Other
  unfold doP
  repeat' split
  all_goals first
    | (refine ⟨.inl rfl, ?_⟩; simp only; omega)
    | (refine ⟨.inl rfl, ?_⟩; exact h.call (by omega))
    | (exact ⟨.inr ⟨rfl, rfl⟩, (show (-1073741824 : Int) ≤ 0 by decide), (show (0 : Int) ≤ 1073741824 by decide)⟩)
theorem modelRight (l : List Mk.Write) (c : Mk.Call) : mklaw2_ModelRight l c = some true := by
  unfold mklaw2_ModelRight
  rw [law2_alive, Option.bind_some, Bool.not_true, cond_false]
  obtain ⟨b, hb, hbn⟩ := mright_eq l
  rw [hb, Option.bind_some]
  cases b with
  | false => rw [Cn_no (by simp), Option.bind_some]; rfl
  | true =>
    have hn := hbn.1 rfl
    rw [Bool.not_true, Cn_yes rfl, model_Wrong_eq, Option.bind_some, Bool.false_or]
    by_cases hc : wcall c = 0
    · have hc2 := (wcall_ok c).1 hc
      have hn2 := nm_doP hn hc2
      have hle := hn2.le
      obtain ⟨h1, h2, h3⟩ := doP_told hn hc2
      obtain ⟨b2, hb2, hbn2⟩ := mright_eq (doP l c).1
      have : b2 = true := hbn2.2 hn2
      subst this
      rw [decide_eq_true hc, Bool.not_true, cond_false, model_do_eq hn hc2, Option.bind_some, hb2, Option.bind_some]
      rcases h1 with h1 | ⟨h1, h4⟩
      · simp [h1, h2, h3, Cn]
      · by_cases h5 : (doP l c).2.Err = 0 <;> simp [h1, h4, h5, Cn, sameWrites_eq _ _ (show l.length ≤ 9223372036854775807 from by have := hn.le; omega)]
    · rw [decide_eq_false hc, Bool.not_false, cond_true]
theorem wr_ext {l m : List Mk.Write} (hl : l.length = m.length) (h : ∀ i : Nat, i < l.length → ix l (i : Int) = ix m (i : Int)) : l = m := by
  apply List.ext_getElem hl
  intro i h1 h2
  have := h i h1
  rwa [ix_nat l i h1, ix_nat m i h2] at this
theorem swap_twice {l : List Mk.Write} (h : Nm l) (a b : Int) : (doP (doP l ⟨6, a, b, 0⟩).1 ⟨6, b, a, 0⟩).1 = l ∧ (doP (doP l ⟨6, a, b, 0⟩).1 ⟨6, b, a, 0⟩).2.Err = (doP l ⟨6, a, b, 0⟩).2.Err := by
  have ha := pos_range l a
  have hb := pos_range l b
  by_cases h1 : pos l a < 0
  · have e : doP l ⟨6, a, b, 0⟩ = (l, ⟨6, 0⟩) := by simp [doP, h1]
    rw [e]
    by_cases h2 : pos l b < 0
    · simp [doP, h2]
    · simp [doP, h1, h2]
  · by_cases h2 : pos l b < 0
    · have e : doP l ⟨6, a, b, 0⟩ = (l, ⟨6, 0⟩) := by simp [doP, h1, h2]
      rw [e]; simp [doP, h2]
    · have sa := (pos_spec l a (by omega)).1
      have sb := (pos_spec l b (by omega)).1
      have e : doP l ⟨6, a, b, 0⟩ = ((l.set (pos l a).toNat ⟨a, (ix l (pos l b)).N⟩).set (pos l b).toNat ⟨b, (ix l (pos l a)).N⟩, ⟨0, (ix l (pos l b)).N⟩) := by simp [doP, h1, h2]
      rw [e]
      have n1 := set_names (l := l) (k := pos l a) (w := ⟨a, (ix l (pos l b)).N⟩) (by omega) sa
      have q1 : 0 ≤ pos l b ∧ pos l b < ((l.set (pos l a).toNat ⟨a, (ix l (pos l b)).N⟩).length : Int) := by simp; omega
      have n2 := set_names (l := l.set (pos l a).toNat ⟨a, (ix l (pos l b)).N⟩) (k := pos l b) (w := ⟨b, (ix l (pos l a)).N⟩) q1 (by
        rw [ix_set _ _ _ (by omega) (by omega)]
        split
        · rename_i e; show a = b; rw [← sa, ← sb, e]
        · exact sb)
      have hn := n2.trans n1
      show (doP ((l.set (pos l a).toNat ⟨a, (ix l (pos l b)).N⟩).set (pos l b).toNat ⟨b, (ix l (pos l a)).N⟩) ⟨6, b, a, 0⟩).1 = l ∧ (doP ((l.set (pos l a).toNat ⟨a, (ix l (pos l b)).N⟩).set (pos l b).toNat ⟨b, (ix l (pos l a)).N⟩) ⟨6, b, a, 0⟩).2.Err = 0
      have pa := pos_map hn a
      have pb := pos_map hn b
      have hx : ∀ j : Int, 0 ≤ j → ix ((l.set (pos l a).toNat ⟨a, (ix l (pos l b)).N⟩).set (pos l b).toNat ⟨b, (ix l (pos l a)).N⟩) j = if pos l b = j then ⟨b, (ix l (pos l a)).N⟩ else if pos l a = j then ⟨a, (ix l (pos l b)).N⟩ else ix l j := fun j hj => by
        rw [ix_set _ _ _ q1 hj, ix_set _ _ _ (by omega) hj]
      generalize hm : (l.set (pos l a).toNat ⟨a, (ix l (pos l b)).N⟩).set (pos l b).toNat ⟨b, (ix l (pos l a)).N⟩ = m at pa pb hx
      have hlen : m.length = l.length := by rw [← hm]; simp
      have e2 : doP m ⟨6, b, a, 0⟩ = ((m.set (pos l b).toNat ⟨b, (ix m (pos l a)).N⟩).set (pos l a).toNat ⟨a, (ix m (pos l b)).N⟩, ⟨0, (ix m (pos l a)).N⟩) := by simp [doP, pa, pb, h1, h2]
      rw [e2]
      refine ⟨?_, rfl⟩
      apply wr_ext (by simp [hlen])
      intro i hi
      have x1 := hx (pos l b) (by omega)
      have x2 := hx (pos l a) (by omega)
      have x3 := hx (i : Int) (by omega)
      rw [if_pos rfl] at x1
      rw [ix_set _ _ _ (by simp; omega) (by omega), ix_set _ _ _ (by omega) (by omega), x1, x2, x3]
      have eta : ∀ (w : Mk.Write) (x : Int), w.At = x → (⟨x, w.N⟩ : Mk.Write) = w := fun w x e => by subst e; rfl
      by_cases c1 : pos l a = (i : Int)
      · rw [if_pos c1]; exact (eta _ _ sa).trans (by rw [c1])
      · rw [if_neg c1]
        by_cases c2 : pos l b = (i : Int)
        · rw [if_pos c2, if_neg (by omega), if_pos rfl]; exact (eta _ _ sb).trans (by rw [c2])
        · rw [if_neg c2, if_neg c2, if_neg c1]
theorem modelSwap (l : List Mk.Write) (a b : Int) : mklaw2_ModelSwap l a b = some true := by
  unfold mklaw2_ModelSwap
  rw [law2_alive, Option.bind_some, Bool.not_true, cond_false]
  obtain ⟨g, hb, hbn⟩ := mright_eq l
  rw [hb, Option.bind_some]
  cases g with
  | false => rw [Cn_no (by simp), Option.bind_some]; rfl
  | true =>
    have hn := hbn.1 rfl
    rw [Bool.not_true, Cn_yes rfl, model_Wrong_eq, Option.bind_some, Bool.false_or]
    by_cases hc : wcall ⟨6, a, b, 0⟩ = 0
    · have hc2 := (wcall_ok _).1 hc
      have hc3 : CallOk ⟨6, b, a, 0⟩ := by
        have h1 := hc2.name.2 (show (6 : Int) ≠ 5 by decide)
        have h2 := hc2.other.1 rfl
        exact ⟨⟨(show (1 : Int) ≤ 6 by decide), (show (6 : Int) ≤ 6 by decide)⟩, ⟨(fun h => by cases h), fun _ => h2⟩, ⟨fun _ => h1, fun h => (h rfl).elim⟩, (show (-1073741824 : Int) ≤ 0 by decide), (show (0 : Int) ≤ 1073741824 by decide), fun _ _ => rfl⟩
      have hn2 := nm_doP hn hc2
      obtain ⟨h1, h2⟩ := swap_twice hn a b
      rw [decide_eq_true hc, Bool.not_true, cond_false, model_do_eq hn hc2, Option.bind_some, model_do_eq hn2 hc3, Option.bind_some, h1, h2, decide_eq_true rfl, Cn_yes rfl, sameWrites_eq _ _ (by have := hn.le; omega), Option.bind_some, decide_eq_true rfl]; rfl
    · rw [decide_eq_false hc, Bool.not_false, cond_true]
end Sp
end
