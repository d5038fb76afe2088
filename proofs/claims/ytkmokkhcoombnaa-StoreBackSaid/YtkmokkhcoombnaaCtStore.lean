/- FUNCTIONS OF THE PROGRAM ANSWER WHAT THEIR SPECS ANSWER: printed by gen3.py. -/
import Derived.Test.YtkmokkhcoombnaaGt
import Derived.Test.YtkmokkhcoombnaaSpStore
import Derived.Test.YtkmokkhcoombnaaChecked
import Derived.Test.YtkmokkhcoombnaaCtCell
import Derived.Test.YtkmokkhcoombnaaCtWire
namespace Go.Gx
open Sp
set_option linter.unusedVariables false
set_option linter.unusedSimpArgs false
set_option maxRecDepth 20000
/-- mendkernel/mkref1.SameStore -/
theorem c_mkref1_SameStore {a0 : Mk.Store} {a1 : Mk.Store} {r : Bool} (hφ : mkref1_SameStore a0 a1 = some r) : Fn Go.Proofs.Try.prog 34 [.val a0, .val a1] (.val r) := by
  unfold mkref1_SameStore at hφ
  refine Fn.mk' Go.Proofs.Try.func34 rfl (by decide) rfl rfl rfl (fun w0 hw0 => ?_)
  refine PT.seq ?_
  refine PT.region ?_
  refine Ops.putO rfl rfl (ox_box (id := 2) .tmp) (.one rfl) (.nil) rfl (by kernel_rfl) ?_
  refine Ops.putO rfl rfl (ox_box (id := 3) .tmp) (.one rfl) (.nil) rfl (by kernel_rfl) ?_
  refine Ops.put rfl rfl (ox_assign .bool) (.nil) (.nil) rfl ?_
  refine Ops.nil ?_
  refine PT.sub (σ' := ⟨[(2, _), (3, _)], [(2, .var (a0) []), (3, .var (a1) [])]⟩) ⟨rfl, rfl, trivial⟩ ⟨rfl, rfl, trivial⟩ ?_
  refine PT.seq ?_
  refine PT.seq ?_
  obtain ⟨v1, hv1, hφ⟩ := B_some hφ
  obtain ⟨v2, hv2, hφ⟩ := B_some hφ
  refine PT.region ?_
  refine Ops.put rfl rfl (ox_fieldAddr_var Store_Cells f48_0) (.one rfl) (.nil) rfl ?_
  refine Ops.put rfl rfl (ox_load_fld t43) (.one rfl) (.one rfl) rfl ?_
  refine Ops.put rfl rfl (ox_fieldAddr_var Store_Cells f48_0) (.one rfl) (.nil) rfl ?_
  refine Ops.put rfl rfl (ox_load_fld t43) (.one rfl) (.one rfl) rfl ?_
  refine Ops.put rfl rfl (ox_call (c_mkref1_SameInts hv1) (.cons .tmp (.cons .tmp .nil))) ((.app (.one rfl) (.app (.one rfl) .nil))) (.nil) rfl ?_
  refine Ops.put rfl rfl (ox_not .tmp) (.one rfl) (.nil) rfl ?_
  refine Ops.put rfl rfl (ox_move .tmp) (.one rfl) (.nil) rfl ?_
  refine Ops.guard rfl rfl rfl rfl (.plain .nil) (fun hG => (ox_fieldAddr_var Store_Undo f48_1)) ⟨rfl, trivial⟩ (.nil) rfl ?_
  refine Ops.guard rfl rfl rfl rfl (.cond (fun h => h) .nil) (fun hG => (ox_load_fld t44)) ⟨rfl, trivial⟩ (.one rfl) rfl ?_
  refine Ops.guard rfl rfl rfl rfl (.plain .nil) (fun hG => (ox_fieldAddr_var Store_Undo f48_1)) ⟨rfl, trivial⟩ (.nil) rfl ?_
  refine Ops.guard rfl rfl rfl rfl (.cond (fun h => h) .nil) (fun hG => (ox_load_fld t44)) ⟨rfl, trivial⟩ (.one rfl) rfl ?_
  refine Ops.guard rfl rfl rfl rfl (.cond (fun h => h) (.cond (fun h => h) .nil)) (fun hG => (ox_call (c_mkref1_SameWrites (Cn_on hv2 hG)) (.cons .tmp (.cons .tmp .nil)))) ⟨rfl, rfl, trivial⟩ (.nil) rfl ?_
  refine Ops.guard rfl rfl rfl rfl (.cond (fun h => h) .nil) (fun hG => (ox_not .tmp)) ⟨rfl, trivial⟩ (.nil) rfl ?_
  refine Ops.put rfl rfl ox_pick_or (⟨rfl, rfl, trivial⟩) (.nil) rfl ?_
  refine Ops.put rfl rfl (ox_move .tmp) (.one rfl) (.nil) rfl ?_
  refine Ops.guard rfl rfl rfl rfl (.plain .nil) (fun hG => (ox_fieldAddr_var Store_Answers f48_2)) ⟨rfl, trivial⟩ (.nil) rfl ?_
  refine Ops.guard rfl rfl rfl rfl (.cond (fun h => h) .nil) (fun hG => (ox_load_fld t45)) ⟨rfl, trivial⟩ (.one rfl) rfl ?_
  refine Ops.guard rfl rfl rfl rfl (.cond (fun h => h) .nil) (fun hG => (ox_len s45 .tmp)) ⟨rfl, trivial⟩ (.nil) rfl ?_
  refine Ops.guard rfl rfl rfl rfl (.plain .nil) (fun hG => (ox_fieldAddr_var Store_Answers f48_2)) ⟨rfl, trivial⟩ (.nil) rfl ?_
  refine Ops.guard rfl rfl rfl rfl (.cond (fun h => h) .nil) (fun hG => (ox_load_fld t45)) ⟨rfl, trivial⟩ (.one rfl) rfl ?_
  refine Ops.guard rfl rfl rfl rfl (.cond (fun h => h) .nil) (fun hG => (ox_len s45 .tmp)) ⟨rfl, trivial⟩ (.nil) rfl ?_
  refine Ops.guard rfl rfl rfl rfl (.cond (fun h => h) (.cond (fun h => h) .nil)) (fun hG => (ox_neq .tmp .tmp)) ⟨rfl, rfl, trivial⟩ (.nil) rfl ?_
  refine Ops.put rfl rfl ox_pick_or (⟨rfl, rfl, trivial⟩) (.nil) rfl ?_
  refine Ops.put rfl rfl (ox_move .tmp) (.one rfl) (.nil) rfl ?_
  refine Ops.guard rfl rfl rfl rfl (.plain .nil) (fun hG => (ox_fieldAddr_var Store_Past f48_3)) ⟨rfl, trivial⟩ (.nil) rfl ?_
  refine Ops.guard rfl rfl rfl rfl (.cond (fun h => h) .nil) (fun hG => (ox_load_fld t46)) ⟨rfl, trivial⟩ (.one rfl) rfl ?_
  refine Ops.guard rfl rfl rfl rfl (.cond (fun h => h) .nil) (fun hG => (ox_len s46 .tmp)) ⟨rfl, trivial⟩ (.nil) rfl ?_
  refine Ops.guard rfl rfl rfl rfl (.plain .nil) (fun hG => (ox_fieldAddr_var Store_Past f48_3)) ⟨rfl, trivial⟩ (.nil) rfl ?_
  refine Ops.guard rfl rfl rfl rfl (.cond (fun h => h) .nil) (fun hG => (ox_load_fld t46)) ⟨rfl, trivial⟩ (.one rfl) rfl ?_
  refine Ops.guard rfl rfl rfl rfl (.cond (fun h => h) .nil) (fun hG => (ox_len s46 .tmp)) ⟨rfl, trivial⟩ (.nil) rfl ?_
  refine Ops.guard rfl rfl rfl rfl (.cond (fun h => h) (.cond (fun h => h) .nil)) (fun hG => (ox_neq .tmp .tmp)) ⟨rfl, rfl, trivial⟩ (.nil) rfl ?_
  refine Ops.put rfl rfl ox_pick_or (⟨rfl, rfl, trivial⟩) (.nil) rfl ?_
  refine Ops.nil ?_
  refine PT.sub (σ' := ⟨[(2, _), (3, _), (38, .val (((((!v1) || (!v2)) || (!decide ((a0.Answers.length : Int) = (a1.Answers.length : Int)))) || (!decide ((a0.Past.length : Int) = (a1.Past.length : Int))))))], [(2, .var (a0) []), (3, .var (a1) [])]⟩) ⟨rfl, rfl, rfl, trivial⟩ ⟨rfl, rfl, trivial⟩ ?_
  refine PT.cond _ rfl (fun hc3 => ?_) (fun hc3 => ?_)
  · replace hφ := if_then hφ hc3
    refine PT.sub (σ' := ⟨[], []⟩) trivial trivial ?_
    refine PT.seq ?_
    refine PT.region ?_
    refine Ops.put rfl rfl (ox_assign .bool) (.nil) (.nil) rfl ?_
    refine Ops.nil ?_
    refine PT.sub (σ' := ⟨[(4, .val (false))], []⟩) ⟨rfl, trivial⟩ trivial ?_
    refine PT.ret ?_
    obtain rfl := Option.some.inj hφ
    exact PT.done hw0 rfl (.tmp rfl rfl .nil) rfl
  · replace hφ := if_else hφ hc3
    refine PT.sub (σ' := ⟨[(2, _), (3, _)], [(2, .var (a0) []), (3, .var (a1) [])]⟩) ⟨rfl, rfl, trivial⟩ ⟨rfl, rfl, trivial⟩ ?_
    refine PT.skip ?_
    obtain ⟨k4, hk4, hφ⟩ := J_some hφ
    refine PT.cut (ι := Mk.Store × Mk.Store) (fun p => ⟨[(2, .ptr 2 (Lens.id (α := Mk.Store))), (3, .ptr 3 (Lens.id (α := Mk.Store)))], [(2, .var (p.1) []), (3, .var (p.2) [])]⟩) (fun p => k4 (p.1) (p.2) = some r) ?_ ?_
    · skip
      refine PT.seq ?_
      refine PT.region ?_
      refine Ops.put rfl rfl (ox_fieldAddr_var Store_Answers f48_2) (.one rfl) (.nil) rfl ?_
      refine Ops.put rfl rfl (ox_load_fld t45) (.one rfl) (.one rfl) rfl ?_
      refine Ops.put rfl rfl (ox_len s45 .tmp) (.one rfl) (.nil) rfl ?_
      refine Ops.put rfl rfl (ox_move .int) (.nil) (.nil) rfl ?_
      refine Ops.nil ?_
      refine PT.sub (σ' := ⟨[(2, _), (3, _), (41, .val ((a0.Answers.length : Int))), (42, .val ((0 : Int)))], [(2, .var (a0) []), (3, .var (a1) [])]⟩) ⟨rfl, rfl, rfl, rfl, trivial⟩ ⟨rfl, rfl, trivial⟩ ?_
      refine PT.block ?_
      refine PT.loop (ι := Nat × Int × Int × Mk.Store × Mk.Store) (fun p => ⟨[(2, .ptr 2 (Lens.id (α := Mk.Store))), (3, .ptr 3 (Lens.id (α := Mk.Store))), (41, .val (p.2.1)), (42, .val (p.2.2.1))], [(2, .var (p.2.2.2.1) []), (3, .var (p.2.2.2.2) [])]⟩) (fun p => mkref1_SameStore_l1 k4 p.1 (p.2.1) (p.2.2.1) (p.2.2.2.1) (p.2.2.2.2) = some r) (fun p => p.1) (((a0.Answers.length : Int) - (0 : Int)).toNat + 1, (a0.Answers.length : Int), (0 : Int), a0, a1) hφ ⟨rfl, rfl, rfl, rfl, trivial⟩ ⟨rfl, rfl, trivial⟩ ?_
      rintro ⟨m5, x41_m5, x42_m5, y2_m5, y3_m5⟩ (hφ : mkref1_SameStore_l1 k4 m5 x41_m5 x42_m5 y2_m5 y3_m5 = some r)
      obtain _ | m5 := m5
      · exact (none_no hφ).elim
      rw [mkref1_SameStore_l1.eq_2] at hφ
      refine PT.sub (σ' := ⟨[(2, .ptr 2 (Lens.id (α := Mk.Store))), (3, .ptr 3 (Lens.id (α := Mk.Store))), (41, .val (x41_m5)), (42, .val (x42_m5))], [(2, .var (y2_m5) []), (3, .var (y3_m5) [])]⟩) ⟨rfl, rfl, rfl, rfl, trivial⟩ ⟨rfl, rfl, trivial⟩ ?_
      refine PT.seq ?_
      refine PT.region ?_
      refine Ops.put rfl rfl (ox_lss .tmp .tmp) ((.app (.one rfl) (.one rfl))) (.nil) rfl ?_
      refine Ops.nil ?_
      refine PT.sub (σ' := ⟨[(2, _), (3, _), (41, .val (x41_m5)), (42, .val (x42_m5)), (43, .val ((decide (x42_m5 < x41_m5))))], [(2, .var (y2_m5) []), (3, .var (y3_m5) [])]⟩) ⟨rfl, rfl, rfl, rfl, rfl, trivial⟩ ⟨rfl, rfl, trivial⟩ ?_
      refine PT.seq ?_
      refine PT.cond _ rfl (fun hc6 => ?_) (fun hc6 => ?_)
      · replace hφ := if_then hφ hc6
        refine PT.sub (σ' := ⟨[(2, _), (3, _), (41, .val (x41_m5)), (42, .val (x42_m5))], [(2, .var (y2_m5) []), (3, .var (y3_m5) [])]⟩) ⟨rfl, rfl, rfl, rfl, trivial⟩ ⟨rfl, rfl, trivial⟩ ?_
        refine PT.skip ?_
        refine PT.seq ?_
        refine PT.block ?_
        refine PT.seq ?_
        refine PT.region ?_
        refine Ops.put rfl rfl (ox_move .tmp) (.one rfl) (.nil) rfl ?_
        refine Ops.put rfl rfl (ox_assign .tmp) (.one rfl) (.nil) rfl ?_
        refine Ops.nil ?_
        refine PT.sub (σ' := ⟨[(2, _), (3, _), (5, .val (x42_m5)), (41, .val (x41_m5)), (42, .val (x42_m5))], [(2, .var (y2_m5) []), (3, .var (y3_m5) [])]⟩) ⟨rfl, rfl, rfl, rfl, rfl, trivial⟩ ⟨rfl, rfl, trivial⟩ ?_
        refine PT.seq ?_
        obtain ⟨hb7, hφ⟩ := G_some hφ
        obtain ⟨hb8, hφ⟩ := G_some hφ
        refine PT.draw hMixed (
            Segs.cons (Step.put rfl rfl (ox_fieldAddr_var Store_Answers f48_2)) ⟨.one rfl, .nil⟩ (by kernel_rfl) rfl <|
            Segs.cons (Step.put rfl rfl (ox_load_fld t45)) ⟨.one rfl, .one rfl⟩ (by kernel_rfl) rfl <|
            Segs.cons (Step.put rfl rfl (ox_move .tmp)) ⟨.one rfl, .nil⟩ (by kernel_rfl) rfl <|
            Segs.cons (Step.put rfl rfl (ox_ix s45 .tmp .tmp hb7.1 hb7.2)) ⟨(.app (.one rfl) (.one rfl)), .nil⟩ (by kernel_rfl) rfl <|
            Segs.cons (Step.put rfl rfl (ox_load_elem t30)) ⟨.one rfl, .nil⟩ (by kernel_rfl) rfl <|
            Segs.cons (Step.put rfl rfl (ox_fieldAddr_var Store_Answers f48_2)) ⟨.one rfl, .nil⟩ (by kernel_rfl) rfl <|
            Segs.cons (Step.put rfl rfl (ox_load_fld t45)) ⟨.one rfl, .one rfl⟩ (by kernel_rfl) rfl <|
            Segs.cons (Step.put rfl rfl (ox_move .tmp)) ⟨.one rfl, .nil⟩ (by kernel_rfl) rfl <|
            Segs.cons (Step.put rfl rfl (ox_ix s45 .tmp .tmp hb8.1 hb8.2)) ⟨(.app (.one rfl) (.one rfl)), .nil⟩ (by kernel_rfl) rfl <|
            Segs.cons (Step.put rfl rfl (ox_load_elem t30)) ⟨.one rfl, .nil⟩ (by kernel_rfl) rfl <|
            Segs.cons (Step.put rfl rfl (ox_neqT e30 .tmp .tmp)) ⟨(.app (.one rfl) (.one rfl)), .nil⟩ (by kernel_rfl) rfl <|
            Segs.nil) _ [[], [0], [], [0, 1, 2], [0, 1, 2, 3], [], [5], [], [5, 6, 7], [5, 6, 7, 8], [0, 1, 2, 3, 4, 5, 6, 7, 8, 9]] rfl (by kernel_rfl) (by kernel_rfl) ?_
        refine PT.sub (σ' := ⟨[(2, _), (3, _), (41, .val (x41_m5)), (42, .val (x42_m5)), (55, .val ((!decide ((ix y2_m5.Answers x42_m5) = (ix y3_m5.Answers x42_m5)))))], [(2, .var (y2_m5) []), (3, .var (y3_m5) [])]⟩) ⟨rfl, rfl, rfl, rfl, rfl, trivial⟩ ⟨rfl, rfl, trivial⟩ ?_
        refine PT.cond _ rfl (fun hc9 => ?_) (fun hc9 => ?_)
        · replace hφ := if_then hφ hc9
          refine PT.sub (σ' := ⟨[], []⟩) trivial trivial ?_
          refine PT.seq ?_
          refine PT.region ?_
          refine Ops.put rfl rfl (ox_assign .bool) (.nil) (.nil) rfl ?_
          refine Ops.nil ?_
          refine PT.sub (σ' := ⟨[(4, .val (false))], []⟩) ⟨rfl, trivial⟩ trivial ?_
          refine PT.ret ?_
          obtain rfl := Option.some.inj hφ
          exact PT.done hw0 rfl (.tmp rfl rfl .nil) rfl
        · replace hφ := if_else hφ hc9
          refine PT.sub (σ' := ⟨[(2, _), (3, _), (41, .val (x41_m5)), (42, .val (x42_m5))], [(2, .var (y2_m5) []), (3, .var (y3_m5) [])]⟩) ⟨rfl, rfl, rfl, rfl, trivial⟩ ⟨rfl, rfl, trivial⟩ ?_
          refine PT.skip ?_
          obtain ⟨hb10, hφ⟩ := G_some hφ
          refine PT.region ?_
          refine Ops.put rfl rfl (ox_add .tmp .int hb10) ((.app (.one rfl) (.nil))) (.nil) rfl ?_
          refine Ops.put rfl rfl (ox_move .tmp) (.one rfl) (.nil) rfl ?_
          refine Ops.nil ?_
          refine PT.sub (σ' := ⟨[(2, _), (3, _), (41, .val (x41_m5)), (42, .val ((x42_m5 + (1 : Int))))], [(2, .var (y2_m5) []), (3, .var (y3_m5) [])]⟩) ⟨rfl, rfl, rfl, rfl, trivial⟩ ⟨rfl, rfl, trivial⟩ ?_
          exact PT.next (m5, x41_m5, (x42_m5 + (1 : Int)), y2_m5, y3_m5) hφ (Nat.lt_succ_self _) ⟨rfl, rfl, rfl, rfl, trivial⟩ ⟨rfl, rfl, trivial⟩
      · replace hφ := if_else hφ hc6
        refine PT.sub (σ' := ⟨[(2, _), (3, _)], [(2, .var (y2_m5) []), (3, .var (y3_m5) [])]⟩) ⟨rfl, rfl, trivial⟩ ⟨rfl, rfl, trivial⟩ ?_
        refine PT.exit ?_
        exact PT.meet (y2_m5, y3_m5) hφ ⟨rfl, rfl, trivial⟩ ⟨rfl, rfl, trivial⟩
    · rintro ⟨y2_k4, y3_k4⟩ hφ
      subst hk4
      refine PT.sub (σ' := ⟨[(2, .ptr 2 (Lens.id (α := Mk.Store))), (3, .ptr 3 (Lens.id (α := Mk.Store)))], [(2, .var (y2_k4) []), (3, .var (y3_k4) [])]⟩) ⟨rfl, rfl, trivial⟩ ⟨rfl, rfl, trivial⟩ ?_
      obtain ⟨k11, hk11, hφ⟩ := J_some hφ
      refine PT.cut (ι := Unit) (fun p => ⟨[], []⟩) (fun p => k11 () = some r) ?_ ?_
      · skip
        refine PT.seq ?_
        refine PT.region ?_
        refine Ops.put rfl rfl (ox_fieldAddr_var Store_Past f48_3) (.one rfl) (.nil) rfl ?_
        refine Ops.put rfl rfl (ox_load_fld t46) (.one rfl) (.one rfl) rfl ?_
        refine Ops.put rfl rfl (ox_len s46 .tmp) (.one rfl) (.nil) rfl ?_
        refine Ops.put rfl rfl (ox_move .int) (.nil) (.nil) rfl ?_
        refine Ops.nil ?_
        refine PT.sub (σ' := ⟨[(2, _), (3, _), (59, .val ((y2_k4.Past.length : Int))), (60, .val ((0 : Int)))], [(2, .var (y2_k4) []), (3, .var (y3_k4) [])]⟩) ⟨rfl, rfl, rfl, rfl, trivial⟩ ⟨rfl, rfl, trivial⟩ ?_
        refine PT.block ?_
        refine PT.loop (ι := Nat × Int × Int × Mk.Store × Mk.Store) (fun p => ⟨[(2, .ptr 2 (Lens.id (α := Mk.Store))), (3, .ptr 3 (Lens.id (α := Mk.Store))), (59, .val (p.2.1)), (60, .val (p.2.2.1))], [(2, .var (p.2.2.2.1) []), (3, .var (p.2.2.2.2) [])]⟩) (fun p => mkref1_SameStore_l2 k11 p.1 (p.2.1) (p.2.2.1) (p.2.2.2.1) (p.2.2.2.2) = some r) (fun p => p.1) (((y2_k4.Past.length : Int) - (0 : Int)).toNat + 1, (y2_k4.Past.length : Int), (0 : Int), y2_k4, y3_k4) hφ ⟨rfl, rfl, rfl, rfl, trivial⟩ ⟨rfl, rfl, trivial⟩ ?_
        rintro ⟨m12, x59_m12, x60_m12, y2_m12, y3_m12⟩ (hφ : mkref1_SameStore_l2 k11 m12 x59_m12 x60_m12 y2_m12 y3_m12 = some r)
        obtain _ | m12 := m12
        · exact (none_no hφ).elim
        rw [mkref1_SameStore_l2.eq_2] at hφ
        refine PT.sub (σ' := ⟨[(2, .ptr 2 (Lens.id (α := Mk.Store))), (3, .ptr 3 (Lens.id (α := Mk.Store))), (59, .val (x59_m12)), (60, .val (x60_m12))], [(2, .var (y2_m12) []), (3, .var (y3_m12) [])]⟩) ⟨rfl, rfl, rfl, rfl, trivial⟩ ⟨rfl, rfl, trivial⟩ ?_
        refine PT.seq ?_
        refine PT.region ?_
        refine Ops.put rfl rfl (ox_lss .tmp .tmp) ((.app (.one rfl) (.one rfl))) (.nil) rfl ?_
        refine Ops.nil ?_
        refine PT.sub (σ' := ⟨[(2, _), (3, _), (59, .val (x59_m12)), (60, .val (x60_m12)), (61, .val ((decide (x60_m12 < x59_m12))))], [(2, .var (y2_m12) []), (3, .var (y3_m12) [])]⟩) ⟨rfl, rfl, rfl, rfl, rfl, trivial⟩ ⟨rfl, rfl, trivial⟩ ?_
        refine PT.seq ?_
        refine PT.cond _ rfl (fun hc13 => ?_) (fun hc13 => ?_)
        · replace hφ := if_then hφ hc13
          refine PT.sub (σ' := ⟨[(2, _), (3, _), (59, .val (x59_m12)), (60, .val (x60_m12))], [(2, .var (y2_m12) []), (3, .var (y3_m12) [])]⟩) ⟨rfl, rfl, rfl, rfl, trivial⟩ ⟨rfl, rfl, trivial⟩ ?_
          refine PT.skip ?_
          refine PT.seq ?_
          refine PT.block ?_
          refine PT.seq ?_
          refine PT.region ?_
          refine Ops.put rfl rfl (ox_move .tmp) (.one rfl) (.nil) rfl ?_
          refine Ops.put rfl rfl (ox_assign .tmp) (.one rfl) (.nil) rfl ?_
          refine Ops.nil ?_
          refine PT.sub (σ' := ⟨[(2, _), (3, _), (6, .val (x60_m12)), (59, .val (x59_m12)), (60, .val (x60_m12))], [(2, .var (y2_m12) []), (3, .var (y3_m12) [])]⟩) ⟨rfl, rfl, rfl, rfl, rfl, trivial⟩ ⟨rfl, rfl, trivial⟩ ?_
          refine PT.seq ?_
          obtain ⟨hb14, hφ⟩ := G_some hφ
          obtain ⟨hb15, hφ⟩ := G_some hφ
          refine PT.draw hMixed (
              Segs.cons (Step.put rfl rfl (ox_fieldAddr_var Store_Past f48_3)) ⟨.one rfl, .nil⟩ (by kernel_rfl) rfl <|
              Segs.cons (Step.put rfl rfl (ox_load_fld t46)) ⟨.one rfl, .one rfl⟩ (by kernel_rfl) rfl <|
              Segs.cons (Step.put rfl rfl (ox_move .tmp)) ⟨.one rfl, .nil⟩ (by kernel_rfl) rfl <|
              Segs.cons (Step.put rfl rfl (ox_ix s46 .tmp .tmp hb14.1 hb14.2)) ⟨(.app (.one rfl) (.one rfl)), .nil⟩ (by kernel_rfl) rfl <|
              Segs.cons (Step.put rfl rfl (ox_load_elem t25)) ⟨.one rfl, .nil⟩ (by kernel_rfl) rfl <|
              Segs.cons (Step.put rfl rfl (ox_fieldAddr_var Store_Past f48_3)) ⟨.one rfl, .nil⟩ (by kernel_rfl) rfl <|
              Segs.cons (Step.put rfl rfl (ox_load_fld t46)) ⟨.one rfl, .one rfl⟩ (by kernel_rfl) rfl <|
              Segs.cons (Step.put rfl rfl (ox_move .tmp)) ⟨.one rfl, .nil⟩ (by kernel_rfl) rfl <|
              Segs.cons (Step.put rfl rfl (ox_ix s46 .tmp .tmp hb15.1 hb15.2)) ⟨(.app (.one rfl) (.one rfl)), .nil⟩ (by kernel_rfl) rfl <|
              Segs.cons (Step.put rfl rfl (ox_load_elem t25)) ⟨.one rfl, .nil⟩ (by kernel_rfl) rfl <|
              Segs.cons (Step.put rfl rfl (ox_neqT e25 .tmp .tmp)) ⟨(.app (.one rfl) (.one rfl)), .nil⟩ (by kernel_rfl) rfl <|
              Segs.nil) _ [[], [0], [], [0, 1, 2], [0, 1, 2, 3], [], [5], [], [5, 6, 7], [5, 6, 7, 8], [0, 1, 2, 3, 4, 5, 6, 7, 8, 9]] rfl (by kernel_rfl) (by kernel_rfl) ?_
          refine PT.sub (σ' := ⟨[(2, _), (3, _), (59, .val (x59_m12)), (60, .val (x60_m12)), (73, .val ((!decide ((ix y2_m12.Past x60_m12) = (ix y3_m12.Past x60_m12)))))], [(2, .var (y2_m12) []), (3, .var (y3_m12) [])]⟩) ⟨rfl, rfl, rfl, rfl, rfl, trivial⟩ ⟨rfl, rfl, trivial⟩ ?_
          refine PT.cond _ rfl (fun hc16 => ?_) (fun hc16 => ?_)
          · replace hφ := if_then hφ hc16
            refine PT.sub (σ' := ⟨[], []⟩) trivial trivial ?_
            refine PT.seq ?_
            refine PT.region ?_
            refine Ops.put rfl rfl (ox_assign .bool) (.nil) (.nil) rfl ?_
            refine Ops.nil ?_
            refine PT.sub (σ' := ⟨[(4, .val (false))], []⟩) ⟨rfl, trivial⟩ trivial ?_
            refine PT.ret ?_
            obtain rfl := Option.some.inj hφ
            exact PT.done hw0 rfl (.tmp rfl rfl .nil) rfl
          · replace hφ := if_else hφ hc16
            refine PT.sub (σ' := ⟨[(2, _), (3, _), (59, .val (x59_m12)), (60, .val (x60_m12))], [(2, .var (y2_m12) []), (3, .var (y3_m12) [])]⟩) ⟨rfl, rfl, rfl, rfl, trivial⟩ ⟨rfl, rfl, trivial⟩ ?_
            refine PT.skip ?_
            obtain ⟨hb17, hφ⟩ := G_some hφ
            refine PT.region ?_
            refine Ops.put rfl rfl (ox_add .tmp .int hb17) ((.app (.one rfl) (.nil))) (.nil) rfl ?_
            refine Ops.put rfl rfl (ox_move .tmp) (.one rfl) (.nil) rfl ?_
            refine Ops.nil ?_
            refine PT.sub (σ' := ⟨[(2, _), (3, _), (59, .val (x59_m12)), (60, .val ((x60_m12 + (1 : Int))))], [(2, .var (y2_m12) []), (3, .var (y3_m12) [])]⟩) ⟨rfl, rfl, rfl, rfl, trivial⟩ ⟨rfl, rfl, trivial⟩ ?_
            exact PT.next (m12, x59_m12, (x60_m12 + (1 : Int)), y2_m12, y3_m12) hφ (Nat.lt_succ_self _) ⟨rfl, rfl, rfl, rfl, trivial⟩ ⟨rfl, rfl, trivial⟩
        · replace hφ := if_else hφ hc13
          refine PT.sub (σ' := ⟨[], []⟩) trivial trivial ?_
          refine PT.exit ?_
          exact PT.meet () hφ trivial trivial
      · rintro ⟨⟩ hφ
        subst hk11
        refine PT.sub (σ' := ⟨[], []⟩) trivial trivial ?_
        refine PT.seq ?_
        refine PT.region ?_
        refine Ops.put rfl rfl (ox_assign .bool) (.nil) (.nil) rfl ?_
        refine Ops.nil ?_
        refine PT.sub (σ' := ⟨[(4, .val (true))], []⟩) ⟨rfl, trivial⟩ trivial ?_
        refine PT.ret ?_
        obtain rfl := Option.some.inj hφ
        exact PT.done hw0 rfl (.tmp rfl rfl .nil) rfl

/-- mendkernel/store.New -/
theorem c_store_New  {r : Mk.Store} (hφ : store_New  = some r) : Fn Go.Proofs.Try.prog 35 [] (.val r) := by
  unfold store_New at hφ
  refine Fn.mk' Go.Proofs.Try.func35 rfl (by decide) rfl rfl rfl (fun w0 hw0 => ?_)
  refine PT.seq ?_
  refine PT.region ?_
  refine Ops.putO rfl rfl (ox_alloc (id := 0) z48) (.nil) (.nil) rfl (by kernel_rfl) ?_
  refine Ops.nil ?_
  refine PT.sub (σ' := ⟨[(0, _)], [(0, .var (({ Cells := ([] : List Int), Undo := ([] : List Mk.Write), Answers := ([] : List Mk.Answer), Past := ([] : List Mk.Request) } : Mk.Store)) [])]⟩) ⟨rfl, trivial⟩ ⟨rfl, trivial⟩ ?_
  refine PT.seq ?_
  obtain ⟨v1, hv1, hφ⟩ := B_some hφ
  refine PT.region ?_
  refine Ops.put rfl rfl (ox_call (c_cell_New hv1) .nil) (.nil) (.nil) rfl ?_
  refine Ops.put rfl rfl (ox_buildB z48 u48 rfl (.cons Store_Cells f48_0 .tmp Bld.nil)) ((.app (.one rfl) .nil)) (.nil) rfl ?_
  refine Ops.mute rfl rfl (ox_store_var t48 .tmp) ((.cons rfl (.one rfl))) (.one rfl) ?_
  refine Ops.nil ?_
  refine PT.sub (σ' := ⟨[(0, _)], [(0, .var (({ Cells := v1, Undo := ([] : List Mk.Write), Answers := ([] : List Mk.Answer), Past := ([] : List Mk.Request) } : Mk.Store)) [])]⟩) ⟨rfl, trivial⟩ ⟨rfl, trivial⟩ ?_
  refine PT.ret ?_
  obtain rfl := Option.some.inj hφ
  exact PT.done hw0 rfl (.cell t48 rfl rfl .nil) rfl

/-- mendkernel/mkref1.RightStore -/
theorem c_mkref1_RightStore {a0 : Mk.Store} {r : Bool} (hφ : mkref1_RightStore a0 = some r) : Fn Go.Proofs.Try.prog 36 [.val a0] (.val r) := by
  unfold mkref1_RightStore at hφ
  refine Fn.mk' Go.Proofs.Try.func36 rfl (by decide) rfl rfl rfl (fun w0 hw0 => ?_)
  refine PT.seq ?_
  refine PT.region ?_
  refine Ops.putO rfl rfl (ox_box (id := 1) .tmp) (.one rfl) (.nil) rfl (by kernel_rfl) ?_
  refine Ops.put rfl rfl (ox_assign .bool) (.nil) (.nil) rfl ?_
  refine Ops.nil ?_
  refine PT.sub (σ' := ⟨[(1, _)], [(1, .var (a0) [])]⟩) ⟨rfl, trivial⟩ ⟨rfl, trivial⟩ ?_
  refine PT.seq ?_
  refine PT.seq ?_
  obtain ⟨v1, hv1, hφ⟩ := B_some hφ
  obtain ⟨v2, hv2, hφ⟩ := B_some hφ
  refine PT.region ?_
  refine Ops.put rfl rfl (ox_fieldAddr_var Store_Cells f48_0) (.one rfl) (.nil) rfl ?_
  refine Ops.put rfl rfl (ox_load_fld t43) (.one rfl) (.one rfl) rfl ?_
  refine Ops.put rfl rfl (ox_len s43 .tmp) (.one rfl) (.nil) rfl ?_
  refine Ops.put rfl rfl (ox_neq .tmp .int) ((.app (.one rfl) (.nil))) (.nil) rfl ?_
  refine Ops.put rfl rfl (ox_move .tmp) (.one rfl) (.nil) rfl ?_
  refine Ops.guard rfl rfl rfl rfl (.plain .nil) (fun hG => (ox_fieldAddr_var Store_Cells f48_0)) ⟨rfl, trivial⟩ (.nil) rfl ?_
  refine Ops.guard rfl rfl rfl rfl (.cond (fun h => h) .nil) (fun hG => (ox_load_fld t43)) ⟨rfl, trivial⟩ (.one rfl) rfl ?_
  refine Ops.guard rfl rfl rfl rfl (.plain .nil) (fun hG => (ox_fieldAddr_var Store_Undo f48_1)) ⟨rfl, trivial⟩ (.nil) rfl ?_
  refine Ops.guard rfl rfl rfl rfl (.cond (fun h => h) .nil) (fun hG => (ox_load_fld t44)) ⟨rfl, trivial⟩ (.one rfl) rfl ?_
  refine Ops.guard rfl rfl rfl rfl (.cond (fun h => h) (.cond (fun h => h) .nil)) (fun hG => (ox_call (c_mkref1_Set2 (Cn_on hv1 hG)) (.cons .tmp (.cons .tmp .nil)))) ⟨rfl, rfl, trivial⟩ (.nil) rfl ?_
  refine Ops.guard rfl rfl rfl rfl (.cond (fun h => h) .nil) (fun hG => (ox_call (c_mkref1_WrongCells (Cn_on hv2 hG)) (.cons .tmp .nil))) ⟨rfl, trivial⟩ (.nil) rfl ?_
  refine Ops.guard rfl rfl rfl rfl (.cond (fun h => h) .nil) (fun hG => (ox_neq .tmp .int)) ⟨rfl, trivial⟩ (.nil) rfl ?_
  refine Ops.put rfl rfl ox_pick_or (⟨rfl, rfl, trivial⟩) (.nil) rfl ?_
  refine Ops.put rfl rfl (ox_move .tmp) (.one rfl) (.nil) rfl ?_
  refine Ops.guard rfl rfl rfl rfl (.plain .nil) (fun hG => (ox_fieldAddr_var Store_Undo f48_1)) ⟨rfl, trivial⟩ (.nil) rfl ?_
  refine Ops.guard rfl rfl rfl rfl (.cond (fun h => h) .nil) (fun hG => (ox_load_fld t44)) ⟨rfl, trivial⟩ (.one rfl) rfl ?_
  refine Ops.guard rfl rfl rfl rfl (.cond (fun h => h) .nil) (fun hG => (ox_len s44 .tmp)) ⟨rfl, trivial⟩ (.nil) rfl ?_
  refine Ops.guard rfl rfl rfl rfl (.cond (fun h => h) .nil) (fun hG => (ox_gtr .tmp .int)) ⟨rfl, trivial⟩ (.nil) rfl ?_
  refine Ops.put rfl rfl ox_pick_or (⟨rfl, rfl, trivial⟩) (.nil) rfl ?_
  refine Ops.put rfl rfl (ox_move .tmp) (.one rfl) (.nil) rfl ?_
  refine Ops.guard rfl rfl rfl rfl (.plain .nil) (fun hG => (ox_fieldAddr_var Store_Answers f48_2)) ⟨rfl, trivial⟩ (.nil) rfl ?_
  refine Ops.guard rfl rfl rfl rfl (.cond (fun h => h) .nil) (fun hG => (ox_load_fld t45)) ⟨rfl, trivial⟩ (.one rfl) rfl ?_
  refine Ops.guard rfl rfl rfl rfl (.cond (fun h => h) .nil) (fun hG => (ox_len s45 .tmp)) ⟨rfl, trivial⟩ (.nil) rfl ?_
  refine Ops.guard rfl rfl rfl rfl (.cond (fun h => h) .nil) (fun hG => (ox_gtr .tmp .int)) ⟨rfl, trivial⟩ (.nil) rfl ?_
  refine Ops.put rfl rfl ox_pick_or (⟨rfl, rfl, trivial⟩) (.nil) rfl ?_
  refine Ops.put rfl rfl (ox_move .tmp) (.one rfl) (.nil) rfl ?_
  refine Ops.guard rfl rfl rfl rfl (.plain .nil) (fun hG => (ox_fieldAddr_var Store_Past f48_3)) ⟨rfl, trivial⟩ (.nil) rfl ?_
  refine Ops.guard rfl rfl rfl rfl (.cond (fun h => h) .nil) (fun hG => (ox_load_fld t46)) ⟨rfl, trivial⟩ (.one rfl) rfl ?_
  refine Ops.guard rfl rfl rfl rfl (.cond (fun h => h) .nil) (fun hG => (ox_len s46 .tmp)) ⟨rfl, trivial⟩ (.nil) rfl ?_
  refine Ops.guard rfl rfl rfl rfl (.cond (fun h => h) .nil) (fun hG => (ox_gtr .tmp .int)) ⟨rfl, trivial⟩ (.nil) rfl ?_
  refine Ops.put rfl rfl ox_pick_or (⟨rfl, rfl, trivial⟩) (.nil) rfl ?_
  refine Ops.nil ?_
  refine PT.sub (σ' := ⟨[(1, _), (39, .val ((((((!decide ((a0.Cells.length : Int) = (11 : Int))) || (!decide (v2 = (0 : Int)))) || (decide ((100 : Int) < (a0.Undo.length : Int)))) || (decide ((3 : Int) < (a0.Answers.length : Int)))) || (decide ((100 : Int) < (a0.Past.length : Int))))))], [(1, .var (a0) [])]⟩) ⟨rfl, rfl, trivial⟩ ⟨rfl, trivial⟩ ?_
  refine PT.cond _ rfl (fun hc3 => ?_) (fun hc3 => ?_)
  · replace hφ := if_then hφ hc3
    refine PT.sub (σ' := ⟨[], []⟩) trivial trivial ?_
    refine PT.seq ?_
    refine PT.region ?_
    refine Ops.put rfl rfl (ox_assign .bool) (.nil) (.nil) rfl ?_
    refine Ops.nil ?_
    refine PT.sub (σ' := ⟨[(2, .val (false))], []⟩) ⟨rfl, trivial⟩ trivial ?_
    refine PT.ret ?_
    obtain rfl := Option.some.inj hφ
    exact PT.done hw0 rfl (.tmp rfl rfl .nil) rfl
  · replace hφ := if_else hφ hc3
    refine PT.sub (σ' := ⟨[(1, _)], [(1, .var (a0) [])]⟩) ⟨rfl, trivial⟩ ⟨rfl, trivial⟩ ?_
    refine PT.skip ?_
    obtain ⟨k4, hk4, hφ⟩ := J_some hφ
    refine PT.cut (ι := Mk.Store) (fun p => ⟨[(1, .ptr 1 (Lens.id (α := Mk.Store)))], [(1, .var (p) [])]⟩) (fun p => k4 (p) = some r) ?_ ?_
    · skip
      refine PT.seq ?_
      refine PT.region ?_
      refine Ops.put rfl rfl (ox_fieldAddr_var Store_Answers f48_2) (.one rfl) (.nil) rfl ?_
      refine Ops.put rfl rfl (ox_load_fld t45) (.one rfl) (.one rfl) rfl ?_
      refine Ops.put rfl rfl (ox_len s45 .tmp) (.one rfl) (.nil) rfl ?_
      refine Ops.put rfl rfl (ox_move .int) (.nil) (.nil) rfl ?_
      refine Ops.nil ?_
      refine PT.sub (σ' := ⟨[(1, _), (41, .val (a0.Answers)), (42, .val ((a0.Answers.length : Int))), (43, .val ((0 : Int)))], [(1, .var (a0) [])]⟩) ⟨rfl, rfl, rfl, rfl, trivial⟩ ⟨rfl, trivial⟩ ?_
      refine PT.block ?_
      refine PT.loop (ι := Nat × (List Mk.Answer) × Int × Int × Mk.Store) (fun p => ⟨[(1, .ptr 1 (Lens.id (α := Mk.Store))), (41, .val (p.2.1)), (42, .val (p.2.2.1)), (43, .val (p.2.2.2.1))], [(1, .var (p.2.2.2.2) [])]⟩) (fun p => mkref1_RightStore_l1 k4 p.1 (p.2.1) (p.2.2.1) (p.2.2.2.1) (p.2.2.2.2) = some r) (fun p => p.1) (((a0.Answers.length : Int) - (0 : Int)).toNat + 1, a0.Answers, (a0.Answers.length : Int), (0 : Int), a0) hφ ⟨rfl, rfl, rfl, rfl, trivial⟩ ⟨rfl, trivial⟩ ?_
      rintro ⟨m5, x41_m5, x42_m5, x43_m5, y1_m5⟩ (hφ : mkref1_RightStore_l1 k4 m5 x41_m5 x42_m5 x43_m5 y1_m5 = some r)
      obtain _ | m5 := m5
      · exact (none_no hφ).elim
      rw [mkref1_RightStore_l1.eq_2] at hφ
      refine PT.sub (σ' := ⟨[(1, .ptr 1 (Lens.id (α := Mk.Store))), (41, .val (x41_m5)), (42, .val (x42_m5)), (43, .val (x43_m5))], [(1, .var (y1_m5) [])]⟩) ⟨rfl, rfl, rfl, rfl, trivial⟩ ⟨rfl, trivial⟩ ?_
      refine PT.seq ?_
      refine PT.region ?_
      refine Ops.put rfl rfl (ox_lss .tmp .tmp) ((.app (.one rfl) (.one rfl))) (.nil) rfl ?_
      refine Ops.nil ?_
      refine PT.sub (σ' := ⟨[(1, _), (41, .val (x41_m5)), (42, .val (x42_m5)), (43, .val (x43_m5)), (44, .val ((decide (x43_m5 < x42_m5))))], [(1, .var (y1_m5) [])]⟩) ⟨rfl, rfl, rfl, rfl, rfl, trivial⟩ ⟨rfl, trivial⟩ ?_
      refine PT.seq ?_
      refine PT.cond _ rfl (fun hc6 => ?_) (fun hc6 => ?_)
      · replace hφ := if_then hφ hc6
        refine PT.sub (σ' := ⟨[(1, _), (41, .val (x41_m5)), (42, .val (x42_m5)), (43, .val (x43_m5))], [(1, .var (y1_m5) [])]⟩) ⟨rfl, rfl, rfl, rfl, trivial⟩ ⟨rfl, trivial⟩ ?_
        refine PT.skip ?_
        obtain ⟨k7, hk7, hφ⟩ := J_some hφ
        refine PT.cut (ι := (List Mk.Answer) × Int × Int × Mk.Store) (fun p => ⟨[(1, .ptr 1 (Lens.id (α := Mk.Store))), (41, .val (p.1)), (42, .val (p.2.1)), (43, .val (p.2.2.1))], [(1, .var (p.2.2.2) [])]⟩) (fun p => k7 (p.1) (p.2.1) (p.2.2.1) (p.2.2.2) = some r) ?_ ?_
        · skip
          refine PT.block ?_
          refine PT.seq ?_
          obtain ⟨hb8, hφ⟩ := G_some hφ
          refine PT.region ?_
          refine Ops.put rfl rfl (ox_move .tmp) (.one rfl) (.nil) rfl ?_
          refine Ops.put rfl rfl (ox_ix s45 .tmp .tmp hb8.1 hb8.2) ((.app (.one rfl) (.one rfl))) (.nil) rfl ?_
          refine Ops.put rfl rfl (ox_load_elem t30) (.one rfl) (.nil) rfl ?_
          refine Ops.putO rfl rfl (ox_alloc (id := 4) z30) (.nil) (.nil) rfl (by kernel_rfl) ?_
          refine Ops.put rfl rfl (ox_assign .tmp) (.one rfl) (.nil) rfl ?_
          refine Ops.mute rfl rfl (ox_store_var t30 .tmp) ((.cons rfl (.one rfl))) (.one rfl) ?_
          refine Ops.nil ?_
          refine PT.sub (σ' := ⟨[(1, _), (3, .val (x43_m5)), (4, _), (41, .val (x41_m5)), (42, .val (x42_m5)), (43, .val (x43_m5))], [(1, .var (y1_m5) []), (4, .var ((ix x41_m5 x43_m5)) [])]⟩) ⟨rfl, rfl, rfl, rfl, rfl, rfl, trivial⟩ ⟨rfl, rfl, trivial⟩ ?_
          refine PT.seq ?_
          refine PT.seq ?_
          obtain ⟨v9, hv9, hφ⟩ := B_some hφ
          refine PT.region ?_
          refine Ops.put rfl rfl (ox_load_var t30) (.one rfl) (.one rfl) rfl ?_
          refine Ops.put rfl rfl (ox_call (c_mkref1_WrongAnswer hv9) (.cons .tmp .nil)) ((.app (.one rfl) .nil)) (.nil) rfl ?_
          refine Ops.put rfl rfl (ox_neq .tmp .int) ((.app (.one rfl) (.nil))) (.nil) rfl ?_
          refine Ops.nil ?_
          refine PT.sub (σ' := ⟨[(1, _), (3, .val (x43_m5)), (4, _), (41, .val (x41_m5)), (42, .val (x42_m5)), (43, .val (x43_m5)), (50, .val ((!decide (v9 = (0 : Int)))))], [(1, .var (y1_m5) []), (4, .var ((ix x41_m5 x43_m5)) [])]⟩) ⟨rfl, rfl, rfl, rfl, rfl, rfl, rfl, trivial⟩ ⟨rfl, rfl, trivial⟩ ?_
          refine PT.cond _ rfl (fun hc10 => ?_) (fun hc10 => ?_)
          · replace hφ := if_then hφ hc10
            refine PT.sub (σ' := ⟨[], []⟩) trivial trivial ?_
            refine PT.seq ?_
            refine PT.region ?_
            refine Ops.put rfl rfl (ox_assign .bool) (.nil) (.nil) rfl ?_
            refine Ops.nil ?_
            refine PT.sub (σ' := ⟨[(2, .val (false))], []⟩) ⟨rfl, trivial⟩ trivial ?_
            refine PT.ret ?_
            obtain rfl := Option.some.inj hφ
            exact PT.done hw0 rfl (.tmp rfl rfl .nil) rfl
          · replace hφ := if_else hφ hc10
            refine PT.sub (σ' := ⟨[(1, _), (3, .val (x43_m5)), (4, _), (41, .val (x41_m5)), (42, .val (x42_m5)), (43, .val (x43_m5))], [(1, .var (y1_m5) []), (4, .var ((ix x41_m5 x43_m5)) [])]⟩) ⟨rfl, rfl, rfl, rfl, rfl, rfl, trivial⟩ ⟨rfl, rfl, trivial⟩ ?_
            refine PT.skip ?_
            refine PT.seq ?_
            obtain ⟨hb11, hφ⟩ := G_some hφ
            refine PT.region ?_
            refine Ops.put rfl rfl (ox_fieldAddr_var Store_Answers f48_2) (.one rfl) (.nil) rfl ?_
            refine Ops.put rfl rfl (ox_load_fld t45) (.one rfl) (.one rfl) rfl ?_
            refine Ops.put rfl rfl (ox_move .tmp) (.one rfl) (.nil) rfl ?_
            refine Ops.put rfl rfl (ox_slice s45 .tmp .none (.some .tmp) hb11.1 hb11.2.1 hb11.2.2) ((.app (.one rfl) ((.app (.nil) (.one rfl))))) (.nil) rfl ?_
            refine Ops.put rfl rfl (ox_len s45 .tmp) (.one rfl) (.nil) rfl ?_
            refine Ops.put rfl rfl (ox_move .int) (.nil) (.nil) rfl ?_
            refine Ops.nil ?_
            refine PT.sub (σ' := ⟨[(1, _), (4, _), (41, .val (x41_m5)), (42, .val (x42_m5)), (43, .val (x43_m5)), (54, .val ((sub y1_m5.Answers (0 : Int) x43_m5))), (55, .val (((sub y1_m5.Answers (0 : Int) x43_m5).length : Int))), (56, .val ((0 : Int)))], [(1, .var (y1_m5) []), (4, .var ((ix x41_m5 x43_m5)) [])]⟩) ⟨rfl, rfl, rfl, rfl, rfl, rfl, rfl, rfl, trivial⟩ ⟨rfl, rfl, trivial⟩ ?_
            refine PT.block ?_
            refine PT.loop (ι := Nat × (List Mk.Answer) × Int × Int × (List Mk.Answer) × Int × Int × Mk.Store × Mk.Answer) (fun p => ⟨[(1, .ptr 1 (Lens.id (α := Mk.Store))), (4, .ptr 4 (Lens.id (α := Mk.Answer))), (41, .val (p.2.1)), (42, .val (p.2.2.1)), (43, .val (p.2.2.2.1)), (54, .val (p.2.2.2.2.1)), (55, .val (p.2.2.2.2.2.1)), (56, .val (p.2.2.2.2.2.2.1))], [(1, .var (p.2.2.2.2.2.2.2.1) []), (4, .var (p.2.2.2.2.2.2.2.2) [])]⟩) (fun p => mkref1_RightStore_l2 k7 p.1 (p.2.1) (p.2.2.1) (p.2.2.2.1) (p.2.2.2.2.1) (p.2.2.2.2.2.1) (p.2.2.2.2.2.2.1) (p.2.2.2.2.2.2.2.1) (p.2.2.2.2.2.2.2.2) = some r) (fun p => p.1) ((((sub y1_m5.Answers (0 : Int) x43_m5).length : Int) - (0 : Int)).toNat + 1, x41_m5, x42_m5, x43_m5, (sub y1_m5.Answers (0 : Int) x43_m5), ((sub y1_m5.Answers (0 : Int) x43_m5).length : Int), (0 : Int), y1_m5, (ix x41_m5 x43_m5)) hφ ⟨rfl, rfl, rfl, rfl, rfl, rfl, rfl, rfl, trivial⟩ ⟨rfl, rfl, trivial⟩ ?_
            rintro ⟨m12, x41_m12, x42_m12, x43_m12, x54_m12, x55_m12, x56_m12, y1_m12, y4_m12⟩ (hφ : mkref1_RightStore_l2 k7 m12 x41_m12 x42_m12 x43_m12 x54_m12 x55_m12 x56_m12 y1_m12 y4_m12 = some r)
            obtain _ | m12 := m12
            · exact (none_no hφ).elim
            rw [mkref1_RightStore_l2.eq_2] at hφ
            refine PT.sub (σ' := ⟨[(1, .ptr 1 (Lens.id (α := Mk.Store))), (4, .ptr 4 (Lens.id (α := Mk.Answer))), (41, .val (x41_m12)), (42, .val (x42_m12)), (43, .val (x43_m12)), (54, .val (x54_m12)), (55, .val (x55_m12)), (56, .val (x56_m12))], [(1, .var (y1_m12) []), (4, .var (y4_m12) [])]⟩) ⟨rfl, rfl, rfl, rfl, rfl, rfl, rfl, rfl, trivial⟩ ⟨rfl, rfl, trivial⟩ ?_
            refine PT.seq ?_
            refine PT.region ?_
            refine Ops.put rfl rfl (ox_lss .tmp .tmp) ((.app (.one rfl) (.one rfl))) (.nil) rfl ?_
            refine Ops.nil ?_
            refine PT.sub (σ' := ⟨[(1, _), (4, _), (41, .val (x41_m12)), (42, .val (x42_m12)), (43, .val (x43_m12)), (54, .val (x54_m12)), (55, .val (x55_m12)), (56, .val (x56_m12)), (57, .val ((decide (x56_m12 < x55_m12))))], [(1, .var (y1_m12) []), (4, .var (y4_m12) [])]⟩) ⟨rfl, rfl, rfl, rfl, rfl, rfl, rfl, rfl, rfl, trivial⟩ ⟨rfl, rfl, trivial⟩ ?_
            refine PT.seq ?_
            refine PT.cond _ rfl (fun hc13 => ?_) (fun hc13 => ?_)
            · replace hφ := if_then hφ hc13
              refine PT.sub (σ' := ⟨[(1, _), (4, _), (41, .val (x41_m12)), (42, .val (x42_m12)), (43, .val (x43_m12)), (54, .val (x54_m12)), (55, .val (x55_m12)), (56, .val (x56_m12))], [(1, .var (y1_m12) []), (4, .var (y4_m12) [])]⟩) ⟨rfl, rfl, rfl, rfl, rfl, rfl, rfl, rfl, trivial⟩ ⟨rfl, rfl, trivial⟩ ?_
              refine PT.skip ?_
              refine PT.seq ?_
              refine PT.block ?_
              refine PT.seq ?_
              obtain ⟨hb14, hφ⟩ := G_some hφ
              refine PT.region ?_
              refine Ops.put rfl rfl (ox_ix s45 .tmp .tmp hb14.1 hb14.2) ((.app (.one rfl) (.one rfl))) (.nil) rfl ?_
              refine Ops.put rfl rfl (ox_load_elem t30) (.one rfl) (.nil) rfl ?_
              refine Ops.putO rfl rfl (ox_alloc (id := 6) z30) (.nil) (.nil) rfl (by kernel_rfl) ?_
              refine Ops.mute rfl rfl (ox_store_var t30 .tmp) ((.cons rfl (.one rfl))) (.one rfl) ?_
              refine Ops.nil ?_
              refine PT.sub (σ' := ⟨[(1, _), (4, _), (6, _), (41, .val (x41_m12)), (42, .val (x42_m12)), (43, .val (x43_m12)), (54, .val (x54_m12)), (55, .val (x55_m12)), (56, .val (x56_m12))], [(1, .var (y1_m12) []), (4, .var (y4_m12) []), (6, .var ((ix x54_m12 x56_m12)) [])]⟩) ⟨rfl, rfl, rfl, rfl, rfl, rfl, rfl, rfl, rfl, trivial⟩ ⟨rfl, rfl, rfl, trivial⟩ ?_
              refine PT.seq ?_
              refine PT.region ?_
              refine Ops.put rfl rfl (ox_fieldAddr_var Answer_Client f30_0) (.one rfl) (.nil) rfl ?_
              refine Ops.put rfl rfl (ox_load_fld t3) (.one rfl) (.one rfl) rfl ?_
              refine Ops.put rfl rfl (ox_fieldAddr_var Answer_Client f30_0) (.one rfl) (.nil) rfl ?_
              refine Ops.put rfl rfl (ox_load_fld t3) (.one rfl) (.one rfl) rfl ?_
              refine Ops.put rfl rfl (ox_eql .tmp .tmp) ((.app (.one rfl) (.one rfl))) (.nil) rfl ?_
              refine Ops.nil ?_
              refine PT.sub (σ' := ⟨[(1, _), (4, _), (41, .val (x41_m12)), (42, .val (x42_m12)), (43, .val (x43_m12)), (54, .val (x54_m12)), (55, .val (x55_m12)), (56, .val (x56_m12)), (64, .val ((decide (y4_m12.Client = (ix x54_m12 x56_m12).Client))))], [(1, .var (y1_m12) []), (4, .var (y4_m12) [])]⟩) ⟨rfl, rfl, rfl, rfl, rfl, rfl, rfl, rfl, rfl, trivial⟩ ⟨rfl, rfl, trivial⟩ ?_
              refine PT.cond _ rfl (fun hc15 => ?_) (fun hc15 => ?_)
              · replace hφ := if_then hφ hc15
                refine PT.sub (σ' := ⟨[], []⟩) trivial trivial ?_
                refine PT.seq ?_
                refine PT.region ?_
                refine Ops.put rfl rfl (ox_assign .bool) (.nil) (.nil) rfl ?_
                refine Ops.nil ?_
                refine PT.sub (σ' := ⟨[(2, .val (false))], []⟩) ⟨rfl, trivial⟩ trivial ?_
                refine PT.ret ?_
                obtain rfl := Option.some.inj hφ
                exact PT.done hw0 rfl (.tmp rfl rfl .nil) rfl
              · replace hφ := if_else hφ hc15
                refine PT.sub (σ' := ⟨[(1, _), (4, _), (41, .val (x41_m12)), (42, .val (x42_m12)), (43, .val (x43_m12)), (54, .val (x54_m12)), (55, .val (x55_m12)), (56, .val (x56_m12))], [(1, .var (y1_m12) []), (4, .var (y4_m12) [])]⟩) ⟨rfl, rfl, rfl, rfl, rfl, rfl, rfl, rfl, trivial⟩ ⟨rfl, rfl, trivial⟩ ?_
                refine PT.skip ?_
                obtain ⟨hb16, hφ⟩ := G_some hφ
                refine PT.region ?_
                refine Ops.put rfl rfl (ox_add .tmp .int hb16) ((.app (.one rfl) (.nil))) (.nil) rfl ?_
                refine Ops.put rfl rfl (ox_move .tmp) (.one rfl) (.nil) rfl ?_
                refine Ops.nil ?_
                refine PT.sub (σ' := ⟨[(1, _), (4, _), (41, .val (x41_m12)), (42, .val (x42_m12)), (43, .val (x43_m12)), (54, .val (x54_m12)), (55, .val (x55_m12)), (56, .val ((x56_m12 + (1 : Int))))], [(1, .var (y1_m12) []), (4, .var (y4_m12) [])]⟩) ⟨rfl, rfl, rfl, rfl, rfl, rfl, rfl, rfl, trivial⟩ ⟨rfl, rfl, trivial⟩ ?_
                exact PT.next (m12, x41_m12, x42_m12, x43_m12, x54_m12, x55_m12, (x56_m12 + (1 : Int)), y1_m12, y4_m12) hφ (Nat.lt_succ_self _) ⟨rfl, rfl, rfl, rfl, rfl, rfl, rfl, rfl, trivial⟩ ⟨rfl, rfl, trivial⟩
            · replace hφ := if_else hφ hc13
              refine PT.sub (σ' := ⟨[(1, _), (41, .val (x41_m12)), (42, .val (x42_m12)), (43, .val (x43_m12))], [(1, .var (y1_m12) [])]⟩) ⟨rfl, rfl, rfl, rfl, trivial⟩ ⟨rfl, trivial⟩ ?_
              refine PT.exit ?_
              exact PT.meet (x41_m12, x42_m12, x43_m12, y1_m12) hφ ⟨rfl, rfl, rfl, rfl, trivial⟩ ⟨rfl, trivial⟩
        · rintro ⟨x41_k7, x42_k7, x43_k7, y1_k7⟩ hφ
          subst hk7
          refine PT.sub (σ' := ⟨[(1, .ptr 1 (Lens.id (α := Mk.Store))), (41, .val (x41_k7)), (42, .val (x42_k7)), (43, .val (x43_k7))], [(1, .var (y1_k7) [])]⟩) ⟨rfl, rfl, rfl, rfl, trivial⟩ ⟨rfl, trivial⟩ ?_
          obtain ⟨hb17, hφ⟩ := G_some hφ
          refine PT.region ?_
          refine Ops.put rfl rfl (ox_add .tmp .int hb17) ((.app (.one rfl) (.nil))) (.nil) rfl ?_
          refine Ops.put rfl rfl (ox_move .tmp) (.one rfl) (.nil) rfl ?_
          refine Ops.nil ?_
          refine PT.sub (σ' := ⟨[(1, _), (41, .val (x41_k7)), (42, .val (x42_k7)), (43, .val ((x43_k7 + (1 : Int))))], [(1, .var (y1_k7) [])]⟩) ⟨rfl, rfl, rfl, rfl, trivial⟩ ⟨rfl, trivial⟩ ?_
          exact PT.next (m5, x41_k7, x42_k7, (x43_k7 + (1 : Int)), y1_k7) hφ (Nat.lt_succ_self _) ⟨rfl, rfl, rfl, rfl, trivial⟩ ⟨rfl, trivial⟩
      · replace hφ := if_else hφ hc6
        refine PT.sub (σ' := ⟨[(1, _)], [(1, .var (y1_m5) [])]⟩) ⟨rfl, trivial⟩ ⟨rfl, trivial⟩ ?_
        refine PT.exit ?_
        exact PT.meet (y1_m5) hφ ⟨rfl, trivial⟩ ⟨rfl, trivial⟩
    · rintro y1_k4 hφ
      subst hk4
      refine PT.sub (σ' := ⟨[(1, .ptr 1 (Lens.id (α := Mk.Store)))], [(1, .var (y1_k4) [])]⟩) ⟨rfl, trivial⟩ ⟨rfl, trivial⟩ ?_
      obtain ⟨k18, hk18, hφ⟩ := J_some hφ
      refine PT.cut (ι := Unit) (fun p => ⟨[], []⟩) (fun p => k18 () = some r) ?_ ?_
      · skip
        refine PT.seq ?_
        refine PT.region ?_
        refine Ops.put rfl rfl (ox_fieldAddr_var Store_Undo f48_1) (.one rfl) (.nil) rfl ?_
        refine Ops.put rfl rfl (ox_load_fld t44) (.one rfl) (.one rfl) rfl ?_
        refine Ops.put rfl rfl (ox_len s44 .tmp) (.one rfl) (.nil) rfl ?_
        refine Ops.put rfl rfl (ox_move .int) (.nil) (.nil) rfl ?_
        refine Ops.nil ?_
        refine PT.sub (σ' := ⟨[(68, .val (y1_k4.Undo)), (69, .val ((y1_k4.Undo.length : Int))), (70, .val ((0 : Int)))], []⟩) ⟨rfl, rfl, rfl, trivial⟩ trivial ?_
        refine PT.block ?_
        refine PT.loop (ι := Nat × (List Mk.Write) × Int × Int) (fun p => ⟨[(68, .val (p.2.1)), (69, .val (p.2.2.1)), (70, .val (p.2.2.2))], []⟩) (fun p => mkref1_RightStore_l3 k18 p.1 (p.2.1) (p.2.2.1) (p.2.2.2) = some r) (fun p => p.1) (((y1_k4.Undo.length : Int) - (0 : Int)).toNat + 1, y1_k4.Undo, (y1_k4.Undo.length : Int), (0 : Int)) hφ ⟨rfl, rfl, rfl, trivial⟩ trivial ?_
        rintro ⟨m19, x68_m19, x69_m19, x70_m19⟩ (hφ : mkref1_RightStore_l3 k18 m19 x68_m19 x69_m19 x70_m19 = some r)
        obtain _ | m19 := m19
        · exact (none_no hφ).elim
        rw [mkref1_RightStore_l3.eq_2] at hφ
        refine PT.sub (σ' := ⟨[(68, .val (x68_m19)), (69, .val (x69_m19)), (70, .val (x70_m19))], []⟩) ⟨rfl, rfl, rfl, trivial⟩ trivial ?_
        refine PT.seq ?_
        refine PT.region ?_
        refine Ops.put rfl rfl (ox_lss .tmp .tmp) ((.app (.one rfl) (.one rfl))) (.nil) rfl ?_
        refine Ops.nil ?_
        refine PT.sub (σ' := ⟨[(68, .val (x68_m19)), (69, .val (x69_m19)), (70, .val (x70_m19)), (71, .val ((decide (x70_m19 < x69_m19))))], []⟩) ⟨rfl, rfl, rfl, rfl, trivial⟩ trivial ?_
        refine PT.seq ?_
        refine PT.cond _ rfl (fun hc20 => ?_) (fun hc20 => ?_)
        · replace hφ := if_then hφ hc20
          refine PT.sub (σ' := ⟨[(68, .val (x68_m19)), (69, .val (x69_m19)), (70, .val (x70_m19))], []⟩) ⟨rfl, rfl, rfl, trivial⟩ trivial ?_
          refine PT.skip ?_
          refine PT.seq ?_
          refine PT.block ?_
          refine PT.seq ?_
          obtain ⟨hb21, hφ⟩ := G_some hφ
          refine PT.region ?_
          refine Ops.put rfl rfl (ox_ix s44 .tmp .tmp hb21.1 hb21.2) ((.app (.one rfl) (.one rfl))) (.nil) rfl ?_
          refine Ops.put rfl rfl (ox_load_elem t50) (.one rfl) (.nil) rfl ?_
          refine Ops.putO rfl rfl (ox_alloc (id := 8) z50) (.nil) (.nil) rfl (by kernel_rfl) ?_
          refine Ops.mute rfl rfl (ox_store_var t50 .tmp) ((.cons rfl (.one rfl))) (.one rfl) ?_
          refine Ops.nil ?_
          refine PT.sub (σ' := ⟨[(8, _), (68, .val (x68_m19)), (69, .val (x69_m19)), (70, .val (x70_m19))], [(8, .var ((ix x68_m19 x70_m19)) [])]⟩) ⟨rfl, rfl, rfl, rfl, trivial⟩ ⟨rfl, trivial⟩ ?_
          refine PT.seq ?_
          refine PT.region ?_
          refine Ops.put rfl rfl (ox_fieldAddr_var Write_At f50_0) (.one rfl) (.nil) rfl ?_
          refine Ops.put rfl rfl (ox_load_fld t3) (.one rfl) (.one rfl) rfl ?_
          refine Ops.put rfl rfl (ox_lss .tmp .int) ((.app (.one rfl) (.nil))) (.nil) rfl ?_
          refine Ops.put rfl rfl (ox_move .tmp) (.one rfl) (.nil) rfl ?_
          refine Ops.guard rfl rfl rfl rfl (.plain .nil) (fun hG => (ox_fieldAddr_var Write_At f50_0)) ⟨rfl, trivial⟩ (.nil) rfl ?_
          refine Ops.guard rfl rfl rfl rfl (.cond (fun h => h) .nil) (fun hG => (ox_load_fld t3)) ⟨rfl, trivial⟩ (.one rfl) rfl ?_
          refine Ops.guard rfl rfl rfl rfl (.cond (fun h => h) .nil) (fun hG => (ox_gtr .tmp .int)) ⟨rfl, trivial⟩ (.nil) rfl ?_
          refine Ops.put rfl rfl ox_pick_or (⟨rfl, rfl, trivial⟩) (.nil) rfl ?_
          refine Ops.nil ?_
          refine PT.sub (σ' := ⟨[(68, .val (x68_m19)), (69, .val (x69_m19)), (70, .val (x70_m19)), (81, .val (((decide ((ix x68_m19 x70_m19).At < (0 : Int))) || (decide ((10 : Int) < (ix x68_m19 x70_m19).At)))))], []⟩) ⟨rfl, rfl, rfl, rfl, trivial⟩ trivial ?_
          refine PT.cond _ rfl (fun hc22 => ?_) (fun hc22 => ?_)
          · replace hφ := if_then hφ hc22
            refine PT.sub (σ' := ⟨[], []⟩) trivial trivial ?_
            refine PT.seq ?_
            refine PT.region ?_
            refine Ops.put rfl rfl (ox_assign .bool) (.nil) (.nil) rfl ?_
            refine Ops.nil ?_
            refine PT.sub (σ' := ⟨[(2, .val (false))], []⟩) ⟨rfl, trivial⟩ trivial ?_
            refine PT.ret ?_
            obtain rfl := Option.some.inj hφ
            exact PT.done hw0 rfl (.tmp rfl rfl .nil) rfl
          · replace hφ := if_else hφ hc22
            refine PT.sub (σ' := ⟨[(68, .val (x68_m19)), (69, .val (x69_m19)), (70, .val (x70_m19))], []⟩) ⟨rfl, rfl, rfl, trivial⟩ trivial ?_
            refine PT.skip ?_
            obtain ⟨hb23, hφ⟩ := G_some hφ
            refine PT.region ?_
            refine Ops.put rfl rfl (ox_add .tmp .int hb23) ((.app (.one rfl) (.nil))) (.nil) rfl ?_
            refine Ops.put rfl rfl (ox_move .tmp) (.one rfl) (.nil) rfl ?_
            refine Ops.nil ?_
            refine PT.sub (σ' := ⟨[(68, .val (x68_m19)), (69, .val (x69_m19)), (70, .val ((x70_m19 + (1 : Int))))], []⟩) ⟨rfl, rfl, rfl, trivial⟩ trivial ?_
            exact PT.next (m19, x68_m19, x69_m19, (x70_m19 + (1 : Int))) hφ (Nat.lt_succ_self _) ⟨rfl, rfl, rfl, trivial⟩ trivial
        · replace hφ := if_else hφ hc20
          refine PT.sub (σ' := ⟨[], []⟩) trivial trivial ?_
          refine PT.exit ?_
          exact PT.meet () hφ trivial trivial
      · rintro ⟨⟩ hφ
        subst hk18
        refine PT.sub (σ' := ⟨[], []⟩) trivial trivial ?_
        refine PT.seq ?_
        refine PT.region ?_
        refine Ops.put rfl rfl (ox_assign .bool) (.nil) (.nil) rfl ?_
        refine Ops.nil ?_
        refine PT.sub (σ' := ⟨[(2, .val (true))], []⟩) ⟨rfl, trivial⟩ trivial ?_
        refine PT.ret ?_
        obtain rfl := Option.some.inj hφ
        exact PT.done hw0 rfl (.tmp rfl rfl .nil) rfl

/-- mendkernel/store.Last -/
theorem c_store_Last {a0 : Mk.Store} {a1 : Int} {r : (Mk.Answer × Bool)} (hφ : store_Last a0 a1 = some r) : Fn Go.Proofs.Try.prog 37 [.val a0, .val a1] (.tup [.val r.1, .val r.2]) := by
  unfold store_Last at hφ
  refine Fn.mk' Go.Proofs.Try.func37 rfl (by decide) rfl rfl rfl (fun w0 hw0 => ?_)
  refine PT.seq ?_
  refine PT.region ?_
  refine Ops.putO rfl rfl (ox_box (id := 2) .tmp) (.one rfl) (.nil) rfl (by kernel_rfl) ?_
  refine Ops.putO rfl rfl (ox_alloc (id := 4) z30) (.nil) (.nil) rfl (by kernel_rfl) ?_
  refine Ops.put rfl rfl (ox_assign .bool) (.nil) (.nil) rfl ?_
  refine Ops.nil ?_
  refine PT.sub (σ' := ⟨[(1, .val (a1)), (2, _), (4, _)], [(2, .var (a0) []), (4, .var (({ Client := (0 : Int), Token := (0 : Int), Reply := ({ Err := (0 : Int), N := (0 : Int) } : Mk.Reply) } : Mk.Answer)) [])]⟩) ⟨rfl, rfl, rfl, trivial⟩ ⟨rfl, rfl, trivial⟩ ?_
  obtain ⟨k1, hk1, hφ⟩ := J_some hφ
  refine PT.cut (ι := Mk.Answer) (fun p => ⟨[(4, .ptr 4 (Lens.id (α := Mk.Answer)))], [(4, .var (p) [])]⟩) (fun p => k1 (p) = some r) ?_ ?_
  · skip
    refine PT.seq ?_
    refine PT.region ?_
    refine Ops.put rfl rfl (ox_fieldAddr_var Store_Answers f48_2) (.one rfl) (.nil) rfl ?_
    refine Ops.put rfl rfl (ox_load_fld t45) (.one rfl) (.one rfl) rfl ?_
    refine Ops.put rfl rfl (ox_len s45 .tmp) (.one rfl) (.nil) rfl ?_
    refine Ops.put rfl rfl (ox_move .int) (.nil) (.nil) rfl ?_
    refine Ops.nil ?_
    refine PT.sub (σ' := ⟨[(1, .val (a1)), (4, _), (9, .val (a0.Answers)), (10, .val ((a0.Answers.length : Int))), (11, .val ((0 : Int)))], [(4, .var (({ Client := (0 : Int), Token := (0 : Int), Reply := ({ Err := (0 : Int), N := (0 : Int) } : Mk.Reply) } : Mk.Answer)) [])]⟩) ⟨rfl, rfl, rfl, rfl, rfl, trivial⟩ ⟨rfl, trivial⟩ ?_
    refine PT.block ?_
    refine PT.loop (ι := Nat × Int × (List Mk.Answer) × Int × Int × Mk.Answer) (fun p => ⟨[(1, .val (p.2.1)), (4, .ptr 4 (Lens.id (α := Mk.Answer))), (9, .val (p.2.2.1)), (10, .val (p.2.2.2.1)), (11, .val (p.2.2.2.2.1))], [(4, .var (p.2.2.2.2.2) [])]⟩) (fun p => store_Last_l1 k1 p.1 (p.2.1) (p.2.2.1) (p.2.2.2.1) (p.2.2.2.2.1) (p.2.2.2.2.2) = some r) (fun p => p.1) (((a0.Answers.length : Int) - (0 : Int)).toNat + 1, a1, a0.Answers, (a0.Answers.length : Int), (0 : Int), ({ Client := (0 : Int), Token := (0 : Int), Reply := ({ Err := (0 : Int), N := (0 : Int) } : Mk.Reply) } : Mk.Answer)) hφ ⟨rfl, rfl, rfl, rfl, rfl, trivial⟩ ⟨rfl, trivial⟩ ?_
    rintro ⟨m2, x1_m2, x9_m2, x10_m2, x11_m2, y4_m2⟩ (hφ : store_Last_l1 k1 m2 x1_m2 x9_m2 x10_m2 x11_m2 y4_m2 = some r)
    obtain _ | m2 := m2
    · exact (none_no hφ).elim
    rw [store_Last_l1.eq_2] at hφ
    refine PT.sub (σ' := ⟨[(1, .val (x1_m2)), (4, .ptr 4 (Lens.id (α := Mk.Answer))), (9, .val (x9_m2)), (10, .val (x10_m2)), (11, .val (x11_m2))], [(4, .var (y4_m2) [])]⟩) ⟨rfl, rfl, rfl, rfl, rfl, trivial⟩ ⟨rfl, trivial⟩ ?_
    refine PT.seq ?_
    refine PT.region ?_
    refine Ops.put rfl rfl (ox_lss .tmp .tmp) ((.app (.one rfl) (.one rfl))) (.nil) rfl ?_
    refine Ops.nil ?_
    refine PT.sub (σ' := ⟨[(1, .val (x1_m2)), (4, _), (9, .val (x9_m2)), (10, .val (x10_m2)), (11, .val (x11_m2)), (12, .val ((decide (x11_m2 < x10_m2))))], [(4, .var (y4_m2) [])]⟩) ⟨rfl, rfl, rfl, rfl, rfl, rfl, trivial⟩ ⟨rfl, trivial⟩ ?_
    refine PT.seq ?_
    refine PT.cond _ rfl (fun hc3 => ?_) (fun hc3 => ?_)
    · replace hφ := if_then hφ hc3
      refine PT.sub (σ' := ⟨[(1, .val (x1_m2)), (4, _), (9, .val (x9_m2)), (10, .val (x10_m2)), (11, .val (x11_m2))], [(4, .var (y4_m2) [])]⟩) ⟨rfl, rfl, rfl, rfl, rfl, trivial⟩ ⟨rfl, trivial⟩ ?_
      refine PT.skip ?_
      refine PT.seq ?_
      refine PT.block ?_
      refine PT.seq ?_
      obtain ⟨hb4, hφ⟩ := G_some hφ
      refine PT.region ?_
      refine Ops.put rfl rfl (ox_ix s45 .tmp .tmp hb4.1 hb4.2) ((.app (.one rfl) (.one rfl))) (.nil) rfl ?_
      refine Ops.put rfl rfl (ox_load_elem t30) (.one rfl) (.nil) rfl ?_
      refine Ops.putO rfl rfl (ox_alloc (id := 7) z30) (.nil) (.nil) rfl (by kernel_rfl) ?_
      refine Ops.mute rfl rfl (ox_store_var t30 .tmp) ((.cons rfl (.one rfl))) (.one rfl) ?_
      refine Ops.nil ?_
      refine PT.sub (σ' := ⟨[(1, .val (x1_m2)), (4, _), (7, _), (9, .val (x9_m2)), (10, .val (x10_m2)), (11, .val (x11_m2))], [(4, .var (y4_m2) []), (7, .var ((ix x9_m2 x11_m2)) [])]⟩) ⟨rfl, rfl, rfl, rfl, rfl, rfl, trivial⟩ ⟨rfl, rfl, trivial⟩ ?_
      refine PT.seq ?_
      refine PT.region ?_
      refine Ops.put rfl rfl (ox_fieldAddr_var Answer_Client f30_0) (.one rfl) (.nil) rfl ?_
      refine Ops.put rfl rfl (ox_load_fld t3) (.one rfl) (.one rfl) rfl ?_
      refine Ops.put rfl rfl (ox_move .tmp) (.one rfl) (.nil) rfl ?_
      refine Ops.put rfl rfl (ox_eql .tmp .tmp) ((.app (.one rfl) (.one rfl))) (.nil) rfl ?_
      refine Ops.nil ?_
      refine PT.sub (σ' := ⟨[(1, .val (x1_m2)), (4, _), (7, _), (9, .val (x9_m2)), (10, .val (x10_m2)), (11, .val (x11_m2)), (18, .val ((decide ((ix x9_m2 x11_m2).Client = x1_m2))))], [(4, .var (y4_m2) []), (7, .var ((ix x9_m2 x11_m2)) [])]⟩) ⟨rfl, rfl, rfl, rfl, rfl, rfl, rfl, trivial⟩ ⟨rfl, rfl, trivial⟩ ?_
      refine PT.cond _ rfl (fun hc5 => ?_) (fun hc5 => ?_)
      · replace hφ := if_then hφ hc5
        refine PT.sub (σ' := ⟨[(4, _), (7, _)], [(4, .var (y4_m2) []), (7, .var ((ix x9_m2 x11_m2)) [])]⟩) ⟨rfl, rfl, trivial⟩ ⟨rfl, rfl, trivial⟩ ?_
        refine PT.seq ?_
        refine PT.region ?_
        refine Ops.put rfl rfl (ox_load_var t30) (.one rfl) (.one rfl) rfl ?_
        refine Ops.mute rfl rfl (ox_store_var t30 .tmp) ((.cons rfl (.one rfl))) (.one rfl) ?_
        refine Ops.put rfl rfl (ox_assign .bool) (.nil) (.nil) rfl ?_
        refine Ops.nil ?_
        refine PT.sub (σ' := ⟨[(4, _), (5, .val (true))], [(4, .var ((ix x9_m2 x11_m2)) [])]⟩) ⟨rfl, rfl, trivial⟩ ⟨rfl, trivial⟩ ?_
        refine PT.ret ?_
        obtain rfl := Option.some.inj hφ
        exact PT.done hw0 rfl (.cell t30 rfl rfl (.tmp rfl rfl .nil)) rfl
      · replace hφ := if_else hφ hc5
        refine PT.sub (σ' := ⟨[(1, .val (x1_m2)), (4, _), (9, .val (x9_m2)), (10, .val (x10_m2)), (11, .val (x11_m2))], [(4, .var (y4_m2) [])]⟩) ⟨rfl, rfl, rfl, rfl, rfl, trivial⟩ ⟨rfl, trivial⟩ ?_
        refine PT.skip ?_
        obtain ⟨hb6, hφ⟩ := G_some hφ
        refine PT.region ?_
        refine Ops.put rfl rfl (ox_add .tmp .int hb6) ((.app (.one rfl) (.nil))) (.nil) rfl ?_
        refine Ops.put rfl rfl (ox_move .tmp) (.one rfl) (.nil) rfl ?_
        refine Ops.nil ?_
        refine PT.sub (σ' := ⟨[(1, .val (x1_m2)), (4, _), (9, .val (x9_m2)), (10, .val (x10_m2)), (11, .val ((x11_m2 + (1 : Int))))], [(4, .var (y4_m2) [])]⟩) ⟨rfl, rfl, rfl, rfl, rfl, trivial⟩ ⟨rfl, trivial⟩ ?_
        exact PT.next (m2, x1_m2, x9_m2, x10_m2, (x11_m2 + (1 : Int)), y4_m2) hφ (Nat.lt_succ_self _) ⟨rfl, rfl, rfl, rfl, rfl, trivial⟩ ⟨rfl, trivial⟩
    · replace hφ := if_else hφ hc3
      refine PT.sub (σ' := ⟨[(4, _)], [(4, .var (y4_m2) [])]⟩) ⟨rfl, trivial⟩ ⟨rfl, trivial⟩ ?_
      refine PT.exit ?_
      exact PT.meet (y4_m2) hφ ⟨rfl, trivial⟩ ⟨rfl, trivial⟩
  · rintro y4_k1 hφ
    subst hk1
    refine PT.sub (σ' := ⟨[(4, .ptr 4 (Lens.id (α := Mk.Answer)))], [(4, .var (y4_k1) [])]⟩) ⟨rfl, trivial⟩ ⟨rfl, trivial⟩ ?_
    refine PT.seq ?_
    refine PT.region ?_
    refine Ops.put rfl rfl (ox_buildB z30 u30 rfl Bld.nil) (.nil) (.nil) rfl ?_
    refine Ops.mute rfl rfl (ox_store_var t30 .tmp) ((.cons rfl (.one rfl))) (.one rfl) ?_
    refine Ops.put rfl rfl (ox_assign .bool) (.nil) (.nil) rfl ?_
    refine Ops.nil ?_
    refine PT.sub (σ' := ⟨[(4, _), (5, .val (false))], [(4, .var (({ Client := (0 : Int), Token := (0 : Int), Reply := ({ Err := (0 : Int), N := (0 : Int) } : Mk.Reply) } : Mk.Answer)) [])]⟩) ⟨rfl, rfl, trivial⟩ ⟨rfl, trivial⟩ ?_
    refine PT.ret ?_
    obtain rfl := Option.some.inj hφ
    exact PT.done hw0 rfl (.cell t30 rfl rfl (.tmp rfl rfl .nil)) rfl

/-- mendkernel/mkref1.Last -/
theorem c_mkref1_Last {a0 : Mk.Store} {a1 : Int} {r : (Mk.Answer × Bool)} (hφ : mkref1_Last a0 a1 = some r) : Fn Go.Proofs.Try.prog 38 [.val a0, .val a1] (.tup [.val r.1, .val r.2]) := by
  unfold mkref1_Last at hφ
  refine Fn.mk' Go.Proofs.Try.func38 rfl (by decide) rfl rfl rfl (fun w0 hw0 => ?_)
  refine PT.seq ?_
  refine PT.region ?_
  refine Ops.putO rfl rfl (ox_box (id := 2) .tmp) (.one rfl) (.nil) rfl (by kernel_rfl) ?_
  refine Ops.putO rfl rfl (ox_alloc (id := 4) z30) (.nil) (.nil) rfl (by kernel_rfl) ?_
  refine Ops.put rfl rfl (ox_assign .bool) (.nil) (.nil) rfl ?_
  refine Ops.nil ?_
  refine PT.sub (σ' := ⟨[(1, .val (a1)), (2, _), (4, _)], [(2, .var (a0) []), (4, .var (({ Client := (0 : Int), Token := (0 : Int), Reply := ({ Err := (0 : Int), N := (0 : Int) } : Mk.Reply) } : Mk.Answer)) [])]⟩) ⟨rfl, rfl, rfl, trivial⟩ ⟨rfl, rfl, trivial⟩ ?_
  obtain ⟨k1, hk1, hφ⟩ := J_some hφ
  refine PT.cut (ι := Mk.Answer) (fun p => ⟨[(4, .ptr 4 (Lens.id (α := Mk.Answer)))], [(4, .var (p) [])]⟩) (fun p => k1 (p) = some r) ?_ ?_
  · skip
    refine PT.seq ?_
    refine PT.region ?_
    refine Ops.put rfl rfl (ox_fieldAddr_var Store_Answers f48_2) (.one rfl) (.nil) rfl ?_
    refine Ops.put rfl rfl (ox_load_fld t45) (.one rfl) (.one rfl) rfl ?_
    refine Ops.put rfl rfl (ox_len s45 .tmp) (.one rfl) (.nil) rfl ?_
    refine Ops.put rfl rfl (ox_move .int) (.nil) (.nil) rfl ?_
    refine Ops.nil ?_
    refine PT.sub (σ' := ⟨[(1, .val (a1)), (2, _), (4, _), (9, .val ((a0.Answers.length : Int))), (10, .val ((0 : Int)))], [(2, .var (a0) []), (4, .var (({ Client := (0 : Int), Token := (0 : Int), Reply := ({ Err := (0 : Int), N := (0 : Int) } : Mk.Reply) } : Mk.Answer)) [])]⟩) ⟨rfl, rfl, rfl, rfl, rfl, trivial⟩ ⟨rfl, rfl, trivial⟩ ?_
    refine PT.block ?_
    refine PT.loop (ι := Nat × Int × Int × Int × Mk.Store × Mk.Answer) (fun p => ⟨[(1, .val (p.2.1)), (2, .ptr 2 (Lens.id (α := Mk.Store))), (4, .ptr 4 (Lens.id (α := Mk.Answer))), (9, .val (p.2.2.1)), (10, .val (p.2.2.2.1))], [(2, .var (p.2.2.2.2.1) []), (4, .var (p.2.2.2.2.2) [])]⟩) (fun p => mkref1_Last_l1 k1 p.1 (p.2.1) (p.2.2.1) (p.2.2.2.1) (p.2.2.2.2.1) (p.2.2.2.2.2) = some r) (fun p => p.1) (((a0.Answers.length : Int) - (0 : Int)).toNat + 1, a1, (a0.Answers.length : Int), (0 : Int), a0, ({ Client := (0 : Int), Token := (0 : Int), Reply := ({ Err := (0 : Int), N := (0 : Int) } : Mk.Reply) } : Mk.Answer)) hφ ⟨rfl, rfl, rfl, rfl, rfl, trivial⟩ ⟨rfl, rfl, trivial⟩ ?_
    rintro ⟨m2, x1_m2, x9_m2, x10_m2, y2_m2, y4_m2⟩ (hφ : mkref1_Last_l1 k1 m2 x1_m2 x9_m2 x10_m2 y2_m2 y4_m2 = some r)
    obtain _ | m2 := m2
    · exact (none_no hφ).elim
    rw [mkref1_Last_l1.eq_2] at hφ
    refine PT.sub (σ' := ⟨[(1, .val (x1_m2)), (2, .ptr 2 (Lens.id (α := Mk.Store))), (4, .ptr 4 (Lens.id (α := Mk.Answer))), (9, .val (x9_m2)), (10, .val (x10_m2))], [(2, .var (y2_m2) []), (4, .var (y4_m2) [])]⟩) ⟨rfl, rfl, rfl, rfl, rfl, trivial⟩ ⟨rfl, rfl, trivial⟩ ?_
    refine PT.seq ?_
    refine PT.region ?_
    refine Ops.put rfl rfl (ox_lss .tmp .tmp) ((.app (.one rfl) (.one rfl))) (.nil) rfl ?_
    refine Ops.nil ?_
    refine PT.sub (σ' := ⟨[(1, .val (x1_m2)), (2, _), (4, _), (9, .val (x9_m2)), (10, .val (x10_m2)), (11, .val ((decide (x10_m2 < x9_m2))))], [(2, .var (y2_m2) []), (4, .var (y4_m2) [])]⟩) ⟨rfl, rfl, rfl, rfl, rfl, rfl, trivial⟩ ⟨rfl, rfl, trivial⟩ ?_
    refine PT.seq ?_
    refine PT.cond _ rfl (fun hc3 => ?_) (fun hc3 => ?_)
    · replace hφ := if_then hφ hc3
      refine PT.sub (σ' := ⟨[(1, .val (x1_m2)), (2, _), (4, _), (9, .val (x9_m2)), (10, .val (x10_m2))], [(2, .var (y2_m2) []), (4, .var (y4_m2) [])]⟩) ⟨rfl, rfl, rfl, rfl, rfl, trivial⟩ ⟨rfl, rfl, trivial⟩ ?_
      refine PT.skip ?_
      refine PT.seq ?_
      refine PT.block ?_
      refine PT.seq ?_
      refine PT.region ?_
      refine Ops.put rfl rfl (ox_move .tmp) (.one rfl) (.nil) rfl ?_
      refine Ops.put rfl rfl (ox_assign .tmp) (.one rfl) (.nil) rfl ?_
      refine Ops.nil ?_
      refine PT.sub (σ' := ⟨[(1, .val (x1_m2)), (2, _), (4, _), (6, .val (x10_m2)), (9, .val (x9_m2)), (10, .val (x10_m2))], [(2, .var (y2_m2) []), (4, .var (y4_m2) [])]⟩) ⟨rfl, rfl, rfl, rfl, rfl, rfl, trivial⟩ ⟨rfl, rfl, trivial⟩ ?_
      refine PT.seq ?_
      obtain ⟨hb4, hφ⟩ := G_some hφ
      refine PT.region ?_
      refine Ops.put rfl rfl (ox_fieldAddr_var Store_Answers f48_2) (.one rfl) (.nil) rfl ?_
      refine Ops.put rfl rfl (ox_load_fld t45) (.one rfl) (.one rfl) rfl ?_
      refine Ops.put rfl rfl (ox_move .tmp) (.one rfl) (.nil) rfl ?_
      refine Ops.put rfl rfl (ox_ix s45 .tmp .tmp hb4.1 hb4.2) ((.app (.one rfl) (.one rfl))) (.nil) rfl ?_
      refine Ops.put rfl rfl (ox_fieldAddr_elem Answer_Client f30_0) (.one rfl) (.nil) rfl ?_
      refine Ops.put rfl rfl (ox_load_elem t3) (.one rfl) (.nil) rfl ?_
      refine Ops.put rfl rfl (ox_move .tmp) (.one rfl) (.nil) rfl ?_
      refine Ops.put rfl rfl (ox_eql .tmp .tmp) ((.app (.one rfl) (.one rfl))) (.nil) rfl ?_
      refine Ops.nil ?_
      refine PT.sub (σ' := ⟨[(1, .val (x1_m2)), (2, _), (4, _), (6, .val (x10_m2)), (9, .val (x9_m2)), (10, .val (x10_m2)), (20, .val ((decide ((ix y2_m2.Answers x10_m2).Client = x1_m2))))], [(2, .var (y2_m2) []), (4, .var (y4_m2) [])]⟩) ⟨rfl, rfl, rfl, rfl, rfl, rfl, rfl, trivial⟩ ⟨rfl, rfl, trivial⟩ ?_
      refine PT.cond _ rfl (fun hc5 => ?_) (fun hc5 => ?_)
      · replace hφ := if_then hφ hc5
        refine PT.sub (σ' := ⟨[(2, _), (4, _), (6, .val (x10_m2))], [(2, .var (y2_m2) []), (4, .var (y4_m2) [])]⟩) ⟨rfl, rfl, rfl, trivial⟩ ⟨rfl, rfl, trivial⟩ ?_
        refine PT.seq ?_
        obtain ⟨hb6, hφ⟩ := G_some hφ
        refine PT.region ?_
        refine Ops.put rfl rfl (ox_fieldAddr_var Store_Answers f48_2) (.one rfl) (.nil) rfl ?_
        refine Ops.put rfl rfl (ox_load_fld t45) (.one rfl) (.one rfl) rfl ?_
        refine Ops.put rfl rfl (ox_move .tmp) (.one rfl) (.nil) rfl ?_
        refine Ops.put rfl rfl (ox_ix s45 .tmp .tmp hb6.1 hb6.2) ((.app (.one rfl) (.one rfl))) (.nil) rfl ?_
        refine Ops.put rfl rfl (ox_load_elem t30) (.one rfl) (.nil) rfl ?_
        refine Ops.mute rfl rfl (ox_store_var t30 .tmp) ((.cons rfl (.one rfl))) (.one rfl) ?_
        refine Ops.put rfl rfl (ox_assign .bool) (.nil) (.nil) rfl ?_
        refine Ops.nil ?_
        refine PT.sub (σ' := ⟨[(4, _), (5, .val (true))], [(4, .var ((ix y2_m2.Answers x10_m2)) [])]⟩) ⟨rfl, rfl, trivial⟩ ⟨rfl, trivial⟩ ?_
        refine PT.ret ?_
        obtain rfl := Option.some.inj hφ
        exact PT.done hw0 rfl (.cell t30 rfl rfl (.tmp rfl rfl .nil)) rfl
      · replace hφ := if_else hφ hc5
        refine PT.sub (σ' := ⟨[(1, .val (x1_m2)), (2, _), (4, _), (9, .val (x9_m2)), (10, .val (x10_m2))], [(2, .var (y2_m2) []), (4, .var (y4_m2) [])]⟩) ⟨rfl, rfl, rfl, rfl, rfl, trivial⟩ ⟨rfl, rfl, trivial⟩ ?_
        refine PT.skip ?_
        obtain ⟨hb7, hφ⟩ := G_some hφ
        refine PT.region ?_
        refine Ops.put rfl rfl (ox_add .tmp .int hb7) ((.app (.one rfl) (.nil))) (.nil) rfl ?_
        refine Ops.put rfl rfl (ox_move .tmp) (.one rfl) (.nil) rfl ?_
        refine Ops.nil ?_
        refine PT.sub (σ' := ⟨[(1, .val (x1_m2)), (2, _), (4, _), (9, .val (x9_m2)), (10, .val ((x10_m2 + (1 : Int))))], [(2, .var (y2_m2) []), (4, .var (y4_m2) [])]⟩) ⟨rfl, rfl, rfl, rfl, rfl, trivial⟩ ⟨rfl, rfl, trivial⟩ ?_
        exact PT.next (m2, x1_m2, x9_m2, (x10_m2 + (1 : Int)), y2_m2, y4_m2) hφ (Nat.lt_succ_self _) ⟨rfl, rfl, rfl, rfl, rfl, trivial⟩ ⟨rfl, rfl, trivial⟩
    · replace hφ := if_else hφ hc3
      refine PT.sub (σ' := ⟨[(4, _)], [(4, .var (y4_m2) [])]⟩) ⟨rfl, trivial⟩ ⟨rfl, trivial⟩ ?_
      refine PT.exit ?_
      exact PT.meet (y4_m2) hφ ⟨rfl, trivial⟩ ⟨rfl, trivial⟩
  · rintro y4_k1 hφ
    subst hk1
    refine PT.sub (σ' := ⟨[(4, .ptr 4 (Lens.id (α := Mk.Answer)))], [(4, .var (y4_k1) [])]⟩) ⟨rfl, trivial⟩ ⟨rfl, trivial⟩ ?_
    refine PT.seq ?_
    refine PT.region ?_
    refine Ops.put rfl rfl (ox_buildB z30 u30 rfl Bld.nil) (.nil) (.nil) rfl ?_
    refine Ops.mute rfl rfl (ox_store_var t30 .tmp) ((.cons rfl (.one rfl))) (.one rfl) ?_
    refine Ops.put rfl rfl (ox_assign .bool) (.nil) (.nil) rfl ?_
    refine Ops.nil ?_
    refine PT.sub (σ' := ⟨[(4, _), (5, .val (false))], [(4, .var (({ Client := (0 : Int), Token := (0 : Int), Reply := ({ Err := (0 : Int), N := (0 : Int) } : Mk.Reply) } : Mk.Answer)) [])]⟩) ⟨rfl, rfl, trivial⟩ ⟨rfl, trivial⟩ ?_
    refine PT.ret ?_
    obtain rfl := Option.some.inj hφ
    exact PT.done hw0 rfl (.cell t30 rfl rfl (.tmp rfl rfl .nil)) rfl

/-- slices.Clone[[]mendkernel/api.Answer,mendkernel/api.Answer] -/
theorem c_slices_Clone___api_Answer_api_Answer_ {a0 : List Mk.Answer} {r : ((List Mk.Answer))} (hφ : slices_Clone___api_Answer_api_Answer_ a0 = some r) : Fn Go.Proofs.Try.prog 95 [.val a0] (.val r) := by
  unfold slices_Clone___api_Answer_api_Answer_ at hφ
  refine Fn.mk' Go.Proofs.Try.func95 rfl (by decide) rfl rfl rfl (fun w0 hw0 => ?_)
  refine PT.seq ?_
  refine PT.region ?_
  refine Ops.put rfl rfl (ox_assign .nilS) (.nil) (.nil) rfl ?_
  refine Ops.nil ?_
  refine PT.sub (σ' := ⟨[(0, .val (a0))], []⟩) ⟨rfl, trivial⟩ trivial ?_
  refine PT.seq ?_
  refine PT.seq ?_
  refine PT.region ?_
  refine Ops.put rfl rfl (ox_move .tmp) (.one rfl) (.nil) rfl ?_
  refine Ops.put rfl rfl (ox_isNil (by kernel_rfl) .tmp .nilS) ((.app (.one rfl) (.nil))) (.nil) rfl ?_
  refine Ops.nil ?_
  refine PT.sub (σ' := ⟨[(0, .val (a0)), (4, _)], []⟩) ⟨rfl, rfl, trivial⟩ trivial ?_
  refine PT.condB _ rfl (fun hc1 => ?_) (fun _ => ?_)
  · have hc1e := hc1 rfl
    refine PT.sub (σ' := ⟨[], []⟩) trivial trivial ?_
    refine PT.seq ?_
    refine PT.region ?_
    refine Ops.put rfl rfl (ox_assign .nilS) (.nil) (.nil) rfl ?_
    refine Ops.nil ?_
    refine PT.sub (σ' := ⟨[(2, .nilS)], []⟩) ⟨rfl, trivial⟩ trivial ?_
    refine PT.ret ?_
    refine PT.asNil 2 (Mk.Answer) rfl ?_
    rw [hc1e] at hφ
    obtain ⟨_, hφ⟩ := G_some hφ
    obtain rfl := Option.some.inj hφ
    exact PT.done hw0 rfl (.tmp rfl rfl .nil) rfl
  · skip
    refine PT.sub (σ' := ⟨[(0, .val (a0))], []⟩) ⟨rfl, trivial⟩ trivial ?_
    refine PT.skip ?_
    refine PT.seq ?_
    obtain ⟨hb2, hφ⟩ := G_some hφ
    refine PT.region ?_
    refine Ops.putO rfl rfl (ox_buildSlice_arr (id := 5) s45 z30 Parts.nil rfl (by decide)) (.nil) (.nil) rfl (by kernel_rfl) ?_
    refine Ops.put rfl rfl (ox_move .tmp) (.one rfl) (.nil) rfl ?_
    refine Ops.putK [5] rfl rfl (ox_append a45 .tmp .tmp hb2.1 hb2.2) ((.app (.one rfl) (.one rfl))) (.one rfl) rfl (by kernel_rfl) ?_
    refine Ops.put rfl rfl (ox_assign .tmp) (.one rfl) (.nil) rfl ?_
    refine Ops.nil ?_
    refine PT.sub (σ' := ⟨[(2, _)], [(5, .arr 30 ((([] : List Mk.Answer) ++ a0)))]⟩) ⟨rfl, trivial⟩ ⟨rfl, trivial⟩ ?_
    refine PT.ret ?_
    refine PT.freeze 5 [2] rfl ⟨rfl, trivial⟩ ?_
    obtain rfl := Option.some.inj hφ
    exact PT.done hw0 rfl (.tmp rfl rfl .nil) rfl

/-- slices.Clone[[]mendkernel/api.Answer,mendkernel/api.Answer] -/
theorem x_slices_Clone___api_Answer_api_Answer_ {a0 : List Mk.Answer} {r : ((List Mk.Answer))} (hφ : slices_Clone___api_Answer_api_Answer_ a0 = some r) : FnX Go.Proofs.Try.prog 95 [.val a0] [] (.sl 5) [(5, .arr 30 r)] [] := by
  unfold slices_Clone___api_Answer_api_Answer_ at hφ
  refine FnX.mk' Go.Proofs.Try.func95 rfl (by decide) rfl (fun w0 m0 => ?_)
  refine PT.seq ?_
  refine PT.region ?_
  refine Ops.put rfl rfl (ox_assign .nilS) (.nil) (.nil) rfl ?_
  refine Ops.nil ?_
  refine PT.sub (σ' := ⟨[(0, .val (a0))], []⟩) ⟨rfl, trivial⟩ trivial ?_
  refine PT.seq ?_
  refine PT.seq ?_
  refine PT.region ?_
  refine Ops.put rfl rfl (ox_move .tmp) (.one rfl) (.nil) rfl ?_
  refine Ops.put rfl rfl (ox_isNil (by kernel_rfl) .tmp .nilS) ((.app (.one rfl) (.nil))) (.nil) rfl ?_
  refine Ops.nil ?_
  refine PT.sub (σ' := ⟨[(0, .val (a0)), (4, _)], []⟩) ⟨rfl, rfl, trivial⟩ trivial ?_
  refine PT.condB _ rfl (fun hc1 => ?_) (fun _ => ?_)
  · have hc1e := hc1 rfl
    refine PT.sub (σ' := ⟨[], []⟩) trivial trivial ?_
    refine PT.seq ?_
    refine PT.region ?_
    refine Ops.put rfl rfl (ox_assign .nilS) (.nil) (.nil) rfl ?_
    refine Ops.nil ?_
    refine PT.sub (σ' := ⟨[(2, .nilS)], []⟩) ⟨rfl, trivial⟩ trivial ?_
    refine PT.ret ?_
    refine PT.nilArr 5 2 30 (Mk.Answer) rfl (by kernel_rfl) ?_
    rw [hc1e] at hφ
    obtain ⟨_, hφ⟩ := G_some hφ
    obtain rfl := Option.some.inj hφ
    exact PT.doneX rfl (.tmp rfl .nil) rfl ⟨rfl, trivial⟩ trivial
  · skip
    refine PT.sub (σ' := ⟨[(0, .val (a0))], []⟩) ⟨rfl, trivial⟩ trivial ?_
    refine PT.skip ?_
    refine PT.seq ?_
    obtain ⟨hb2, hφ⟩ := G_some hφ
    refine PT.region ?_
    refine Ops.putO rfl rfl (ox_buildSlice_arr (id := 5) s45 z30 Parts.nil rfl (by decide)) (.nil) (.nil) rfl (by kernel_rfl) ?_
    refine Ops.put rfl rfl (ox_move .tmp) (.one rfl) (.nil) rfl ?_
    refine Ops.putK [5] rfl rfl (ox_append a45 .tmp .tmp hb2.1 hb2.2) ((.app (.one rfl) (.one rfl))) (.one rfl) rfl (by kernel_rfl) ?_
    refine Ops.put rfl rfl (ox_assign .tmp) (.one rfl) (.nil) rfl ?_
    refine Ops.nil ?_
    refine PT.sub (σ' := ⟨[(2, _)], [(5, .arr 30 ((([] : List Mk.Answer) ++ a0)))]⟩) ⟨rfl, trivial⟩ ⟨rfl, trivial⟩ ?_
    refine PT.ret ?_
    obtain rfl := Option.some.inj hφ
    exact PT.doneX rfl (.tmp rfl .nil) rfl ⟨rfl, trivial⟩ trivial

/-- slices.Clone[[]mendkernel/api.Request,mendkernel/api.Request] -/
theorem c_slices_Clone___api_Request_api_Request_ {a0 : List Mk.Request} {r : ((List Mk.Request))} (hφ : slices_Clone___api_Request_api_Request_ a0 = some r) : Fn Go.Proofs.Try.prog 96 [.val a0] (.val r) := by
  unfold slices_Clone___api_Request_api_Request_ at hφ
  refine Fn.mk' Go.Proofs.Try.func96 rfl (by decide) rfl rfl rfl (fun w0 hw0 => ?_)
  refine PT.seq ?_
  refine PT.region ?_
  refine Ops.put rfl rfl (ox_assign .nilS) (.nil) (.nil) rfl ?_
  refine Ops.nil ?_
  refine PT.sub (σ' := ⟨[(0, .val (a0))], []⟩) ⟨rfl, trivial⟩ trivial ?_
  refine PT.seq ?_
  refine PT.seq ?_
  refine PT.region ?_
  refine Ops.put rfl rfl (ox_move .tmp) (.one rfl) (.nil) rfl ?_
  refine Ops.put rfl rfl (ox_isNil (by kernel_rfl) .tmp .nilS) ((.app (.one rfl) (.nil))) (.nil) rfl ?_
  refine Ops.nil ?_
  refine PT.sub (σ' := ⟨[(0, .val (a0)), (4, _)], []⟩) ⟨rfl, rfl, trivial⟩ trivial ?_
  refine PT.condB _ rfl (fun hc1 => ?_) (fun _ => ?_)
  · have hc1e := hc1 rfl
    refine PT.sub (σ' := ⟨[], []⟩) trivial trivial ?_
    refine PT.seq ?_
    refine PT.region ?_
    refine Ops.put rfl rfl (ox_assign .nilS) (.nil) (.nil) rfl ?_
    refine Ops.nil ?_
    refine PT.sub (σ' := ⟨[(2, .nilS)], []⟩) ⟨rfl, trivial⟩ trivial ?_
    refine PT.ret ?_
    refine PT.asNil 2 (Mk.Request) rfl ?_
    rw [hc1e] at hφ
    obtain ⟨_, hφ⟩ := G_some hφ
    obtain rfl := Option.some.inj hφ
    exact PT.done hw0 rfl (.tmp rfl rfl .nil) rfl
  · skip
    refine PT.sub (σ' := ⟨[(0, .val (a0))], []⟩) ⟨rfl, trivial⟩ trivial ?_
    refine PT.skip ?_
    refine PT.seq ?_
    obtain ⟨hb2, hφ⟩ := G_some hφ
    refine PT.region ?_
    refine Ops.putO rfl rfl (ox_buildSlice_arr (id := 5) s46 z25 Parts.nil rfl (by decide)) (.nil) (.nil) rfl (by kernel_rfl) ?_
    refine Ops.put rfl rfl (ox_move .tmp) (.one rfl) (.nil) rfl ?_
    refine Ops.putK [5] rfl rfl (ox_append a46 .tmp .tmp hb2.1 hb2.2) ((.app (.one rfl) (.one rfl))) (.one rfl) rfl (by kernel_rfl) ?_
    refine Ops.put rfl rfl (ox_assign .tmp) (.one rfl) (.nil) rfl ?_
    refine Ops.nil ?_
    refine PT.sub (σ' := ⟨[(2, _)], [(5, .arr 25 ((([] : List Mk.Request) ++ a0)))]⟩) ⟨rfl, trivial⟩ ⟨rfl, trivial⟩ ?_
    refine PT.ret ?_
    refine PT.freeze 5 [2] rfl ⟨rfl, trivial⟩ ?_
    obtain rfl := Option.some.inj hφ
    exact PT.done hw0 rfl (.tmp rfl rfl .nil) rfl

/-- slices.Clone[[]mendkernel/api.Request,mendkernel/api.Request] -/
theorem x_slices_Clone___api_Request_api_Request_ {a0 : List Mk.Request} {r : ((List Mk.Request))} (hφ : slices_Clone___api_Request_api_Request_ a0 = some r) : FnX Go.Proofs.Try.prog 96 [.val a0] [] (.sl 5) [(5, .arr 25 r)] [] := by
  unfold slices_Clone___api_Request_api_Request_ at hφ
  refine FnX.mk' Go.Proofs.Try.func96 rfl (by decide) rfl (fun w0 m0 => ?_)
  refine PT.seq ?_
  refine PT.region ?_
  refine Ops.put rfl rfl (ox_assign .nilS) (.nil) (.nil) rfl ?_
  refine Ops.nil ?_
  refine PT.sub (σ' := ⟨[(0, .val (a0))], []⟩) ⟨rfl, trivial⟩ trivial ?_
  refine PT.seq ?_
  refine PT.seq ?_
  refine PT.region ?_
  refine Ops.put rfl rfl (ox_move .tmp) (.one rfl) (.nil) rfl ?_
  refine Ops.put rfl rfl (ox_isNil (by kernel_rfl) .tmp .nilS) ((.app (.one rfl) (.nil))) (.nil) rfl ?_
  refine Ops.nil ?_
  refine PT.sub (σ' := ⟨[(0, .val (a0)), (4, _)], []⟩) ⟨rfl, rfl, trivial⟩ trivial ?_
  refine PT.condB _ rfl (fun hc1 => ?_) (fun _ => ?_)
  · have hc1e := hc1 rfl
    refine PT.sub (σ' := ⟨[], []⟩) trivial trivial ?_
    refine PT.seq ?_
    refine PT.region ?_
    refine Ops.put rfl rfl (ox_assign .nilS) (.nil) (.nil) rfl ?_
    refine Ops.nil ?_
    refine PT.sub (σ' := ⟨[(2, .nilS)], []⟩) ⟨rfl, trivial⟩ trivial ?_
    refine PT.ret ?_
    refine PT.nilArr 5 2 25 (Mk.Request) rfl (by kernel_rfl) ?_
    rw [hc1e] at hφ
    obtain ⟨_, hφ⟩ := G_some hφ
    obtain rfl := Option.some.inj hφ
    exact PT.doneX rfl (.tmp rfl .nil) rfl ⟨rfl, trivial⟩ trivial
  · skip
    refine PT.sub (σ' := ⟨[(0, .val (a0))], []⟩) ⟨rfl, trivial⟩ trivial ?_
    refine PT.skip ?_
    refine PT.seq ?_
    obtain ⟨hb2, hφ⟩ := G_some hφ
    refine PT.region ?_
    refine Ops.putO rfl rfl (ox_buildSlice_arr (id := 5) s46 z25 Parts.nil rfl (by decide)) (.nil) (.nil) rfl (by kernel_rfl) ?_
    refine Ops.put rfl rfl (ox_move .tmp) (.one rfl) (.nil) rfl ?_
    refine Ops.putK [5] rfl rfl (ox_append a46 .tmp .tmp hb2.1 hb2.2) ((.app (.one rfl) (.one rfl))) (.one rfl) rfl (by kernel_rfl) ?_
    refine Ops.put rfl rfl (ox_assign .tmp) (.one rfl) (.nil) rfl ?_
    refine Ops.nil ?_
    refine PT.sub (σ' := ⟨[(2, _)], [(5, .arr 25 ((([] : List Mk.Request) ++ a0)))]⟩) ⟨rfl, trivial⟩ ⟨rfl, trivial⟩ ?_
    refine PT.ret ?_
    obtain rfl := Option.some.inj hφ
    exact PT.doneX rfl (.tmp rfl .nil) rfl ⟨rfl, trivial⟩ trivial

/-- mendkernel/store.Own -/
theorem c_store_Own {a0 : Mk.Store} {r : Mk.Store} (hφ : store_Own a0 = some r) : Fn Go.Proofs.Try.prog 39 [.val a0] (.val r) := by
  unfold store_Own at hφ
  refine Fn.mk' Go.Proofs.Try.func39 rfl (by decide) rfl rfl rfl (fun w0 hw0 => ?_)
  refine PT.seq ?_
  refine PT.region ?_
  refine Ops.putO rfl rfl (ox_box (id := 1) .tmp) (.one rfl) (.nil) rfl (by kernel_rfl) ?_
  refine Ops.putO rfl rfl (ox_alloc (id := 2) z48) (.nil) (.nil) rfl (by kernel_rfl) ?_
  refine Ops.nil ?_
  refine PT.sub (σ' := ⟨[(1, _), (2, _)], [(1, .var (a0) []), (2, .var (({ Cells := ([] : List Int), Undo := ([] : List Mk.Write), Answers := ([] : List Mk.Answer), Past := ([] : List Mk.Request) } : Mk.Store)) [])]⟩) ⟨rfl, rfl, trivial⟩ ⟨rfl, rfl, trivial⟩ ?_
  refine PT.seq ?_
  obtain ⟨v1, hv1, hφ⟩ := B_some hφ
  obtain ⟨v2, hv2, hφ⟩ := B_some hφ
  obtain ⟨v3, hv3, hφ⟩ := B_some hφ
  obtain ⟨v4, hv4, hφ⟩ := B_some hφ
  refine PT.draw hMixed (
      Segs.cons (Step.put rfl rfl (ox_fieldAddr_var Store_Cells f48_0)) ⟨.one rfl, .nil⟩ (by kernel_rfl) rfl <|
      Segs.cons (Step.put rfl rfl (ox_load_fld t43)) ⟨.one rfl, .one rfl⟩ (by kernel_rfl) rfl <|
      Segs.cons (Step.put rfl rfl (ox_call (c_slices_Clone___int_int_ hv1) (.cons .tmp .nil))) ⟨(.app (.one rfl) .nil), .nil⟩ (by kernel_rfl) rfl <|
      Segs.cons (Step.put rfl rfl (ox_fieldAddr_var Store_Undo f48_1)) ⟨.one rfl, .nil⟩ (by kernel_rfl) rfl <|
      Segs.cons (Step.put rfl rfl (ox_load_fld t44)) ⟨.one rfl, .one rfl⟩ (by kernel_rfl) rfl <|
      Segs.cons (Step.put rfl rfl (ox_call (c_slices_Clone___api_Write_api_Write_ hv2) (.cons .tmp .nil))) ⟨(.app (.one rfl) .nil), .nil⟩ (by kernel_rfl) rfl <|
      Segs.cons (Step.put rfl rfl (ox_fieldAddr_var Store_Answers f48_2)) ⟨.one rfl, .nil⟩ (by kernel_rfl) rfl <|
      Segs.cons (Step.put rfl rfl (ox_load_fld t45)) ⟨.one rfl, .one rfl⟩ (by kernel_rfl) rfl <|
      Segs.cons (Step.put rfl rfl (ox_call (c_slices_Clone___api_Answer_api_Answer_ hv3) (.cons .tmp .nil))) ⟨(.app (.one rfl) .nil), .nil⟩ (by kernel_rfl) rfl <|
      Segs.cons (Step.put rfl rfl (ox_fieldAddr_var Store_Past f48_3)) ⟨.one rfl, .nil⟩ (by kernel_rfl) rfl <|
      Segs.cons (Step.put rfl rfl (ox_load_fld t46)) ⟨.one rfl, .one rfl⟩ (by kernel_rfl) rfl <|
      Segs.cons (Step.put rfl rfl (ox_call (c_slices_Clone___api_Request_api_Request_ hv4) (.cons .tmp .nil))) ⟨(.app (.one rfl) .nil), .nil⟩ (by kernel_rfl) rfl <|
      Segs.cons (Step.put rfl rfl (ox_buildB z48 u48 rfl (.cons Store_Cells f48_0 .tmp (.cons Store_Undo f48_1 .tmp (.cons Store_Answers f48_2 .tmp (.cons Store_Past f48_3 .tmp Bld.nil)))))) ⟨(.app (.one rfl) (.app (.one rfl) (.app (.one rfl) (.app (.one rfl) .nil)))), .nil⟩ (by kernel_rfl) rfl <|
      Segs.cons (Step.mute rfl rfl (ox_store_var t48 .tmp)) ⟨(.cons rfl (.one rfl)), .one rfl⟩ (by kernel_rfl) rfl <|
      Segs.nil) _ [[], [0], [0, 1], [], [3], [0, 1, 2, 3, 4], [], [6], [0, 1, 2, 3, 4, 5, 6, 7], [], [9], [0, 1, 2, 3, 4, 5, 6, 7, 8, 9, 10], [0, 1, 2, 3, 4, 5, 6, 7, 8, 9, 10, 11], [0, 1, 2, 3, 4, 5, 6, 7, 8, 9, 10, 11, 12]] rfl (by kernel_rfl) (by kernel_rfl) ?_
  refine PT.sub (σ' := ⟨[(2, _)], [(2, .var (({ Cells := v1, Undo := v2, Answers := v3, Past := v4 } : Mk.Store)) [])]⟩) ⟨rfl, trivial⟩ ⟨rfl, trivial⟩ ?_
  refine PT.ret ?_
  obtain rfl := Option.some.inj hφ
  exact PT.done hw0 rfl (.cell t48 rfl rfl .nil) rfl

/-- mendkernel/store.Own -/
theorem x_store_Own {a0 : Mk.Store} {r : Mk.Store} (hφ : store_Own a0 = some r) : FnX Go.Proofs.Try.prog 39 [.val a0] [] (.hole ({ ({ r with Answers := ([] : List Mk.Answer) }) with Past := ([] : List Mk.Request) }) [(2, 11), (3, 14)]) [(11, .arr 30 r.Answers), (14, .arr 25 r.Past)] [] := by
  unfold store_Own at hφ
  refine FnX.mk' Go.Proofs.Try.func39 rfl (by decide) rfl (fun w0 m0 => ?_)
  refine PT.seq ?_
  refine PT.region ?_
  refine Ops.putO rfl rfl (ox_box (id := 1) .tmp) (.one rfl) (.nil) rfl (by kernel_rfl) ?_
  refine Ops.putO rfl rfl (ox_alloc (id := 2) z48) (.nil) (.nil) rfl (by kernel_rfl) ?_
  refine Ops.nil ?_
  refine PT.sub (σ' := ⟨[(1, _), (2, _)], [(1, .var (a0) []), (2, .var (({ Cells := ([] : List Int), Undo := ([] : List Mk.Write), Answers := ([] : List Mk.Answer), Past := ([] : List Mk.Request) } : Mk.Store)) [])]⟩) ⟨rfl, rfl, trivial⟩ ⟨rfl, rfl, trivial⟩ ?_
  refine PT.seq ?_
  obtain ⟨v1, hv1, hφ⟩ := B_some hφ
  obtain ⟨v2, hv2, hφ⟩ := B_some hφ
  obtain ⟨v3, hv3, hφ⟩ := B_some hφ
  obtain ⟨v4, hv4, hφ⟩ := B_some hφ
  refine PT.draw hMixed (
      Segs.cons (Step.put rfl rfl (ox_fieldAddr_var Store_Cells f48_0)) ⟨.one rfl, .nil⟩ (by kernel_rfl) rfl <|
      Segs.cons (Step.put rfl rfl (ox_load_fld t43)) ⟨.one rfl, .one rfl⟩ (by kernel_rfl) rfl <|
      Segs.cons (Step.put rfl rfl (ox_call (c_slices_Clone___int_int_ hv1) (.cons .tmp .nil))) ⟨(.app (.one rfl) .nil), .nil⟩ (by kernel_rfl) rfl <|
      Segs.cons (Step.put rfl rfl (ox_fieldAddr_var Store_Undo f48_1)) ⟨.one rfl, .nil⟩ (by kernel_rfl) rfl <|
      Segs.cons (Step.put rfl rfl (ox_load_fld t44)) ⟨.one rfl, .one rfl⟩ (by kernel_rfl) rfl <|
      Segs.cons (Step.put rfl rfl (ox_call (c_slices_Clone___api_Write_api_Write_ hv2) (.cons .tmp .nil))) ⟨(.app (.one rfl) .nil), .nil⟩ (by kernel_rfl) rfl <|
      Segs.cons (Step.put rfl rfl (ox_fieldAddr_var Store_Answers f48_2)) ⟨.one rfl, .nil⟩ (by kernel_rfl) rfl <|
      Segs.cons (Step.put rfl rfl (ox_load_fld t45)) ⟨.one rfl, .one rfl⟩ (by kernel_rfl) rfl <|
      Segs.cons (Step.put rfl rfl (ox_callX (x_slices_Clone___api_Answer_api_Answer_ hv3) [] [(5, 11)] [(5, 11)] [] (.cons .tmp .nil) rfl rfl rfl rfl rfl rfl rfl rfl trivial rfl rfl rfl rfl)) ⟨(.app (.one rfl) .nil), .nil⟩ (by kernel_rfl) rfl <|
      Segs.cons (Step.put rfl rfl (ox_fieldAddr_var Store_Past f48_3)) ⟨.one rfl, .nil⟩ (by kernel_rfl) rfl <|
      Segs.cons (Step.put rfl rfl (ox_load_fld t46)) ⟨.one rfl, .one rfl⟩ (by kernel_rfl) rfl <|
      Segs.cons (Step.put rfl rfl (ox_callX (x_slices_Clone___api_Request_api_Request_ hv4) [] [(5, 14)] [(5, 14)] [] (.cons .tmp .nil) rfl rfl rfl rfl rfl rfl rfl rfl trivial rfl rfl rfl rfl)) ⟨(.app (.one rfl) .nil), .nil⟩ (by kernel_rfl) rfl <|
      Segs.cons (Step.put rfl rfl (ox_buildH z48 u48 rfl (.cons Store_Cells f48_0 .tmp (.cons Store_Undo f48_1 .tmp (.sl Store_Answers f48_2 .tmp (.sl Store_Past f48_3 .tmp .nil)))))) ⟨(.app (.one rfl) (.app (.one rfl) (.app (.one rfl) (.app (.one rfl) .nil)))), (.cons rfl (.cons rfl .nil))⟩ (by kernel_rfl) rfl <|
      Segs.cons (Step.mute rfl rfl (ox_store_varH t48 rfl .tmp)) ⟨(.cons rfl (.one rfl)), .one rfl⟩ (by kernel_rfl) rfl <|
      Segs.nil) _ [[], [0], [0, 1], [], [3], [0, 1, 2, 3, 4], [], [6], [0, 1, 2, 3, 4, 5, 6, 7], [], [9], [0, 1, 2, 3, 4, 5, 6, 7, 8, 9, 10], [0, 1, 2, 3, 4, 5, 6, 7, 8, 9, 10, 11], [0, 1, 2, 3, 4, 5, 6, 7, 8, 9, 10, 11, 12]] rfl (by kernel_rfl) (by kernel_rfl) ?_
  refine PT.sub (σ' := ⟨[(2, _)], [(2, .var (({ Cells := v1, Undo := v2, Answers := ([] : List Mk.Answer), Past := ([] : List Mk.Request) } : Mk.Store)) [(2, 11), (3, 14)]), (11, .arr 30 (v3)), (14, .arr 25 (v4))]⟩) ⟨rfl, trivial⟩ ⟨rfl, rfl, rfl, trivial⟩ ?_
  refine PT.ret ?_
  obtain rfl := Option.some.inj hφ
  exact PT.doneX rfl (.cellH t48 rfl rfl rfl .nil) rfl ⟨rfl, rfl, trivial⟩ trivial

/-- mendkernel/store.Write -/
theorem c_store_Write {a0 : Mk.Store} {a1 : Mk.Write} {r : Mk.Store} (hφ : store_Write a0 a1 = some r) : Fn Go.Proofs.Try.prog 40 [.val a0, .val a1] (.val r) := by
  unfold store_Write at hφ
  refine Fn.mk' Go.Proofs.Try.func40 rfl (by decide) rfl rfl rfl (fun w0 hw0 => ?_)
  refine PT.seq ?_
  refine PT.region ?_
  refine Ops.putO rfl rfl (ox_box (id := 2) .tmp) (.one rfl) (.nil) rfl (by kernel_rfl) ?_
  refine Ops.putO rfl rfl (ox_box (id := 3) .tmp) (.one rfl) (.nil) rfl (by kernel_rfl) ?_
  refine Ops.putO rfl rfl (ox_alloc (id := 4) z48) (.nil) (.nil) rfl (by kernel_rfl) ?_
  refine Ops.nil ?_
  refine PT.sub (σ' := ⟨[(2, _), (3, _), (4, _)], [(2, .var (a0) []), (3, .var (a1) []), (4, .var (({ Cells := ([] : List Int), Undo := ([] : List Mk.Write), Answers := ([] : List Mk.Answer), Past := ([] : List Mk.Request) } : Mk.Store)) [])]⟩) ⟨rfl, rfl, rfl, trivial⟩ ⟨rfl, rfl, rfl, trivial⟩ ?_
  refine PT.seq ?_
  obtain ⟨v1, hv1, hφ⟩ := B_some hφ
  refine PT.region ?_
  refine Ops.put rfl rfl (ox_load_var t48) (.one rfl) (.one rfl) rfl ?_
  refine Ops.put rfl rfl (ox_call (c_store_Own hv1) (.cons .tmp .nil)) ((.app (.one rfl) .nil)) (.nil) rfl ?_
  refine Ops.putO rfl rfl (ox_alloc (id := 5) z48) (.nil) (.nil) rfl (by kernel_rfl) ?_
  refine Ops.mute rfl rfl (ox_store_var t48 .tmp) ((.cons rfl (.one rfl))) (.one rfl) ?_
  refine Ops.nil ?_
  refine PT.sub (σ' := ⟨[(2, _), (3, _), (4, _), (5, _)], [(2, .var (a0) []), (3, .var (a1) []), (4, .var (({ Cells := ([] : List Int), Undo := ([] : List Mk.Write), Answers := ([] : List Mk.Answer), Past := ([] : List Mk.Request) } : Mk.Store)) []), (5, .var (v1) [])]⟩) ⟨rfl, rfl, rfl, rfl, trivial⟩ ⟨rfl, rfl, rfl, rfl, trivial⟩ ?_
  refine PT.seq ?_
  obtain ⟨v2, hv2, hφ⟩ := B_some hφ
  obtain ⟨hb3, hφ⟩ := G_some hφ
  refine PT.draw hMixed (
      Segs.cons (Step.put rfl rfl (ox_fieldAddr_var Store_Cells f48_0)) ⟨.one rfl, .nil⟩ (by kernel_rfl) rfl <|
      Segs.cons (Step.put rfl rfl (ox_load_fld t43)) ⟨.one rfl, .one rfl⟩ (by kernel_rfl) rfl <|
      Segs.cons (Step.put rfl rfl (ox_load_var t50)) ⟨.one rfl, .one rfl⟩ (by kernel_rfl) rfl <|
      Segs.cons (Step.put rfl rfl (ox_buildSlice_val s44 z50 (.cons .tmp Parts.nil) rfl (by decide))) ⟨(.app (.one rfl) .nil), .nil⟩ (by kernel_rfl) rfl <|
      Segs.cons (Step.put rfl rfl (ox_callX (x_cell_Undo hv2) [] [(1006, 12)] [(1006, 12)] [] (.cons .tmp (.cons .tmp .nil)) rfl rfl rfl rfl rfl rfl rfl rfl trivial rfl rfl rfl rfl)) ⟨(.app (.one rfl) (.app (.one rfl) .nil)), .nil⟩ (by kernel_rfl) rfl <|
      Segs.cons (Step.put rfl rfl (ox_fieldAddr_var Store_Undo f48_1)) ⟨.one rfl, .nil⟩ (by kernel_rfl) rfl <|
      Segs.cons (Step.put rfl rfl (ox_load_fld t44)) ⟨.one rfl, .one rfl⟩ (by kernel_rfl) rfl <|
      Segs.cons (Step.putK [12] rfl rfl (ox_appendV a44 .tmp .tmp hb3.1 hb3.2)) ⟨(.app (.one rfl) (.one rfl)), .one rfl⟩ (by kernel_rfl) rfl <|
      Segs.cons (Step.put rfl rfl (ox_fieldAddr_var Store_Undo f48_1)) ⟨.one rfl, .nil⟩ (by kernel_rfl) rfl <|
      Segs.cons (Step.mute rfl rfl (ox_store_fld t44 .tmp)) ⟨(.cons rfl (.one rfl)), .one rfl⟩ (by kernel_rfl) rfl <|
      Segs.nil) _ [[], [0], [], [2], [0, 1, 2, 3], [], [5], [0, 1, 2, 3, 4, 5, 6], [0, 1, 2, 3, 4, 5, 6, 7], [0, 1, 2, 3, 4, 5, 6, 7, 8]] rfl (by kernel_rfl) (by kernel_rfl) ?_
  refine PT.sub (σ' := ⟨[(3, _), (4, _), (5, _)], [(3, .var (a1) []), (4, .var (({ Cells := ([] : List Int), Undo := ([] : List Mk.Write), Answers := ([] : List Mk.Answer), Past := ([] : List Mk.Request) } : Mk.Store)) []), (5, .var ({ v1 with Undo := (v2 ++ v1.Undo) }) [])]⟩) ⟨rfl, rfl, rfl, trivial⟩ ⟨rfl, rfl, rfl, trivial⟩ ?_
  refine PT.seq ?_
  obtain ⟨v4, hv4, hφ⟩ := B_some hφ
  refine PT.region ?_
  refine Ops.put rfl rfl (ox_fieldAddr_var Store_Cells f48_0) (.one rfl) (.nil) rfl ?_
  refine Ops.put rfl rfl (ox_load_fld t43) (.one rfl) (.one rfl) rfl ?_
  refine Ops.put rfl rfl (ox_load_var t50) (.one rfl) (.one rfl) rfl ?_
  refine Ops.put rfl rfl (ox_buildSlice_val s44 z50 (.cons .tmp Parts.nil) rfl (by decide)) ((.app (.one rfl) .nil)) (.nil) rfl ?_
  refine Ops.put rfl rfl (ox_call (c_cell_Set hv4) (.cons .tmp (.cons .tmp .nil))) ((.app (.one rfl) (.app (.one rfl) .nil))) (.nil) rfl ?_
  refine Ops.put rfl rfl (ox_fieldAddr_var Store_Cells f48_0) (.one rfl) (.nil) rfl ?_
  refine Ops.mute rfl rfl (ox_store_fld t43 .tmp) ((.cons rfl (.one rfl))) (.one rfl) ?_
  refine Ops.nil ?_
  refine PT.sub (σ' := ⟨[(4, _), (5, _)], [(4, .var (({ Cells := ([] : List Int), Undo := ([] : List Mk.Write), Answers := ([] : List Mk.Answer), Past := ([] : List Mk.Request) } : Mk.Store)) []), (5, .var ({ ({ v1 with Undo := (v2 ++ v1.Undo) }) with Cells := v4 }) [])]⟩) ⟨rfl, rfl, trivial⟩ ⟨rfl, rfl, trivial⟩ ?_
  refine PT.seq ?_
  refine PT.region ?_
  refine Ops.put rfl rfl (ox_load_var t48) (.one rfl) (.one rfl) rfl ?_
  refine Ops.mute rfl rfl (ox_store_var t48 .tmp) ((.cons rfl (.one rfl))) (.one rfl) ?_
  refine Ops.nil ?_
  refine PT.sub (σ' := ⟨[(4, _)], [(4, .var ({ ({ v1 with Undo := (v2 ++ v1.Undo) }) with Cells := v4 }) [])]⟩) ⟨rfl, trivial⟩ ⟨rfl, trivial⟩ ?_
  refine PT.ret ?_
  obtain rfl := Option.some.inj hφ
  exact PT.done hw0 rfl (.cell t48 rfl rfl .nil) rfl

/-- mendkernel/mkref1.Write -/
theorem c_mkref1_Write {a0 : Mk.Store} {a1 : Mk.Write} {r : Mk.Store} (hφ : mkref1_Write a0 a1 = some r) : Fn Go.Proofs.Try.prog 41 [.val a0, .val a1] (.val r) := by
  unfold mkref1_Write at hφ
  refine Fn.mk' Go.Proofs.Try.func41 rfl (by decide) rfl rfl rfl (fun w0 hw0 => ?_)
  refine PT.seq ?_
  refine PT.region ?_
  refine Ops.putO rfl rfl (ox_box (id := 2) .tmp) (.one rfl) (.nil) rfl (by kernel_rfl) ?_
  refine Ops.putO rfl rfl (ox_box (id := 3) .tmp) (.one rfl) (.nil) rfl (by kernel_rfl) ?_
  refine Ops.putO rfl rfl (ox_alloc (id := 4) z48) (.nil) (.nil) rfl (by kernel_rfl) ?_
  refine Ops.nil ?_
  refine PT.sub (σ' := ⟨[(2, _), (3, _), (4, _)], [(2, .var (a0) []), (3, .var (a1) []), (4, .var (({ Cells := ([] : List Int), Undo := ([] : List Mk.Write), Answers := ([] : List Mk.Answer), Past := ([] : List Mk.Request) } : Mk.Store)) [])]⟩) ⟨rfl, rfl, rfl, trivial⟩ ⟨rfl, rfl, rfl, trivial⟩ ?_
  obtain ⟨k1, hk1, hφ⟩ := J_some hφ
  refine PT.cut (ι := Mk.Store × Mk.Store) (fun p => ⟨[(2, .ptr 2 (Lens.id (α := Mk.Store))), (4, .ptr 4 (Lens.id (α := Mk.Store)))], [(2, .var (p.1) []), (4, .var (p.2) [])]⟩) (fun p => k1 (p.1) (p.2) = some r) ?_ ?_
  · skip
    refine PT.seq ?_
    refine PT.region ?_
    refine Ops.put rfl rfl (ox_fieldAddr_var Write_At f50_0) (.one rfl) (.nil) rfl ?_
    refine Ops.put rfl rfl (ox_load_fld t3) (.one rfl) (.one rfl) rfl ?_
    refine Ops.put rfl rfl (ox_geq .tmp .int) ((.app (.one rfl) (.nil))) (.nil) rfl ?_
    refine Ops.put rfl rfl (ox_move .tmp) (.one rfl) (.nil) rfl ?_
    refine Ops.guard rfl rfl rfl rfl (.plain .nil) (fun hG => (ox_fieldAddr_var Write_At f50_0)) ⟨rfl, trivial⟩ (.nil) rfl ?_
    refine Ops.guard rfl rfl rfl rfl (.cond (fun h => h) .nil) (fun hG => (ox_load_fld t3)) ⟨rfl, trivial⟩ (.one rfl) rfl ?_
    refine Ops.guard rfl rfl rfl rfl (.plain .nil) (fun hG => (ox_fieldAddr_var Store_Cells f48_0)) ⟨rfl, trivial⟩ (.nil) rfl ?_
    refine Ops.guard rfl rfl rfl rfl (.cond (fun h => h) .nil) (fun hG => (ox_load_fld t43)) ⟨rfl, trivial⟩ (.one rfl) rfl ?_
    refine Ops.guard rfl rfl rfl rfl (.cond (fun h => h) .nil) (fun hG => (ox_len s43 .tmp)) ⟨rfl, trivial⟩ (.nil) rfl ?_
    refine Ops.guard rfl rfl rfl rfl (.cond (fun h => h) (.cond (fun h => h) .nil)) (fun hG => (ox_lss .tmp .tmp)) ⟨rfl, rfl, trivial⟩ (.nil) rfl ?_
    refine Ops.put rfl rfl ox_pick_and (⟨rfl, rfl, trivial⟩) (.nil) rfl ?_
    refine Ops.nil ?_
    refine PT.sub (σ' := ⟨[(2, _), (3, _), (4, _), (15, .val (((decide ((0 : Int) ≤ a1.At)) && (decide (a1.At < (a0.Cells.length : Int))))))], [(2, .var (a0) []), (3, .var (a1) []), (4, .var (({ Cells := ([] : List Int), Undo := ([] : List Mk.Write), Answers := ([] : List Mk.Answer), Past := ([] : List Mk.Request) } : Mk.Store)) [])]⟩) ⟨rfl, rfl, rfl, rfl, trivial⟩ ⟨rfl, rfl, rfl, trivial⟩ ?_
    refine PT.cond _ rfl (fun hc2 => ?_) (fun hc2 => ?_)
    · replace hφ := if_then hφ hc2
      refine PT.sub (σ' := ⟨[(2, _), (3, _), (4, _)], [(2, .var (a0) []), (3, .var (a1) []), (4, .var (({ Cells := ([] : List Int), Undo := ([] : List Mk.Write), Answers := ([] : List Mk.Answer), Past := ([] : List Mk.Request) } : Mk.Store)) [])]⟩) ⟨rfl, rfl, rfl, trivial⟩ ⟨rfl, rfl, rfl, trivial⟩ ?_
      refine PT.seq ?_
      obtain ⟨hb3, hφ⟩ := G_some hφ
      obtain ⟨hb4, hφ⟩ := G_some hφ
      refine PT.draw hMixed (
          Segs.cons (Step.put rfl rfl (ox_fieldAddr_var Write_At f50_0)) ⟨.one rfl, .nil⟩ (by kernel_rfl) rfl <|
          Segs.cons (Step.put rfl rfl (ox_load_fld t3)) ⟨.one rfl, .one rfl⟩ (by kernel_rfl) rfl <|
          Segs.cons (Step.put rfl rfl (ox_fieldAddr_var Store_Cells f48_0)) ⟨.one rfl, .nil⟩ (by kernel_rfl) rfl <|
          Segs.cons (Step.put rfl rfl (ox_load_fld t43)) ⟨.one rfl, .one rfl⟩ (by kernel_rfl) rfl <|
          Segs.cons (Step.put rfl rfl (ox_fieldAddr_var Write_At f50_0)) ⟨.one rfl, .nil⟩ (by kernel_rfl) rfl <|
          Segs.cons (Step.put rfl rfl (ox_load_fld t3)) ⟨.one rfl, .one rfl⟩ (by kernel_rfl) rfl <|
          Segs.cons (Step.put rfl rfl (ox_ix s43 .tmp .tmp hb3.1 hb3.2)) ⟨(.app (.one rfl) (.one rfl)), .nil⟩ (by kernel_rfl) rfl <|
          Segs.cons (Step.put rfl rfl (ox_load_elem t3)) ⟨.one rfl, .nil⟩ (by kernel_rfl) rfl <|
          Segs.cons (Step.put rfl rfl (ox_buildB z50 u50 rfl (.cons Write_At f50_0 .tmp (.cons Write_N f50_1 .tmp Bld.nil)))) ⟨(.app (.one rfl) (.app (.one rfl) .nil)), .nil⟩ (by kernel_rfl) rfl <|
          Segs.cons (Step.put rfl rfl (ox_buildSlice_arr (id := 25) s44 z50 (.cons .tmp Parts.nil) rfl (by decide))) ⟨(.app (.one rfl) .nil), .nil⟩ (by kernel_rfl) rfl <|
          Segs.cons (Step.put rfl rfl (ox_fieldAddr_var Store_Undo f48_1)) ⟨.one rfl, .nil⟩ (by kernel_rfl) rfl <|
          Segs.cons (Step.put rfl rfl (ox_load_fld t44)) ⟨.one rfl, .one rfl⟩ (by kernel_rfl) rfl <|
          Segs.cons (Step.putK [25] rfl rfl (ox_appendV a44 .tmp .tmp hb4.1 hb4.2)) ⟨(.app (.one rfl) (.one rfl)), .one rfl⟩ (by kernel_rfl) rfl <|
          Segs.cons (Step.put rfl rfl (ox_fieldAddr_var Store_Undo f48_1)) ⟨.one rfl, .nil⟩ (by kernel_rfl) rfl <|
          Segs.cons (Step.mute rfl rfl (ox_store_fld t44 .tmp)) ⟨(.cons rfl (.one rfl)), .one rfl⟩ (by kernel_rfl) rfl <|
          Segs.nil) _ [[], [0], [], [2], [], [4], [2, 3, 4, 5], [2, 3, 4, 5, 6], [0, 1, 2, 3, 4, 5, 6, 7], [0, 1, 2, 3, 4, 5, 6, 7, 8], [], [10], [0, 1, 2, 3, 4, 5, 6, 7, 8, 9, 10, 11], [0, 1, 2, 3, 4, 5, 6, 7, 8, 9, 10, 11, 12], [0, 1, 2, 3, 4, 5, 6, 7, 8, 9, 10, 11, 12, 13]] rfl (by kernel_rfl) (by kernel_rfl) ?_
      refine PT.sub (σ' := ⟨[(2, _), (3, _), (4, _)], [(2, .var ({ a0 with Undo := (([({ At := a1.At, N := (ix a0.Cells a1.At) } : Mk.Write)] : List Mk.Write) ++ a0.Undo) }) []), (3, .var (a1) []), (4, .var (({ Cells := ([] : List Int), Undo := ([] : List Mk.Write), Answers := ([] : List Mk.Answer), Past := ([] : List Mk.Request) } : Mk.Store)) [])]⟩) ⟨rfl, rfl, rfl, trivial⟩ ⟨rfl, rfl, rfl, trivial⟩ ?_
      obtain ⟨v5, hv5, hφ⟩ := B_some hφ
      refine PT.region ?_
      refine Ops.put rfl rfl (ox_fieldAddr_var Store_Cells f48_0) (.one rfl) (.nil) rfl ?_
      refine Ops.put rfl rfl (ox_load_fld t43) (.one rfl) (.one rfl) rfl ?_
      refine Ops.put rfl rfl (ox_load_var t50) (.one rfl) (.one rfl) rfl ?_
      refine Ops.put rfl rfl (ox_buildSlice_val s44 z50 (.cons .tmp Parts.nil) rfl (by decide)) ((.app (.one rfl) .nil)) (.nil) rfl ?_
      refine Ops.put rfl rfl (ox_call (c_mkref1_Set hv5) (.cons .tmp (.cons .tmp .nil))) ((.app (.one rfl) (.app (.one rfl) .nil))) (.nil) rfl ?_
      refine Ops.put rfl rfl (ox_fieldAddr_var Store_Cells f48_0) (.one rfl) (.nil) rfl ?_
      refine Ops.mute rfl rfl (ox_store_fld t43 .tmp) ((.cons rfl (.one rfl))) (.one rfl) ?_
      refine Ops.nil ?_
      refine PT.sub (σ' := ⟨[(2, _), (4, _)], [(2, .var ({ ({ a0 with Undo := (([({ At := a1.At, N := (ix a0.Cells a1.At) } : Mk.Write)] : List Mk.Write) ++ a0.Undo) }) with Cells := v5 }) []), (4, .var (({ Cells := ([] : List Int), Undo := ([] : List Mk.Write), Answers := ([] : List Mk.Answer), Past := ([] : List Mk.Request) } : Mk.Store)) [])]⟩) ⟨rfl, rfl, trivial⟩ ⟨rfl, rfl, trivial⟩ ?_
      exact PT.meet ({ ({ a0 with Undo := (([({ At := a1.At, N := (ix a0.Cells a1.At) } : Mk.Write)] : List Mk.Write) ++ a0.Undo) }) with Cells := v5 }, ({ Cells := ([] : List Int), Undo := ([] : List Mk.Write), Answers := ([] : List Mk.Answer), Past := ([] : List Mk.Request) } : Mk.Store)) hφ ⟨rfl, rfl, trivial⟩ ⟨rfl, rfl, trivial⟩
    · replace hφ := if_else hφ hc2
      refine PT.sub (σ' := ⟨[(2, _), (4, _)], [(2, .var (a0) []), (4, .var (({ Cells := ([] : List Int), Undo := ([] : List Mk.Write), Answers := ([] : List Mk.Answer), Past := ([] : List Mk.Request) } : Mk.Store)) [])]⟩) ⟨rfl, rfl, trivial⟩ ⟨rfl, rfl, trivial⟩ ?_
      refine PT.skip ?_
      exact PT.meet (a0, ({ Cells := ([] : List Int), Undo := ([] : List Mk.Write), Answers := ([] : List Mk.Answer), Past := ([] : List Mk.Request) } : Mk.Store)) hφ ⟨rfl, rfl, trivial⟩ ⟨rfl, rfl, trivial⟩
  · rintro ⟨y2_k1, y4_k1⟩ hφ
    subst hk1
    refine PT.sub (σ' := ⟨[(2, .ptr 2 (Lens.id (α := Mk.Store))), (4, .ptr 4 (Lens.id (α := Mk.Store)))], [(2, .var (y2_k1) []), (4, .var (y4_k1) [])]⟩) ⟨rfl, rfl, trivial⟩ ⟨rfl, rfl, trivial⟩ ?_
    refine PT.seq ?_
    refine PT.region ?_
    refine Ops.put rfl rfl (ox_load_var t48) (.one rfl) (.one rfl) rfl ?_
    refine Ops.mute rfl rfl (ox_store_var t48 .tmp) ((.cons rfl (.one rfl))) (.one rfl) ?_
    refine Ops.nil ?_
    refine PT.sub (σ' := ⟨[(4, _)], [(4, .var (y2_k1) [])]⟩) ⟨rfl, trivial⟩ ⟨rfl, trivial⟩ ?_
    refine PT.ret ?_
    obtain rfl := Option.some.inj hφ
    exact PT.done hw0 rfl (.cell t48 rfl rfl .nil) rfl

/-- mendkernel/store.Commit -/
theorem c_store_Commit {a0 : Mk.Store} {a1 : Mk.Request} {a2 : Mk.Reply} {r : Mk.Store} (hφ : store_Commit a0 a1 a2 = some r) : Fn Go.Proofs.Try.prog 42 [.val a0, .val a1, .val a2] (.val r) := by
  unfold store_Commit at hφ
  refine Fn.mk' Go.Proofs.Try.func42 rfl (by decide) rfl rfl rfl (fun w0 hw0 => ?_)
  refine PT.seq ?_
  refine PT.region ?_
  refine Ops.putO rfl rfl (ox_box (id := 3) .tmp) (.one rfl) (.nil) rfl (by kernel_rfl) ?_
  refine Ops.putO rfl rfl (ox_box (id := 4) .tmp) (.one rfl) (.nil) rfl (by kernel_rfl) ?_
  refine Ops.putO rfl rfl (ox_box (id := 5) .tmp) (.one rfl) (.nil) rfl (by kernel_rfl) ?_
  refine Ops.putO rfl rfl (ox_alloc (id := 6) z48) (.nil) (.nil) rfl (by kernel_rfl) ?_
  refine Ops.nil ?_
  refine PT.sub (σ' := ⟨[(3, _), (4, _), (5, _), (6, _)], [(3, .var (a0) []), (4, .var (a1) []), (5, .var (a2) []), (6, .var (({ Cells := ([] : List Int), Undo := ([] : List Mk.Write), Answers := ([] : List Mk.Answer), Past := ([] : List Mk.Request) } : Mk.Store)) [])]⟩) ⟨rfl, rfl, rfl, rfl, trivial⟩ ⟨rfl, rfl, rfl, rfl, trivial⟩ ?_
  refine PT.seq ?_
  obtain ⟨v1, hv1, hφ⟩ := B_some hφ
  refine PT.region ?_
  refine Ops.put rfl rfl (ox_load_var t48) (.one rfl) (.one rfl) rfl ?_
  refine Ops.putO rfl rfl (ox_callX (x_store_Own hv1) [] [(11, 40122), (14, 40123)] [(11, 40122), (14, 40123)] [] (.cons .tmp .nil) rfl rfl rfl rfl rfl rfl rfl rfl trivial rfl rfl rfl rfl) ((.app (.one rfl) .nil)) (.nil) rfl (by kernel_rfl) ?_
  refine Ops.putO rfl rfl (ox_alloc (id := 7) z48) (.nil) (.nil) rfl (by kernel_rfl) ?_
  refine Ops.mute rfl rfl (ox_store_varH t48 rfl .tmp) ((.cons rfl (.one rfl))) (.one rfl) ?_
  refine Ops.nil ?_
  refine PT.sub (σ' := ⟨[(4, _), (5, _), (6, _), (7, _)], [(4, .var (a1) []), (5, .var (a2) []), (6, .var (({ Cells := ([] : List Int), Undo := ([] : List Mk.Write), Answers := ([] : List Mk.Answer), Past := ([] : List Mk.Request) } : Mk.Store)) []), (7, .var ({ ({ v1 with Answers := ([] : List Mk.Answer) }) with Past := ([] : List Mk.Request) }) [(2, 40122), (3, 40123)]), (40122, .arr 30 (v1.Answers)), (40123, .arr 25 (v1.Past))]⟩) ⟨rfl, rfl, rfl, rfl, trivial⟩ ⟨rfl, rfl, rfl, rfl, rfl, rfl, trivial⟩ ?_
  refine PT.seq ?_
  refine PT.region ?_
  refine Ops.put rfl rfl (ox_fieldAddr_var Store_Undo f48_1) (.one rfl) (.nil) rfl ?_
  refine Ops.mute rfl rfl (ox_store_over t44 (.nilL (α := Mk.Write)) rfl) ((.cons rfl (.nil))) (.one rfl) ?_
  refine Ops.nil ?_
  refine PT.sub (σ' := ⟨[(4, _), (5, _), (6, _), (7, _)], [(4, .var (a1) []), (5, .var (a2) []), (6, .var (({ Cells := ([] : List Int), Undo := ([] : List Mk.Write), Answers := ([] : List Mk.Answer), Past := ([] : List Mk.Request) } : Mk.Store)) []), (7, .var ({ ({ ({ v1 with Answers := ([] : List Mk.Answer) }) with Past := ([] : List Mk.Request) }) with Undo := ([] : List Mk.Write) }) [(2, 40122), (3, 40123)]), (40122, .arr 30 (v1.Answers)), (40123, .arr 25 (v1.Past))]⟩) ⟨rfl, rfl, rfl, rfl, trivial⟩ ⟨rfl, rfl, rfl, rfl, rfl, rfl, trivial⟩ ?_
  refine PT.seq ?_
  obtain ⟨hb2, hφ⟩ := G_some hφ
  refine PT.region ?_
  refine Ops.put rfl rfl (ox_fieldAddr_var Store_Past f48_3) (.one rfl) (.nil) rfl ?_
  refine Ops.putO rfl rfl (ox_take_hole (k' := 20015) t46 rfl rfl rfl rfl rfl) (.one rfl) (.cons rfl (.one rfl)) rfl (by kernel_rfl) ?_
  refine Ops.put rfl rfl (ox_load_var t25) (.one rfl) (.one rfl) rfl ?_
  refine Ops.put rfl rfl (ox_buildSlice_val s46 z25 (.cons .tmp Parts.nil) rfl (by decide)) ((.app (.one rfl) .nil)) (.nil) rfl ?_
  refine Ops.putK [15] rfl rfl (ox_append a46 .tmp .tmp hb2.1 hb2.2) ((.app (.one rfl) (.one rfl))) (.one rfl) rfl (by kernel_rfl) ?_
  refine Ops.put rfl rfl (ox_fieldAddr_var Store_Past f48_3) (.one rfl) (.nil) rfl ?_
  refine Ops.mute rfl rfl (ox_store_sl t46 .tmp rfl) ((.cons rfl (.one rfl))) (.cons rfl (.one rfl)) ?_
  refine Ops.nil ?_
  refine PT.sub (σ' := ⟨[(4, _), (5, _), (6, _), (7, _)], [(4, .var (a1) []), (5, .var (a2) []), (6, .var (({ Cells := ([] : List Int), Undo := ([] : List Mk.Write), Answers := ([] : List Mk.Answer), Past := ([] : List Mk.Request) } : Mk.Store)) []), (7, .var ({ ({ ({ v1 with Answers := ([] : List Mk.Answer) }) with Past := ([] : List Mk.Request) }) with Undo := ([] : List Mk.Write) }) [(2, 40122), (3, 40123)]), (40122, .arr 30 (v1.Answers)), (40123, .arr 25 ((v1.Past ++ ([a1] : List Mk.Request))))]⟩) ⟨rfl, rfl, rfl, rfl, trivial⟩ ⟨rfl, rfl, rfl, rfl, rfl, rfl, trivial⟩ ?_
  refine PT.seq ?_
  refine PT.region ?_
  refine Ops.put rfl rfl (ox_fieldAddr_var Request_Client f25_0) (.one rfl) (.nil) rfl ?_
  refine Ops.put rfl rfl (ox_load_fld t3) (.one rfl) (.one rfl) rfl ?_
  refine Ops.put rfl rfl (ox_fieldAddr_var Request_Token f25_1) (.one rfl) (.nil) rfl ?_
  refine Ops.put rfl rfl (ox_load_fld t3) (.one rfl) (.one rfl) rfl ?_
  refine Ops.put rfl rfl (ox_load_var t28) (.one rfl) (.one rfl) rfl ?_
  refine Ops.put rfl rfl (ox_buildB z30 u30 rfl (.cons Answer_Client f30_0 .tmp (.cons Answer_Token f30_1 .tmp (.cons Answer_Reply f30_2 .tmp Bld.nil)))) ((.app (.one rfl) (.app (.one rfl) (.app (.one rfl) .nil)))) (.nil) rfl ?_
  refine Ops.putO rfl rfl (ox_alloc (id := 8) z30) (.nil) (.nil) rfl (by kernel_rfl) ?_
  refine Ops.mute rfl rfl (ox_store_var t30 .tmp) ((.cons rfl (.one rfl))) (.one rfl) ?_
  refine Ops.nil ?_
  refine PT.sub (σ' := ⟨[(4, _), (6, _), (7, _), (8, _)], [(4, .var (a1) []), (6, .var (({ Cells := ([] : List Int), Undo := ([] : List Mk.Write), Answers := ([] : List Mk.Answer), Past := ([] : List Mk.Request) } : Mk.Store)) []), (7, .var ({ ({ ({ v1 with Answers := ([] : List Mk.Answer) }) with Past := ([] : List Mk.Request) }) with Undo := ([] : List Mk.Write) }) [(2, 40122), (3, 40123)]), (8, .var (({ Client := a1.Client, Token := a1.Token, Reply := a2 } : Mk.Answer)) []), (40122, .arr 30 (v1.Answers)), (40123, .arr 25 ((v1.Past ++ ([a1] : List Mk.Request))))]⟩) ⟨rfl, rfl, rfl, rfl, trivial⟩ ⟨rfl, rfl, rfl, rfl, rfl, rfl, trivial⟩ ?_
  obtain ⟨k3, hk3, hφ⟩ := J_some hφ
  refine PT.cut (ι := Mk.Store × Mk.Store × Mk.Answer × (List Mk.Answer) × (List Mk.Request)) (fun p => ⟨[(6, .ptr 6 (Lens.id (α := Mk.Store))), (7, .ptr 7 (Lens.id (α := Mk.Store))), (8, .ptr 8 (Lens.id (α := Mk.Answer)))], [(6, .var (p.1) []), (7, .var (p.2.1) [(2, 40122), (3, 40123)]), (8, .var (p.2.2.1) []), (40122, .arr 30 (p.2.2.2.1)), (40123, .arr 25 (p.2.2.2.2))]⟩) (fun p => k3 (p.1) (p.2.1) (p.2.2.1) (p.2.2.2.1) (p.2.2.2.2) = some r) ?_ ?_
  · skip
    refine PT.seq ?_
    refine PT.region ?_
    refine Ops.put rfl rfl (ox_fieldAddr_var Store_Answers f48_2) (.one rfl) (.nil) rfl ?_
    refine Ops.put rfl rfl (ox_load_hole t45 rfl) (.one rfl) (.cons rfl (.one rfl)) rfl ?_
    refine Ops.put rfl rfl (ox_len_arr s45 .tmp) (.one rfl) (.one rfl) rfl ?_
    refine Ops.put rfl rfl (ox_move .int) (.nil) (.nil) rfl ?_
    refine Ops.nil ?_
    refine PT.sub (σ' := ⟨[(4, _), (6, _), (7, _), (8, _), (27, _), (28, .val ((v1.Answers.length : Int))), (29, .val ((0 : Int)))], [(4, .var (a1) []), (6, .var (({ Cells := ([] : List Int), Undo := ([] : List Mk.Write), Answers := ([] : List Mk.Answer), Past := ([] : List Mk.Request) } : Mk.Store)) []), (7, .var ({ ({ ({ v1 with Answers := ([] : List Mk.Answer) }) with Past := ([] : List Mk.Request) }) with Undo := ([] : List Mk.Write) }) [(2, 40122), (3, 40123)]), (8, .var (({ Client := a1.Client, Token := a1.Token, Reply := a2 } : Mk.Answer)) []), (40122, .arr 30 (v1.Answers)), (40123, .arr 25 ((v1.Past ++ ([a1] : List Mk.Request))))]⟩) ⟨rfl, rfl, rfl, rfl, rfl, rfl, rfl, trivial⟩ ⟨rfl, rfl, rfl, rfl, rfl, rfl, trivial⟩ ?_
    refine PT.block ?_
    refine PT.loop (ι := Nat × Int × Int × Mk.Request × Mk.Store × Mk.Store × Mk.Answer × (List Mk.Answer) × (List Mk.Request)) (fun p => ⟨[(4, .ptr 4 (Lens.id (α := Mk.Request))), (6, .ptr 6 (Lens.id (α := Mk.Store))), (7, .ptr 7 (Lens.id (α := Mk.Store))), (8, .ptr 8 (Lens.id (α := Mk.Answer))), (27, .sl 40122), (28, .val (p.2.1)), (29, .val (p.2.2.1))], [(4, .var (p.2.2.2.1) []), (6, .var (p.2.2.2.2.1) []), (7, .var (p.2.2.2.2.2.1) [(2, 40122), (3, 40123)]), (8, .var (p.2.2.2.2.2.2.1) []), (40122, .arr 30 (p.2.2.2.2.2.2.2.1)), (40123, .arr 25 (p.2.2.2.2.2.2.2.2))]⟩) (fun p => store_Commit_l1 k3 p.1 (p.2.1) (p.2.2.1) (p.2.2.2.1) (p.2.2.2.2.1) (p.2.2.2.2.2.1) (p.2.2.2.2.2.2.1) (p.2.2.2.2.2.2.2.1) (p.2.2.2.2.2.2.2.2) = some r) (fun p => p.1) (((v1.Answers.length : Int) - (0 : Int)).toNat + 1, (v1.Answers.length : Int), (0 : Int), a1, ({ Cells := ([] : List Int), Undo := ([] : List Mk.Write), Answers := ([] : List Mk.Answer), Past := ([] : List Mk.Request) } : Mk.Store), { ({ ({ v1 with Answers := ([] : List Mk.Answer) }) with Past := ([] : List Mk.Request) }) with Undo := ([] : List Mk.Write) }, ({ Client := a1.Client, Token := a1.Token, Reply := a2 } : Mk.Answer), v1.Answers, (v1.Past ++ ([a1] : List Mk.Request))) hφ ⟨rfl, rfl, rfl, rfl, rfl, rfl, rfl, trivial⟩ ⟨rfl, rfl, rfl, rfl, rfl, rfl, trivial⟩ ?_
    rintro ⟨m4, x28_m4, x29_m4, y4_m4, y6_m4, y7_m4, y8_m4, y40122_m4, y40123_m4⟩ (hφ : store_Commit_l1 k3 m4 x28_m4 x29_m4 y4_m4 y6_m4 y7_m4 y8_m4 y40122_m4 y40123_m4 = some r)
    obtain _ | m4 := m4
    · exact (none_no hφ).elim
    rw [store_Commit_l1.eq_2] at hφ
    refine PT.sub (σ' := ⟨[(4, .ptr 4 (Lens.id (α := Mk.Request))), (6, .ptr 6 (Lens.id (α := Mk.Store))), (7, .ptr 7 (Lens.id (α := Mk.Store))), (8, .ptr 8 (Lens.id (α := Mk.Answer))), (27, .sl 40122), (28, .val (x28_m4)), (29, .val (x29_m4))], [(4, .var (y4_m4) []), (6, .var (y6_m4) []), (7, .var (y7_m4) [(2, 40122), (3, 40123)]), (8, .var (y8_m4) []), (40122, .arr 30 (y40122_m4)), (40123, .arr 25 (y40123_m4))]⟩) ⟨rfl, rfl, rfl, rfl, rfl, rfl, rfl, trivial⟩ ⟨rfl, rfl, rfl, rfl, rfl, rfl, trivial⟩ ?_
    refine PT.seq ?_
    refine PT.region ?_
    refine Ops.put rfl rfl (ox_lss .tmp .tmp) ((.app (.one rfl) (.one rfl))) (.nil) rfl ?_
    refine Ops.nil ?_
    refine PT.sub (σ' := ⟨[(4, _), (6, _), (7, _), (8, _), (27, _), (28, .val (x28_m4)), (29, .val (x29_m4)), (30, .val ((decide (x29_m4 < x28_m4))))], [(4, .var (y4_m4) []), (6, .var (y6_m4) []), (7, .var (y7_m4) [(2, 40122), (3, 40123)]), (8, .var (y8_m4) []), (40122, .arr 30 (y40122_m4)), (40123, .arr 25 (y40123_m4))]⟩) ⟨rfl, rfl, rfl, rfl, rfl, rfl, rfl, rfl, trivial⟩ ⟨rfl, rfl, rfl, rfl, rfl, rfl, trivial⟩ ?_
    refine PT.seq ?_
    refine PT.cond _ rfl (fun hc5 => ?_) (fun hc5 => ?_)
    · replace hφ := if_then hφ hc5
      refine PT.sub (σ' := ⟨[(4, _), (6, _), (7, _), (8, _), (27, _), (28, .val (x28_m4)), (29, .val (x29_m4))], [(4, .var (y4_m4) []), (6, .var (y6_m4) []), (7, .var (y7_m4) [(2, 40122), (3, 40123)]), (8, .var (y8_m4) []), (40122, .arr 30 (y40122_m4)), (40123, .arr 25 (y40123_m4))]⟩) ⟨rfl, rfl, rfl, rfl, rfl, rfl, rfl, trivial⟩ ⟨rfl, rfl, rfl, rfl, rfl, rfl, trivial⟩ ?_
      refine PT.skip ?_
      refine PT.seq ?_
      refine PT.block ?_
      refine PT.seq ?_
      obtain ⟨hb6, hφ⟩ := G_some hφ
      refine PT.region ?_
      refine Ops.put rfl rfl (ox_move .tmp) (.one rfl) (.nil) rfl ?_
      refine Ops.put rfl rfl (ox_index_arr s45 .tmp .tmp hb6.1 hb6.2) ((.app (.one rfl) (.one rfl))) (.one rfl) rfl ?_
      refine Ops.put rfl rfl (ox_load_ax t30 hb6) (.one rfl) (.one rfl) rfl ?_
      refine Ops.putO rfl rfl (ox_alloc (id := 10) z30) (.nil) (.nil) rfl (by kernel_rfl) ?_
      refine Ops.put rfl rfl (ox_assign .tmp) (.one rfl) (.nil) rfl ?_
      refine Ops.mute rfl rfl (ox_store_var t30 .tmp) ((.cons rfl (.one rfl))) (.one rfl) ?_
      refine Ops.nil ?_
      refine PT.sub (σ' := ⟨[(4, _), (6, _), (7, _), (8, _), (9, .val (x29_m4)), (10, _), (27, _), (28, .val (x28_m4)), (29, .val (x29_m4))], [(4, .var (y4_m4) []), (6, .var (y6_m4) []), (7, .var (y7_m4) [(2, 40122), (3, 40123)]), (8, .var (y8_m4) []), (10, .var ((ix y40122_m4 x29_m4)) []), (40122, .arr 30 (y40122_m4)), (40123, .arr 25 (y40123_m4))]⟩) ⟨rfl, rfl, rfl, rfl, rfl, rfl, rfl, rfl, rfl, trivial⟩ ⟨rfl, rfl, rfl, rfl, rfl, rfl, rfl, trivial⟩ ?_
      refine PT.seq ?_
      refine PT.region ?_
      refine Ops.put rfl rfl (ox_fieldAddr_var Answer_Client f30_0) (.one rfl) (.nil) rfl ?_
      refine Ops.put rfl rfl (ox_load_fld t3) (.one rfl) (.one rfl) rfl ?_
      refine Ops.put rfl rfl (ox_fieldAddr_var Request_Client f25_0) (.one rfl) (.nil) rfl ?_
      refine Ops.put rfl rfl (ox_load_fld t3) (.one rfl) (.one rfl) rfl ?_
      refine Ops.put rfl rfl (ox_eql .tmp .tmp) ((.app (.one rfl) (.one rfl))) (.nil) rfl ?_
      refine Ops.nil ?_
      refine PT.sub (σ' := ⟨[(4, _), (6, _), (7, _), (8, _), (9, .val (x29_m4)), (27, _), (28, .val (x28_m4)), (29, .val (x29_m4)), (38, .val ((decide ((ix y40122_m4 x29_m4).Client = y4_m4.Client))))], [(4, .var (y4_m4) []), (6, .var (y6_m4) []), (7, .var (y7_m4) [(2, 40122), (3, 40123)]), (8, .var (y8_m4) []), (40122, .arr 30 (y40122_m4)), (40123, .arr 25 (y40123_m4))]⟩) ⟨rfl, rfl, rfl, rfl, rfl, rfl, rfl, rfl, rfl, trivial⟩ ⟨rfl, rfl, rfl, rfl, rfl, rfl, trivial⟩ ?_
      refine PT.cond _ rfl (fun hc7 => ?_) (fun hc7 => ?_)
      · replace hφ := if_then hφ hc7
        refine PT.sub (σ' := ⟨[(6, _), (7, _), (8, _), (9, .val (x29_m4))], [(6, .var (y6_m4) []), (7, .var (y7_m4) [(2, 40122), (3, 40123)]), (8, .var (y8_m4) []), (40122, .arr 30 (y40122_m4)), (40123, .arr 25 (y40123_m4))]⟩) ⟨rfl, rfl, rfl, rfl, trivial⟩ ⟨rfl, rfl, rfl, rfl, rfl, trivial⟩ ?_
        refine PT.seq ?_
        obtain ⟨hb8, hφ⟩ := G_some hφ
        refine PT.region ?_
        refine Ops.put rfl rfl (ox_fieldAddr_var Store_Answers f48_2) (.one rfl) (.nil) rfl ?_
        refine Ops.put rfl rfl (ox_load_hole t45 rfl) (.one rfl) (.cons rfl (.one rfl)) rfl ?_
        refine Ops.put rfl rfl (ox_move .tmp) (.one rfl) (.nil) rfl ?_
        refine Ops.put rfl rfl (ox_load_var t30) (.one rfl) (.one rfl) rfl ?_
        refine Ops.put rfl rfl (ox_index_arr s45 .tmp .tmp hb8.1 hb8.2) ((.app (.one rfl) (.one rfl))) (.one rfl) rfl ?_
        refine Ops.mute rfl rfl (ox_store_ax t30 .tmp hb8) ((.cons rfl (.one rfl))) (.one rfl) ?_
        refine Ops.nil ?_
        refine PT.sub (σ' := ⟨[(6, _), (7, _)], [(6, .var (y6_m4) []), (7, .var (y7_m4) [(2, 40122), (3, 40123)]), (40122, .arr 30 ((up y40122_m4 x29_m4 y8_m4))), (40123, .arr 25 (y40123_m4))]⟩) ⟨rfl, rfl, trivial⟩ ⟨rfl, rfl, rfl, rfl, trivial⟩ ?_
        refine PT.seq ?_
        refine PT.freezeHole 7 40122 [] Store_Answers rfl rfl rfl rfl trivial ?_
        refine PT.freezeHole 7 40123 [] Store_Past rfl rfl rfl rfl trivial ?_
        refine PT.region ?_
        refine Ops.put rfl rfl (ox_load_var t48) (.one rfl) (.one rfl) rfl ?_
        refine Ops.mute rfl rfl (ox_store_var t48 .tmp) ((.cons rfl (.one rfl))) (.one rfl) ?_
        refine Ops.nil ?_
        refine PT.sub (σ' := ⟨[(6, _)], [(6, .var ({ ({ y7_m4 with Answers := (up y40122_m4 x29_m4 y8_m4) }) with Past := y40123_m4 }) [])]⟩) ⟨rfl, trivial⟩ ⟨rfl, trivial⟩ ?_
        refine PT.ret ?_
        obtain rfl := Option.some.inj hφ
        exact PT.done hw0 rfl (.cell t48 rfl rfl .nil) rfl
      · replace hφ := if_else hφ hc7
        refine PT.sub (σ' := ⟨[(4, _), (6, _), (7, _), (8, _), (27, _), (28, .val (x28_m4)), (29, .val (x29_m4))], [(4, .var (y4_m4) []), (6, .var (y6_m4) []), (7, .var (y7_m4) [(2, 40122), (3, 40123)]), (8, .var (y8_m4) []), (40122, .arr 30 (y40122_m4)), (40123, .arr 25 (y40123_m4))]⟩) ⟨rfl, rfl, rfl, rfl, rfl, rfl, rfl, trivial⟩ ⟨rfl, rfl, rfl, rfl, rfl, rfl, trivial⟩ ?_
        refine PT.skip ?_
        obtain ⟨hb9, hφ⟩ := G_some hφ
        refine PT.region ?_
        refine Ops.put rfl rfl (ox_add .tmp .int hb9) ((.app (.one rfl) (.nil))) (.nil) rfl ?_
        refine Ops.put rfl rfl (ox_move .tmp) (.one rfl) (.nil) rfl ?_
        refine Ops.nil ?_
        refine PT.sub (σ' := ⟨[(4, _), (6, _), (7, _), (8, _), (27, _), (28, .val (x28_m4)), (29, .val ((x29_m4 + (1 : Int))))], [(4, .var (y4_m4) []), (6, .var (y6_m4) []), (7, .var (y7_m4) [(2, 40122), (3, 40123)]), (8, .var (y8_m4) []), (40122, .arr 30 (y40122_m4)), (40123, .arr 25 (y40123_m4))]⟩) ⟨rfl, rfl, rfl, rfl, rfl, rfl, rfl, trivial⟩ ⟨rfl, rfl, rfl, rfl, rfl, rfl, trivial⟩ ?_
        exact PT.next (m4, x28_m4, (x29_m4 + (1 : Int)), y4_m4, y6_m4, y7_m4, y8_m4, y40122_m4, y40123_m4) hφ (Nat.lt_succ_self _) ⟨rfl, rfl, rfl, rfl, rfl, rfl, rfl, trivial⟩ ⟨rfl, rfl, rfl, rfl, rfl, rfl, trivial⟩
    · replace hφ := if_else hφ hc5
      refine PT.sub (σ' := ⟨[(6, _), (7, _), (8, _)], [(6, .var (y6_m4) []), (7, .var (y7_m4) [(2, 40122), (3, 40123)]), (8, .var (y8_m4) []), (40122, .arr 30 (y40122_m4)), (40123, .arr 25 (y40123_m4))]⟩) ⟨rfl, rfl, rfl, trivial⟩ ⟨rfl, rfl, rfl, rfl, rfl, trivial⟩ ?_
      refine PT.exit ?_
      exact PT.meet (y6_m4, y7_m4, y8_m4, y40122_m4, y40123_m4) hφ ⟨rfl, rfl, rfl, trivial⟩ ⟨rfl, rfl, rfl, rfl, rfl, trivial⟩
  · rintro ⟨y6_k3, y7_k3, y8_k3, y40122_k3, y40123_k3⟩ hφ
    subst hk3
    refine PT.sub (σ' := ⟨[(6, .ptr 6 (Lens.id (α := Mk.Store))), (7, .ptr 7 (Lens.id (α := Mk.Store))), (8, .ptr 8 (Lens.id (α := Mk.Answer)))], [(6, .var (y6_k3) []), (7, .var (y7_k3) [(2, 40122), (3, 40123)]), (8, .var (y8_k3) []), (40122, .arr 30 (y40122_k3)), (40123, .arr 25 (y40123_k3))]⟩) ⟨rfl, rfl, rfl, trivial⟩ ⟨rfl, rfl, rfl, rfl, rfl, trivial⟩ ?_
    refine PT.seq ?_
    obtain ⟨hb10, hφ⟩ := G_some hφ
    refine PT.region ?_
    refine Ops.put rfl rfl (ox_fieldAddr_var Store_Answers f48_2) (.one rfl) (.nil) rfl ?_
    refine Ops.putO rfl rfl (ox_take_hole (k' := 20047) t45 rfl rfl rfl rfl rfl) (.one rfl) (.cons rfl (.one rfl)) rfl (by kernel_rfl) ?_
    refine Ops.put rfl rfl (ox_load_var t30) (.one rfl) (.one rfl) rfl ?_
    refine Ops.put rfl rfl (ox_buildSlice_val s45 z30 (.cons .tmp Parts.nil) rfl (by decide)) ((.app (.one rfl) .nil)) (.nil) rfl ?_
    refine Ops.putK [47] rfl rfl (ox_append a45 .tmp .tmp hb10.1 hb10.2) ((.app (.one rfl) (.one rfl))) (.one rfl) rfl (by kernel_rfl) ?_
    refine Ops.put rfl rfl (ox_fieldAddr_var Store_Answers f48_2) (.one rfl) (.nil) rfl ?_
    refine Ops.mute rfl rfl (ox_store_sl t45 .tmp rfl) ((.cons rfl (.one rfl))) (.cons rfl (.one rfl)) ?_
    refine Ops.nil ?_
    refine PT.sub (σ' := ⟨[(6, _), (7, _)], [(6, .var (y6_k3) []), (7, .var (y7_k3) [(3, 40123), (2, 40122)]), (40122, .arr 30 ((y40122_k3 ++ ([y8_k3] : List Mk.Answer)))), (40123, .arr 25 (y40123_k3))]⟩) ⟨rfl, rfl, trivial⟩ ⟨rfl, rfl, rfl, rfl, trivial⟩ ?_
    refine PT.seq ?_
    refine PT.freezeHole 7 40123 [] Store_Past rfl rfl rfl rfl trivial ?_
    refine PT.freezeHole 7 40122 [] Store_Answers rfl rfl rfl rfl trivial ?_
    refine PT.region ?_
    refine Ops.put rfl rfl (ox_load_var t48) (.one rfl) (.one rfl) rfl ?_
    refine Ops.mute rfl rfl (ox_store_var t48 .tmp) ((.cons rfl (.one rfl))) (.one rfl) ?_
    refine Ops.nil ?_
    refine PT.sub (σ' := ⟨[(6, _)], [(6, .var ({ ({ y7_k3 with Past := y40123_k3 }) with Answers := (y40122_k3 ++ ([y8_k3] : List Mk.Answer)) }) [])]⟩) ⟨rfl, trivial⟩ ⟨rfl, trivial⟩ ?_
    refine PT.ret ?_
    obtain rfl := Option.some.inj hφ
    exact PT.done hw0 rfl (.cell t48 rfl rfl .nil) rfl

/-- mendkernel/mkref1.Commit -/
theorem c_mkref1_Commit {a0 : Mk.Store} {a1 : Mk.Request} {a2 : Mk.Reply} {r : Mk.Store} (hφ : mkref1_Commit a0 a1 a2 = some r) : Fn Go.Proofs.Try.prog 43 [.val a0, .val a1, .val a2] (.val r) := by
  unfold mkref1_Commit at hφ
  refine Fn.mk' Go.Proofs.Try.func43 rfl (by decide) rfl rfl rfl (fun w0 hw0 => ?_)
  refine PT.seq ?_
  refine PT.region ?_
  refine Ops.putO rfl rfl (ox_box (id := 3) .tmp) (.one rfl) (.nil) rfl (by kernel_rfl) ?_
  refine Ops.putO rfl rfl (ox_box (id := 4) .tmp) (.one rfl) (.nil) rfl (by kernel_rfl) ?_
  refine Ops.putO rfl rfl (ox_box (id := 5) .tmp) (.one rfl) (.nil) rfl (by kernel_rfl) ?_
  refine Ops.putO rfl rfl (ox_alloc (id := 6) z48) (.nil) (.nil) rfl (by kernel_rfl) ?_
  refine Ops.nil ?_
  refine PT.sub (σ' := ⟨[(3, _), (4, _), (5, _), (6, _)], [(3, .var (a0) []), (4, .var (a1) []), (5, .var (a2) []), (6, .var (({ Cells := ([] : List Int), Undo := ([] : List Mk.Write), Answers := ([] : List Mk.Answer), Past := ([] : List Mk.Request) } : Mk.Store)) [])]⟩) ⟨rfl, rfl, rfl, rfl, trivial⟩ ⟨rfl, rfl, rfl, rfl, trivial⟩ ?_
  refine PT.seq ?_
  refine PT.region ?_
  refine Ops.put rfl rfl (ox_fieldAddr_var Request_Client f25_0) (.one rfl) (.nil) rfl ?_
  refine Ops.put rfl rfl (ox_load_fld t3) (.one rfl) (.one rfl) rfl ?_
  refine Ops.put rfl rfl (ox_fieldAddr_var Request_Token f25_1) (.one rfl) (.nil) rfl ?_
  refine Ops.put rfl rfl (ox_load_fld t3) (.one rfl) (.one rfl) rfl ?_
  refine Ops.put rfl rfl (ox_load_var t28) (.one rfl) (.one rfl) rfl ?_
  refine Ops.put rfl rfl (ox_buildB z30 u30 rfl (.cons Answer_Client f30_0 .tmp (.cons Answer_Token f30_1 .tmp (.cons Answer_Reply f30_2 .tmp Bld.nil)))) ((.app (.one rfl) (.app (.one rfl) (.app (.one rfl) .nil)))) (.nil) rfl ?_
  refine Ops.putO rfl rfl (ox_alloc (id := 7) z30) (.nil) (.nil) rfl (by kernel_rfl) ?_
  refine Ops.mute rfl rfl (ox_store_var t30 .tmp) ((.cons rfl (.one rfl))) (.one rfl) ?_
  refine Ops.nil ?_
  refine PT.sub (σ' := ⟨[(3, _), (4, _), (6, _), (7, _)], [(3, .var (a0) []), (4, .var (a1) []), (6, .var (({ Cells := ([] : List Int), Undo := ([] : List Mk.Write), Answers := ([] : List Mk.Answer), Past := ([] : List Mk.Request) } : Mk.Store)) []), (7, .var (({ Client := a1.Client, Token := a1.Token, Reply := a2 } : Mk.Answer)) [])]⟩) ⟨rfl, rfl, rfl, rfl, trivial⟩ ⟨rfl, rfl, rfl, rfl, trivial⟩ ?_
  refine PT.seq ?_
  refine PT.region ?_
  refine Ops.put rfl rfl (ox_assign .nilS) (.nil) (.nil) rfl ?_
  refine Ops.nil ?_
  refine PT.sub (σ' := ⟨[(3, _), (4, _), (6, _), (7, _), (8, .nilS)], [(3, .var (a0) []), (4, .var (a1) []), (6, .var (({ Cells := ([] : List Int), Undo := ([] : List Mk.Write), Answers := ([] : List Mk.Answer), Past := ([] : List Mk.Request) } : Mk.Store)) []), (7, .var (({ Client := a1.Client, Token := a1.Token, Reply := a2 } : Mk.Answer)) [])]⟩) ⟨rfl, rfl, rfl, rfl, rfl, trivial⟩ ⟨rfl, rfl, rfl, rfl, trivial⟩ ?_
  refine PT.seq ?_
  refine PT.region ?_
  refine Ops.put rfl rfl (ox_assign .bool) (.nil) (.nil) rfl ?_
  refine Ops.nil ?_
  refine PT.sub (σ' := ⟨[(3, _), (4, _), (6, _), (7, _), (8, .nilS), (9, .val (false))], [(3, .var (a0) []), (4, .var (a1) []), (6, .var (({ Cells := ([] : List Int), Undo := ([] : List Mk.Write), Answers := ([] : List Mk.Answer), Past := ([] : List Mk.Request) } : Mk.Store)) []), (7, .var (({ Client := a1.Client, Token := a1.Token, Reply := a2 } : Mk.Answer)) [])]⟩) ⟨rfl, rfl, rfl, rfl, rfl, rfl, trivial⟩ ⟨rfl, rfl, rfl, rfl, trivial⟩ ?_
  obtain ⟨k1, hk1, hφ⟩ := J_some hφ
  refine PT.cut (ι := Bool × Mk.Store × Mk.Request × Mk.Store × Mk.Answer × (List Mk.Answer)) (fun p => ⟨[(3, .ptr 3 (Lens.id (α := Mk.Store))), (4, .ptr 4 (Lens.id (α := Mk.Request))), (6, .ptr 6 (Lens.id (α := Mk.Store))), (7, .ptr 7 (Lens.id (α := Mk.Answer))), (8, .sl 1008), (9, .val (p.1))], [(3, .var (p.2.1) []), (4, .var (p.2.2.1) []), (6, .var (p.2.2.2.1) []), (7, .var (p.2.2.2.2.1) []), (1008, .arr 30 (p.2.2.2.2.2))]⟩) (fun p => k1 (p.1) (p.2.1) (p.2.2.1) (p.2.2.2.1) (p.2.2.2.2.1) (p.2.2.2.2.2) = some r) ?_ ?_
  · skip
    refine PT.seq ?_
    refine PT.region ?_
    refine Ops.put rfl rfl (ox_fieldAddr_var Store_Answers f48_2) (.one rfl) (.nil) rfl ?_
    refine Ops.put rfl rfl (ox_load_fld t45) (.one rfl) (.one rfl) rfl ?_
    refine Ops.put rfl rfl (ox_len s45 .tmp) (.one rfl) (.nil) rfl ?_
    refine Ops.put rfl rfl (ox_move .int) (.nil) (.nil) rfl ?_
    refine Ops.nil ?_
    refine PT.sub (σ' := ⟨[(3, _), (4, _), (6, _), (7, _), (8, .nilS), (9, .val (false)), (19, .val (a0.Answers)), (20, .val ((a0.Answers.length : Int))), (21, .val ((0 : Int)))], [(3, .var (a0) []), (4, .var (a1) []), (6, .var (({ Cells := ([] : List Int), Undo := ([] : List Mk.Write), Answers := ([] : List Mk.Answer), Past := ([] : List Mk.Request) } : Mk.Store)) []), (7, .var (({ Client := a1.Client, Token := a1.Token, Reply := a2 } : Mk.Answer)) [])]⟩) ⟨rfl, rfl, rfl, rfl, rfl, rfl, rfl, rfl, rfl, trivial⟩ ⟨rfl, rfl, rfl, rfl, trivial⟩ ?_
    refine PT.block ?_
    refine PT.nilArr 1008 8 30 (Mk.Answer) rfl (by kernel_rfl) ?_
    refine PT.loop (ι := Nat × Bool × (List Mk.Answer) × Int × Int × Mk.Store × Mk.Request × Mk.Store × Mk.Answer × (List Mk.Answer)) (fun p => ⟨[(3, .ptr 3 (Lens.id (α := Mk.Store))), (4, .ptr 4 (Lens.id (α := Mk.Request))), (6, .ptr 6 (Lens.id (α := Mk.Store))), (7, .ptr 7 (Lens.id (α := Mk.Answer))), (8, .sl 1008), (9, .val (p.2.1)), (19, .val (p.2.2.1)), (20, .val (p.2.2.2.1)), (21, .val (p.2.2.2.2.1))], [(3, .var (p.2.2.2.2.2.1) []), (4, .var (p.2.2.2.2.2.2.1) []), (6, .var (p.2.2.2.2.2.2.2.1) []), (7, .var (p.2.2.2.2.2.2.2.2.1) []), (1008, .arr 30 (p.2.2.2.2.2.2.2.2.2))]⟩) (fun p => mkref1_Commit_l1 k1 p.1 (p.2.1) (p.2.2.1) (p.2.2.2.1) (p.2.2.2.2.1) (p.2.2.2.2.2.1) (p.2.2.2.2.2.2.1) (p.2.2.2.2.2.2.2.1) (p.2.2.2.2.2.2.2.2.1) (p.2.2.2.2.2.2.2.2.2) = some r) (fun p => p.1) (((a0.Answers.length : Int) - (0 : Int)).toNat + 1, false, a0.Answers, (a0.Answers.length : Int), (0 : Int), a0, a1, ({ Cells := ([] : List Int), Undo := ([] : List Mk.Write), Answers := ([] : List Mk.Answer), Past := ([] : List Mk.Request) } : Mk.Store), ({ Client := a1.Client, Token := a1.Token, Reply := a2 } : Mk.Answer), ([] : List Mk.Answer)) hφ ⟨rfl, rfl, rfl, rfl, rfl, rfl, rfl, rfl, rfl, trivial⟩ ⟨rfl, rfl, rfl, rfl, rfl, trivial⟩ ?_
    rintro ⟨m2, x9_m2, x19_m2, x20_m2, x21_m2, y3_m2, y4_m2, y6_m2, y7_m2, y1008_m2⟩ (hφ : mkref1_Commit_l1 k1 m2 x9_m2 x19_m2 x20_m2 x21_m2 y3_m2 y4_m2 y6_m2 y7_m2 y1008_m2 = some r)
    obtain _ | m2 := m2
    · exact (none_no hφ).elim
    rw [mkref1_Commit_l1.eq_2] at hφ
    refine PT.sub (σ' := ⟨[(3, .ptr 3 (Lens.id (α := Mk.Store))), (4, .ptr 4 (Lens.id (α := Mk.Request))), (6, .ptr 6 (Lens.id (α := Mk.Store))), (7, .ptr 7 (Lens.id (α := Mk.Answer))), (8, .sl 1008), (9, .val (x9_m2)), (19, .val (x19_m2)), (20, .val (x20_m2)), (21, .val (x21_m2))], [(3, .var (y3_m2) []), (4, .var (y4_m2) []), (6, .var (y6_m2) []), (7, .var (y7_m2) []), (1008, .arr 30 (y1008_m2))]⟩) ⟨rfl, rfl, rfl, rfl, rfl, rfl, rfl, rfl, rfl, trivial⟩ ⟨rfl, rfl, rfl, rfl, rfl, trivial⟩ ?_
    refine PT.seq ?_
    refine PT.region ?_
    refine Ops.put rfl rfl (ox_lss .tmp .tmp) ((.app (.one rfl) (.one rfl))) (.nil) rfl ?_
    refine Ops.nil ?_
    refine PT.sub (σ' := ⟨[(3, _), (4, _), (6, _), (7, _), (8, _), (9, .val (x9_m2)), (19, .val (x19_m2)), (20, .val (x20_m2)), (21, .val (x21_m2)), (22, .val ((decide (x21_m2 < x20_m2))))], [(3, .var (y3_m2) []), (4, .var (y4_m2) []), (6, .var (y6_m2) []), (7, .var (y7_m2) []), (1008, .arr 30 (y1008_m2))]⟩) ⟨rfl, rfl, rfl, rfl, rfl, rfl, rfl, rfl, rfl, rfl, trivial⟩ ⟨rfl, rfl, rfl, rfl, rfl, trivial⟩ ?_
    refine PT.seq ?_
    refine PT.cond _ rfl (fun hc3 => ?_) (fun hc3 => ?_)
    · replace hφ := if_then hφ hc3
      refine PT.sub (σ' := ⟨[(3, _), (4, _), (6, _), (7, _), (8, _), (9, .val (x9_m2)), (19, .val (x19_m2)), (20, .val (x20_m2)), (21, .val (x21_m2))], [(3, .var (y3_m2) []), (4, .var (y4_m2) []), (6, .var (y6_m2) []), (7, .var (y7_m2) []), (1008, .arr 30 (y1008_m2))]⟩) ⟨rfl, rfl, rfl, rfl, rfl, rfl, rfl, rfl, rfl, trivial⟩ ⟨rfl, rfl, rfl, rfl, rfl, trivial⟩ ?_
      refine PT.skip ?_
      refine PT.seq ?_
      refine PT.block ?_
      refine PT.seq ?_
      obtain ⟨hb4, hφ⟩ := G_some hφ
      refine PT.region ?_
      refine Ops.put rfl rfl (ox_ix s45 .tmp .tmp hb4.1 hb4.2) ((.app (.one rfl) (.one rfl))) (.nil) rfl ?_
      refine Ops.put rfl rfl (ox_load_elem t30) (.one rfl) (.nil) rfl ?_
      refine Ops.putO rfl rfl (ox_alloc (id := 11) z30) (.nil) (.nil) rfl (by kernel_rfl) ?_
      refine Ops.mute rfl rfl (ox_store_var t30 .tmp) ((.cons rfl (.one rfl))) (.one rfl) ?_
      refine Ops.nil ?_
      refine PT.sub (σ' := ⟨[(3, _), (4, _), (6, _), (7, _), (8, _), (9, .val (x9_m2)), (11, _), (19, .val (x19_m2)), (20, .val (x20_m2)), (21, .val (x21_m2))], [(3, .var (y3_m2) []), (4, .var (y4_m2) []), (6, .var (y6_m2) []), (7, .var (y7_m2) []), (11, .var ((ix x19_m2 x21_m2)) []), (1008, .arr 30 (y1008_m2))]⟩) ⟨rfl, rfl, rfl, rfl, rfl, rfl, rfl, rfl, rfl, rfl, trivial⟩ ⟨rfl, rfl, rfl, rfl, rfl, rfl, trivial⟩ ?_
      obtain ⟨k5, hk5, hφ⟩ := J_some hφ
      refine PT.cut (ι := Bool × (List Mk.Answer) × Int × Int × Mk.Store × Mk.Request × Mk.Store × Mk.Answer × Mk.Answer × (List Mk.Answer)) (fun p => ⟨[(3, .ptr 3 (Lens.id (α := Mk.Store))), (4, .ptr 4 (Lens.id (α := Mk.Request))), (6, .ptr 6 (Lens.id (α := Mk.Store))), (7, .ptr 7 (Lens.id (α := Mk.Answer))), (8, .sl 1008), (9, .val (p.1)), (11, .ptr 11 (Lens.id (α := Mk.Answer))), (19, .val (p.2.1)), (20, .val (p.2.2.1)), (21, .val (p.2.2.2.1))], [(3, .var (p.2.2.2.2.1) []), (4, .var (p.2.2.2.2.2.1) []), (6, .var (p.2.2.2.2.2.2.1) []), (7, .var (p.2.2.2.2.2.2.2.1) []), (11, .var (p.2.2.2.2.2.2.2.2.1) []), (1008, .arr 30 (p.2.2.2.2.2.2.2.2.2))]⟩) (fun p => k5 (p.1) (p.2.1) (p.2.2.1) (p.2.2.2.1) (p.2.2.2.2.1) (p.2.2.2.2.2.1) (p.2.2.2.2.2.2.1) (p.2.2.2.2.2.2.2.1) (p.2.2.2.2.2.2.2.2.1) (p.2.2.2.2.2.2.2.2.2) = some r) ?_ ?_
      · skip
        refine PT.seq ?_
        refine PT.region ?_
        refine Ops.put rfl rfl (ox_fieldAddr_var Answer_Client f30_0) (.one rfl) (.nil) rfl ?_
        refine Ops.put rfl rfl (ox_load_fld t3) (.one rfl) (.one rfl) rfl ?_
        refine Ops.put rfl rfl (ox_fieldAddr_var Request_Client f25_0) (.one rfl) (.nil) rfl ?_
        refine Ops.put rfl rfl (ox_load_fld t3) (.one rfl) (.one rfl) rfl ?_
        refine Ops.put rfl rfl (ox_eql .tmp .tmp) ((.app (.one rfl) (.one rfl))) (.nil) rfl ?_
        refine Ops.put rfl rfl (ox_move .tmp) (.one rfl) (.nil) rfl ?_
        refine Ops.guard rfl rfl rfl rfl (.plain .nil) (fun hG => (ox_move .tmp)) ⟨rfl, trivial⟩ (.nil) rfl ?_
        refine Ops.guard rfl rfl rfl rfl (.cond (fun h => h) .nil) (fun hG => (ox_not .tmp)) ⟨rfl, trivial⟩ (.nil) rfl ?_
        refine Ops.put rfl rfl ox_pick_and (⟨rfl, rfl, trivial⟩) (.nil) rfl ?_
        refine Ops.nil ?_
        refine PT.sub (σ' := ⟨[(3, _), (4, _), (6, _), (7, _), (8, _), (9, .val (x9_m2)), (11, _), (19, .val (x19_m2)), (20, .val (x20_m2)), (21, .val (x21_m2)), (33, .val (((decide ((ix x19_m2 x21_m2).Client = y4_m2.Client)) && (!x9_m2))))], [(3, .var (y3_m2) []), (4, .var (y4_m2) []), (6, .var (y6_m2) []), (7, .var (y7_m2) []), (11, .var ((ix x19_m2 x21_m2)) []), (1008, .arr 30 (y1008_m2))]⟩) ⟨rfl, rfl, rfl, rfl, rfl, rfl, rfl, rfl, rfl, rfl, rfl, trivial⟩ ⟨rfl, rfl, rfl, rfl, rfl, rfl, trivial⟩ ?_
        refine PT.cond _ rfl (fun hc6 => ?_) (fun hc6 => ?_)
        · replace hφ := if_then hφ hc6
          refine PT.sub (σ' := ⟨[(3, _), (4, _), (6, _), (7, _), (8, _), (11, _), (19, .val (x19_m2)), (20, .val (x20_m2)), (21, .val (x21_m2))], [(3, .var (y3_m2) []), (4, .var (y4_m2) []), (6, .var (y6_m2) []), (7, .var (y7_m2) []), (11, .var ((ix x19_m2 x21_m2)) []), (1008, .arr 30 (y1008_m2))]⟩) ⟨rfl, rfl, rfl, rfl, rfl, rfl, rfl, rfl, rfl, trivial⟩ ⟨rfl, rfl, rfl, rfl, rfl, rfl, trivial⟩ ?_
          refine PT.seq ?_
          refine PT.region ?_
          refine Ops.put rfl rfl (ox_load_var t30) (.one rfl) (.one rfl) rfl ?_
          refine Ops.mute rfl rfl (ox_store_var t30 .tmp) ((.cons rfl (.one rfl))) (.one rfl) ?_
          refine Ops.nil ?_
          refine PT.sub (σ' := ⟨[(3, _), (4, _), (6, _), (7, _), (8, _), (11, _), (19, .val (x19_m2)), (20, .val (x20_m2)), (21, .val (x21_m2))], [(3, .var (y3_m2) []), (4, .var (y4_m2) []), (6, .var (y6_m2) []), (7, .var (y7_m2) []), (11, .var (y7_m2) []), (1008, .arr 30 (y1008_m2))]⟩) ⟨rfl, rfl, rfl, rfl, rfl, rfl, rfl, rfl, rfl, trivial⟩ ⟨rfl, rfl, rfl, rfl, rfl, rfl, trivial⟩ ?_
          refine PT.region ?_
          refine Ops.put rfl rfl (ox_assign .bool) (.nil) (.nil) rfl ?_
          refine Ops.nil ?_
          refine PT.sub (σ' := ⟨[(3, _), (4, _), (6, _), (7, _), (8, _), (9, .val (true)), (11, _), (19, .val (x19_m2)), (20, .val (x20_m2)), (21, .val (x21_m2))], [(3, .var (y3_m2) []), (4, .var (y4_m2) []), (6, .var (y6_m2) []), (7, .var (y7_m2) []), (11, .var (y7_m2) []), (1008, .arr 30 (y1008_m2))]⟩) ⟨rfl, rfl, rfl, rfl, rfl, rfl, rfl, rfl, rfl, rfl, trivial⟩ ⟨rfl, rfl, rfl, rfl, rfl, rfl, trivial⟩ ?_
          exact PT.meet (true, x19_m2, x20_m2, x21_m2, y3_m2, y4_m2, y6_m2, y7_m2, y7_m2, y1008_m2) hφ ⟨rfl, rfl, rfl, rfl, rfl, rfl, rfl, rfl, rfl, rfl, trivial⟩ ⟨rfl, rfl, rfl, rfl, rfl, rfl, trivial⟩
        · replace hφ := if_else hφ hc6
          refine PT.sub (σ' := ⟨[(3, _), (4, _), (6, _), (7, _), (8, _), (9, .val (x9_m2)), (11, _), (19, .val (x19_m2)), (20, .val (x20_m2)), (21, .val (x21_m2))], [(3, .var (y3_m2) []), (4, .var (y4_m2) []), (6, .var (y6_m2) []), (7, .var (y7_m2) []), (11, .var ((ix x19_m2 x21_m2)) []), (1008, .arr 30 (y1008_m2))]⟩) ⟨rfl, rfl, rfl, rfl, rfl, rfl, rfl, rfl, rfl, rfl, trivial⟩ ⟨rfl, rfl, rfl, rfl, rfl, rfl, trivial⟩ ?_
          refine PT.skip ?_
          exact PT.meet (x9_m2, x19_m2, x20_m2, x21_m2, y3_m2, y4_m2, y6_m2, y7_m2, (ix x19_m2 x21_m2), y1008_m2) hφ ⟨rfl, rfl, rfl, rfl, rfl, rfl, rfl, rfl, rfl, rfl, trivial⟩ ⟨rfl, rfl, rfl, rfl, rfl, rfl, trivial⟩
      · rintro ⟨x9_k5, x19_k5, x20_k5, x21_k5, y3_k5, y4_k5, y6_k5, y7_k5, y11_k5, y1008_k5⟩ hφ
        subst hk5
        refine PT.sub (σ' := ⟨[(3, .ptr 3 (Lens.id (α := Mk.Store))), (4, .ptr 4 (Lens.id (α := Mk.Request))), (6, .ptr 6 (Lens.id (α := Mk.Store))), (7, .ptr 7 (Lens.id (α := Mk.Answer))), (8, .sl 1008), (9, .val (x9_k5)), (11, .ptr 11 (Lens.id (α := Mk.Answer))), (19, .val (x19_k5)), (20, .val (x20_k5)), (21, .val (x21_k5))], [(3, .var (y3_k5) []), (4, .var (y4_k5) []), (6, .var (y6_k5) []), (7, .var (y7_k5) []), (11, .var (y11_k5) []), (1008, .arr 30 (y1008_k5))]⟩) ⟨rfl, rfl, rfl, rfl, rfl, rfl, rfl, rfl, rfl, rfl, trivial⟩ ⟨rfl, rfl, rfl, rfl, rfl, rfl, trivial⟩ ?_
        obtain ⟨hb7, hφ⟩ := G_some hφ
        refine PT.region ?_
        refine Ops.put rfl rfl (ox_move .tmp) (.one rfl) (.nil) rfl ?_
        refine Ops.put rfl rfl (ox_load_var t30) (.one rfl) (.one rfl) rfl ?_
        refine Ops.put rfl rfl (ox_buildSlice_val s45 z30 (.cons .tmp Parts.nil) rfl (by decide)) ((.app (.one rfl) .nil)) (.nil) rfl ?_
        refine Ops.putK [8, 35] rfl rfl (ox_append a45 .tmp .tmp hb7.1 hb7.2) ((.app (.one rfl) (.one rfl))) (.one rfl) rfl (by kernel_rfl) ?_
        refine Ops.put rfl rfl (ox_assign .tmp) (.one rfl) (.nil) rfl ?_
        refine Ops.nil ?_
        refine PT.sub (σ' := ⟨[(3, _), (4, _), (6, _), (7, _), (8, _), (9, .val (x9_k5)), (19, .val (x19_k5)), (20, .val (x20_k5)), (21, .val (x21_k5))], [(3, .var (y3_k5) []), (4, .var (y4_k5) []), (6, .var (y6_k5) []), (7, .var (y7_k5) []), (1008, .arr 30 ((y1008_k5 ++ ([y11_k5] : List Mk.Answer))))]⟩) ⟨rfl, rfl, rfl, rfl, rfl, rfl, rfl, rfl, rfl, trivial⟩ ⟨rfl, rfl, rfl, rfl, rfl, trivial⟩ ?_
        obtain ⟨hb8, hφ⟩ := G_some hφ
        refine PT.region ?_
        refine Ops.put rfl rfl (ox_add .tmp .int hb8) ((.app (.one rfl) (.nil))) (.nil) rfl ?_
        refine Ops.put rfl rfl (ox_move .tmp) (.one rfl) (.nil) rfl ?_
        refine Ops.nil ?_
        refine PT.sub (σ' := ⟨[(3, _), (4, _), (6, _), (7, _), (8, _), (9, .val (x9_k5)), (19, .val (x19_k5)), (20, .val (x20_k5)), (21, .val ((x21_k5 + (1 : Int))))], [(3, .var (y3_k5) []), (4, .var (y4_k5) []), (6, .var (y6_k5) []), (7, .var (y7_k5) []), (1008, .arr 30 ((y1008_k5 ++ ([y11_k5] : List Mk.Answer))))]⟩) ⟨rfl, rfl, rfl, rfl, rfl, rfl, rfl, rfl, rfl, trivial⟩ ⟨rfl, rfl, rfl, rfl, rfl, trivial⟩ ?_
        exact PT.next (m2, x9_k5, x19_k5, x20_k5, (x21_k5 + (1 : Int)), y3_k5, y4_k5, y6_k5, y7_k5, (y1008_k5 ++ ([y11_k5] : List Mk.Answer))) hφ (Nat.lt_succ_self _) ⟨rfl, rfl, rfl, rfl, rfl, rfl, rfl, rfl, rfl, trivial⟩ ⟨rfl, rfl, rfl, rfl, rfl, trivial⟩
    · replace hφ := if_else hφ hc3
      refine PT.sub (σ' := ⟨[(3, _), (4, _), (6, _), (7, _), (8, _), (9, .val (x9_m2))], [(3, .var (y3_m2) []), (4, .var (y4_m2) []), (6, .var (y6_m2) []), (7, .var (y7_m2) []), (1008, .arr 30 (y1008_m2))]⟩) ⟨rfl, rfl, rfl, rfl, rfl, rfl, trivial⟩ ⟨rfl, rfl, rfl, rfl, rfl, trivial⟩ ?_
      refine PT.exit ?_
      exact PT.meet (x9_m2, y3_m2, y4_m2, y6_m2, y7_m2, y1008_m2) hφ ⟨rfl, rfl, rfl, rfl, rfl, rfl, trivial⟩ ⟨rfl, rfl, rfl, rfl, rfl, trivial⟩
  · rintro ⟨x9_k1, y3_k1, y4_k1, y6_k1, y7_k1, y1008_k1⟩ hφ
    subst hk1
    refine PT.sub (σ' := ⟨[(3, .ptr 3 (Lens.id (α := Mk.Store))), (4, .ptr 4 (Lens.id (α := Mk.Request))), (6, .ptr 6 (Lens.id (α := Mk.Store))), (7, .ptr 7 (Lens.id (α := Mk.Answer))), (8, .sl 1008), (9, .val (x9_k1))], [(3, .var (y3_k1) []), (4, .var (y4_k1) []), (6, .var (y6_k1) []), (7, .var (y7_k1) []), (1008, .arr 30 (y1008_k1))]⟩) ⟨rfl, rfl, rfl, rfl, rfl, rfl, trivial⟩ ⟨rfl, rfl, rfl, rfl, rfl, trivial⟩ ?_
    obtain ⟨k9, hk9, hφ⟩ := J_some hφ
    refine PT.cut (ι := Mk.Store × Mk.Request × Mk.Store × (List Mk.Answer)) (fun p => ⟨[(3, .ptr 3 (Lens.id (α := Mk.Store))), (4, .ptr 4 (Lens.id (α := Mk.Request))), (6, .ptr 6 (Lens.id (α := Mk.Store))), (8, .sl 1008)], [(3, .var (p.1) []), (4, .var (p.2.1) []), (6, .var (p.2.2.1) []), (1008, .arr 30 (p.2.2.2))]⟩) (fun p => k9 (p.1) (p.2.1) (p.2.2.1) (p.2.2.2) = some r) ?_ ?_
    · skip
      refine PT.seq ?_
      refine PT.region ?_
      refine Ops.put rfl rfl (ox_move .tmp) (.one rfl) (.nil) rfl ?_
      refine Ops.put rfl rfl (ox_not .tmp) (.one rfl) (.nil) rfl ?_
      refine Ops.nil ?_
      refine PT.sub (σ' := ⟨[(3, _), (4, _), (6, _), (7, _), (8, _), (41, .val ((!x9_k1)))], [(3, .var (y3_k1) []), (4, .var (y4_k1) []), (6, .var (y6_k1) []), (7, .var (y7_k1) []), (1008, .arr 30 (y1008_k1))]⟩) ⟨rfl, rfl, rfl, rfl, rfl, rfl, trivial⟩ ⟨rfl, rfl, rfl, rfl, rfl, trivial⟩ ?_
      refine PT.cond _ rfl (fun hc10 => ?_) (fun hc10 => ?_)
      · replace hφ := if_then hφ hc10
        refine PT.sub (σ' := ⟨[(3, _), (4, _), (6, _), (7, _), (8, _)], [(3, .var (y3_k1) []), (4, .var (y4_k1) []), (6, .var (y6_k1) []), (7, .var (y7_k1) []), (1008, .arr 30 (y1008_k1))]⟩) ⟨rfl, rfl, rfl, rfl, rfl, trivial⟩ ⟨rfl, rfl, rfl, rfl, rfl, trivial⟩ ?_
        obtain ⟨hb11, hφ⟩ := G_some hφ
        refine PT.region ?_
        refine Ops.put rfl rfl (ox_move .tmp) (.one rfl) (.nil) rfl ?_
        refine Ops.put rfl rfl (ox_load_var t30) (.one rfl) (.one rfl) rfl ?_
        refine Ops.put rfl rfl (ox_buildSlice_val s45 z30 (.cons .tmp Parts.nil) rfl (by decide)) ((.app (.one rfl) .nil)) (.nil) rfl ?_
        refine Ops.putK [8, 42] rfl rfl (ox_append a45 .tmp .tmp hb11.1 hb11.2) ((.app (.one rfl) (.one rfl))) (.one rfl) rfl (by kernel_rfl) ?_
        refine Ops.put rfl rfl (ox_assign .tmp) (.one rfl) (.nil) rfl ?_
        refine Ops.nil ?_
        refine PT.sub (σ' := ⟨[(3, _), (4, _), (6, _), (8, _)], [(3, .var (y3_k1) []), (4, .var (y4_k1) []), (6, .var (y6_k1) []), (1008, .arr 30 ((y1008_k1 ++ ([y7_k1] : List Mk.Answer))))]⟩) ⟨rfl, rfl, rfl, rfl, trivial⟩ ⟨rfl, rfl, rfl, rfl, trivial⟩ ?_
        exact PT.meet (y3_k1, y4_k1, y6_k1, (y1008_k1 ++ ([y7_k1] : List Mk.Answer))) hφ ⟨rfl, rfl, rfl, rfl, trivial⟩ ⟨rfl, rfl, rfl, rfl, trivial⟩
      · replace hφ := if_else hφ hc10
        refine PT.sub (σ' := ⟨[(3, _), (4, _), (6, _), (8, _)], [(3, .var (y3_k1) []), (4, .var (y4_k1) []), (6, .var (y6_k1) []), (1008, .arr 30 (y1008_k1))]⟩) ⟨rfl, rfl, rfl, rfl, trivial⟩ ⟨rfl, rfl, rfl, rfl, trivial⟩ ?_
        refine PT.skip ?_
        exact PT.meet (y3_k1, y4_k1, y6_k1, y1008_k1) hφ ⟨rfl, rfl, rfl, rfl, trivial⟩ ⟨rfl, rfl, rfl, rfl, trivial⟩
    · rintro ⟨y3_k9, y4_k9, y6_k9, y1008_k9⟩ hφ
      subst hk9
      refine PT.sub (σ' := ⟨[(3, .ptr 3 (Lens.id (α := Mk.Store))), (4, .ptr 4 (Lens.id (α := Mk.Request))), (6, .ptr 6 (Lens.id (α := Mk.Store))), (8, .sl 1008)], [(3, .var (y3_k9) []), (4, .var (y4_k9) []), (6, .var (y6_k9) []), (1008, .arr 30 (y1008_k9))]⟩) ⟨rfl, rfl, rfl, rfl, trivial⟩ ⟨rfl, rfl, rfl, rfl, trivial⟩ ?_
      refine PT.seq ?_
      refine PT.freeze 1008 [8] rfl ⟨rfl, trivial⟩ ?_
      obtain ⟨hb12, hφ⟩ := G_some hφ
      obtain ⟨hb13, hφ⟩ := G_some hφ
      refine PT.draw hMixed (
          Segs.cons (Step.put rfl rfl (ox_fieldAddr_var Store_Cells f48_0)) ⟨.one rfl, .nil⟩ (by kernel_rfl) rfl <|
          Segs.cons (Step.put rfl rfl (ox_load_fld t43)) ⟨.one rfl, .one rfl⟩ (by kernel_rfl) rfl <|
          Segs.cons (Step.put rfl rfl (ox_move .tmp)) ⟨.one rfl, .nil⟩ (by kernel_rfl) rfl <|
          Segs.cons (Step.put rfl rfl (ox_buildSlice_arr (id := 49) s46 z25 Parts.nil rfl (by decide))) ⟨.nil, .nil⟩ (by kernel_rfl) rfl <|
          Segs.cons (Step.put rfl rfl (ox_fieldAddr_var Store_Past f48_3)) ⟨.one rfl, .nil⟩ (by kernel_rfl) rfl <|
          Segs.cons (Step.put rfl rfl (ox_load_fld t46)) ⟨.one rfl, .one rfl⟩ (by kernel_rfl) rfl <|
          Segs.cons (Step.putK [49] rfl rfl (ox_append a46 .tmp .tmp hb12.1 hb12.2)) ⟨(.app (.one rfl) (.one rfl)), .one rfl⟩ (by kernel_rfl) rfl <|
          Segs.cons (Step.put rfl rfl (ox_load_var t25)) ⟨.one rfl, .one rfl⟩ (by kernel_rfl) rfl <|
          Segs.cons (Step.put rfl rfl (ox_buildSlice_val s46 z25 (.cons .tmp Parts.nil) rfl (by decide))) ⟨(.app (.one rfl) .nil), .nil⟩ (by kernel_rfl) rfl <|
          Segs.cons (Step.putK [49, 52] rfl rfl (ox_appendV a46 .tmp .tmp hb13.1 hb13.2)) ⟨(.app (.one rfl) (.one rfl)), .one rfl⟩ (by kernel_rfl) rfl <|
          Segs.cons (Step.put rfl rfl (ox_buildB z48 u48 rfl (.cons Store_Cells f48_0 .tmp (.cons Store_Answers f48_2 .tmp (.cons Store_Past f48_3 .tmp Bld.nil))))) ⟨(.app (.one rfl) (.app (.one rfl) (.app (.one rfl) .nil))), .nil⟩ (by kernel_rfl) rfl <|
          Segs.cons (Step.mute rfl rfl (ox_store_var t48 .tmp)) ⟨(.cons rfl (.one rfl)), .one rfl⟩ (by kernel_rfl) rfl <|
          Segs.nil) _ [[], [0], [], [], [], [4], [3, 4, 5], [], [7], [3, 4, 5, 6, 7, 8], [0, 1, 2, 3, 4, 5, 6, 7, 8, 9], [0, 1, 2, 3, 4, 5, 6, 7, 8, 9, 10]] rfl (by kernel_rfl) (by kernel_rfl) ?_
      refine PT.sub (σ' := ⟨[(6, _)], [(6, .var (({ Cells := y3_k9.Cells, Undo := ([] : List Mk.Write), Answers := y1008_k9, Past := ((([] : List Mk.Request) ++ y3_k9.Past) ++ ([y4_k9] : List Mk.Request)) } : Mk.Store)) [])]⟩) ⟨rfl, trivial⟩ ⟨rfl, trivial⟩ ?_
      refine PT.ret ?_
      obtain rfl := Option.some.inj hφ
      exact PT.done hw0 rfl (.cell t48 rfl rfl .nil) rfl

/-- mendkernel/store.Back -/
theorem c_store_Back {a0 : Mk.Store} {r : Mk.Store} (hφ : store_Back a0 = some r) : Fn Go.Proofs.Try.prog 44 [.val a0] (.val r) := by
  unfold store_Back at hφ
  refine Fn.mk' Go.Proofs.Try.func44 rfl (by decide) rfl rfl rfl (fun w0 hw0 => ?_)
  refine PT.seq ?_
  refine PT.region ?_
  refine Ops.putO rfl rfl (ox_box (id := 1) .tmp) (.one rfl) (.nil) rfl (by kernel_rfl) ?_
  refine Ops.putO rfl rfl (ox_alloc (id := 2) z48) (.nil) (.nil) rfl (by kernel_rfl) ?_
  refine Ops.nil ?_
  refine PT.sub (σ' := ⟨[(1, _), (2, _)], [(1, .var (a0) []), (2, .var (({ Cells := ([] : List Int), Undo := ([] : List Mk.Write), Answers := ([] : List Mk.Answer), Past := ([] : List Mk.Request) } : Mk.Store)) [])]⟩) ⟨rfl, rfl, trivial⟩ ⟨rfl, rfl, trivial⟩ ?_
  refine PT.seq ?_
  obtain ⟨v1, hv1, hφ⟩ := B_some hφ
  refine PT.region ?_
  refine Ops.put rfl rfl (ox_load_var t48) (.one rfl) (.one rfl) rfl ?_
  refine Ops.put rfl rfl (ox_call (c_store_Own hv1) (.cons .tmp .nil)) ((.app (.one rfl) .nil)) (.nil) rfl ?_
  refine Ops.putO rfl rfl (ox_alloc (id := 3) z48) (.nil) (.nil) rfl (by kernel_rfl) ?_
  refine Ops.mute rfl rfl (ox_store_var t48 .tmp) ((.cons rfl (.one rfl))) (.one rfl) ?_
  refine Ops.nil ?_
  refine PT.sub (σ' := ⟨[(2, _), (3, _)], [(2, .var (({ Cells := ([] : List Int), Undo := ([] : List Mk.Write), Answers := ([] : List Mk.Answer), Past := ([] : List Mk.Request) } : Mk.Store)) []), (3, .var (v1) [])]⟩) ⟨rfl, rfl, trivial⟩ ⟨rfl, rfl, trivial⟩ ?_
  refine PT.seq ?_
  obtain ⟨v2, hv2, hφ⟩ := B_some hφ
  refine PT.region ?_
  refine Ops.put rfl rfl (ox_fieldAddr_var Store_Cells f48_0) (.one rfl) (.nil) rfl ?_
  refine Ops.put rfl rfl (ox_load_fld t43) (.one rfl) (.one rfl) rfl ?_
  refine Ops.put rfl rfl (ox_fieldAddr_var Store_Undo f48_1) (.one rfl) (.nil) rfl ?_
  refine Ops.put rfl rfl (ox_load_fld t44) (.one rfl) (.one rfl) rfl ?_
  refine Ops.put rfl rfl (ox_call (c_cell_Set hv2) (.cons .tmp (.cons .tmp .nil))) ((.app (.one rfl) (.app (.one rfl) .nil))) (.nil) rfl ?_
  refine Ops.put rfl rfl (ox_fieldAddr_var Store_Cells f48_0) (.one rfl) (.nil) rfl ?_
  refine Ops.mute rfl rfl (ox_store_fld t43 .tmp) ((.cons rfl (.one rfl))) (.one rfl) ?_
  refine Ops.nil ?_
  refine PT.sub (σ' := ⟨[(2, _), (3, _)], [(2, .var (({ Cells := ([] : List Int), Undo := ([] : List Mk.Write), Answers := ([] : List Mk.Answer), Past := ([] : List Mk.Request) } : Mk.Store)) []), (3, .var ({ v1 with Cells := v2 }) [])]⟩) ⟨rfl, rfl, trivial⟩ ⟨rfl, rfl, trivial⟩ ?_
  refine PT.seq ?_
  refine PT.region ?_
  refine Ops.put rfl rfl (ox_fieldAddr_var Store_Undo f48_1) (.one rfl) (.nil) rfl ?_
  refine Ops.mute rfl rfl (ox_store_fld t44 (.nilL (α := Mk.Write))) ((.cons rfl (.nil))) (.one rfl) ?_
  refine Ops.nil ?_
  refine PT.sub (σ' := ⟨[(2, _), (3, _)], [(2, .var (({ Cells := ([] : List Int), Undo := ([] : List Mk.Write), Answers := ([] : List Mk.Answer), Past := ([] : List Mk.Request) } : Mk.Store)) []), (3, .var ({ ({ v1 with Cells := v2 }) with Undo := ([] : List Mk.Write) }) [])]⟩) ⟨rfl, rfl, trivial⟩ ⟨rfl, rfl, trivial⟩ ?_
  refine PT.seq ?_
  refine PT.region ?_
  refine Ops.put rfl rfl (ox_load_var t48) (.one rfl) (.one rfl) rfl ?_
  refine Ops.mute rfl rfl (ox_store_var t48 .tmp) ((.cons rfl (.one rfl))) (.one rfl) ?_
  refine Ops.nil ?_
  refine PT.sub (σ' := ⟨[(2, _)], [(2, .var ({ ({ v1 with Cells := v2 }) with Undo := ([] : List Mk.Write) }) [])]⟩) ⟨rfl, trivial⟩ ⟨rfl, trivial⟩ ?_
  refine PT.ret ?_
  obtain rfl := Option.some.inj hφ
  exact PT.done hw0 rfl (.cell t48 rfl rfl .nil) rfl

/-- mendkernel/mkref1.Back -/
theorem c_mkref1_Back {a0 : Mk.Store} {r : Mk.Store} (hφ : mkref1_Back a0 = some r) : Fn Go.Proofs.Try.prog 45 [.val a0] (.val r) := by
  unfold mkref1_Back at hφ
  refine Fn.mk' Go.Proofs.Try.func45 rfl (by decide) rfl rfl rfl (fun w0 hw0 => ?_)
  refine PT.seq ?_
  refine PT.region ?_
  refine Ops.putO rfl rfl (ox_box (id := 1) .tmp) (.one rfl) (.nil) rfl (by kernel_rfl) ?_
  refine Ops.putO rfl rfl (ox_alloc (id := 2) z48) (.nil) (.nil) rfl (by kernel_rfl) ?_
  refine Ops.nil ?_
  refine PT.sub (σ' := ⟨[(1, _), (2, _)], [(1, .var (a0) []), (2, .var (({ Cells := ([] : List Int), Undo := ([] : List Mk.Write), Answers := ([] : List Mk.Answer), Past := ([] : List Mk.Request) } : Mk.Store)) [])]⟩) ⟨rfl, rfl, trivial⟩ ⟨rfl, rfl, trivial⟩ ?_
  refine PT.seq ?_
  obtain ⟨v1, hv1, hφ⟩ := B_some hφ
  refine PT.region ?_
  refine Ops.put rfl rfl (ox_fieldAddr_var Store_Cells f48_0) (.one rfl) (.nil) rfl ?_
  refine Ops.put rfl rfl (ox_load_fld t43) (.one rfl) (.one rfl) rfl ?_
  refine Ops.put rfl rfl (ox_fieldAddr_var Store_Undo f48_1) (.one rfl) (.nil) rfl ?_
  refine Ops.put rfl rfl (ox_load_fld t44) (.one rfl) (.one rfl) rfl ?_
  refine Ops.put rfl rfl (ox_call (c_mkref1_Set2 hv1) (.cons .tmp (.cons .tmp .nil))) ((.app (.one rfl) (.app (.one rfl) .nil))) (.nil) rfl ?_
  refine Ops.put rfl rfl (ox_fieldAddr_var Store_Cells f48_0) (.one rfl) (.nil) rfl ?_
  refine Ops.mute rfl rfl (ox_store_fld t43 .tmp) ((.cons rfl (.one rfl))) (.one rfl) ?_
  refine Ops.nil ?_
  refine PT.sub (σ' := ⟨[(1, _), (2, _)], [(1, .var ({ a0 with Cells := v1 }) []), (2, .var (({ Cells := ([] : List Int), Undo := ([] : List Mk.Write), Answers := ([] : List Mk.Answer), Past := ([] : List Mk.Request) } : Mk.Store)) [])]⟩) ⟨rfl, rfl, trivial⟩ ⟨rfl, rfl, trivial⟩ ?_
  refine PT.seq ?_
  refine PT.region ?_
  refine Ops.put rfl rfl (ox_fieldAddr_var Store_Undo f48_1) (.one rfl) (.nil) rfl ?_
  refine Ops.mute rfl rfl (ox_store_fld t44 (.nilL (α := Mk.Write))) ((.cons rfl (.nil))) (.one rfl) ?_
  refine Ops.nil ?_
  refine PT.sub (σ' := ⟨[(1, _), (2, _)], [(1, .var ({ ({ a0 with Cells := v1 }) with Undo := ([] : List Mk.Write) }) []), (2, .var (({ Cells := ([] : List Int), Undo := ([] : List Mk.Write), Answers := ([] : List Mk.Answer), Past := ([] : List Mk.Request) } : Mk.Store)) [])]⟩) ⟨rfl, rfl, trivial⟩ ⟨rfl, rfl, trivial⟩ ?_
  refine PT.seq ?_
  refine PT.region ?_
  refine Ops.put rfl rfl (ox_load_var t48) (.one rfl) (.one rfl) rfl ?_
  refine Ops.mute rfl rfl (ox_store_var t48 .tmp) ((.cons rfl (.one rfl))) (.one rfl) ?_
  refine Ops.nil ?_
  refine PT.sub (σ' := ⟨[(2, _)], [(2, .var ({ ({ a0 with Cells := v1 }) with Undo := ([] : List Mk.Write) }) [])]⟩) ⟨rfl, trivial⟩ ⟨rfl, trivial⟩ ?_
  refine PT.ret ?_
  obtain rfl := Option.some.inj hφ
  exact PT.done hw0 rfl (.cell t48 rfl rfl .nil) rfl
end Go.Gx
