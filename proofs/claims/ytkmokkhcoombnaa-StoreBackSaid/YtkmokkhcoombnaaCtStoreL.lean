/- FUNCTIONS OF THE PROGRAM ANSWER WHAT THEIR SPECS ANSWER: printed by gen3.py. -/
import Derived.Test.YtkmokkhcoombnaaGt
import Derived.Test.YtkmokkhcoombnaaSpStoreL
import Derived.Test.YtkmokkhcoombnaaChecked
import Derived.Test.YtkmokkhcoombnaaCtStore
namespace Go.Gx
open Sp
set_option linter.unusedVariables false
set_option linter.unusedSimpArgs false
set_option maxRecDepth 20000
/-- mendkernel/mklaw6.alive -/
theorem c_mklaw6_alive  {r : Bool} (hφ : mklaw6_alive  = some r) : Fn Go.Proofs.Try.prog 46 [] (.val r) := by
  unfold mklaw6_alive at hφ
  refine Fn.mk' Go.Proofs.Try.func46 rfl (by decide) rfl rfl rfl (fun w0 hw0 => ?_)
  refine PT.seq ?_
  refine PT.region ?_
  refine Ops.put rfl rfl (ox_assign .bool) (.nil) (.nil) rfl ?_
  refine Ops.nil ?_
  refine PT.sub (σ' := ⟨[], []⟩) trivial trivial ?_
  refine PT.seq ?_
  obtain ⟨v1, hv1, hφ⟩ := B_some hφ
  obtain ⟨v2, hv2, hφ⟩ := B_some hφ
  obtain ⟨v3, hv3, hφ⟩ := B_some hφ
  refine PT.region ?_
  refine Ops.put rfl rfl (ox_call (c_store_New hv1) .nil) (.nil) (.nil) rfl ?_
  refine Ops.put rfl rfl (ox_buildB z50 u50 rfl (.cons Write_At f50_0 .int (.cons Write_N f50_1 .int Bld.nil))) ((.app (.nil) (.app (.nil) .nil))) (.nil) rfl ?_
  refine Ops.put rfl rfl (ox_call (c_store_Write hv2) (.cons .tmp (.cons .tmp .nil))) ((.app (.one rfl) (.app (.one rfl) .nil))) (.nil) rfl ?_
  refine Ops.put rfl rfl (ox_buildB z50 u50 rfl (.cons Write_At f50_0 .int (.cons Write_N f50_1 .int Bld.nil))) ((.app (.nil) (.app (.nil) .nil))) (.nil) rfl ?_
  refine Ops.put rfl rfl (ox_call (c_store_Write hv3) (.cons .tmp (.cons .tmp .nil))) ((.app (.one rfl) (.app (.one rfl) .nil))) (.nil) rfl ?_
  refine Ops.putO rfl rfl (ox_alloc (id := 1) z48) (.nil) (.nil) rfl (by kernel_rfl) ?_
  refine Ops.mute rfl rfl (ox_store_var t48 .tmp) ((.cons rfl (.one rfl))) (.one rfl) ?_
  refine Ops.nil ?_
  refine PT.sub (σ' := ⟨[(1, _)], [(1, .var (v3) [])]⟩) ⟨rfl, trivial⟩ ⟨rfl, trivial⟩ ?_
  refine PT.seq ?_
  obtain ⟨v4, hv4, hφ⟩ := B_some hφ
  refine PT.region ?_
  refine Ops.put rfl rfl (ox_load_var t48) (.one rfl) (.one rfl) rfl ?_
  refine Ops.put rfl rfl (ox_call (c_store_Back hv4) (.cons .tmp .nil)) ((.app (.one rfl) .nil)) (.nil) rfl ?_
  refine Ops.putO rfl rfl (ox_alloc (id := 2) z48) (.nil) (.nil) rfl (by kernel_rfl) ?_
  refine Ops.mute rfl rfl (ox_store_var t48 .tmp) ((.cons rfl (.one rfl))) (.one rfl) ?_
  refine Ops.nil ?_
  refine PT.sub (σ' := ⟨[(1, _), (2, _)], [(1, .var (v3) []), (2, .var (v4) [])]⟩) ⟨rfl, rfl, trivial⟩ ⟨rfl, rfl, trivial⟩ ?_
  refine PT.seq ?_
  obtain ⟨v5, hv5, hφ⟩ := B_some hφ
  refine PT.region ?_
  refine Ops.put rfl rfl (ox_load_var t48) (.one rfl) (.one rfl) rfl ?_
  refine Ops.put rfl rfl (ox_buildB z25 u25 rfl (.cons Request_Client f25_0 .int (.cons Request_Token f25_1 .int Bld.nil))) ((.app (.nil) (.app (.nil) .nil))) (.nil) rfl ?_
  refine Ops.put rfl rfl (ox_buildB z28 u28 rfl (.cons Reply_N f28_1 .int Bld.nil)) ((.app (.nil) .nil)) (.nil) rfl ?_
  refine Ops.put rfl rfl (ox_call (c_store_Commit hv5) (.cons .tmp (.cons .tmp (.cons .tmp .nil)))) ((.app (.one rfl) (.app (.one rfl) (.app (.one rfl) .nil)))) (.nil) rfl ?_
  refine Ops.putO rfl rfl (ox_alloc (id := 3) z48) (.nil) (.nil) rfl (by kernel_rfl) ?_
  refine Ops.mute rfl rfl (ox_store_var t48 .tmp) ((.cons rfl (.one rfl))) (.one rfl) ?_
  refine Ops.nil ?_
  refine PT.sub (σ' := ⟨[(1, _), (2, _), (3, _)], [(1, .var (v3) []), (2, .var (v4) []), (3, .var (v5) [])]⟩) ⟨rfl, rfl, rfl, trivial⟩ ⟨rfl, rfl, rfl, trivial⟩ ?_
  refine PT.seq ?_
  obtain ⟨v6, hv6, hφ⟩ := B_some hφ
  refine PT.region ?_
  refine Ops.put rfl rfl (ox_load_var t48) (.one rfl) (.one rfl) rfl ?_
  refine Ops.put rfl rfl (ox_call (c_store_Last hv6) (.cons .tmp (.cons .int .nil))) ((.app (.one rfl) (.app (.nil) .nil))) (.nil) rfl ?_
  refine Ops.put rfl rfl (ox_move .tmp) (.one rfl) (.nil) rfl ?_
  refine Ops.put rfl rfl (ox_extract rfl) (.one rfl) (.nil) rfl ?_
  refine Ops.put rfl rfl (ox_extract rfl) (.one rfl) (.nil) rfl ?_
  refine Ops.putO rfl rfl (ox_alloc (id := 4) z30) (.nil) (.nil) rfl (by kernel_rfl) ?_
  refine Ops.mute rfl rfl (ox_store_var t30 .tmp) ((.cons rfl (.one rfl))) (.one rfl) ?_
  refine Ops.put rfl rfl (ox_assign .tmp) (.one rfl) (.nil) rfl ?_
  refine Ops.nil ?_
  refine PT.sub (σ' := ⟨[(1, _), (2, _), (3, _), (4, _), (5, .val (v6.2))], [(1, .var (v3) []), (2, .var (v4) []), (3, .var (v5) []), (4, .var (v6.1) [])]⟩) ⟨rfl, rfl, rfl, rfl, rfl, trivial⟩ ⟨rfl, rfl, rfl, rfl, trivial⟩ ?_
  refine PT.seq ?_
  obtain ⟨hb7, hφ⟩ := G_some hφ
  obtain ⟨hb8, hφ⟩ := G_some hφ
  obtain ⟨hb9, hφ⟩ := G_some hφ
  obtain ⟨v10, hv10, hφ⟩ := B_some hφ
  refine PT.region ?_
  refine Ops.put rfl rfl (ox_fieldAddr_var Store_Undo f48_1) (.one rfl) (.nil) rfl ?_
  refine Ops.put rfl rfl (ox_load_fld t44) (.one rfl) (.one rfl) rfl ?_
  refine Ops.put rfl rfl (ox_len s44 .tmp) (.one rfl) (.nil) rfl ?_
  refine Ops.put rfl rfl (ox_eql .tmp .int) ((.app (.one rfl) (.nil))) (.nil) rfl ?_
  refine Ops.put rfl rfl (ox_move .tmp) (.one rfl) (.nil) rfl ?_
  refine Ops.guard rfl rfl rfl rfl (.plain .nil) (fun hG => (ox_fieldAddr_var Store_Cells f48_0)) ⟨rfl, trivial⟩ (.nil) rfl ?_
  refine Ops.guard rfl rfl rfl rfl (.cond (fun h => h) .nil) (fun hG => (ox_load_fld t43)) ⟨rfl, trivial⟩ (.one rfl) rfl ?_
  refine Ops.guard rfl rfl rfl rfl (.cond (fun h => h) .nil) (fun hG => (ox_ix s43 .tmp .int (hb7 hG).1 (hb7 hG).2)) ⟨rfl, trivial⟩ (.nil) rfl ?_
  refine Ops.guard rfl rfl rfl rfl (.cond (fun h => h) .nil) (fun hG => (ox_load_elem t3)) ⟨rfl, trivial⟩ (.nil) rfl ?_
  refine Ops.guard rfl rfl rfl rfl (.cond (fun h => h) .nil) (fun hG => (ox_eql .tmp .int)) ⟨rfl, trivial⟩ (.nil) rfl ?_
  refine Ops.put rfl rfl ox_pick_and (⟨rfl, rfl, trivial⟩) (.nil) rfl ?_
  refine Ops.put rfl rfl (ox_move .tmp) (.one rfl) (.nil) rfl ?_
  refine Ops.guard rfl rfl rfl rfl (.plain .nil) (fun hG => (ox_fieldAddr_var Store_Cells f48_0)) ⟨rfl, trivial⟩ (.nil) rfl ?_
  refine Ops.guard rfl rfl rfl rfl (.cond (fun h => h) .nil) (fun hG => (ox_load_fld t43)) ⟨rfl, trivial⟩ (.one rfl) rfl ?_
  refine Ops.guard rfl rfl rfl rfl (.cond (fun h => h) .nil) (fun hG => (ox_ix s43 .tmp .int (hb8 hG).1 (hb8 hG).2)) ⟨rfl, trivial⟩ (.nil) rfl ?_
  refine Ops.guard rfl rfl rfl rfl (.cond (fun h => h) .nil) (fun hG => (ox_load_elem t3)) ⟨rfl, trivial⟩ (.nil) rfl ?_
  refine Ops.guard rfl rfl rfl rfl (.cond (fun h => h) .nil) (fun hG => (ox_eql .tmp .int)) ⟨rfl, trivial⟩ (.nil) rfl ?_
  refine Ops.put rfl rfl ox_pick_and (⟨rfl, rfl, trivial⟩) (.nil) rfl ?_
  refine Ops.put rfl rfl (ox_move .tmp) (.one rfl) (.nil) rfl ?_
  refine Ops.guard rfl rfl rfl rfl (.plain .nil) (fun hG => (ox_fieldAddr_var Store_Undo f48_1)) ⟨rfl, trivial⟩ (.nil) rfl ?_
  refine Ops.guard rfl rfl rfl rfl (.cond (fun h => h) .nil) (fun hG => (ox_load_fld t44)) ⟨rfl, trivial⟩ (.one rfl) rfl ?_
  refine Ops.guard rfl rfl rfl rfl (.cond (fun h => h) .nil) (fun hG => (ox_len s44 .tmp)) ⟨rfl, trivial⟩ (.nil) rfl ?_
  refine Ops.guard rfl rfl rfl rfl (.cond (fun h => h) .nil) (fun hG => (ox_eql .tmp .int)) ⟨rfl, trivial⟩ (.nil) rfl ?_
  refine Ops.put rfl rfl ox_pick_and (⟨rfl, rfl, trivial⟩) (.nil) rfl ?_
  refine Ops.put rfl rfl (ox_move .tmp) (.one rfl) (.nil) rfl ?_
  refine Ops.guard rfl rfl rfl rfl (.plain .nil) (fun hG => (ox_fieldAddr_var Store_Cells f48_0)) ⟨rfl, trivial⟩ (.nil) rfl ?_
  refine Ops.guard rfl rfl rfl rfl (.cond (fun h => h) .nil) (fun hG => (ox_load_fld t43)) ⟨rfl, trivial⟩ (.one rfl) rfl ?_
  refine Ops.guard rfl rfl rfl rfl (.cond (fun h => h) .nil) (fun hG => (ox_ix s43 .tmp .int (hb9 hG).1 (hb9 hG).2)) ⟨rfl, trivial⟩ (.nil) rfl ?_
  refine Ops.guard rfl rfl rfl rfl (.cond (fun h => h) .nil) (fun hG => (ox_load_elem t3)) ⟨rfl, trivial⟩ (.nil) rfl ?_
  refine Ops.guard rfl rfl rfl rfl (.cond (fun h => h) .nil) (fun hG => (ox_eql .tmp .int)) ⟨rfl, trivial⟩ (.nil) rfl ?_
  refine Ops.put rfl rfl ox_pick_and (⟨rfl, rfl, trivial⟩) (.nil) rfl ?_
  refine Ops.put rfl rfl (ox_move .tmp) (.one rfl) (.nil) rfl ?_
  refine Ops.guard rfl rfl rfl rfl (.plain .nil) (fun hG => (ox_fieldAddr_var Store_Undo f48_1)) ⟨rfl, trivial⟩ (.nil) rfl ?_
  refine Ops.guard rfl rfl rfl rfl (.cond (fun h => h) .nil) (fun hG => (ox_load_fld t44)) ⟨rfl, trivial⟩ (.one rfl) rfl ?_
  refine Ops.guard rfl rfl rfl rfl (.cond (fun h => h) .nil) (fun hG => (ox_len s44 .tmp)) ⟨rfl, trivial⟩ (.nil) rfl ?_
  refine Ops.guard rfl rfl rfl rfl (.cond (fun h => h) .nil) (fun hG => (ox_eql .tmp .int)) ⟨rfl, trivial⟩ (.nil) rfl ?_
  refine Ops.put rfl rfl ox_pick_and (⟨rfl, rfl, trivial⟩) (.nil) rfl ?_
  refine Ops.put rfl rfl (ox_move .tmp) (.one rfl) (.nil) rfl ?_
  refine Ops.guard rfl rfl rfl rfl (.plain .nil) (fun hG => (ox_move .tmp)) ⟨rfl, trivial⟩ (.nil) rfl ?_
  refine Ops.put rfl rfl ox_pick_and (⟨rfl, rfl, trivial⟩) (.nil) rfl ?_
  refine Ops.put rfl rfl (ox_move .tmp) (.one rfl) (.nil) rfl ?_
  refine Ops.guard rfl rfl rfl rfl (.plain .nil) (fun hG => (ox_fieldAddr_var Answer_Token f30_1)) ⟨rfl, trivial⟩ (.nil) rfl ?_
  refine Ops.guard rfl rfl rfl rfl (.cond (fun h => h) .nil) (fun hG => (ox_load_fld t3)) ⟨rfl, trivial⟩ (.one rfl) rfl ?_
  refine Ops.guard rfl rfl rfl rfl (.cond (fun h => h) .nil) (fun hG => (ox_eql .tmp .int)) ⟨rfl, trivial⟩ (.nil) rfl ?_
  refine Ops.put rfl rfl ox_pick_and (⟨rfl, rfl, trivial⟩) (.nil) rfl ?_
  refine Ops.put rfl rfl (ox_move .tmp) (.one rfl) (.nil) rfl ?_
  refine Ops.guard rfl rfl rfl rfl (.plain .nil) (fun hG => (ox_fieldAddr_var Answer_Reply f30_2)) ⟨rfl, trivial⟩ (.nil) rfl ?_
  refine Ops.guard rfl rfl rfl rfl (.cond (fun h => h) .nil) (fun hG => (ox_fieldAddr_ptr Reply_N f28_1)) ⟨rfl, trivial⟩ (.nil) rfl ?_
  refine Ops.guard rfl rfl rfl rfl (.cond (fun h => h) .nil) (fun hG => (ox_load_fld t3)) ⟨rfl, trivial⟩ (.one rfl) rfl ?_
  refine Ops.guard rfl rfl rfl rfl (.cond (fun h => h) .nil) (fun hG => (ox_eql .tmp .int)) ⟨rfl, trivial⟩ (.nil) rfl ?_
  refine Ops.put rfl rfl ox_pick_and (⟨rfl, rfl, trivial⟩) (.nil) rfl ?_
  refine Ops.put rfl rfl (ox_move .tmp) (.one rfl) (.nil) rfl ?_
  refine Ops.guard rfl rfl rfl rfl (.plain .nil) (fun hG => (ox_fieldAddr_var Store_Past f48_3)) ⟨rfl, trivial⟩ (.nil) rfl ?_
  refine Ops.guard rfl rfl rfl rfl (.cond (fun h => h) .nil) (fun hG => (ox_load_fld t46)) ⟨rfl, trivial⟩ (.one rfl) rfl ?_
  refine Ops.guard rfl rfl rfl rfl (.cond (fun h => h) .nil) (fun hG => (ox_len s46 .tmp)) ⟨rfl, trivial⟩ (.nil) rfl ?_
  refine Ops.guard rfl rfl rfl rfl (.cond (fun h => h) .nil) (fun hG => (ox_eql .tmp .int)) ⟨rfl, trivial⟩ (.nil) rfl ?_
  refine Ops.put rfl rfl ox_pick_and (⟨rfl, rfl, trivial⟩) (.nil) rfl ?_
  refine Ops.put rfl rfl (ox_move .tmp) (.one rfl) (.nil) rfl ?_
  refine Ops.guard rfl rfl rfl rfl (.plain .nil) (fun hG => (ox_load_var t48)) ⟨rfl, trivial⟩ (.one rfl) rfl ?_
  refine Ops.guard rfl rfl rfl rfl (.cond (fun h => h) .nil) (fun hG => (ox_call (c_store_Own (Cn_on hv10 hG)) (.cons .tmp .nil))) ⟨rfl, trivial⟩ (.nil) rfl ?_
  refine Ops.guard rfl rfl rfl rfl (.cond (fun h => h) .nil) (fun hG => (ox_field Store_Answers .tmp rfl f48_2)) ⟨rfl, trivial⟩ (.nil) rfl ?_
  refine Ops.guard rfl rfl rfl rfl (.cond (fun h => h) .nil) (fun hG => (ox_len s45 .tmp)) ⟨rfl, trivial⟩ (.nil) rfl ?_
  refine Ops.guard rfl rfl rfl rfl (.cond (fun h => h) .nil) (fun hG => (ox_eql .tmp .int)) ⟨rfl, trivial⟩ (.nil) rfl ?_
  refine Ops.put rfl rfl ox_pick_and (⟨rfl, rfl, trivial⟩) (.nil) rfl ?_
  refine Ops.put rfl rfl (ox_assign .tmp) (.one rfl) (.nil) rfl ?_
  refine Ops.nil ?_
  refine PT.sub (σ' := ⟨[(0, .val ((((((((((((decide ((v3.Undo.length : Int) = (2 : Int))) && (decide ((ix v3.Cells (1 : Int)) = (8 : Int)))) && (decide ((ix v4.Cells (1 : Int)) = (0 : Int)))) && (decide ((v4.Undo.length : Int) = (0 : Int)))) && (decide ((ix v5.Cells (1 : Int)) = (8 : Int)))) && (decide ((v5.Undo.length : Int) = (0 : Int)))) && v6.2) && (decide (v6.1.Token = (2 : Int)))) && (decide (v6.1.Reply.N = (4 : Int)))) && (decide ((v5.Past.length : Int) = (1 : Int)))) && (decide ((v10.Answers.length : Int) = (1 : Int))))))], []⟩) ⟨rfl, trivial⟩ trivial ?_
  refine PT.ret ?_
  obtain rfl := Option.some.inj hφ
  exact PT.done hw0 rfl (.tmp rfl rfl .nil) rfl

/-- mendkernel/mklaw6.StoreTells -/
theorem c_mklaw6_StoreTells {a0 : Mk.Store} {a1 : Mk.Write} {a2 : Mk.Request} {a3 : Mk.Reply} {a4 : Int} {r : Bool} (hφ : mklaw6_StoreTells a0 a1 a2 a3 a4 = some r) : Fn Go.Proofs.Try.prog 6 [.val a0, .val a1, .val a2, .val a3, .val a4] (.val r) := by
  unfold mklaw6_StoreTells at hφ
  refine Fn.mk' Go.Proofs.Try.func6 rfl (by decide) rfl rfl rfl (fun w0 hw0 => ?_)
  refine PT.seq ?_
  refine PT.region ?_
  refine Ops.putO rfl rfl (ox_box (id := 5) .tmp) (.one rfl) (.nil) rfl (by kernel_rfl) ?_
  refine Ops.putO rfl rfl (ox_box (id := 6) .tmp) (.one rfl) (.nil) rfl (by kernel_rfl) ?_
  refine Ops.putO rfl rfl (ox_box (id := 7) .tmp) (.one rfl) (.nil) rfl (by kernel_rfl) ?_
  refine Ops.putO rfl rfl (ox_box (id := 8) .tmp) (.one rfl) (.nil) rfl (by kernel_rfl) ?_
  refine Ops.put rfl rfl (ox_assign .bool) (.nil) (.nil) rfl ?_
  refine Ops.nil ?_
  refine PT.sub (σ' := ⟨[(4, .val (a4)), (5, _), (6, _), (7, _), (8, _)], [(5, .var (a0) []), (6, .var (a1) []), (7, .var (a2) []), (8, .var (a3) [])]⟩) ⟨rfl, rfl, rfl, rfl, rfl, trivial⟩ ⟨rfl, rfl, rfl, rfl, trivial⟩ ?_
  refine PT.seq ?_
  refine PT.seq ?_
  obtain ⟨v1, hv1, hφ⟩ := B_some hφ
  obtain ⟨hb2, hφ⟩ := G_some hφ
  obtain ⟨v3, hv3, hφ⟩ := B_some hφ
  refine PT.draw hMixed (
      Segs.cons (Step.put rfl rfl (ox_call (c_store_New hv1) .nil)) ⟨.nil, .nil⟩ (by kernel_rfl) rfl <|
      Segs.cons (Step.put rfl rfl (ox_makeIntsV s43 (by kernel_rfl) (by kernel_rfl) .int .int hb2)) ⟨(.app (.nil) (.nil)), .nil⟩ (by kernel_rfl) rfl <|
      Segs.cons (Step.put rfl rfl (ox_buildB z48 u48 rfl (.cons Store_Cells f48_0 .tmp Bld.nil))) ⟨(.app (.one rfl) .nil), .nil⟩ (by kernel_rfl) rfl <|
      Segs.cons (Step.put rfl rfl (ox_call (c_mkref1_SameStore hv3) (.cons .tmp (.cons .tmp .nil)))) ⟨(.app (.one rfl) (.app (.one rfl) .nil)), .nil⟩ (by kernel_rfl) rfl <|
      Segs.cons (Step.put rfl rfl (ox_not .tmp)) ⟨.one rfl, .nil⟩ (by kernel_rfl) rfl <|
      Segs.nil) _ [[], [], [1], [0, 1, 2], [0, 1, 2, 3]] rfl (by kernel_rfl) (by kernel_rfl) ?_
  refine PT.sub (σ' := ⟨[(4, .val (a4)), (5, _), (6, _), (7, _), (8, _), (19, .val ((!v3)))], [(5, .var (a0) []), (6, .var (a1) []), (7, .var (a2) []), (8, .var (a3) [])]⟩) ⟨rfl, rfl, rfl, rfl, rfl, rfl, trivial⟩ ⟨rfl, rfl, rfl, rfl, trivial⟩ ?_
  refine PT.cond _ rfl (fun hc4 => ?_) (fun hc4 => ?_)
  · replace hφ := if_then hφ hc4
    refine PT.sub (σ' := ⟨[], []⟩) trivial trivial ?_
    refine PT.seq ?_
    refine PT.region ?_
    refine Ops.put rfl rfl (ox_assign .bool) (.nil) (.nil) rfl ?_
    refine Ops.nil ?_
    refine PT.sub (σ' := ⟨[(10, .val (false))], []⟩) ⟨rfl, trivial⟩ trivial ?_
    refine PT.ret ?_
    obtain rfl := Option.some.inj hφ
    exact PT.done hw0 rfl (.tmp rfl rfl .nil) rfl
  · replace hφ := if_else hφ hc4
    refine PT.sub (σ' := ⟨[(4, .val (a4)), (5, _), (6, _), (7, _), (8, _)], [(5, .var (a0) []), (6, .var (a1) []), (7, .var (a2) []), (8, .var (a3) [])]⟩) ⟨rfl, rfl, rfl, rfl, rfl, trivial⟩ ⟨rfl, rfl, rfl, rfl, trivial⟩ ?_
    refine PT.skip ?_
    refine PT.seq ?_
    refine PT.seq ?_
    obtain ⟨v5, hv5, hφ⟩ := B_some hφ
    refine PT.region ?_
    refine Ops.put rfl rfl (ox_load_var t48) (.one rfl) (.one rfl) rfl ?_
    refine Ops.put rfl rfl (ox_call (c_mkref1_RightStore hv5) (.cons .tmp .nil)) ((.app (.one rfl) .nil)) (.nil) rfl ?_
    refine Ops.put rfl rfl (ox_not .tmp) (.one rfl) (.nil) rfl ?_
    refine Ops.nil ?_
    refine PT.sub (σ' := ⟨[(4, .val (a4)), (5, _), (6, _), (7, _), (8, _), (22, .val ((!v5)))], [(5, .var (a0) []), (6, .var (a1) []), (7, .var (a2) []), (8, .var (a3) [])]⟩) ⟨rfl, rfl, rfl, rfl, rfl, rfl, trivial⟩ ⟨rfl, rfl, rfl, rfl, trivial⟩ ?_
    refine PT.cond _ rfl (fun hc6 => ?_) (fun hc6 => ?_)
    · replace hφ := if_then hφ hc6
      refine PT.sub (σ' := ⟨[], []⟩) trivial trivial ?_
      refine PT.seq ?_
      refine PT.region ?_
      refine Ops.put rfl rfl (ox_assign .bool) (.nil) (.nil) rfl ?_
      refine Ops.nil ?_
      refine PT.sub (σ' := ⟨[(10, .val (true))], []⟩) ⟨rfl, trivial⟩ trivial ?_
      refine PT.ret ?_
      obtain rfl := Option.some.inj hφ
      exact PT.done hw0 rfl (.tmp rfl rfl .nil) rfl
    · replace hφ := if_else hφ hc6
      refine PT.sub (σ' := ⟨[(4, .val (a4)), (5, _), (6, _), (7, _), (8, _)], [(5, .var (a0) []), (6, .var (a1) []), (7, .var (a2) []), (8, .var (a3) [])]⟩) ⟨rfl, rfl, rfl, rfl, rfl, trivial⟩ ⟨rfl, rfl, rfl, rfl, trivial⟩ ?_
      refine PT.skip ?_
      refine PT.seq ?_
      obtain ⟨v7, hv7, hφ⟩ := B_some hφ
      refine PT.region ?_
      refine Ops.put rfl rfl (ox_load_var t48) (.one rfl) (.one rfl) rfl ?_
      refine Ops.put rfl rfl (ox_move .tmp) (.one rfl) (.nil) rfl ?_
      refine Ops.put rfl rfl (ox_call (c_store_Last hv7) (.cons .tmp (.cons .tmp .nil))) ((.app (.one rfl) (.app (.one rfl) .nil))) (.nil) rfl ?_
      refine Ops.put rfl rfl (ox_move .tmp) (.one rfl) (.nil) rfl ?_
      refine Ops.put rfl rfl (ox_extract rfl) (.one rfl) (.nil) rfl ?_
      refine Ops.put rfl rfl (ox_extract rfl) (.one rfl) (.nil) rfl ?_
      refine Ops.putO rfl rfl (ox_alloc (id := 11) z30) (.nil) (.nil) rfl (by kernel_rfl) ?_
      refine Ops.mute rfl rfl (ox_store_var t30 .tmp) ((.cons rfl (.one rfl))) (.one rfl) ?_
      refine Ops.put rfl rfl (ox_assign .tmp) (.one rfl) (.nil) rfl ?_
      refine Ops.nil ?_
      refine PT.sub (σ' := ⟨[(4, .val (a4)), (5, _), (6, _), (7, _), (8, _), (11, _), (12, .val (v7.2))], [(5, .var (a0) []), (6, .var (a1) []), (7, .var (a2) []), (8, .var (a3) []), (11, .var (v7.1) [])]⟩) ⟨rfl, rfl, rfl, rfl, rfl, rfl, rfl, trivial⟩ ⟨rfl, rfl, rfl, rfl, rfl, trivial⟩ ?_
      refine PT.seq ?_
      obtain ⟨v8, hv8, hφ⟩ := B_some hφ
      refine PT.region ?_
      refine Ops.put rfl rfl (ox_load_var t48) (.one rfl) (.one rfl) rfl ?_
      refine Ops.put rfl rfl (ox_move .tmp) (.one rfl) (.nil) rfl ?_
      refine Ops.put rfl rfl (ox_call (c_mkref1_Last hv8) (.cons .tmp (.cons .tmp .nil))) ((.app (.one rfl) (.app (.one rfl) .nil))) (.nil) rfl ?_
      refine Ops.put rfl rfl (ox_move .tmp) (.one rfl) (.nil) rfl ?_
      refine Ops.put rfl rfl (ox_extract rfl) (.one rfl) (.nil) rfl ?_
      refine Ops.put rfl rfl (ox_extract rfl) (.one rfl) (.nil) rfl ?_
      refine Ops.putO rfl rfl (ox_alloc (id := 13) z30) (.nil) (.nil) rfl (by kernel_rfl) ?_
      refine Ops.mute rfl rfl (ox_store_var t30 .tmp) ((.cons rfl (.one rfl))) (.one rfl) ?_
      refine Ops.put rfl rfl (ox_assign .tmp) (.one rfl) (.nil) rfl ?_
      refine Ops.nil ?_
      refine PT.sub (σ' := ⟨[(5, _), (6, _), (7, _), (8, _), (11, _), (12, .val (v7.2)), (13, _), (14, .val (v8.2))], [(5, .var (a0) []), (6, .var (a1) []), (7, .var (a2) []), (8, .var (a3) []), (11, .var (v7.1) []), (13, .var (v8.1) [])]⟩) ⟨rfl, rfl, rfl, rfl, rfl, rfl, rfl, rfl, trivial⟩ ⟨rfl, rfl, rfl, rfl, rfl, rfl, trivial⟩ ?_
      refine PT.seq ?_
      obtain ⟨v9, hv9, hφ⟩ := B_some hφ
      obtain ⟨v10, hv10, hφ⟩ := B_some hφ
      obtain ⟨v11, hv11, hφ⟩ := B_some hφ
      obtain ⟨v12, hv12, hφ⟩ := B_some hφ
      obtain ⟨v13, hv13, hφ⟩ := B_some hφ
      obtain ⟨v14, hv14, hφ⟩ := B_some hφ
      obtain ⟨v15, hv15, hφ⟩ := B_some hφ
      obtain ⟨v16, hv16, hφ⟩ := B_some hφ
      obtain ⟨v17, hv17, hφ⟩ := B_some hφ
      obtain ⟨v18, hv18, hφ⟩ := B_some hφ
      obtain ⟨v19, hv19, hφ⟩ := B_some hφ
      refine PT.draw hMixed (
          Segs.cons (Step.put rfl rfl (ox_load_var t30)) ⟨.one rfl, .one rfl⟩ (by kernel_rfl) rfl <|
          Segs.cons (Step.put rfl rfl (ox_load_var t30)) ⟨.one rfl, .one rfl⟩ (by kernel_rfl) rfl <|
          Segs.cons (Step.put rfl rfl (ox_eqlT e30 .tmp .tmp)) ⟨(.app (.one rfl) (.one rfl)), .nil⟩ (by kernel_rfl) rfl <|
          Segs.cons (Step.put rfl rfl (ox_move .tmp)) ⟨.one rfl, .nil⟩ (by kernel_rfl) rfl <|
          Segs.cons (Step.guard rfl rfl rfl Grd.plain _ (by first | exact Iff.rfl | simp) (.plain .nil) (fun hG => (ox_move .tmp))) ⟨(.cons rfl ⟨rfl, trivial⟩), .nil⟩ (by kernel_rfl) rfl <|
          Segs.cons (Step.guard rfl rfl rfl Grd.plain _ (by first | exact Iff.rfl | simp) (.plain .nil) (fun hG => (ox_move .tmp))) ⟨(.cons rfl ⟨rfl, trivial⟩), .nil⟩ (by kernel_rfl) rfl <|
          Segs.cons (Step.guard rfl rfl rfl Grd.plain _ (by first | exact Iff.rfl | simp) (.cond (fun h => h) (.cond (fun h => h) .nil)) (fun hG => (ox_eqlB e4 .tmp .tmp))) ⟨(.cons rfl ⟨rfl, rfl, trivial⟩), .nil⟩ (by kernel_rfl) rfl <|
          Segs.cons (Step.put rfl rfl ox_pick_and) ⟨⟨rfl, rfl, trivial⟩, .nil⟩ (by kernel_rfl) rfl <|
          Segs.cons (Step.put rfl rfl (ox_move .tmp)) ⟨.one rfl, .nil⟩ (by kernel_rfl) rfl <|
          Segs.cons (Step.guard rfl rfl rfl Grd.plain _ (by first | exact Iff.rfl | simp) (.plain .nil) (fun hG => (ox_load_var t48))) ⟨(.cons rfl ⟨rfl, trivial⟩), .one rfl⟩ (by kernel_rfl) rfl <|
          Segs.cons (Step.guard rfl rfl rfl Grd.plain _ (by first | exact Iff.rfl | simp) (.cond (fun h => h) .nil) (fun hG => (ox_call (c_store_Own (Cn_on hv9 hG)) (.cons .tmp .nil)))) ⟨(.cons rfl ⟨rfl, trivial⟩), .nil⟩ (by kernel_rfl) rfl <|
          Segs.cons (Step.guard rfl rfl rfl Grd.plain _ (by first | exact Iff.rfl | simp) (.plain .nil) (fun hG => (ox_load_var t48))) ⟨(.cons rfl ⟨rfl, trivial⟩), .one rfl⟩ (by kernel_rfl) rfl <|
          Segs.cons (Step.guard rfl rfl rfl Grd.plain _ (by first | exact Iff.rfl | simp) (.cond (fun h => h) (.cond (fun h => h) .nil)) (fun hG => (ox_call (c_mkref1_SameStore (Cn_on hv10 hG)) (.cons .tmp (.cons .tmp .nil))))) ⟨(.cons rfl ⟨rfl, rfl, trivial⟩), .nil⟩ (by kernel_rfl) rfl <|
          Segs.cons (Step.put rfl rfl ox_pick_and) ⟨⟨rfl, rfl, trivial⟩, .nil⟩ (by kernel_rfl) rfl <|
          Segs.cons (Step.put rfl rfl (ox_move .tmp)) ⟨.one rfl, .nil⟩ (by kernel_rfl) rfl <|
          Segs.cons (Step.guard rfl rfl rfl Grd.plain _ (by first | exact Iff.rfl | simp) (.plain .nil) (fun hG => (ox_load_var t48))) ⟨(.cons rfl ⟨rfl, trivial⟩), .one rfl⟩ (by kernel_rfl) rfl <|
          Segs.cons (Step.guard rfl rfl rfl Grd.plain _ (by first | exact Iff.rfl | simp) (.plain .nil) (fun hG => (ox_load_var t50))) ⟨(.cons rfl ⟨rfl, trivial⟩), .one rfl⟩ (by kernel_rfl) rfl <|
          Segs.cons (Step.guard rfl rfl rfl Grd.plain _ (by first | exact Iff.rfl | simp) (.cond (fun h => h) (.cond (fun h => h) .nil)) (fun hG => (ox_call (c_store_Write (Cn_on hv11 hG)) (.cons .tmp (.cons .tmp .nil))))) ⟨(.cons rfl ⟨rfl, rfl, trivial⟩), .nil⟩ (by kernel_rfl) rfl <|
          Segs.cons (Step.guard rfl rfl rfl Grd.plain _ (by first | exact Iff.rfl | simp) (.plain .nil) (fun hG => (ox_load_var t48))) ⟨(.cons rfl ⟨rfl, trivial⟩), .one rfl⟩ (by kernel_rfl) rfl <|
          Segs.cons (Step.guard rfl rfl rfl Grd.plain _ (by first | exact Iff.rfl | simp) (.plain .nil) (fun hG => (ox_load_var t50))) ⟨(.cons rfl ⟨rfl, trivial⟩), .one rfl⟩ (by kernel_rfl) rfl <|
          Segs.cons (Step.guard rfl rfl rfl Grd.plain _ (by first | exact Iff.rfl | simp) (.cond (fun h => h) (.cond (fun h => h) .nil)) (fun hG => (ox_call (c_mkref1_Write (Cn_on hv12 hG)) (.cons .tmp (.cons .tmp .nil))))) ⟨(.cons rfl ⟨rfl, rfl, trivial⟩), .nil⟩ (by kernel_rfl) rfl <|
          Segs.cons (Step.guard rfl rfl rfl Grd.plain _ (by first | exact Iff.rfl | simp) (.cond (fun h => h) (.cond (fun h => h) .nil)) (fun hG => (ox_call (c_mkref1_SameStore (Cn_on hv13 hG)) (.cons .tmp (.cons .tmp .nil))))) ⟨(.cons rfl ⟨rfl, rfl, trivial⟩), .nil⟩ (by kernel_rfl) rfl <|
          Segs.cons (Step.put rfl rfl ox_pick_and) ⟨⟨rfl, rfl, trivial⟩, .nil⟩ (by kernel_rfl) rfl <|
          Segs.cons (Step.put rfl rfl (ox_move .tmp)) ⟨.one rfl, .nil⟩ (by kernel_rfl) rfl <|
          Segs.cons (Step.guard rfl rfl rfl Grd.plain _ (by first | exact Iff.rfl | simp) (.plain .nil) (fun hG => (ox_load_var t48))) ⟨(.cons rfl ⟨rfl, trivial⟩), .one rfl⟩ (by kernel_rfl) rfl <|
          Segs.cons (Step.guard rfl rfl rfl Grd.plain _ (by first | exact Iff.rfl | simp) (.plain .nil) (fun hG => (ox_load_var t25))) ⟨(.cons rfl ⟨rfl, trivial⟩), .one rfl⟩ (by kernel_rfl) rfl <|
          Segs.cons (Step.guard rfl rfl rfl Grd.plain _ (by first | exact Iff.rfl | simp) (.plain .nil) (fun hG => (ox_load_var t28))) ⟨(.cons rfl ⟨rfl, trivial⟩), .one rfl⟩ (by kernel_rfl) rfl <|
          Segs.cons (Step.guard rfl rfl rfl Grd.plain _ (by first | exact Iff.rfl | simp) (.cond (fun h => h) (.cond (fun h => h) (.cond (fun h => h) .nil))) (fun hG => (ox_call (c_store_Commit (Cn_on hv14 hG)) (.cons .tmp (.cons .tmp (.cons .tmp .nil)))))) ⟨(.cons rfl ⟨rfl, rfl, rfl, trivial⟩), .nil⟩ (by kernel_rfl) rfl <|
          Segs.cons (Step.guard rfl rfl rfl Grd.plain _ (by first | exact Iff.rfl | simp) (.plain .nil) (fun hG => (ox_load_var t48))) ⟨(.cons rfl ⟨rfl, trivial⟩), .one rfl⟩ (by kernel_rfl) rfl <|
          Segs.cons (Step.guard rfl rfl rfl Grd.plain _ (by first | exact Iff.rfl | simp) (.plain .nil) (fun hG => (ox_load_var t25))) ⟨(.cons rfl ⟨rfl, trivial⟩), .one rfl⟩ (by kernel_rfl) rfl <|
          Segs.cons (Step.guard rfl rfl rfl Grd.plain _ (by first | exact Iff.rfl | simp) (.plain .nil) (fun hG => (ox_load_var t28))) ⟨(.cons rfl ⟨rfl, trivial⟩), .one rfl⟩ (by kernel_rfl) rfl <|
          Segs.cons (Step.guard rfl rfl rfl Grd.plain _ (by first | exact Iff.rfl | simp) (.cond (fun h => h) (.cond (fun h => h) (.cond (fun h => h) .nil))) (fun hG => (ox_call (c_mkref1_Commit (Cn_on hv15 hG)) (.cons .tmp (.cons .tmp (.cons .tmp .nil)))))) ⟨(.cons rfl ⟨rfl, rfl, rfl, trivial⟩), .nil⟩ (by kernel_rfl) rfl <|
          Segs.cons (Step.guard rfl rfl rfl Grd.plain _ (by first | exact Iff.rfl | simp) (.cond (fun h => h) (.cond (fun h => h) .nil)) (fun hG => (ox_call (c_mkref1_SameStore (Cn_on hv16 hG)) (.cons .tmp (.cons .tmp .nil))))) ⟨(.cons rfl ⟨rfl, rfl, trivial⟩), .nil⟩ (by kernel_rfl) rfl <|
          Segs.cons (Step.put rfl rfl ox_pick_and) ⟨⟨rfl, rfl, trivial⟩, .nil⟩ (by kernel_rfl) rfl <|
          Segs.cons (Step.put rfl rfl (ox_move .tmp)) ⟨.one rfl, .nil⟩ (by kernel_rfl) rfl <|
          Segs.cons (Step.guard rfl rfl rfl Grd.plain _ (by first | exact Iff.rfl | simp) (.plain .nil) (fun hG => (ox_load_var t48))) ⟨(.cons rfl ⟨rfl, trivial⟩), .one rfl⟩ (by kernel_rfl) rfl <|
          Segs.cons (Step.guard rfl rfl rfl Grd.plain _ (by first | exact Iff.rfl | simp) (.cond (fun h => h) .nil) (fun hG => (ox_call (c_store_Back (Cn_on hv17 hG)) (.cons .tmp .nil)))) ⟨(.cons rfl ⟨rfl, trivial⟩), .nil⟩ (by kernel_rfl) rfl <|
          Segs.cons (Step.guard rfl rfl rfl Grd.plain _ (by first | exact Iff.rfl | simp) (.plain .nil) (fun hG => (ox_load_var t48))) ⟨(.cons rfl ⟨rfl, trivial⟩), .one rfl⟩ (by kernel_rfl) rfl <|
          Segs.cons (Step.guard rfl rfl rfl Grd.plain _ (by first | exact Iff.rfl | simp) (.cond (fun h => h) .nil) (fun hG => (ox_call (c_mkref1_Back (Cn_on hv18 hG)) (.cons .tmp .nil)))) ⟨(.cons rfl ⟨rfl, trivial⟩), .nil⟩ (by kernel_rfl) rfl <|
          Segs.cons (Step.guard rfl rfl rfl Grd.plain _ (by first | exact Iff.rfl | simp) (.cond (fun h => h) (.cond (fun h => h) .nil)) (fun hG => (ox_call (c_mkref1_SameStore (Cn_on hv19 hG)) (.cons .tmp (.cons .tmp .nil))))) ⟨(.cons rfl ⟨rfl, rfl, trivial⟩), .nil⟩ (by kernel_rfl) rfl <|
          Segs.cons (Step.put rfl rfl ox_pick_and) ⟨⟨rfl, rfl, trivial⟩, .nil⟩ (by kernel_rfl) rfl <|
          Segs.cons (Step.put rfl rfl (ox_assign .tmp)) ⟨.one rfl, .nil⟩ (by kernel_rfl) rfl <|
          Segs.nil) _ [[], [], [0, 1], [0, 1, 2], [0, 1, 2, 3], [0, 1, 2, 3], [0, 1, 2, 3, 4, 5], [0, 1, 2, 3, 4, 5, 6], [0, 1, 2, 3, 4, 5, 6, 7], [0, 1, 2, 3, 4, 5, 6, 7, 8], [0, 1, 2, 3, 4, 5, 6, 7, 8, 9], [0, 1, 2, 3, 4, 5, 6, 7, 8], [0, 1, 2, 3, 4, 5, 6, 7, 8, 9, 10, 11], [0, 1, 2, 3, 4, 5, 6, 7, 8, 9, 10, 11, 12], [0, 1, 2, 3, 4, 5, 6, 7, 8, 9, 10, 11, 12, 13], [0, 1, 2, 3, 4, 5, 6, 7, 8, 9, 10, 11, 12, 13, 14], [0, 1, 2, 3, 4, 5, 6, 7, 8, 9, 10, 11, 12, 13, 14], [0, 1, 2, 3, 4, 5, 6, 7, 8, 9, 10, 11, 12, 13, 14, 15, 16], [0, 1, 2, 3, 4, 5, 6, 7, 8, 9, 10, 11, 12, 13, 14], [0, 1, 2, 3, 4, 5, 6, 7, 8, 9, 10, 11, 12, 13, 14], [0, 1, 2, 3, 4, 5, 6, 7, 8, 9, 10, 11, 12, 13, 14, 15, 16, 17, 18, 19], [0, 1, 2, 3, 4, 5, 6, 7, 8, 9, 10, 11, 12, 13, 14, 15, 16, 17, 18, 19, 20], [0, 1, 2, 3, 4, 5, 6, 7, 8, 9, 10, 11, 12, 13, 14, 15, 16, 17, 18, 19, 20, 21], [0, 1, 2, 3, 4, 5, 6, 7, 8, 9, 10, 11, 12, 13, 14, 15, 16, 17, 18, 19, 20, 21, 22], [0, 1, 2, 3, 4, 5, 6, 7, 8, 9, 10, 11, 12, 13, 14, 15, 16, 17, 18, 19, 20, 21, 22, 23], [0, 1, 2, 3, 4, 5, 6, 7, 8, 9, 10, 11, 12, 13, 14, 15, 16, 17, 18, 19, 20, 21, 22, 23], [0, 1, 2, 3, 4, 5, 6, 7, 8, 9, 10, 11, 12, 13, 14, 15, 16, 17, 18, 19, 20, 21, 22, 23], [0, 1, 2, 3, 4, 5, 6, 7, 8, 9, 10, 11, 12, 13, 14, 15, 16, 17, 18, 19, 20, 21, 22, 23, 24, 25, 26], [0, 1, 2, 3, 4, 5, 6, 7, 8, 9, 10, 11, 12, 13, 14, 15, 16, 17, 18, 19, 20, 21, 22, 23], [0, 1, 2, 3, 4, 5, 6, 7, 8, 9, 10, 11, 12, 13, 14, 15, 16, 17, 18, 19, 20, 21, 22, 23], [0, 1, 2, 3, 4, 5, 6, 7, 8, 9, 10, 11, 12, 13, 14, 15, 16, 17, 18, 19, 20, 21, 22, 23], [0, 1, 2, 3, 4, 5, 6, 7, 8, 9, 10, 11, 12, 13, 14, 15, 16, 17, 18, 19, 20, 21, 22, 23, 24, 25, 26, 27, 28, 29, 30], [0, 1, 2, 3, 4, 5, 6, 7, 8, 9, 10, 11, 12, 13, 14, 15, 16, 17, 18, 19, 20, 21, 22, 23, 24, 25, 26, 27, 28, 29, 30, 31], [0, 1, 2, 3, 4, 5, 6, 7, 8, 9, 10, 11, 12, 13, 14, 15, 16, 17, 18, 19, 20, 21, 22, 23, 24, 25, 26, 27, 28, 29, 30, 31, 32], [0, 1, 2, 3, 4, 5, 6, 7, 8, 9, 10, 11, 12, 13, 14, 15, 16, 17, 18, 19, 20, 21, 22, 23, 24, 25, 26, 27, 28, 29, 30, 31, 32, 33], [0, 1, 2, 3, 4, 5, 6, 7, 8, 9, 10, 11, 12, 13, 14, 15, 16, 17, 18, 19, 20, 21, 22, 23, 24, 25, 26, 27, 28, 29, 30, 31, 32, 33, 34], [0, 1, 2, 3, 4, 5, 6, 7, 8, 9, 10, 11, 12, 13, 14, 15, 16, 17, 18, 19, 20, 21, 22, 23, 24, 25, 26, 27, 28, 29, 30, 31, 32, 33, 34, 35], [0, 1, 2, 3, 4, 5, 6, 7, 8, 9, 10, 11, 12, 13, 14, 15, 16, 17, 18, 19, 20, 21, 22, 23, 24, 25, 26, 27, 28, 29, 30, 31, 32, 33, 34], [0, 1, 2, 3, 4, 5, 6, 7, 8, 9, 10, 11, 12, 13, 14, 15, 16, 17, 18, 19, 20, 21, 22, 23, 24, 25, 26, 27, 28, 29, 30, 31, 32, 33, 34, 35, 36, 37], [0, 1, 2, 3, 4, 5, 6, 7, 8, 9, 10, 11, 12, 13, 14, 15, 16, 17, 18, 19, 20, 21, 22, 23, 24, 25, 26, 27, 28, 29, 30, 31, 32, 33, 34, 35, 36, 37, 38], [0, 1, 2, 3, 4, 5, 6, 7, 8, 9, 10, 11, 12, 13, 14, 15, 16, 17, 18, 19, 20, 21, 22, 23, 24, 25, 26, 27, 28, 29, 30, 31, 32, 33, 34, 35, 36, 37, 38, 39], [0, 1, 2, 3, 4, 5, 6, 7, 8, 9, 10, 11, 12, 13, 14, 15, 16, 17, 18, 19, 20, 21, 22, 23, 24, 25, 26, 27, 28, 29, 30, 31, 32, 33, 34, 35, 36, 37, 38, 39, 40]] rfl (by kernel_rfl) (by kernel_rfl) ?_
      refine PT.sub (σ' := ⟨[(10, .val (((((((decide (v7.1 = v8.1)) && (decide (v7.2 = v8.2))) && v10) && v13) && v16) && v19)))], []⟩) ⟨rfl, trivial⟩ trivial ?_
      refine PT.ret ?_
      obtain rfl := Option.some.inj hφ
      exact PT.done hw0 rfl (.tmp rfl rfl .nil) rfl

/-- mendkernel/mklaw6.StoreLast -/
theorem c_mklaw6_StoreLast {a0 : Mk.Store} {a1 : Mk.Request} {a2 : Mk.Reply} {a3 : Int} {r : Bool} (hφ : mklaw6_StoreLast a0 a1 a2 a3 = some r) : Fn Go.Proofs.Try.prog 7 [.val a0, .val a1, .val a2, .val a3] (.val r) := by
  unfold mklaw6_StoreLast at hφ
  refine Fn.mk' Go.Proofs.Try.func7 rfl (by decide) rfl rfl rfl (fun w0 hw0 => ?_)
  refine PT.seq ?_
  refine PT.region ?_
  refine Ops.putO rfl rfl (ox_box (id := 4) .tmp) (.one rfl) (.nil) rfl (by kernel_rfl) ?_
  refine Ops.putO rfl rfl (ox_box (id := 5) .tmp) (.one rfl) (.nil) rfl (by kernel_rfl) ?_
  refine Ops.putO rfl rfl (ox_box (id := 6) .tmp) (.one rfl) (.nil) rfl (by kernel_rfl) ?_
  refine Ops.put rfl rfl (ox_assign .bool) (.nil) (.nil) rfl ?_
  refine Ops.nil ?_
  refine PT.sub (σ' := ⟨[(3, .val (a3)), (4, _), (5, _), (6, _)], [(4, .var (a0) []), (5, .var (a1) []), (6, .var (a2) [])]⟩) ⟨rfl, rfl, rfl, rfl, trivial⟩ ⟨rfl, rfl, rfl, trivial⟩ ?_
  refine PT.seq ?_
  refine PT.seq ?_
  obtain ⟨v1, hv1, hφ⟩ := B_some hφ
  refine PT.region ?_
  refine Ops.put rfl rfl (ox_call (c_mklaw6_alive hv1) .nil) (.nil) (.nil) rfl ?_
  refine Ops.put rfl rfl (ox_not .tmp) (.one rfl) (.nil) rfl ?_
  refine Ops.nil ?_
  refine PT.sub (σ' := ⟨[(3, .val (a3)), (4, _), (5, _), (6, _), (16, .val ((!v1)))], [(4, .var (a0) []), (5, .var (a1) []), (6, .var (a2) [])]⟩) ⟨rfl, rfl, rfl, rfl, rfl, trivial⟩ ⟨rfl, rfl, rfl, trivial⟩ ?_
  refine PT.cond _ rfl (fun hc2 => ?_) (fun hc2 => ?_)
  · replace hφ := if_then hφ hc2
    refine PT.sub (σ' := ⟨[], []⟩) trivial trivial ?_
    refine PT.seq ?_
    refine PT.region ?_
    refine Ops.put rfl rfl (ox_assign .bool) (.nil) (.nil) rfl ?_
    refine Ops.nil ?_
    refine PT.sub (σ' := ⟨[(8, .val (false))], []⟩) ⟨rfl, trivial⟩ trivial ?_
    refine PT.ret ?_
    obtain rfl := Option.some.inj hφ
    exact PT.done hw0 rfl (.tmp rfl rfl .nil) rfl
  · replace hφ := if_else hφ hc2
    refine PT.sub (σ' := ⟨[(3, .val (a3)), (4, _), (5, _), (6, _)], [(4, .var (a0) []), (5, .var (a1) []), (6, .var (a2) [])]⟩) ⟨rfl, rfl, rfl, rfl, trivial⟩ ⟨rfl, rfl, rfl, trivial⟩ ?_
    refine PT.skip ?_
    refine PT.seq ?_
    refine PT.seq ?_
    obtain ⟨v3, hv3, hφ⟩ := B_some hφ
    refine PT.region ?_
    refine Ops.put rfl rfl (ox_load_var t48) (.one rfl) (.one rfl) rfl ?_
    refine Ops.put rfl rfl (ox_call (c_mkref1_RightStore hv3) (.cons .tmp .nil)) ((.app (.one rfl) .nil)) (.nil) rfl ?_
    refine Ops.put rfl rfl (ox_not .tmp) (.one rfl) (.nil) rfl ?_
    refine Ops.put rfl rfl (ox_move .tmp) (.one rfl) (.nil) rfl ?_
    refine Ops.guard rfl rfl rfl rfl (.plain .nil) (fun hG => (ox_move .tmp)) ⟨rfl, trivial⟩ (.nil) rfl ?_
    refine Ops.guard rfl rfl rfl rfl (.plain .nil) (fun hG => (ox_fieldAddr_var Request_Client f25_0)) ⟨rfl, trivial⟩ (.nil) rfl ?_
    refine Ops.guard rfl rfl rfl rfl (.cond (fun h => h) .nil) (fun hG => (ox_load_fld t3)) ⟨rfl, trivial⟩ (.one rfl) rfl ?_
    refine Ops.guard rfl rfl rfl rfl (.cond (fun h => h) (.cond (fun h => h) .nil)) (fun hG => (ox_eql .tmp .tmp)) ⟨rfl, rfl, trivial⟩ (.nil) rfl ?_
    refine Ops.put rfl rfl ox_pick_or (⟨rfl, rfl, trivial⟩) (.nil) rfl ?_
    refine Ops.nil ?_
    refine PT.sub (σ' := ⟨[(3, .val (a3)), (4, _), (5, _), (6, _), (25, .val (((!v3) || (decide (a3 = a1.Client)))))], [(4, .var (a0) []), (5, .var (a1) []), (6, .var (a2) [])]⟩) ⟨rfl, rfl, rfl, rfl, rfl, trivial⟩ ⟨rfl, rfl, rfl, trivial⟩ ?_
    refine PT.cond _ rfl (fun hc4 => ?_) (fun hc4 => ?_)
    · replace hφ := if_then hφ hc4
      refine PT.sub (σ' := ⟨[], []⟩) trivial trivial ?_
      refine PT.seq ?_
      refine PT.region ?_
      refine Ops.put rfl rfl (ox_assign .bool) (.nil) (.nil) rfl ?_
      refine Ops.nil ?_
      refine PT.sub (σ' := ⟨[(8, .val (true))], []⟩) ⟨rfl, trivial⟩ trivial ?_
      refine PT.ret ?_
      obtain rfl := Option.some.inj hφ
      exact PT.done hw0 rfl (.tmp rfl rfl .nil) rfl
    · replace hφ := if_else hφ hc4
      refine PT.sub (σ' := ⟨[(3, .val (a3)), (4, _), (5, _), (6, _)], [(4, .var (a0) []), (5, .var (a1) []), (6, .var (a2) [])]⟩) ⟨rfl, rfl, rfl, rfl, trivial⟩ ⟨rfl, rfl, rfl, trivial⟩ ?_
      refine PT.skip ?_
      refine PT.seq ?_
      obtain ⟨v5, hv5, hφ⟩ := B_some hφ
      refine PT.region ?_
      refine Ops.put rfl rfl (ox_load_var t48) (.one rfl) (.one rfl) rfl ?_
      refine Ops.put rfl rfl (ox_move .tmp) (.one rfl) (.nil) rfl ?_
      refine Ops.put rfl rfl (ox_call (c_store_Last hv5) (.cons .tmp (.cons .tmp .nil))) ((.app (.one rfl) (.app (.one rfl) .nil))) (.nil) rfl ?_
      refine Ops.put rfl rfl (ox_move .tmp) (.one rfl) (.nil) rfl ?_
      refine Ops.put rfl rfl (ox_extract rfl) (.one rfl) (.nil) rfl ?_
      refine Ops.put rfl rfl (ox_extract rfl) (.one rfl) (.nil) rfl ?_
      refine Ops.putO rfl rfl (ox_alloc (id := 9) z30) (.nil) (.nil) rfl (by kernel_rfl) ?_
      refine Ops.mute rfl rfl (ox_store_var t30 .tmp) ((.cons rfl (.one rfl))) (.one rfl) ?_
      refine Ops.put rfl rfl (ox_assign .tmp) (.one rfl) (.nil) rfl ?_
      refine Ops.nil ?_
      refine PT.sub (σ' := ⟨[(3, .val (a3)), (4, _), (5, _), (6, _), (9, _), (10, .val (v5.2))], [(4, .var (a0) []), (5, .var (a1) []), (6, .var (a2) []), (9, .var (v5.1) [])]⟩) ⟨rfl, rfl, rfl, rfl, rfl, rfl, trivial⟩ ⟨rfl, rfl, rfl, rfl, trivial⟩ ?_
      refine PT.seq ?_
      obtain ⟨v6, hv6, hφ⟩ := B_some hφ
      obtain ⟨v7, hv7, hφ⟩ := B_some hφ
      refine PT.region ?_
      refine Ops.put rfl rfl (ox_load_var t48) (.one rfl) (.one rfl) rfl ?_
      refine Ops.put rfl rfl (ox_load_var t25) (.one rfl) (.one rfl) rfl ?_
      refine Ops.put rfl rfl (ox_load_var t28) (.one rfl) (.one rfl) rfl ?_
      refine Ops.put rfl rfl (ox_call (c_store_Commit hv6) (.cons .tmp (.cons .tmp (.cons .tmp .nil)))) ((.app (.one rfl) (.app (.one rfl) (.app (.one rfl) .nil)))) (.nil) rfl ?_
      refine Ops.put rfl rfl (ox_move .tmp) (.one rfl) (.nil) rfl ?_
      refine Ops.put rfl rfl (ox_call (c_store_Last hv7) (.cons .tmp (.cons .tmp .nil))) ((.app (.one rfl) (.app (.one rfl) .nil))) (.nil) rfl ?_
      refine Ops.put rfl rfl (ox_move .tmp) (.one rfl) (.nil) rfl ?_
      refine Ops.put rfl rfl (ox_extract rfl) (.one rfl) (.nil) rfl ?_
      refine Ops.put rfl rfl (ox_extract rfl) (.one rfl) (.nil) rfl ?_
      refine Ops.putO rfl rfl (ox_alloc (id := 11) z30) (.nil) (.nil) rfl (by kernel_rfl) ?_
      refine Ops.mute rfl rfl (ox_store_var t30 .tmp) ((.cons rfl (.one rfl))) (.one rfl) ?_
      refine Ops.put rfl rfl (ox_assign .tmp) (.one rfl) (.nil) rfl ?_
      refine Ops.nil ?_
      refine PT.sub (σ' := ⟨[(3, .val (a3)), (4, _), (9, _), (10, .val (v5.2)), (11, _), (12, .val (v7.2))], [(4, .var (a0) []), (9, .var (v5.1) []), (11, .var (v7.1) [])]⟩) ⟨rfl, rfl, rfl, rfl, rfl, rfl, trivial⟩ ⟨rfl, rfl, rfl, trivial⟩ ?_
      refine PT.seq ?_
      obtain ⟨v8, hv8, hφ⟩ := B_some hφ
      obtain ⟨v9, hv9, hφ⟩ := B_some hφ
      refine PT.region ?_
      refine Ops.put rfl rfl (ox_load_var t48) (.one rfl) (.one rfl) rfl ?_
      refine Ops.put rfl rfl (ox_call (c_store_Back hv8) (.cons .tmp .nil)) ((.app (.one rfl) .nil)) (.nil) rfl ?_
      refine Ops.put rfl rfl (ox_move .tmp) (.one rfl) (.nil) rfl ?_
      refine Ops.put rfl rfl (ox_call (c_store_Last hv9) (.cons .tmp (.cons .tmp .nil))) ((.app (.one rfl) (.app (.one rfl) .nil))) (.nil) rfl ?_
      refine Ops.put rfl rfl (ox_move .tmp) (.one rfl) (.nil) rfl ?_
      refine Ops.put rfl rfl (ox_extract rfl) (.one rfl) (.nil) rfl ?_
      refine Ops.put rfl rfl (ox_extract rfl) (.one rfl) (.nil) rfl ?_
      refine Ops.putO rfl rfl (ox_alloc (id := 13) z30) (.nil) (.nil) rfl (by kernel_rfl) ?_
      refine Ops.mute rfl rfl (ox_store_var t30 .tmp) ((.cons rfl (.one rfl))) (.one rfl) ?_
      refine Ops.put rfl rfl (ox_assign .tmp) (.one rfl) (.nil) rfl ?_
      refine Ops.nil ?_
      refine PT.sub (σ' := ⟨[(9, _), (10, .val (v5.2)), (11, _), (12, .val (v7.2)), (13, _), (14, .val (v9.2))], [(9, .var (v5.1) []), (11, .var (v7.1) []), (13, .var (v9.1) [])]⟩) ⟨rfl, rfl, rfl, rfl, rfl, rfl, trivial⟩ ⟨rfl, rfl, rfl, trivial⟩ ?_
      refine PT.seq ?_
      refine PT.region ?_
      refine Ops.put rfl rfl (ox_load_var t30) (.one rfl) (.one rfl) rfl ?_
      refine Ops.put rfl rfl (ox_load_var t30) (.one rfl) (.one rfl) rfl ?_
      refine Ops.put rfl rfl (ox_eqlT e30 .tmp .tmp) ((.app (.one rfl) (.one rfl))) (.nil) rfl ?_
      refine Ops.put rfl rfl (ox_move .tmp) (.one rfl) (.nil) rfl ?_
      refine Ops.guard rfl rfl rfl rfl (.plain .nil) (fun hG => (ox_load_var t30)) ⟨rfl, trivial⟩ (.one rfl) rfl ?_
      refine Ops.guard rfl rfl rfl rfl (.plain .nil) (fun hG => (ox_load_var t30)) ⟨rfl, trivial⟩ (.one rfl) rfl ?_
      refine Ops.guard rfl rfl rfl rfl (.cond (fun h => h) (.cond (fun h => h) .nil)) (fun hG => (ox_eqlT e30 .tmp .tmp)) ⟨rfl, rfl, trivial⟩ (.nil) rfl ?_
      refine Ops.put rfl rfl ox_pick_and (⟨rfl, rfl, trivial⟩) (.nil) rfl ?_
      refine Ops.put rfl rfl (ox_move .tmp) (.one rfl) (.nil) rfl ?_
      refine Ops.guard rfl rfl rfl rfl (.plain .nil) (fun hG => (ox_move .tmp)) ⟨rfl, trivial⟩ (.nil) rfl ?_
      refine Ops.guard rfl rfl rfl rfl (.plain .nil) (fun hG => (ox_move .tmp)) ⟨rfl, trivial⟩ (.nil) rfl ?_
      refine Ops.guard rfl rfl rfl rfl (.cond (fun h => h) (.cond (fun h => h) .nil)) (fun hG => (ox_eqlB e4 .tmp .tmp)) ⟨rfl, rfl, trivial⟩ (.nil) rfl ?_
      refine Ops.put rfl rfl ox_pick_and (⟨rfl, rfl, trivial⟩) (.nil) rfl ?_
      refine Ops.put rfl rfl (ox_move .tmp) (.one rfl) (.nil) rfl ?_
      refine Ops.guard rfl rfl rfl rfl (.plain .nil) (fun hG => (ox_move .tmp)) ⟨rfl, trivial⟩ (.nil) rfl ?_
      refine Ops.guard rfl rfl rfl rfl (.plain .nil) (fun hG => (ox_move .tmp)) ⟨rfl, trivial⟩ (.nil) rfl ?_
      refine Ops.guard rfl rfl rfl rfl (.cond (fun h => h) (.cond (fun h => h) .nil)) (fun hG => (ox_eqlB e4 .tmp .tmp)) ⟨rfl, rfl, trivial⟩ (.nil) rfl ?_
      refine Ops.put rfl rfl ox_pick_and (⟨rfl, rfl, trivial⟩) (.nil) rfl ?_
      refine Ops.put rfl rfl (ox_assign .tmp) (.one rfl) (.nil) rfl ?_
      refine Ops.nil ?_
      refine PT.sub (σ' := ⟨[(8, .val (((((decide (v5.1 = v7.1)) && (decide (v7.1 = v9.1))) && (decide (v5.2 = v7.2))) && (decide (v7.2 = v9.2)))))], []⟩) ⟨rfl, trivial⟩ trivial ?_
      refine PT.ret ?_
      obtain rfl := Option.some.inj hφ
      exact PT.done hw0 rfl (.tmp rfl rfl .nil) rfl

/-- mendkernel/mklaw6.StoreBack -/
theorem c_mklaw6_StoreBack {a0 : Mk.Store} {a1 : List Mk.Write} {a2 : Mk.Request} {a3 : Mk.Reply} {r : Bool} (hφ : mklaw6_StoreBack a0 a1 a2 a3 = some r) : Fn Go.Proofs.Try.prog 8 [.val a0, .val a1, .val a2, .val a3] (.val r) := by
  unfold mklaw6_StoreBack at hφ
  refine Fn.mk' Go.Proofs.Try.func8 rfl (by decide) rfl rfl rfl (fun w0 hw0 => ?_)
  refine PT.seq ?_
  refine PT.region ?_
  refine Ops.putO rfl rfl (ox_box (id := 4) .tmp) (.one rfl) (.nil) rfl (by kernel_rfl) ?_
  refine Ops.putO rfl rfl (ox_box (id := 6) .tmp) (.one rfl) (.nil) rfl (by kernel_rfl) ?_
  refine Ops.putO rfl rfl (ox_box (id := 7) .tmp) (.one rfl) (.nil) rfl (by kernel_rfl) ?_
  refine Ops.put rfl rfl (ox_assign .bool) (.nil) (.nil) rfl ?_
  refine Ops.nil ?_
  refine PT.sub (σ' := ⟨[(1, .val (a1)), (4, _), (6, _), (7, _)], [(4, .var (a0) []), (6, .var (a2) []), (7, .var (a3) [])]⟩) ⟨rfl, rfl, rfl, rfl, trivial⟩ ⟨rfl, rfl, rfl, trivial⟩ ?_
  refine PT.seq ?_
  refine PT.seq ?_
  obtain ⟨v1, hv1, hφ⟩ := B_some hφ
  refine PT.region ?_
  refine Ops.put rfl rfl (ox_call (c_mklaw6_alive hv1) .nil) (.nil) (.nil) rfl ?_
  refine Ops.put rfl rfl (ox_not .tmp) (.one rfl) (.nil) rfl ?_
  refine Ops.nil ?_
  refine PT.sub (σ' := ⟨[(1, .val (a1)), (4, _), (6, _), (7, _), (16, .val ((!v1)))], [(4, .var (a0) []), (6, .var (a2) []), (7, .var (a3) [])]⟩) ⟨rfl, rfl, rfl, rfl, rfl, trivial⟩ ⟨rfl, rfl, rfl, trivial⟩ ?_
  refine PT.cond _ rfl (fun hc2 => ?_) (fun hc2 => ?_)
  · replace hφ := if_then hφ hc2
    refine PT.sub (σ' := ⟨[], []⟩) trivial trivial ?_
    refine PT.seq ?_
    refine PT.region ?_
    refine Ops.put rfl rfl (ox_assign .bool) (.nil) (.nil) rfl ?_
    refine Ops.nil ?_
    refine PT.sub (σ' := ⟨[(8, .val (false))], []⟩) ⟨rfl, trivial⟩ trivial ?_
    refine PT.ret ?_
    obtain rfl := Option.some.inj hφ
    exact PT.done hw0 rfl (.tmp rfl rfl .nil) rfl
  · replace hφ := if_else hφ hc2
    refine PT.sub (σ' := ⟨[(1, .val (a1)), (4, _), (6, _), (7, _)], [(4, .var (a0) []), (6, .var (a2) []), (7, .var (a3) [])]⟩) ⟨rfl, rfl, rfl, rfl, trivial⟩ ⟨rfl, rfl, rfl, trivial⟩ ?_
    refine PT.skip ?_
    refine PT.seq ?_
    refine PT.seq ?_
    obtain ⟨v3, hv3, hφ⟩ := B_some hφ
    refine PT.region ?_
    refine Ops.put rfl rfl (ox_load_var t48) (.one rfl) (.one rfl) rfl ?_
    refine Ops.put rfl rfl (ox_call (c_mkref1_RightStore hv3) (.cons .tmp .nil)) ((.app (.one rfl) .nil)) (.nil) rfl ?_
    refine Ops.put rfl rfl (ox_not .tmp) (.one rfl) (.nil) rfl ?_
    refine Ops.put rfl rfl (ox_move .tmp) (.one rfl) (.nil) rfl ?_
    refine Ops.guard rfl rfl rfl rfl (.plain .nil) (fun hG => (ox_move .tmp)) ⟨rfl, trivial⟩ (.nil) rfl ?_
    refine Ops.guard rfl rfl rfl rfl (.cond (fun h => h) .nil) (fun hG => (ox_len s44 .tmp)) ⟨rfl, trivial⟩ (.nil) rfl ?_
    refine Ops.guard rfl rfl rfl rfl (.cond (fun h => h) .nil) (fun hG => (ox_gtr .tmp .int)) ⟨rfl, trivial⟩ (.nil) rfl ?_
    refine Ops.put rfl rfl ox_pick_or (⟨rfl, rfl, trivial⟩) (.nil) rfl ?_
    refine Ops.nil ?_
    refine PT.sub (σ' := ⟨[(1, .val (a1)), (4, _), (6, _), (7, _), (24, .val (((!v3) || (decide ((50 : Int) < (a1.length : Int))))))], [(4, .var (a0) []), (6, .var (a2) []), (7, .var (a3) [])]⟩) ⟨rfl, rfl, rfl, rfl, rfl, trivial⟩ ⟨rfl, rfl, rfl, trivial⟩ ?_
    refine PT.cond _ rfl (fun hc4 => ?_) (fun hc4 => ?_)
    · replace hφ := if_then hφ hc4
      refine PT.sub (σ' := ⟨[], []⟩) trivial trivial ?_
      refine PT.seq ?_
      refine PT.region ?_
      refine Ops.put rfl rfl (ox_assign .bool) (.nil) (.nil) rfl ?_
      refine Ops.nil ?_
      refine PT.sub (σ' := ⟨[(8, .val (true))], []⟩) ⟨rfl, trivial⟩ trivial ?_
      refine PT.ret ?_
      obtain rfl := Option.some.inj hφ
      exact PT.done hw0 rfl (.tmp rfl rfl .nil) rfl
    · replace hφ := if_else hφ hc4
      refine PT.sub (σ' := ⟨[(1, .val (a1)), (4, _), (6, _), (7, _)], [(4, .var (a0) []), (6, .var (a2) []), (7, .var (a3) [])]⟩) ⟨rfl, rfl, rfl, rfl, trivial⟩ ⟨rfl, rfl, rfl, trivial⟩ ?_
      refine PT.skip ?_
      refine PT.seq ?_
      refine PT.region ?_
      refine Ops.put rfl rfl (ox_load_var t48) (.one rfl) (.one rfl) rfl ?_
      refine Ops.putO rfl rfl (ox_alloc (id := 9) z48) (.nil) (.nil) rfl (by kernel_rfl) ?_
      refine Ops.mute rfl rfl (ox_store_var t48 .tmp) ((.cons rfl (.one rfl))) (.one rfl) ?_
      refine Ops.nil ?_
      refine PT.sub (σ' := ⟨[(1, .val (a1)), (4, _), (6, _), (7, _), (9, _)], [(4, .var (a0) []), (6, .var (a2) []), (7, .var (a3) []), (9, .var (a0) [])]⟩) ⟨rfl, rfl, rfl, rfl, rfl, trivial⟩ ⟨rfl, rfl, rfl, rfl, trivial⟩ ?_
      obtain ⟨k5, hk5, hφ⟩ := J_some hφ
      refine PT.cut (ι := Mk.Store × Mk.Request × Mk.Reply × Mk.Store) (fun p => ⟨[(4, .ptr 4 (Lens.id (α := Mk.Store))), (6, .ptr 6 (Lens.id (α := Mk.Request))), (7, .ptr 7 (Lens.id (α := Mk.Reply))), (9, .ptr 9 (Lens.id (α := Mk.Store)))], [(4, .var (p.1) []), (6, .var (p.2.1) []), (7, .var (p.2.2.1) []), (9, .var (p.2.2.2) [])]⟩) (fun p => k5 (p.1) (p.2.1) (p.2.2.1) (p.2.2.2) = some r) ?_ ?_
      · skip
        refine PT.seq ?_
        refine PT.region ?_
        refine Ops.put rfl rfl (ox_move .tmp) (.one rfl) (.nil) rfl ?_
        refine Ops.put rfl rfl (ox_len s44 .tmp) (.one rfl) (.nil) rfl ?_
        refine Ops.put rfl rfl (ox_move .int) (.nil) (.nil) rfl ?_
        refine Ops.nil ?_
        refine PT.sub (σ' := ⟨[(4, _), (6, _), (7, _), (9, _), (26, .val (a1)), (27, .val ((a1.length : Int))), (28, .val ((0 : Int)))], [(4, .var (a0) []), (6, .var (a2) []), (7, .var (a3) []), (9, .var (a0) [])]⟩) ⟨rfl, rfl, rfl, rfl, rfl, rfl, rfl, trivial⟩ ⟨rfl, rfl, rfl, rfl, trivial⟩ ?_
        refine PT.block ?_
        refine PT.loop (ι := Nat × (List Mk.Write) × Int × Int × Mk.Store × Mk.Request × Mk.Reply × Mk.Store) (fun p => ⟨[(4, .ptr 4 (Lens.id (α := Mk.Store))), (6, .ptr 6 (Lens.id (α := Mk.Request))), (7, .ptr 7 (Lens.id (α := Mk.Reply))), (9, .ptr 9 (Lens.id (α := Mk.Store))), (26, .val (p.2.1)), (27, .val (p.2.2.1)), (28, .val (p.2.2.2.1))], [(4, .var (p.2.2.2.2.1) []), (6, .var (p.2.2.2.2.2.1) []), (7, .var (p.2.2.2.2.2.2.1) []), (9, .var (p.2.2.2.2.2.2.2) [])]⟩) (fun p => mklaw6_StoreBack_l1 k5 p.1 (p.2.1) (p.2.2.1) (p.2.2.2.1) (p.2.2.2.2.1) (p.2.2.2.2.2.1) (p.2.2.2.2.2.2.1) (p.2.2.2.2.2.2.2) = some r) (fun p => p.1) (((a1.length : Int) - (0 : Int)).toNat + 1, a1, (a1.length : Int), (0 : Int), a0, a2, a3, a0) hφ ⟨rfl, rfl, rfl, rfl, rfl, rfl, rfl, trivial⟩ ⟨rfl, rfl, rfl, rfl, trivial⟩ ?_
        rintro ⟨m6, x26_m6, x27_m6, x28_m6, y4_m6, y6_m6, y7_m6, y9_m6⟩ (hφ : mklaw6_StoreBack_l1 k5 m6 x26_m6 x27_m6 x28_m6 y4_m6 y6_m6 y7_m6 y9_m6 = some r)
        obtain _ | m6 := m6
        · exact (none_no hφ).elim
        rw [mklaw6_StoreBack_l1.eq_2] at hφ
        refine PT.sub (σ' := ⟨[(4, .ptr 4 (Lens.id (α := Mk.Store))), (6, .ptr 6 (Lens.id (α := Mk.Request))), (7, .ptr 7 (Lens.id (α := Mk.Reply))), (9, .ptr 9 (Lens.id (α := Mk.Store))), (26, .val (x26_m6)), (27, .val (x27_m6)), (28, .val (x28_m6))], [(4, .var (y4_m6) []), (6, .var (y6_m6) []), (7, .var (y7_m6) []), (9, .var (y9_m6) [])]⟩) ⟨rfl, rfl, rfl, rfl, rfl, rfl, rfl, trivial⟩ ⟨rfl, rfl, rfl, rfl, trivial⟩ ?_
        refine PT.seq ?_
        refine PT.region ?_
        refine Ops.put rfl rfl (ox_lss .tmp .tmp) ((.app (.one rfl) (.one rfl))) (.nil) rfl ?_
        refine Ops.nil ?_
        refine PT.sub (σ' := ⟨[(4, _), (6, _), (7, _), (9, _), (26, .val (x26_m6)), (27, .val (x27_m6)), (28, .val (x28_m6)), (29, .val ((decide (x28_m6 < x27_m6))))], [(4, .var (y4_m6) []), (6, .var (y6_m6) []), (7, .var (y7_m6) []), (9, .var (y9_m6) [])]⟩) ⟨rfl, rfl, rfl, rfl, rfl, rfl, rfl, rfl, trivial⟩ ⟨rfl, rfl, rfl, rfl, trivial⟩ ?_
        refine PT.seq ?_
        refine PT.cond _ rfl (fun hc7 => ?_) (fun hc7 => ?_)
        · replace hφ := if_then hφ hc7
          refine PT.sub (σ' := ⟨[(4, _), (6, _), (7, _), (9, _), (26, .val (x26_m6)), (27, .val (x27_m6)), (28, .val (x28_m6))], [(4, .var (y4_m6) []), (6, .var (y6_m6) []), (7, .var (y7_m6) []), (9, .var (y9_m6) [])]⟩) ⟨rfl, rfl, rfl, rfl, rfl, rfl, rfl, trivial⟩ ⟨rfl, rfl, rfl, rfl, trivial⟩ ?_
          refine PT.skip ?_
          refine PT.seq ?_
          refine PT.block ?_
          refine PT.seq ?_
          obtain ⟨hb8, hφ⟩ := G_some hφ
          refine PT.region ?_
          refine Ops.put rfl rfl (ox_ix s44 .tmp .tmp hb8.1 hb8.2) ((.app (.one rfl) (.one rfl))) (.nil) rfl ?_
          refine Ops.put rfl rfl (ox_load_elem t50) (.one rfl) (.nil) rfl ?_
          refine Ops.putO rfl rfl (ox_alloc (id := 11) z50) (.nil) (.nil) rfl (by kernel_rfl) ?_
          refine Ops.mute rfl rfl (ox_store_var t50 .tmp) ((.cons rfl (.one rfl))) (.one rfl) ?_
          refine Ops.nil ?_
          refine PT.sub (σ' := ⟨[(4, _), (6, _), (7, _), (9, _), (11, _), (26, .val (x26_m6)), (27, .val (x27_m6)), (28, .val (x28_m6))], [(4, .var (y4_m6) []), (6, .var (y6_m6) []), (7, .var (y7_m6) []), (9, .var (y9_m6) []), (11, .var ((ix x26_m6 x28_m6)) [])]⟩) ⟨rfl, rfl, rfl, rfl, rfl, rfl, rfl, rfl, trivial⟩ ⟨rfl, rfl, rfl, rfl, rfl, trivial⟩ ?_
          obtain ⟨v9, hv9, hφ⟩ := B_some hφ
          refine PT.region ?_
          refine Ops.put rfl rfl (ox_load_var t48) (.one rfl) (.one rfl) rfl ?_
          refine Ops.put rfl rfl (ox_load_var t50) (.one rfl) (.one rfl) rfl ?_
          refine Ops.put rfl rfl (ox_call (c_store_Write hv9) (.cons .tmp (.cons .tmp .nil))) ((.app (.one rfl) (.app (.one rfl) .nil))) (.nil) rfl ?_
          refine Ops.mute rfl rfl (ox_store_var t48 .tmp) ((.cons rfl (.one rfl))) (.one rfl) ?_
          refine Ops.nil ?_
          refine PT.sub (σ' := ⟨[(4, _), (6, _), (7, _), (9, _), (26, .val (x26_m6)), (27, .val (x27_m6)), (28, .val (x28_m6))], [(4, .var (y4_m6) []), (6, .var (y6_m6) []), (7, .var (y7_m6) []), (9, .var (v9) [])]⟩) ⟨rfl, rfl, rfl, rfl, rfl, rfl, rfl, trivial⟩ ⟨rfl, rfl, rfl, rfl, trivial⟩ ?_
          obtain ⟨hb10, hφ⟩ := G_some hφ
          refine PT.region ?_
          refine Ops.put rfl rfl (ox_add .tmp .int hb10) ((.app (.one rfl) (.nil))) (.nil) rfl ?_
          refine Ops.put rfl rfl (ox_move .tmp) (.one rfl) (.nil) rfl ?_
          refine Ops.nil ?_
          refine PT.sub (σ' := ⟨[(4, _), (6, _), (7, _), (9, _), (26, .val (x26_m6)), (27, .val (x27_m6)), (28, .val ((x28_m6 + (1 : Int))))], [(4, .var (y4_m6) []), (6, .var (y6_m6) []), (7, .var (y7_m6) []), (9, .var (v9) [])]⟩) ⟨rfl, rfl, rfl, rfl, rfl, rfl, rfl, trivial⟩ ⟨rfl, rfl, rfl, rfl, trivial⟩ ?_
          exact PT.next (m6, x26_m6, x27_m6, (x28_m6 + (1 : Int)), y4_m6, y6_m6, y7_m6, v9) hφ (Nat.lt_succ_self _) ⟨rfl, rfl, rfl, rfl, rfl, rfl, rfl, trivial⟩ ⟨rfl, rfl, rfl, rfl, trivial⟩
        · replace hφ := if_else hφ hc7
          refine PT.sub (σ' := ⟨[(4, _), (6, _), (7, _), (9, _)], [(4, .var (y4_m6) []), (6, .var (y6_m6) []), (7, .var (y7_m6) []), (9, .var (y9_m6) [])]⟩) ⟨rfl, rfl, rfl, rfl, trivial⟩ ⟨rfl, rfl, rfl, rfl, trivial⟩ ?_
          refine PT.exit ?_
          exact PT.meet (y4_m6, y6_m6, y7_m6, y9_m6) hφ ⟨rfl, rfl, rfl, rfl, trivial⟩ ⟨rfl, rfl, rfl, rfl, trivial⟩
      · rintro ⟨y4_k5, y6_k5, y7_k5, y9_k5⟩ hφ
        subst hk5
        refine PT.sub (σ' := ⟨[(4, .ptr 4 (Lens.id (α := Mk.Store))), (6, .ptr 6 (Lens.id (α := Mk.Request))), (7, .ptr 7 (Lens.id (α := Mk.Reply))), (9, .ptr 9 (Lens.id (α := Mk.Store)))], [(4, .var (y4_k5) []), (6, .var (y6_k5) []), (7, .var (y7_k5) []), (9, .var (y9_k5) [])]⟩) ⟨rfl, rfl, rfl, rfl, trivial⟩ ⟨rfl, rfl, rfl, rfl, trivial⟩ ?_
        refine PT.seq ?_
        refine PT.seq ?_
        obtain ⟨v11, hv11, hφ⟩ := B_some hφ
        obtain ⟨v12, hv12, hφ⟩ := B_some hφ
        obtain ⟨v13, hv13, hφ⟩ := B_some hφ
        refine PT.draw hMixed (
            Segs.cons (Step.put rfl rfl (ox_load_var t48)) ⟨.one rfl, .one rfl⟩ (by kernel_rfl) rfl <|
            Segs.cons (Step.put rfl rfl (ox_call (c_store_Back hv11) (.cons .tmp .nil))) ⟨(.app (.one rfl) .nil), .nil⟩ (by kernel_rfl) rfl <|
            Segs.cons (Step.put rfl rfl (ox_load_var t48)) ⟨.one rfl, .one rfl⟩ (by kernel_rfl) rfl <|
            Segs.cons (Step.put rfl rfl (ox_call (c_store_Back hv12) (.cons .tmp .nil))) ⟨(.app (.one rfl) .nil), .nil⟩ (by kernel_rfl) rfl <|
            Segs.cons (Step.put rfl rfl (ox_call (c_mkref1_SameStore hv13) (.cons .tmp (.cons .tmp .nil)))) ⟨(.app (.one rfl) (.app (.one rfl) .nil)), .nil⟩ (by kernel_rfl) rfl <|
            Segs.cons (Step.put rfl rfl (ox_not .tmp)) ⟨.one rfl, .nil⟩ (by kernel_rfl) rfl <|
            Segs.nil) _ [[], [0], [], [0, 1, 2], [0, 1, 2, 3], [0, 1, 2, 3, 4]] rfl (by kernel_rfl) (by kernel_rfl) ?_
        refine PT.sub (σ' := ⟨[(6, _), (7, _), (9, _), (41, .val ((!v13)))], [(6, .var (y6_k5) []), (7, .var (y7_k5) []), (9, .var (y9_k5) [])]⟩) ⟨rfl, rfl, rfl, rfl, trivial⟩ ⟨rfl, rfl, rfl, trivial⟩ ?_
        refine PT.cond _ rfl (fun hc14 => ?_) (fun hc14 => ?_)
        · replace hφ := if_then hφ hc14
          refine PT.sub (σ' := ⟨[], []⟩) trivial trivial ?_
          refine PT.seq ?_
          refine PT.region ?_
          refine Ops.put rfl rfl (ox_assign .bool) (.nil) (.nil) rfl ?_
          refine Ops.nil ?_
          refine PT.sub (σ' := ⟨[(8, .val (false))], []⟩) ⟨rfl, trivial⟩ trivial ?_
          refine PT.ret ?_
          obtain rfl := Option.some.inj hφ
          exact PT.done hw0 rfl (.tmp rfl rfl .nil) rfl
        · replace hφ := if_else hφ hc14
          refine PT.sub (σ' := ⟨[(6, _), (7, _), (9, _)], [(6, .var (y6_k5) []), (7, .var (y7_k5) []), (9, .var (y9_k5) [])]⟩) ⟨rfl, rfl, rfl, trivial⟩ ⟨rfl, rfl, rfl, trivial⟩ ?_
          refine PT.skip ?_
          refine PT.seq ?_
          obtain ⟨v15, hv15, hφ⟩ := B_some hφ
          refine PT.region ?_
          refine Ops.put rfl rfl (ox_load_var t48) (.one rfl) (.one rfl) rfl ?_
          refine Ops.put rfl rfl (ox_load_var t25) (.one rfl) (.one rfl) rfl ?_
          refine Ops.put rfl rfl (ox_load_var t28) (.one rfl) (.one rfl) rfl ?_
          refine Ops.put rfl rfl (ox_call (c_store_Commit hv15) (.cons .tmp (.cons .tmp (.cons .tmp .nil)))) ((.app (.one rfl) (.app (.one rfl) (.app (.one rfl) .nil)))) (.nil) rfl ?_
          refine Ops.putO rfl rfl (ox_alloc (id := 12) z48) (.nil) (.nil) rfl (by kernel_rfl) ?_
          refine Ops.mute rfl rfl (ox_store_var t48 .tmp) ((.cons rfl (.one rfl))) (.one rfl) ?_
          refine Ops.nil ?_
          refine PT.sub (σ' := ⟨[(6, _), (7, _), (9, _), (12, _)], [(6, .var (y6_k5) []), (7, .var (y7_k5) []), (9, .var (y9_k5) []), (12, .var (v15) [])]⟩) ⟨rfl, rfl, rfl, rfl, trivial⟩ ⟨rfl, rfl, rfl, rfl, trivial⟩ ?_
          refine PT.seq ?_
          obtain ⟨v16, hv16, hφ⟩ := B_some hφ
          refine PT.region ?_
          refine Ops.put rfl rfl (ox_load_var t48) (.one rfl) (.one rfl) rfl ?_
          refine Ops.put rfl rfl (ox_fieldAddr_var Request_Client f25_0) (.one rfl) (.nil) rfl ?_
          refine Ops.put rfl rfl (ox_load_fld t3) (.one rfl) (.one rfl) rfl ?_
          refine Ops.put rfl rfl (ox_call (c_store_Last hv16) (.cons .tmp (.cons .tmp .nil))) ((.app (.one rfl) (.app (.one rfl) .nil))) (.nil) rfl ?_
          refine Ops.put rfl rfl (ox_move .tmp) (.one rfl) (.nil) rfl ?_
          refine Ops.put rfl rfl (ox_extract rfl) (.one rfl) (.nil) rfl ?_
          refine Ops.put rfl rfl (ox_extract rfl) (.one rfl) (.nil) rfl ?_
          refine Ops.putO rfl rfl (ox_alloc (id := 13) z30) (.nil) (.nil) rfl (by kernel_rfl) ?_
          refine Ops.mute rfl rfl (ox_store_var t30 .tmp) ((.cons rfl (.one rfl))) (.one rfl) ?_
          refine Ops.put rfl rfl (ox_assign .tmp) (.one rfl) (.nil) rfl ?_
          refine Ops.nil ?_
          refine PT.sub (σ' := ⟨[(6, _), (7, _), (9, _), (12, _), (13, _), (14, .val (v16.2))], [(6, .var (y6_k5) []), (7, .var (y7_k5) []), (9, .var (y9_k5) []), (12, .var (v15) []), (13, .var (v16.1) [])]⟩) ⟨rfl, rfl, rfl, rfl, rfl, rfl, trivial⟩ ⟨rfl, rfl, rfl, rfl, rfl, trivial⟩ ?_
          refine PT.seq ?_
          obtain ⟨v17, hv17, hφ⟩ := B_some hφ
          obtain ⟨v18, hv18, hφ⟩ := B_some hφ
          obtain ⟨v19, hv19, hφ⟩ := B_some hφ
          refine PT.draw hMixed (
              Segs.cons (Step.put rfl rfl (ox_load_var t48)) ⟨.one rfl, .one rfl⟩ (by kernel_rfl) rfl <|
              Segs.cons (Step.put rfl rfl (ox_call (c_store_Back hv17) (.cons .tmp .nil))) ⟨(.app (.one rfl) .nil), .nil⟩ (by kernel_rfl) rfl <|
              Segs.cons (Step.put rfl rfl (ox_load_var t48)) ⟨.one rfl, .one rfl⟩ (by kernel_rfl) rfl <|
              Segs.cons (Step.put rfl rfl (ox_call (c_mkref1_SameStore hv18) (.cons .tmp (.cons .tmp .nil)))) ⟨(.app (.one rfl) (.app (.one rfl) .nil)), .nil⟩ (by kernel_rfl) rfl <|
              Segs.cons (Step.put rfl rfl (ox_move .tmp)) ⟨.one rfl, .nil⟩ (by kernel_rfl) rfl <|
              Segs.cons (Step.guard rfl rfl rfl Grd.plain _ (by first | exact Iff.rfl | simp) (.plain .nil) (fun hG => (ox_fieldAddr_var Store_Cells f48_0))) ⟨(.cons rfl ⟨rfl, trivial⟩), .nil⟩ (by kernel_rfl) rfl <|
              Segs.cons (Step.guard rfl rfl rfl Grd.plain _ (by first | exact Iff.rfl | simp) (.cond (fun h => h) .nil) (fun hG => (ox_load_fld t43))) ⟨(.cons rfl ⟨rfl, trivial⟩), .one rfl⟩ (by kernel_rfl) rfl <|
              Segs.cons (Step.guard rfl rfl rfl Grd.plain _ (by first | exact Iff.rfl | simp) (.plain .nil) (fun hG => (ox_fieldAddr_var Store_Cells f48_0))) ⟨(.cons rfl ⟨rfl, trivial⟩), .nil⟩ (by kernel_rfl) rfl <|
              Segs.cons (Step.guard rfl rfl rfl Grd.plain _ (by first | exact Iff.rfl | simp) (.cond (fun h => h) .nil) (fun hG => (ox_load_fld t43))) ⟨(.cons rfl ⟨rfl, trivial⟩), .one rfl⟩ (by kernel_rfl) rfl <|
              Segs.cons (Step.guard rfl rfl rfl Grd.plain _ (by first | exact Iff.rfl | simp) (.cond (fun h => h) (.cond (fun h => h) .nil)) (fun hG => (ox_call (c_mkref1_SameInts (Cn_on hv19 hG)) (.cons .tmp (.cons .tmp .nil))))) ⟨(.cons rfl ⟨rfl, rfl, trivial⟩), .nil⟩ (by kernel_rfl) rfl <|
              Segs.cons (Step.put rfl rfl ox_pick_and) ⟨⟨rfl, rfl, trivial⟩, .nil⟩ (by kernel_rfl) rfl <|
              Segs.cons (Step.put rfl rfl (ox_move .tmp)) ⟨.one rfl, .nil⟩ (by kernel_rfl) rfl <|
              Segs.cons (Step.guard rfl rfl rfl Grd.plain _ (by first | exact Iff.rfl | simp) (.plain .nil) (fun hG => (ox_move .tmp))) ⟨(.cons rfl ⟨rfl, trivial⟩), .nil⟩ (by kernel_rfl) rfl <|
              Segs.cons (Step.put rfl rfl ox_pick_and) ⟨⟨rfl, rfl, trivial⟩, .nil⟩ (by kernel_rfl) rfl <|
              Segs.cons (Step.put rfl rfl (ox_move .tmp)) ⟨.one rfl, .nil⟩ (by kernel_rfl) rfl <|
              Segs.cons (Step.guard rfl rfl rfl Grd.plain _ (by first | exact Iff.rfl | simp) (.plain .nil) (fun hG => (ox_load_var t30))) ⟨(.cons rfl ⟨rfl, trivial⟩), .one rfl⟩ (by kernel_rfl) rfl <|
              Segs.cons (Step.guard rfl rfl rfl Grd.plain _ (by first | exact Iff.rfl | simp) (.plain .nil) (fun hG => (ox_fieldAddr_var Request_Client f25_0))) ⟨(.cons rfl ⟨rfl, trivial⟩), .nil⟩ (by kernel_rfl) rfl <|
              Segs.cons (Step.guard rfl rfl rfl Grd.plain _ (by first | exact Iff.rfl | simp) (.cond (fun h => h) .nil) (fun hG => (ox_load_fld t3))) ⟨(.cons rfl ⟨rfl, trivial⟩), .one rfl⟩ (by kernel_rfl) rfl <|
              Segs.cons (Step.guard rfl rfl rfl Grd.plain _ (by first | exact Iff.rfl | simp) (.plain .nil) (fun hG => (ox_fieldAddr_var Request_Token f25_1))) ⟨(.cons rfl ⟨rfl, trivial⟩), .nil⟩ (by kernel_rfl) rfl <|
              Segs.cons (Step.guard rfl rfl rfl Grd.plain _ (by first | exact Iff.rfl | simp) (.cond (fun h => h) .nil) (fun hG => (ox_load_fld t3))) ⟨(.cons rfl ⟨rfl, trivial⟩), .one rfl⟩ (by kernel_rfl) rfl <|
              Segs.cons (Step.guard rfl rfl rfl Grd.plain _ (by first | exact Iff.rfl | simp) (.plain .nil) (fun hG => (ox_load_var t28))) ⟨(.cons rfl ⟨rfl, trivial⟩), .one rfl⟩ (by kernel_rfl) rfl <|
              Segs.cons (Step.guard rfl rfl rfl Grd.plain _ (by first | exact Iff.rfl | simp) (.cond (fun h => h) (.cond (fun h => h) (.cond (fun h => h) .nil))) (fun hG => (ox_buildB z30 u30 rfl (.cons Answer_Client f30_0 .tmp (.cons Answer_Token f30_1 .tmp (.cons Answer_Reply f30_2 .tmp Bld.nil)))))) ⟨(.cons rfl ⟨rfl, rfl, rfl, trivial⟩), .nil⟩ (by kernel_rfl) rfl <|
              Segs.cons (Step.guard rfl rfl rfl Grd.plain _ (by first | exact Iff.rfl | simp) (.cond (fun h => h) (.cond (fun h => h) .nil)) (fun hG => (ox_eqlT e30 .tmp .tmp))) ⟨(.cons rfl ⟨rfl, rfl, trivial⟩), .nil⟩ (by kernel_rfl) rfl <|
              Segs.cons (Step.put rfl rfl ox_pick_and) ⟨⟨rfl, rfl, trivial⟩, .nil⟩ (by kernel_rfl) rfl <|
              Segs.cons (Step.put rfl rfl (ox_assign .tmp)) ⟨.one rfl, .nil⟩ (by kernel_rfl) rfl <|
              Segs.nil) _ [[], [0], [], [0, 1, 2], [0, 1, 2, 3], [0, 1, 2, 3, 4], [0, 1, 2, 3, 4, 5], [0, 1, 2, 3, 4], [0, 1, 2, 3, 4, 7], [0, 1, 2, 3, 4, 5, 6, 7, 8], [0, 1, 2, 3, 4, 5, 6, 7, 8, 9], [0, 1, 2, 3, 4, 5, 6, 7, 8, 9, 10], [0, 1, 2, 3, 4, 5, 6, 7, 8, 9, 10, 11], [0, 1, 2, 3, 4, 5, 6, 7, 8, 9, 10, 11, 12], [0, 1, 2, 3, 4, 5, 6, 7, 8, 9, 10, 11, 12, 13], [0, 1, 2, 3, 4, 5, 6, 7, 8, 9, 10, 11, 12, 13, 14], [0, 1, 2, 3, 4, 5, 6, 7, 8, 9, 10, 11, 12, 13, 14], [0, 1, 2, 3, 4, 5, 6, 7, 8, 9, 10, 11, 12, 13, 14, 16], [0, 1, 2, 3, 4, 5, 6, 7, 8, 9, 10, 11, 12, 13, 14], [0, 1, 2, 3, 4, 5, 6, 7, 8, 9, 10, 11, 12, 13, 14, 18], [0, 1, 2, 3, 4, 5, 6, 7, 8, 9, 10, 11, 12, 13, 14], [0, 1, 2, 3, 4, 5, 6, 7, 8, 9, 10, 11, 12, 13, 14, 16, 17, 18, 19, 20], [0, 1, 2, 3, 4, 5, 6, 7, 8, 9, 10, 11, 12, 13, 14, 15, 16, 17, 18, 19, 20, 21], [0, 1, 2, 3, 4, 5, 6, 7, 8, 9, 10, 11, 12, 13, 14, 15, 16, 17, 18, 19, 20, 21, 22], [0, 1, 2, 3, 4, 5, 6, 7, 8, 9, 10, 11, 12, 13, 14, 15, 16, 17, 18, 19, 20, 21, 22, 23]] rfl (by kernel_rfl) (by kernel_rfl) ?_
          refine PT.sub (σ' := ⟨[(8, .val ((((v18 && v19) && v16.2) && (decide (v16.1 = ({ Client := y6_k5.Client, Token := y6_k5.Token, Reply := y7_k5 } : Mk.Answer))))))], []⟩) ⟨rfl, trivial⟩ trivial ?_
          refine PT.ret ?_
          obtain rfl := Option.some.inj hφ
          exact PT.done hw0 rfl (.tmp rfl rfl .nil) rfl
end Go.Gx
