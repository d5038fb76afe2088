/- FUNCTIONS OF THE PROGRAM ANSWER WHAT THEIR SPECS ANSWER: printed by gen3.py. -/
import Derived.Test.YtkmokkhcoombnaaGt
import Derived.Test.YtkmokkhcoombnaaSpWireL
import Derived.Test.YtkmokkhcoombnaaChecked
import Derived.Test.YtkmokkhcoombnaaCtWire
namespace Go.Gx
open Sp
set_option linter.unusedVariables false
set_option linter.unusedSimpArgs false
set_option maxRecDepth 20000
/-- mendkernel/mklaw5.alive -/
theorem c_mklaw5_alive  {r : Bool} (hφ : mklaw5_alive  = some r) : Fn Go.Proofs.Try.prog 33 [] (.val r) := by
  unfold mklaw5_alive at hφ
  refine Fn.mk' Go.Proofs.Try.func33 rfl (by decide) rfl rfl rfl (fun w0 hw0 => ?_)
  refine PT.seq ?_
  refine PT.region ?_
  refine Ops.put rfl rfl (ox_assign .bool) (.nil) (.nil) rfl ?_
  refine Ops.nil ?_
  refine PT.sub (σ' := ⟨[], []⟩) trivial trivial ?_
  refine PT.seq ?_
  refine PT.region ?_
  refine Ops.put rfl rfl (ox_buildB z23 u23 rfl (.cons Call_Kind f23_0 .int (.cons Call_Name f23_1 .int (.cons Call_N f23_3 .int Bld.nil)))) ((.app (.nil) (.app (.nil) (.app (.nil) .nil)))) (.nil) rfl ?_
  refine Ops.put rfl rfl (ox_buildB z25 u25 rfl (.cons Request_Client f25_0 .int (.cons Request_Token f25_1 .int (.cons Request_Call f25_2 .tmp Bld.nil)))) ((.app (.nil) (.app (.nil) (.app (.one rfl) .nil)))) (.nil) rfl ?_
  refine Ops.putO rfl rfl (ox_alloc (id := 1) z25) (.nil) (.nil) rfl (by kernel_rfl) ?_
  refine Ops.mute rfl rfl (ox_store_var t25 .tmp) ((.cons rfl (.one rfl))) (.one rfl) ?_
  refine Ops.nil ?_
  refine PT.sub (σ' := ⟨[(1, _)], [(1, .var (({ Client := (2 : Int), Token := (5 : Int), Call := ({ Kind := (1 : Int), Name := (7 : Int), Other := (0 : Int), N := (-5 : Int) } : Mk.Call) } : Mk.Request)) [])]⟩) ⟨rfl, trivial⟩ ⟨rfl, trivial⟩ ?_
  refine PT.seq ?_
  refine PT.region ?_
  refine Ops.put rfl rfl (ox_buildB z28 u28 rfl (.cons Reply_N f28_1 .int Bld.nil)) ((.app (.nil) .nil)) (.nil) rfl ?_
  refine Ops.put rfl rfl (ox_buildB z30 u30 rfl (.cons Answer_Client f30_0 .int (.cons Answer_Token f30_1 .int (.cons Answer_Reply f30_2 .tmp Bld.nil)))) ((.app (.nil) (.app (.nil) (.app (.one rfl) .nil)))) (.nil) rfl ?_
  refine Ops.putO rfl rfl (ox_alloc (id := 2) z30) (.nil) (.nil) rfl (by kernel_rfl) ?_
  refine Ops.mute rfl rfl (ox_store_var t30 .tmp) ((.cons rfl (.one rfl))) (.one rfl) ?_
  refine Ops.nil ?_
  refine PT.sub (σ' := ⟨[(1, _), (2, _)], [(1, .var (({ Client := (2 : Int), Token := (5 : Int), Call := ({ Kind := (1 : Int), Name := (7 : Int), Other := (0 : Int), N := (-5 : Int) } : Mk.Call) } : Mk.Request)) []), (2, .var (({ Client := (1 : Int), Token := (3 : Int), Reply := ({ Err := (0 : Int), N := (-9 : Int) } : Mk.Reply) } : Mk.Answer)) [])]⟩) ⟨rfl, rfl, trivial⟩ ⟨rfl, rfl, trivial⟩ ?_
  refine PT.seq ?_
  obtain ⟨v1, hv1, hφ⟩ := B_some hφ
  obtain ⟨v2, hv2, hφ⟩ := B_some hφ
  refine PT.region ?_
  refine Ops.put rfl rfl (ox_load_var t25) (.one rfl) (.one rfl) rfl ?_
  refine Ops.put rfl rfl (ox_call (c_wire_Request hv1) (.cons .tmp .nil)) ((.app (.one rfl) .nil)) (.nil) rfl ?_
  refine Ops.put rfl rfl (ox_call (c_wire_ReadRequest hv2) (.cons .tmp .nil)) ((.app (.one rfl) .nil)) (.nil) rfl ?_
  refine Ops.put rfl rfl (ox_move .tmp) (.one rfl) (.nil) rfl ?_
  refine Ops.put rfl rfl (ox_extract rfl) (.one rfl) (.nil) rfl ?_
  refine Ops.put rfl rfl (ox_extract rfl) (.one rfl) (.nil) rfl ?_
  refine Ops.putO rfl rfl (ox_alloc (id := 3) z25) (.nil) (.nil) rfl (by kernel_rfl) ?_
  refine Ops.mute rfl rfl (ox_store_var t25 .tmp) ((.cons rfl (.one rfl))) (.one rfl) ?_
  refine Ops.put rfl rfl (ox_assign .tmp) (.one rfl) (.nil) rfl ?_
  refine Ops.nil ?_
  refine PT.sub (σ' := ⟨[(1, _), (2, _), (3, _), (4, .val (v2.2))], [(1, .var (({ Client := (2 : Int), Token := (5 : Int), Call := ({ Kind := (1 : Int), Name := (7 : Int), Other := (0 : Int), N := (-5 : Int) } : Mk.Call) } : Mk.Request)) []), (2, .var (({ Client := (1 : Int), Token := (3 : Int), Reply := ({ Err := (0 : Int), N := (-9 : Int) } : Mk.Reply) } : Mk.Answer)) []), (3, .var (v2.1) [])]⟩) ⟨rfl, rfl, rfl, rfl, trivial⟩ ⟨rfl, rfl, rfl, trivial⟩ ?_
  refine PT.seq ?_
  obtain ⟨v3, hv3, hφ⟩ := B_some hφ
  obtain ⟨v4, hv4, hφ⟩ := B_some hφ
  refine PT.region ?_
  refine Ops.put rfl rfl (ox_load_var t30) (.one rfl) (.one rfl) rfl ?_
  refine Ops.put rfl rfl (ox_call (c_wire_Answer hv3) (.cons .tmp .nil)) ((.app (.one rfl) .nil)) (.nil) rfl ?_
  refine Ops.put rfl rfl (ox_call (c_wire_ReadAnswer hv4) (.cons .tmp .nil)) ((.app (.one rfl) .nil)) (.nil) rfl ?_
  refine Ops.put rfl rfl (ox_move .tmp) (.one rfl) (.nil) rfl ?_
  refine Ops.put rfl rfl (ox_extract rfl) (.one rfl) (.nil) rfl ?_
  refine Ops.put rfl rfl (ox_extract rfl) (.one rfl) (.nil) rfl ?_
  refine Ops.putO rfl rfl (ox_alloc (id := 5) z30) (.nil) (.nil) rfl (by kernel_rfl) ?_
  refine Ops.mute rfl rfl (ox_store_var t30 .tmp) ((.cons rfl (.one rfl))) (.one rfl) ?_
  refine Ops.put rfl rfl (ox_assign .tmp) (.one rfl) (.nil) rfl ?_
  refine Ops.nil ?_
  refine PT.sub (σ' := ⟨[(1, _), (2, _), (3, _), (4, .val (v2.2)), (5, _), (6, .val (v4.2))], [(1, .var (({ Client := (2 : Int), Token := (5 : Int), Call := ({ Kind := (1 : Int), Name := (7 : Int), Other := (0 : Int), N := (-5 : Int) } : Mk.Call) } : Mk.Request)) []), (2, .var (({ Client := (1 : Int), Token := (3 : Int), Reply := ({ Err := (0 : Int), N := (-9 : Int) } : Mk.Reply) } : Mk.Answer)) []), (3, .var (v2.1) []), (5, .var (v4.1) [])]⟩) ⟨rfl, rfl, rfl, rfl, rfl, rfl, trivial⟩ ⟨rfl, rfl, rfl, rfl, trivial⟩ ?_
  refine PT.seq ?_
  obtain ⟨v5, hv5, hφ⟩ := B_some hφ
  obtain ⟨v6, hv6, hφ⟩ := B_some hφ
  obtain ⟨v7, hv7, hφ⟩ := B_some hφ
  obtain ⟨v8, hv8, hφ⟩ := B_some hφ
  refine PT.region ?_
  refine Ops.put rfl rfl (ox_move .tmp) (.one rfl) (.nil) rfl ?_
  refine Ops.put rfl rfl (ox_eql .tmp .int) ((.app (.one rfl) (.nil))) (.nil) rfl ?_
  refine Ops.put rfl rfl (ox_move .tmp) (.one rfl) (.nil) rfl ?_
  refine Ops.guard rfl rfl rfl rfl (.plain .nil) (fun hG => (ox_move .tmp)) ⟨rfl, trivial⟩ (.nil) rfl ?_
  refine Ops.guard rfl rfl rfl rfl (.cond (fun h => h) .nil) (fun hG => (ox_eql .tmp .int)) ⟨rfl, trivial⟩ (.nil) rfl ?_
  refine Ops.put rfl rfl ox_pick_and (⟨rfl, rfl, trivial⟩) (.nil) rfl ?_
  refine Ops.put rfl rfl (ox_move .tmp) (.one rfl) (.nil) rfl ?_
  refine Ops.guard rfl rfl rfl rfl (.plain .nil) (fun hG => (ox_load_var t25)) ⟨rfl, trivial⟩ (.one rfl) rfl ?_
  refine Ops.guard rfl rfl rfl rfl (.plain .nil) (fun hG => (ox_load_var t25)) ⟨rfl, trivial⟩ (.one rfl) rfl ?_
  refine Ops.guard rfl rfl rfl rfl (.cond (fun h => h) (.cond (fun h => h) .nil)) (fun hG => (ox_eqlT e25 .tmp .tmp)) ⟨rfl, rfl, trivial⟩ (.nil) rfl ?_
  refine Ops.put rfl rfl ox_pick_and (⟨rfl, rfl, trivial⟩) (.nil) rfl ?_
  refine Ops.put rfl rfl (ox_move .tmp) (.one rfl) (.nil) rfl ?_
  refine Ops.guard rfl rfl rfl rfl (.plain .nil) (fun hG => (ox_load_var t30)) ⟨rfl, trivial⟩ (.one rfl) rfl ?_
  refine Ops.guard rfl rfl rfl rfl (.plain .nil) (fun hG => (ox_load_var t30)) ⟨rfl, trivial⟩ (.one rfl) rfl ?_
  refine Ops.guard rfl rfl rfl rfl (.cond (fun h => h) (.cond (fun h => h) .nil)) (fun hG => (ox_eqlT e30 .tmp .tmp)) ⟨rfl, rfl, trivial⟩ (.nil) rfl ?_
  refine Ops.put rfl rfl ox_pick_and (⟨rfl, rfl, trivial⟩) (.nil) rfl ?_
  refine Ops.put rfl rfl (ox_move .tmp) (.one rfl) (.nil) rfl ?_
  refine Ops.guard rfl rfl rfl rfl (.plain .nil) (fun hG => (ox_load_var t25)) ⟨rfl, trivial⟩ (.one rfl) rfl ?_
  refine Ops.guard rfl rfl rfl rfl (.cond (fun h => h) .nil) (fun hG => (ox_call (c_wire_WrongRequest (Cn_on hv5 hG)) (.cons .tmp .nil))) ⟨rfl, trivial⟩ (.nil) rfl ?_
  refine Ops.guard rfl rfl rfl rfl (.cond (fun h => h) .nil) (fun hG => (ox_eql .tmp .int)) ⟨rfl, trivial⟩ (.nil) rfl ?_
  refine Ops.put rfl rfl ox_pick_and (⟨rfl, rfl, trivial⟩) (.nil) rfl ?_
  refine Ops.put rfl rfl (ox_move .tmp) (.one rfl) (.nil) rfl ?_
  refine Ops.guard rfl rfl rfl rfl (.plain .nil) (fun hG => (ox_load_var t30)) ⟨rfl, trivial⟩ (.one rfl) rfl ?_
  refine Ops.guard rfl rfl rfl rfl (.cond (fun h => h) .nil) (fun hG => (ox_call (c_wire_WrongAnswer (Cn_on hv6 hG)) (.cons .tmp .nil))) ⟨rfl, trivial⟩ (.nil) rfl ?_
  refine Ops.guard rfl rfl rfl rfl (.cond (fun h => h) .nil) (fun hG => (ox_eql .tmp .int)) ⟨rfl, trivial⟩ (.nil) rfl ?_
  refine Ops.put rfl rfl ox_pick_and (⟨rfl, rfl, trivial⟩) (.nil) rfl ?_
  refine Ops.put rfl rfl (ox_move .tmp) (.one rfl) (.nil) rfl ?_
  refine Ops.guard rfl rfl rfl rfl (.plain .nil) (fun hG => (ox_load_var t25)) ⟨rfl, trivial⟩ (.one rfl) rfl ?_
  refine Ops.guard rfl rfl rfl rfl (.cond (fun h => h) .nil) (fun hG => (ox_call (c_wire_Request (Cn_on hv7 hG)) (.cons .tmp .nil))) ⟨rfl, trivial⟩ (.nil) rfl ?_
  refine Ops.guard rfl rfl rfl rfl (.cond (fun h => h) .nil) (fun hG => (ox_len s31 .tmp)) ⟨rfl, trivial⟩ (.nil) rfl ?_
  refine Ops.guard rfl rfl rfl rfl (.cond (fun h => h) .nil) (fun hG => (ox_eql .tmp .int)) ⟨rfl, trivial⟩ (.nil) rfl ?_
  refine Ops.put rfl rfl ox_pick_and (⟨rfl, rfl, trivial⟩) (.nil) rfl ?_
  refine Ops.put rfl rfl (ox_move .tmp) (.one rfl) (.nil) rfl ?_
  refine Ops.guard rfl rfl rfl rfl (.plain .nil) (fun hG => (ox_load_var t30)) ⟨rfl, trivial⟩ (.one rfl) rfl ?_
  refine Ops.guard rfl rfl rfl rfl (.cond (fun h => h) .nil) (fun hG => (ox_call (c_wire_Answer (Cn_on hv8 hG)) (.cons .tmp .nil))) ⟨rfl, trivial⟩ (.nil) rfl ?_
  refine Ops.guard rfl rfl rfl rfl (.cond (fun h => h) .nil) (fun hG => (ox_len s31 .tmp)) ⟨rfl, trivial⟩ (.nil) rfl ?_
  refine Ops.guard rfl rfl rfl rfl (.cond (fun h => h) .nil) (fun hG => (ox_eql .tmp .int)) ⟨rfl, trivial⟩ (.nil) rfl ?_
  refine Ops.put rfl rfl ox_pick_and (⟨rfl, rfl, trivial⟩) (.nil) rfl ?_
  refine Ops.put rfl rfl (ox_assign .tmp) (.one rfl) (.nil) rfl ?_
  refine Ops.nil ?_
  refine PT.sub (σ' := ⟨[(0, .val (((((((((decide (v2.2 = (0 : Int))) && (decide (v4.2 = (0 : Int)))) && (decide (v2.1 = ({ Client := (2 : Int), Token := (5 : Int), Call := ({ Kind := (1 : Int), Name := (7 : Int), Other := (0 : Int), N := (-5 : Int) } : Mk.Call) } : Mk.Request)))) && (decide (v4.1 = ({ Client := (1 : Int), Token := (3 : Int), Reply := ({ Err := (0 : Int), N := (-9 : Int) } : Mk.Reply) } : Mk.Answer)))) && (decide (v5 = (0 : Int)))) && (decide (v6 = (0 : Int)))) && (decide ((v7.length : Int) = (10 : Int)))) && (decide ((v8.length : Int) = (8 : Int))))))], []⟩) ⟨rfl, trivial⟩ trivial ?_
  refine PT.ret ?_
  obtain rfl := Option.some.inj hφ
  exact PT.done hw0 rfl (.tmp rfl rfl .nil) rfl

/-- mendkernel/mklaw5.WireTells -/
theorem c_mklaw5_WireTells {a0 : Mk.Request} {a1 : Mk.Answer} {a2 : List UInt8} {r : Bool} (hφ : mklaw5_WireTells a0 a1 a2 = some r) : Fn Go.Proofs.Try.prog 3 [.val a0, .val a1, .val a2] (.val r) := by
  unfold mklaw5_WireTells at hφ
  refine Fn.mk' Go.Proofs.Try.func3 rfl (by decide) rfl rfl rfl (fun w0 hw0 => ?_)
  refine PT.seq ?_
  refine PT.region ?_
  refine Ops.putO rfl rfl (ox_box (id := 3) .tmp) (.one rfl) (.nil) rfl (by kernel_rfl) ?_
  refine Ops.putO rfl rfl (ox_box (id := 4) .tmp) (.one rfl) (.nil) rfl (by kernel_rfl) ?_
  refine Ops.put rfl rfl (ox_assign .bool) (.nil) (.nil) rfl ?_
  refine Ops.nil ?_
  refine PT.sub (σ' := ⟨[(2, .val (a2)), (3, _), (4, _)], [(3, .var (a0) []), (4, .var (a1) [])]⟩) ⟨rfl, rfl, rfl, trivial⟩ ⟨rfl, rfl, trivial⟩ ?_
  refine PT.seq ?_
  refine PT.seq ?_
  obtain ⟨v1, hv1, hφ⟩ := B_some hφ
  obtain ⟨v2, hv2, hφ⟩ := B_some hφ
  obtain ⟨v3, hv3, hφ⟩ := B_some hφ
  obtain ⟨v4, hv4, hφ⟩ := B_some hφ
  refine PT.draw hMixed (
      Segs.cons (Step.put rfl rfl (ox_load_var t25)) ⟨.one rfl, .one rfl⟩ (by kernel_rfl) rfl <|
      Segs.cons (Step.put rfl rfl (ox_call (c_wire_WrongRequest hv1) (.cons .tmp .nil))) ⟨(.app (.one rfl) .nil), .nil⟩ (by kernel_rfl) rfl <|
      Segs.cons (Step.put rfl rfl (ox_load_var t25)) ⟨.one rfl, .one rfl⟩ (by kernel_rfl) rfl <|
      Segs.cons (Step.put rfl rfl (ox_call (c_mkref1_WrongRequest hv2) (.cons .tmp .nil))) ⟨(.app (.one rfl) .nil), .nil⟩ (by kernel_rfl) rfl <|
      Segs.cons (Step.put rfl rfl (ox_neq .tmp .tmp)) ⟨(.app (.one rfl) (.one rfl)), .nil⟩ (by kernel_rfl) rfl <|
      Segs.cons (Step.put rfl rfl (ox_move .tmp)) ⟨.one rfl, .nil⟩ (by kernel_rfl) rfl <|
      Segs.cons (Step.guard rfl rfl rfl Grd.plain _ (by first | exact Iff.rfl | simp) (.plain .nil) (fun hG => (ox_load_var t30))) ⟨(.cons rfl ⟨rfl, trivial⟩), .one rfl⟩ (by kernel_rfl) rfl <|
      Segs.cons (Step.guard rfl rfl rfl Grd.plain _ (by first | exact Iff.rfl | simp) (.cond (fun h => h) .nil) (fun hG => (ox_call (c_wire_WrongAnswer (Cn_on hv3 hG)) (.cons .tmp .nil)))) ⟨(.cons rfl ⟨rfl, trivial⟩), .nil⟩ (by kernel_rfl) rfl <|
      Segs.cons (Step.guard rfl rfl rfl Grd.plain _ (by first | exact Iff.rfl | simp) (.plain .nil) (fun hG => (ox_load_var t30))) ⟨(.cons rfl ⟨rfl, trivial⟩), .one rfl⟩ (by kernel_rfl) rfl <|
      Segs.cons (Step.guard rfl rfl rfl Grd.plain _ (by first | exact Iff.rfl | simp) (.cond (fun h => h) .nil) (fun hG => (ox_call (c_mkref1_WrongAnswer (Cn_on hv4 hG)) (.cons .tmp .nil)))) ⟨(.cons rfl ⟨rfl, trivial⟩), .nil⟩ (by kernel_rfl) rfl <|
      Segs.cons (Step.guard rfl rfl rfl Grd.plain _ (by first | exact Iff.rfl | simp) (.cond (fun h => h) (.cond (fun h => h) .nil)) (fun hG => (ox_neq .tmp .tmp))) ⟨(.cons rfl ⟨rfl, rfl, trivial⟩), .nil⟩ (by kernel_rfl) rfl <|
      Segs.cons (Step.put rfl rfl ox_pick_or) ⟨⟨rfl, rfl, trivial⟩, .nil⟩ (by kernel_rfl) rfl <|
      Segs.nil) _ [[], [0], [], [0, 1, 2], [0, 1, 2, 3], [0, 1, 2, 3, 4], [0, 1, 2, 3, 4, 5], [0, 1, 2, 3, 4, 5, 6], [0, 1, 2, 3, 4, 5], [0, 1, 2, 3, 4, 5, 6, 7, 8], [0, 1, 2, 3, 4, 5, 6, 7, 8, 9], [0, 1, 2, 3, 4, 5, 6, 7, 8, 9, 10]] rfl (by kernel_rfl) (by kernel_rfl) ?_
  refine PT.sub (σ' := ⟨[(2, .val (a2)), (3, _), (4, _), (24, .val (((!decide (v1 = v2)) || (!decide (v3 = v4)))))], [(3, .var (a0) []), (4, .var (a1) [])]⟩) ⟨rfl, rfl, rfl, rfl, trivial⟩ ⟨rfl, rfl, trivial⟩ ?_
  refine PT.cond _ rfl (fun hc5 => ?_) (fun hc5 => ?_)
  · replace hφ := if_then hφ hc5
    refine PT.sub (σ' := ⟨[], []⟩) trivial trivial ?_
    refine PT.seq ?_
    refine PT.region ?_
    refine Ops.put rfl rfl (ox_assign .bool) (.nil) (.nil) rfl ?_
    refine Ops.nil ?_
    refine PT.sub (σ' := ⟨[(6, .val (false))], []⟩) ⟨rfl, trivial⟩ trivial ?_
    refine PT.ret ?_
    obtain rfl := Option.some.inj hφ
    exact PT.done hw0 rfl (.tmp rfl rfl .nil) rfl
  · replace hφ := if_else hφ hc5
    refine PT.sub (σ' := ⟨[(2, .val (a2)), (3, _), (4, _)], [(3, .var (a0) []), (4, .var (a1) [])]⟩) ⟨rfl, rfl, rfl, trivial⟩ ⟨rfl, rfl, trivial⟩ ?_
    refine PT.skip ?_
    refine PT.seq ?_
    refine PT.seq ?_
    obtain ⟨v6, hv6, hφ⟩ := B_some hφ
    obtain ⟨v7, hv7, hφ⟩ := B_some hφ
    obtain ⟨v8, hv8, hφ⟩ := B_some hφ
    obtain ⟨v9, hv9, hφ⟩ := B_some hφ
    obtain ⟨v10, hv10, hφ⟩ := B_some hφ
    obtain ⟨v11, hv11, hφ⟩ := B_some hφ
    refine PT.draw hMixed (
        Segs.cons (Step.put rfl rfl (ox_load_var t25)) ⟨.one rfl, .one rfl⟩ (by kernel_rfl) rfl <|
        Segs.cons (Step.put rfl rfl (ox_call (c_mkref1_WrongRequest hv6) (.cons .tmp .nil))) ⟨(.app (.one rfl) .nil), .nil⟩ (by kernel_rfl) rfl <|
        Segs.cons (Step.put rfl rfl (ox_eql .tmp .int)) ⟨(.app (.one rfl) (.nil)), .nil⟩ (by kernel_rfl) rfl <|
        Segs.cons (Step.put rfl rfl (ox_move .tmp)) ⟨.one rfl, .nil⟩ (by kernel_rfl) rfl <|
        Segs.cons (Step.guard rfl rfl rfl Grd.plain _ (by first | exact Iff.rfl | simp) (.plain .nil) (fun hG => (ox_load_var t25))) ⟨(.cons rfl ⟨rfl, trivial⟩), .one rfl⟩ (by kernel_rfl) rfl <|
        Segs.cons (Step.guard rfl rfl rfl Grd.plain _ (by first | exact Iff.rfl | simp) (.cond (fun h => h) .nil) (fun hG => (ox_call (c_wire_Request (Cn_on hv7 hG)) (.cons .tmp .nil)))) ⟨(.cons rfl ⟨rfl, trivial⟩), .nil⟩ (by kernel_rfl) rfl <|
        Segs.cons (Step.guard rfl rfl rfl Grd.plain _ (by first | exact Iff.rfl | simp) (.cond (fun h => h) .nil) (fun hG => (ox_bts (e := 5) (by kernel_rfl) .tmp))) ⟨(.cons rfl ⟨rfl, trivial⟩), .nil⟩ (by kernel_rfl) rfl <|
        Segs.cons (Step.guard rfl rfl rfl Grd.plain _ (by first | exact Iff.rfl | simp) (.plain .nil) (fun hG => (ox_load_var t25))) ⟨(.cons rfl ⟨rfl, trivial⟩), .one rfl⟩ (by kernel_rfl) rfl <|
        Segs.cons (Step.guard rfl rfl rfl Grd.plain _ (by first | exact Iff.rfl | simp) (.cond (fun h => h) .nil) (fun hG => (ox_call (c_mkref1_RequestBytes (Cn_on hv8 hG)) (.cons .tmp .nil)))) ⟨(.cons rfl ⟨rfl, trivial⟩), .nil⟩ (by kernel_rfl) rfl <|
        Segs.cons (Step.guard rfl rfl rfl Grd.plain _ (by first | exact Iff.rfl | simp) (.cond (fun h => h) .nil) (fun hG => (ox_bts (e := 5) (by kernel_rfl) .tmp))) ⟨(.cons rfl ⟨rfl, trivial⟩), .nil⟩ (by kernel_rfl) rfl <|
        Segs.cons (Step.guard rfl rfl rfl Grd.plain _ (by first | exact Iff.rfl | simp) (.cond (fun h => h) (.cond (fun h => h) .nil)) (fun hG => (ox_neqStr .tmp .tmp))) ⟨(.cons rfl ⟨rfl, rfl, trivial⟩), .nil⟩ (by kernel_rfl) rfl <|
        Segs.cons (Step.put rfl rfl ox_pick_and) ⟨⟨rfl, rfl, trivial⟩, .nil⟩ (by kernel_rfl) rfl <|
        Segs.cons (Step.put rfl rfl (ox_move .tmp)) ⟨.one rfl, .nil⟩ (by kernel_rfl) rfl <|
        Segs.cons (Step.guard rfl rfl rfl Grd.plain _ (by first | exact Iff.rfl | simp) (.plain .nil) (fun hG => (ox_load_var t30))) ⟨(.cons rfl ⟨rfl, trivial⟩), .one rfl⟩ (by kernel_rfl) rfl <|
        Segs.cons (Step.guard rfl rfl rfl Grd.plain _ (by first | exact Iff.rfl | simp) (.cond (fun h => h) .nil) (fun hG => (ox_call (c_mkref1_WrongAnswer (Cn_on hv9 hG)) (.cons .tmp .nil)))) ⟨(.cons rfl ⟨rfl, trivial⟩), .nil⟩ (by kernel_rfl) rfl <|
        Segs.cons (Step.guard rfl rfl rfl Grd.plain _ (by first | exact Iff.rfl | simp) (.cond (fun h => h) .nil) (fun hG => (ox_eql .tmp .int))) ⟨(.cons rfl ⟨rfl, trivial⟩), .nil⟩ (by kernel_rfl) rfl <|
        Segs.cons (Step.guard rfl rfl rfl Grd.plain _ (by first | exact Iff.rfl | simp) (.cond (fun h => h) .nil) (fun hG => (ox_move .tmp))) ⟨(.cons rfl ⟨rfl, trivial⟩), .nil⟩ (by kernel_rfl) rfl <|
        Segs.cons (Step.guard rfl rfl rfl Grd.cond _ (by first | exact Iff.rfl | simp) (.plain .nil) (fun hG => (ox_load_var t30))) ⟨(.cons rfl ⟨rfl, trivial⟩), .one rfl⟩ (by kernel_rfl) rfl <|
        Segs.cons (Step.guard rfl rfl rfl Grd.cond _ (by first | exact Iff.rfl | simp) (.cond (fun h => h) .nil) (fun hG => (ox_call (c_wire_Answer (Cn_on hv10 hG)) (.cons .tmp .nil)))) ⟨(.cons rfl ⟨rfl, trivial⟩), .nil⟩ (by kernel_rfl) rfl <|
        Segs.cons (Step.guard rfl rfl rfl Grd.cond _ (by first | exact Iff.rfl | simp) (.cond (fun h => h) .nil) (fun hG => (ox_bts (e := 5) (by kernel_rfl) .tmp))) ⟨(.cons rfl ⟨rfl, trivial⟩), .nil⟩ (by kernel_rfl) rfl <|
        Segs.cons (Step.guard rfl rfl rfl Grd.cond _ (by first | exact Iff.rfl | simp) (.plain .nil) (fun hG => (ox_load_var t30))) ⟨(.cons rfl ⟨rfl, trivial⟩), .one rfl⟩ (by kernel_rfl) rfl <|
        Segs.cons (Step.guard rfl rfl rfl Grd.cond _ (by first | exact Iff.rfl | simp) (.cond (fun h => h) .nil) (fun hG => (ox_call (c_mkref1_AnswerBytes (Cn_on hv11 hG)) (.cons .tmp .nil)))) ⟨(.cons rfl ⟨rfl, trivial⟩), .nil⟩ (by kernel_rfl) rfl <|
        Segs.cons (Step.guard rfl rfl rfl Grd.cond _ (by first | exact Iff.rfl | simp) (.cond (fun h => h) .nil) (fun hG => (ox_bts (e := 5) (by kernel_rfl) .tmp))) ⟨(.cons rfl ⟨rfl, trivial⟩), .nil⟩ (by kernel_rfl) rfl <|
        Segs.cons (Step.guard rfl rfl rfl Grd.cond _ (by first | exact Iff.rfl | simp) (.cond (fun h => h) (.cond (fun h => h) .nil)) (fun hG => (ox_neqStr .tmp .tmp))) ⟨(.cons rfl ⟨rfl, rfl, trivial⟩), .nil⟩ (by kernel_rfl) rfl <|
        Segs.cons (Step.guard rfl rfl rfl Grd.plain _ (by first | exact Iff.rfl | simp) (.cond (fun h => h) (.part (fun h => h) .nil)) (fun hG => ox_pick_and)) ⟨(.cons rfl ⟨rfl, rfl, trivial⟩), .nil⟩ (by kernel_rfl) rfl <|
        Segs.cons (Step.put rfl rfl ox_pick_or) ⟨⟨rfl, rfl, trivial⟩, .nil⟩ (by kernel_rfl) rfl <|
        Segs.nil) _ [[], [0], [0, 1], [0, 1, 2], [0, 1, 2, 3], [0, 1, 2, 3, 4], [0, 1, 2, 3, 4, 5], [0, 1, 2, 3], [0, 1, 2, 3, 4, 5, 7], [0, 1, 2, 3, 4, 5, 7, 8], [0, 1, 2, 3, 4, 5, 6, 7, 8, 9], [0, 1, 2, 3, 4, 5, 6, 7, 8, 9, 10], [0, 1, 2, 3, 4, 5, 6, 7, 8, 9, 10, 11], [0, 1, 2, 3, 4, 5, 6, 7, 8, 9, 10, 11, 12], [0, 1, 2, 3, 4, 5, 6, 7, 8, 9, 10, 11, 12, 13], [0, 1, 2, 3, 4, 5, 6, 7, 8, 9, 10, 11, 12, 13, 14], [0, 1, 2, 3, 4, 5, 6, 7, 8, 9, 10, 11, 12, 13, 14, 15], [0, 1, 2, 3, 4, 5, 6, 7, 8, 9, 10, 11, 12, 13, 14, 15, 16], [0, 1, 2, 3, 4, 5, 6, 7, 8, 9, 10, 11, 12, 13, 14, 15, 16, 17], [0, 1, 2, 3, 4, 5, 6, 7, 8, 9, 10, 11, 12, 13, 14, 15, 16, 17, 18], [0, 1, 2, 3, 4, 5, 6, 7, 8, 9, 10, 11, 12, 13, 14, 15, 16], [0, 1, 2, 3, 4, 5, 6, 7, 8, 9, 10, 11, 12, 13, 14, 15, 16, 17, 18, 20], [0, 1, 2, 3, 4, 5, 6, 7, 8, 9, 10, 11, 12, 13, 14, 15, 16, 17, 18, 20, 21], [0, 1, 2, 3, 4, 5, 6, 7, 8, 9, 10, 11, 12, 13, 14, 15, 16, 17, 18, 19, 20, 21, 22], [0, 1, 2, 3, 4, 5, 6, 7, 8, 9, 10, 11, 12, 13, 14, 15, 16, 17, 18, 19, 20, 21, 22, 23], [0, 1, 2, 3, 4, 5, 6, 7, 8, 9, 10, 11, 12, 13, 14, 15, 16, 17, 18, 19, 20, 21, 22, 23, 24]] rfl (by kernel_rfl) (by kernel_rfl) ?_
    refine PT.sub (σ' := ⟨[(2, .val (a2)), (50, .val ((((decide (v6 = (0 : Int))) && (!decide ((bts v7) = (bts v8)))) || ((decide (v9 = (0 : Int))) && (!decide ((bts v10) = (bts v11)))))))], []⟩) ⟨rfl, rfl, trivial⟩ trivial ?_
    refine PT.cond _ rfl (fun hc12 => ?_) (fun hc12 => ?_)
    · replace hφ := if_then hφ hc12
      refine PT.sub (σ' := ⟨[], []⟩) trivial trivial ?_
      refine PT.seq ?_
      refine PT.region ?_
      refine Ops.put rfl rfl (ox_assign .bool) (.nil) (.nil) rfl ?_
      refine Ops.nil ?_
      refine PT.sub (σ' := ⟨[(6, .val (false))], []⟩) ⟨rfl, trivial⟩ trivial ?_
      refine PT.ret ?_
      obtain rfl := Option.some.inj hφ
      exact PT.done hw0 rfl (.tmp rfl rfl .nil) rfl
    · replace hφ := if_else hφ hc12
      refine PT.sub (σ' := ⟨[(2, .val (a2))], []⟩) ⟨rfl, trivial⟩ trivial ?_
      refine PT.skip ?_
      refine PT.seq ?_
      obtain ⟨v13, hv13, hφ⟩ := B_some hφ
      refine PT.region ?_
      refine Ops.put rfl rfl (ox_move .tmp) (.one rfl) (.nil) rfl ?_
      refine Ops.put rfl rfl (ox_call (c_wire_ReadRequest hv13) (.cons .tmp .nil)) ((.app (.one rfl) .nil)) (.nil) rfl ?_
      refine Ops.put rfl rfl (ox_move .tmp) (.one rfl) (.nil) rfl ?_
      refine Ops.put rfl rfl (ox_extract rfl) (.one rfl) (.nil) rfl ?_
      refine Ops.put rfl rfl (ox_extract rfl) (.one rfl) (.nil) rfl ?_
      refine Ops.putO rfl rfl (ox_alloc (id := 7) z25) (.nil) (.nil) rfl (by kernel_rfl) ?_
      refine Ops.mute rfl rfl (ox_store_var t25 .tmp) ((.cons rfl (.one rfl))) (.one rfl) ?_
      refine Ops.put rfl rfl (ox_assign .tmp) (.one rfl) (.nil) rfl ?_
      refine Ops.nil ?_
      refine PT.sub (σ' := ⟨[(2, .val (a2)), (7, _), (8, .val (v13.2))], [(7, .var (v13.1) [])]⟩) ⟨rfl, rfl, rfl, trivial⟩ ⟨rfl, trivial⟩ ?_
      refine PT.seq ?_
      obtain ⟨v14, hv14, hφ⟩ := B_some hφ
      refine PT.region ?_
      refine Ops.put rfl rfl (ox_move .tmp) (.one rfl) (.nil) rfl ?_
      refine Ops.put rfl rfl (ox_call (c_mkref1_ReadRequest hv14) (.cons .tmp .nil)) ((.app (.one rfl) .nil)) (.nil) rfl ?_
      refine Ops.put rfl rfl (ox_move .tmp) (.one rfl) (.nil) rfl ?_
      refine Ops.put rfl rfl (ox_extract rfl) (.one rfl) (.nil) rfl ?_
      refine Ops.put rfl rfl (ox_extract rfl) (.one rfl) (.nil) rfl ?_
      refine Ops.putO rfl rfl (ox_alloc (id := 9) z25) (.nil) (.nil) rfl (by kernel_rfl) ?_
      refine Ops.mute rfl rfl (ox_store_var t25 .tmp) ((.cons rfl (.one rfl))) (.one rfl) ?_
      refine Ops.put rfl rfl (ox_assign .tmp) (.one rfl) (.nil) rfl ?_
      refine Ops.nil ?_
      refine PT.sub (σ' := ⟨[(2, .val (a2)), (7, _), (8, .val (v13.2)), (9, _), (10, .val (v14.2))], [(7, .var (v13.1) []), (9, .var (v14.1) [])]⟩) ⟨rfl, rfl, rfl, rfl, rfl, trivial⟩ ⟨rfl, rfl, trivial⟩ ?_
      refine PT.seq ?_
      refine PT.seq ?_
      refine PT.region ?_
      refine Ops.put rfl rfl (ox_move .tmp) (.one rfl) (.nil) rfl ?_
      refine Ops.put rfl rfl (ox_move .tmp) (.one rfl) (.nil) rfl ?_
      refine Ops.put rfl rfl (ox_neq .tmp .tmp) ((.app (.one rfl) (.one rfl))) (.nil) rfl ?_
      refine Ops.put rfl rfl (ox_move .tmp) (.one rfl) (.nil) rfl ?_
      refine Ops.guard rfl rfl rfl rfl (.plain .nil) (fun hG => (ox_load_var t25)) ⟨rfl, trivial⟩ (.one rfl) rfl ?_
      refine Ops.guard rfl rfl rfl rfl (.plain .nil) (fun hG => (ox_load_var t25)) ⟨rfl, trivial⟩ (.one rfl) rfl ?_
      refine Ops.guard rfl rfl rfl rfl (.cond (fun h => h) (.cond (fun h => h) .nil)) (fun hG => (ox_neqT e25 .tmp .tmp)) ⟨rfl, rfl, trivial⟩ (.nil) rfl ?_
      refine Ops.put rfl rfl ox_pick_or (⟨rfl, rfl, trivial⟩) (.nil) rfl ?_
      refine Ops.nil ?_
      refine PT.sub (σ' := ⟨[(2, .val (a2)), (68, .val (((!decide (v13.2 = v14.2)) || (!decide (v13.1 = v14.1)))))], []⟩) ⟨rfl, rfl, trivial⟩ trivial ?_
      refine PT.cond _ rfl (fun hc15 => ?_) (fun hc15 => ?_)
      · replace hφ := if_then hφ hc15
        refine PT.sub (σ' := ⟨[], []⟩) trivial trivial ?_
        refine PT.seq ?_
        refine PT.region ?_
        refine Ops.put rfl rfl (ox_assign .bool) (.nil) (.nil) rfl ?_
        refine Ops.nil ?_
        refine PT.sub (σ' := ⟨[(6, .val (false))], []⟩) ⟨rfl, trivial⟩ trivial ?_
        refine PT.ret ?_
        obtain rfl := Option.some.inj hφ
        exact PT.done hw0 rfl (.tmp rfl rfl .nil) rfl
      · replace hφ := if_else hφ hc15
        refine PT.sub (σ' := ⟨[(2, .val (a2))], []⟩) ⟨rfl, trivial⟩ trivial ?_
        refine PT.skip ?_
        refine PT.seq ?_
        obtain ⟨v16, hv16, hφ⟩ := B_some hφ
        refine PT.region ?_
        refine Ops.put rfl rfl (ox_move .tmp) (.one rfl) (.nil) rfl ?_
        refine Ops.put rfl rfl (ox_call (c_wire_ReadAnswer hv16) (.cons .tmp .nil)) ((.app (.one rfl) .nil)) (.nil) rfl ?_
        refine Ops.put rfl rfl (ox_move .tmp) (.one rfl) (.nil) rfl ?_
        refine Ops.put rfl rfl (ox_extract rfl) (.one rfl) (.nil) rfl ?_
        refine Ops.put rfl rfl (ox_extract rfl) (.one rfl) (.nil) rfl ?_
        refine Ops.putO rfl rfl (ox_alloc (id := 11) z30) (.nil) (.nil) rfl (by kernel_rfl) ?_
        refine Ops.mute rfl rfl (ox_store_var t30 .tmp) ((.cons rfl (.one rfl))) (.one rfl) ?_
        refine Ops.put rfl rfl (ox_assign .tmp) (.one rfl) (.nil) rfl ?_
        refine Ops.nil ?_
        refine PT.sub (σ' := ⟨[(2, .val (a2)), (8, .val (v16.2)), (11, _)], [(11, .var (v16.1) [])]⟩) ⟨rfl, rfl, rfl, trivial⟩ ⟨rfl, trivial⟩ ?_
        refine PT.seq ?_
        obtain ⟨v17, hv17, hφ⟩ := B_some hφ
        refine PT.region ?_
        refine Ops.put rfl rfl (ox_move .tmp) (.one rfl) (.nil) rfl ?_
        refine Ops.put rfl rfl (ox_call (c_mkref1_ReadAnswer hv17) (.cons .tmp .nil)) ((.app (.one rfl) .nil)) (.nil) rfl ?_
        refine Ops.put rfl rfl (ox_move .tmp) (.one rfl) (.nil) rfl ?_
        refine Ops.put rfl rfl (ox_extract rfl) (.one rfl) (.nil) rfl ?_
        refine Ops.put rfl rfl (ox_extract rfl) (.one rfl) (.nil) rfl ?_
        refine Ops.putO rfl rfl (ox_alloc (id := 12) z30) (.nil) (.nil) rfl (by kernel_rfl) ?_
        refine Ops.mute rfl rfl (ox_store_var t30 .tmp) ((.cons rfl (.one rfl))) (.one rfl) ?_
        refine Ops.put rfl rfl (ox_assign .tmp) (.one rfl) (.nil) rfl ?_
        refine Ops.nil ?_
        refine PT.sub (σ' := ⟨[(8, .val (v16.2)), (10, .val (v17.2)), (11, _), (12, _)], [(11, .var (v16.1) []), (12, .var (v17.1) [])]⟩) ⟨rfl, rfl, rfl, rfl, trivial⟩ ⟨rfl, rfl, trivial⟩ ?_
        refine PT.seq ?_
        refine PT.region ?_
        refine Ops.put rfl rfl (ox_move .tmp) (.one rfl) (.nil) rfl ?_
        refine Ops.put rfl rfl (ox_move .tmp) (.one rfl) (.nil) rfl ?_
        refine Ops.put rfl rfl (ox_eql .tmp .tmp) ((.app (.one rfl) (.one rfl))) (.nil) rfl ?_
        refine Ops.put rfl rfl (ox_move .tmp) (.one rfl) (.nil) rfl ?_
        refine Ops.guard rfl rfl rfl rfl (.plain .nil) (fun hG => (ox_load_var t30)) ⟨rfl, trivial⟩ (.one rfl) rfl ?_
        refine Ops.guard rfl rfl rfl rfl (.plain .nil) (fun hG => (ox_load_var t30)) ⟨rfl, trivial⟩ (.one rfl) rfl ?_
        refine Ops.guard rfl rfl rfl rfl (.cond (fun h => h) (.cond (fun h => h) .nil)) (fun hG => (ox_eqlT e30 .tmp .tmp)) ⟨rfl, rfl, trivial⟩ (.nil) rfl ?_
        refine Ops.put rfl rfl ox_pick_and (⟨rfl, rfl, trivial⟩) (.nil) rfl ?_
        refine Ops.put rfl rfl (ox_assign .tmp) (.one rfl) (.nil) rfl ?_
        refine Ops.nil ?_
        refine PT.sub (σ' := ⟨[(6, .val (((decide (v16.2 = v17.2)) && (decide (v16.1 = v17.1)))))], []⟩) ⟨rfl, trivial⟩ trivial ?_
        refine PT.ret ?_
        obtain rfl := Option.some.inj hφ
        exact PT.done hw0 rfl (.tmp rfl rfl .nil) rfl

/-- mendkernel/mklaw5.WireUnlike -/
theorem c_mklaw5_WireUnlike {a0 : Mk.Request} {a1 : Mk.Request} {a2 : Mk.Answer} {a3 : Mk.Answer} {r : Bool} (hφ : mklaw5_WireUnlike a0 a1 a2 a3 = some r) : Fn Go.Proofs.Try.prog 4 [.val a0, .val a1, .val a2, .val a3] (.val r) := by
  unfold mklaw5_WireUnlike at hφ
  refine Fn.mk' Go.Proofs.Try.func4 rfl (by decide) rfl rfl rfl (fun w0 hw0 => ?_)
  refine PT.seq ?_
  refine PT.region ?_
  refine Ops.putO rfl rfl (ox_box (id := 4) .tmp) (.one rfl) (.nil) rfl (by kernel_rfl) ?_
  refine Ops.putO rfl rfl (ox_box (id := 5) .tmp) (.one rfl) (.nil) rfl (by kernel_rfl) ?_
  refine Ops.putO rfl rfl (ox_box (id := 6) .tmp) (.one rfl) (.nil) rfl (by kernel_rfl) ?_
  refine Ops.putO rfl rfl (ox_box (id := 7) .tmp) (.one rfl) (.nil) rfl (by kernel_rfl) ?_
  refine Ops.put rfl rfl (ox_assign .bool) (.nil) (.nil) rfl ?_
  refine Ops.nil ?_
  refine PT.sub (σ' := ⟨[(4, _), (5, _), (6, _), (7, _)], [(4, .var (a0) []), (5, .var (a1) []), (6, .var (a2) []), (7, .var (a3) [])]⟩) ⟨rfl, rfl, rfl, rfl, trivial⟩ ⟨rfl, rfl, rfl, rfl, trivial⟩ ?_
  refine PT.seq ?_
  refine PT.seq ?_
  obtain ⟨v1, hv1, hφ⟩ := B_some hφ
  refine PT.region ?_
  refine Ops.put rfl rfl (ox_call (c_mklaw5_alive hv1) .nil) (.nil) (.nil) rfl ?_
  refine Ops.put rfl rfl (ox_not .tmp) (.one rfl) (.nil) rfl ?_
  refine Ops.nil ?_
  refine PT.sub (σ' := ⟨[(4, _), (5, _), (6, _), (7, _), (10, .val ((!v1)))], [(4, .var (a0) []), (5, .var (a1) []), (6, .var (a2) []), (7, .var (a3) [])]⟩) ⟨rfl, rfl, rfl, rfl, rfl, trivial⟩ ⟨rfl, rfl, rfl, rfl, trivial⟩ ?_
  refine PT.cond _ rfl (fun hc2 => ?_) (fun hc2 => ?_)
  · replace hφ := if_then hφ hc2
    refine PT.sub (σ' := ⟨[], []⟩) trivial trivial ?_
    refine PT.seq ?_
    refine PT.region ?_
    refine Ops.put rfl rfl (ox_assign .bool) (.nil) (.nil) rfl ?_
    refine Ops.nil ?_
    refine PT.sub (σ' := ⟨[(8, .val (false))], []⟩) ⟨rfl, trivial⟩ trivial ?_
    refine PT.ret ?_
    obtain rfl := Option.some.inj hφ
    exact PT.done hw0 rfl (.tmp rfl rfl .nil) rfl
  · replace hφ := if_else hφ hc2
    refine PT.sub (σ' := ⟨[(4, _), (5, _), (6, _), (7, _)], [(4, .var (a0) []), (5, .var (a1) []), (6, .var (a2) []), (7, .var (a3) [])]⟩) ⟨rfl, rfl, rfl, rfl, trivial⟩ ⟨rfl, rfl, rfl, rfl, trivial⟩ ?_
    refine PT.skip ?_
    refine PT.seq ?_
    refine PT.seq ?_
    obtain ⟨v3, hv3, hφ⟩ := B_some hφ
    obtain ⟨v4, hv4, hφ⟩ := B_some hφ
    obtain ⟨v5, hv5, hφ⟩ := B_some hφ
    obtain ⟨v6, hv6, hφ⟩ := B_some hφ
    refine PT.draw hMixed (
        Segs.cons (Step.put rfl rfl (ox_load_var t25)) ⟨.one rfl, .one rfl⟩ (by kernel_rfl) rfl <|
        Segs.cons (Step.put rfl rfl (ox_call (c_wire_WrongRequest hv3) (.cons .tmp .nil))) ⟨(.app (.one rfl) .nil), .nil⟩ (by kernel_rfl) rfl <|
        Segs.cons (Step.put rfl rfl (ox_eql .tmp .int)) ⟨(.app (.one rfl) (.nil)), .nil⟩ (by kernel_rfl) rfl <|
        Segs.cons (Step.put rfl rfl (ox_move .tmp)) ⟨.one rfl, .nil⟩ (by kernel_rfl) rfl <|
        Segs.cons (Step.guard rfl rfl rfl Grd.plain _ (by first | exact Iff.rfl | simp) (.plain .nil) (fun hG => (ox_load_var t25))) ⟨(.cons rfl ⟨rfl, trivial⟩), .one rfl⟩ (by kernel_rfl) rfl <|
        Segs.cons (Step.guard rfl rfl rfl Grd.plain _ (by first | exact Iff.rfl | simp) (.cond (fun h => h) .nil) (fun hG => (ox_call (c_wire_WrongRequest (Cn_on hv4 hG)) (.cons .tmp .nil)))) ⟨(.cons rfl ⟨rfl, trivial⟩), .nil⟩ (by kernel_rfl) rfl <|
        Segs.cons (Step.guard rfl rfl rfl Grd.plain _ (by first | exact Iff.rfl | simp) (.cond (fun h => h) .nil) (fun hG => (ox_eql .tmp .int))) ⟨(.cons rfl ⟨rfl, trivial⟩), .nil⟩ (by kernel_rfl) rfl <|
        Segs.cons (Step.put rfl rfl ox_pick_and) ⟨⟨rfl, rfl, trivial⟩, .nil⟩ (by kernel_rfl) rfl <|
        Segs.cons (Step.put rfl rfl (ox_move .tmp)) ⟨.one rfl, .nil⟩ (by kernel_rfl) rfl <|
        Segs.cons (Step.guard rfl rfl rfl Grd.plain _ (by first | exact Iff.rfl | simp) (.plain .nil) (fun hG => (ox_load_var t25))) ⟨(.cons rfl ⟨rfl, trivial⟩), .one rfl⟩ (by kernel_rfl) rfl <|
        Segs.cons (Step.guard rfl rfl rfl Grd.plain _ (by first | exact Iff.rfl | simp) (.cond (fun h => h) .nil) (fun hG => (ox_call (c_wire_Request (Cn_on hv5 hG)) (.cons .tmp .nil)))) ⟨(.cons rfl ⟨rfl, trivial⟩), .nil⟩ (by kernel_rfl) rfl <|
        Segs.cons (Step.guard rfl rfl rfl Grd.plain _ (by first | exact Iff.rfl | simp) (.cond (fun h => h) .nil) (fun hG => (ox_bts (e := 5) (by kernel_rfl) .tmp))) ⟨(.cons rfl ⟨rfl, trivial⟩), .nil⟩ (by kernel_rfl) rfl <|
        Segs.cons (Step.guard rfl rfl rfl Grd.plain _ (by first | exact Iff.rfl | simp) (.plain .nil) (fun hG => (ox_load_var t25))) ⟨(.cons rfl ⟨rfl, trivial⟩), .one rfl⟩ (by kernel_rfl) rfl <|
        Segs.cons (Step.guard rfl rfl rfl Grd.plain _ (by first | exact Iff.rfl | simp) (.cond (fun h => h) .nil) (fun hG => (ox_call (c_wire_Request (Cn_on hv6 hG)) (.cons .tmp .nil)))) ⟨(.cons rfl ⟨rfl, trivial⟩), .nil⟩ (by kernel_rfl) rfl <|
        Segs.cons (Step.guard rfl rfl rfl Grd.plain _ (by first | exact Iff.rfl | simp) (.cond (fun h => h) .nil) (fun hG => (ox_bts (e := 5) (by kernel_rfl) .tmp))) ⟨(.cons rfl ⟨rfl, trivial⟩), .nil⟩ (by kernel_rfl) rfl <|
        Segs.cons (Step.guard rfl rfl rfl Grd.plain _ (by first | exact Iff.rfl | simp) (.cond (fun h => h) (.cond (fun h => h) .nil)) (fun hG => (ox_eqlStr .tmp .tmp))) ⟨(.cons rfl ⟨rfl, rfl, trivial⟩), .nil⟩ (by kernel_rfl) rfl <|
        Segs.cons (Step.guard rfl rfl rfl Grd.plain _ (by first | exact Iff.rfl | simp) (.plain .nil) (fun hG => (ox_load_var t25))) ⟨(.cons rfl ⟨rfl, trivial⟩), .one rfl⟩ (by kernel_rfl) rfl <|
        Segs.cons (Step.guard rfl rfl rfl Grd.plain _ (by first | exact Iff.rfl | simp) (.plain .nil) (fun hG => (ox_load_var t25))) ⟨(.cons rfl ⟨rfl, trivial⟩), .one rfl⟩ (by kernel_rfl) rfl <|
        Segs.cons (Step.guard rfl rfl rfl Grd.plain _ (by first | exact Iff.rfl | simp) (.cond (fun h => h) (.cond (fun h => h) .nil)) (fun hG => (ox_eqlT e25 .tmp .tmp))) ⟨(.cons rfl ⟨rfl, rfl, trivial⟩), .nil⟩ (by kernel_rfl) rfl <|
        Segs.cons (Step.guard rfl rfl rfl Grd.plain _ (by first | exact Iff.rfl | simp) (.cond (fun h => h) (.cond (fun h => h) .nil)) (fun hG => (ox_neqB e4 .tmp .tmp))) ⟨(.cons rfl ⟨rfl, rfl, trivial⟩), .nil⟩ (by kernel_rfl) rfl <|
        Segs.cons (Step.put rfl rfl ox_pick_and) ⟨⟨rfl, rfl, trivial⟩, .nil⟩ (by kernel_rfl) rfl <|
        Segs.nil) _ [[], [0], [0, 1], [0, 1, 2], [0, 1, 2, 3], [0, 1, 2, 3, 4], [0, 1, 2, 3, 4, 5], [0, 1, 2, 3, 4, 5, 6], [0, 1, 2, 3, 4, 5, 6, 7], [0, 1, 2, 3, 4, 5, 6, 7, 8], [0, 1, 2, 3, 4, 5, 6, 7, 8, 9], [0, 1, 2, 3, 4, 5, 6, 7, 8, 9, 10], [0, 1, 2, 3, 4, 5, 6, 7, 8], [0, 1, 2, 3, 4, 5, 6, 7, 8, 9, 10, 12], [0, 1, 2, 3, 4, 5, 6, 7, 8, 9, 10, 12, 13], [0, 1, 2, 3, 4, 5, 6, 7, 8, 9, 10, 11, 12, 13, 14], [0, 1, 2, 3, 4, 5, 6, 7, 8], [0, 1, 2, 3, 4, 5, 6, 7, 8], [0, 1, 2, 3, 4, 5, 6, 7, 8, 16, 17], [0, 1, 2, 3, 4, 5, 6, 7, 8, 9, 10, 11, 12, 13, 14, 15, 16, 17, 18], [0, 1, 2, 3, 4, 5, 6, 7, 8, 9, 10, 11, 12, 13, 14, 15, 16, 17, 18, 19]] rfl (by kernel_rfl) (by kernel_rfl) ?_
    refine PT.sub (σ' := ⟨[(6, _), (7, _), (31, .val ((((decide (v3 = (0 : Int))) && (decide (v4 = (0 : Int)))) && (!decide ((decide ((bts v5) = (bts v6))) = (decide (a0 = a1)))))))], [(6, .var (a2) []), (7, .var (a3) [])]⟩) ⟨rfl, rfl, rfl, trivial⟩ ⟨rfl, rfl, trivial⟩ ?_
    refine PT.cond _ rfl (fun hc7 => ?_) (fun hc7 => ?_)
    · replace hφ := if_then hφ hc7
      refine PT.sub (σ' := ⟨[], []⟩) trivial trivial ?_
      refine PT.seq ?_
      refine PT.region ?_
      refine Ops.put rfl rfl (ox_assign .bool) (.nil) (.nil) rfl ?_
      refine Ops.nil ?_
      refine PT.sub (σ' := ⟨[(8, .val (false))], []⟩) ⟨rfl, trivial⟩ trivial ?_
      refine PT.ret ?_
      obtain rfl := Option.some.inj hφ
      exact PT.done hw0 rfl (.tmp rfl rfl .nil) rfl
    · replace hφ := if_else hφ hc7
      refine PT.sub (σ' := ⟨[(6, _), (7, _)], [(6, .var (a2) []), (7, .var (a3) [])]⟩) ⟨rfl, rfl, trivial⟩ ⟨rfl, rfl, trivial⟩ ?_
      refine PT.skip ?_
      refine PT.seq ?_
      obtain ⟨v8, hv8, hφ⟩ := B_some hφ
      obtain ⟨v9, hv9, hφ⟩ := B_some hφ
      obtain ⟨v10, hv10, hφ⟩ := B_some hφ
      obtain ⟨v11, hv11, hφ⟩ := B_some hφ
      refine PT.draw hMixed (
          Segs.cons (Step.put rfl rfl (ox_load_var t30)) ⟨.one rfl, .one rfl⟩ (by kernel_rfl) rfl <|
          Segs.cons (Step.put rfl rfl (ox_call (c_wire_WrongAnswer hv8) (.cons .tmp .nil))) ⟨(.app (.one rfl) .nil), .nil⟩ (by kernel_rfl) rfl <|
          Segs.cons (Step.put rfl rfl (ox_neq .tmp .int)) ⟨(.app (.one rfl) (.nil)), .nil⟩ (by kernel_rfl) rfl <|
          Segs.cons (Step.put rfl rfl (ox_move .tmp)) ⟨.one rfl, .nil⟩ (by kernel_rfl) rfl <|
          Segs.cons (Step.guard rfl rfl rfl Grd.plain _ (by first | exact Iff.rfl | simp) (.plain .nil) (fun hG => (ox_load_var t30))) ⟨(.cons rfl ⟨rfl, trivial⟩), .one rfl⟩ (by kernel_rfl) rfl <|
          Segs.cons (Step.guard rfl rfl rfl Grd.plain _ (by first | exact Iff.rfl | simp) (.cond (fun h => h) .nil) (fun hG => (ox_call (c_wire_WrongAnswer (Cn_on hv9 hG)) (.cons .tmp .nil)))) ⟨(.cons rfl ⟨rfl, trivial⟩), .nil⟩ (by kernel_rfl) rfl <|
          Segs.cons (Step.guard rfl rfl rfl Grd.plain _ (by first | exact Iff.rfl | simp) (.cond (fun h => h) .nil) (fun hG => (ox_neq .tmp .int))) ⟨(.cons rfl ⟨rfl, trivial⟩), .nil⟩ (by kernel_rfl) rfl <|
          Segs.cons (Step.put rfl rfl ox_pick_or) ⟨⟨rfl, rfl, trivial⟩, .nil⟩ (by kernel_rfl) rfl <|
          Segs.cons (Step.put rfl rfl (ox_move .tmp)) ⟨.one rfl, .nil⟩ (by kernel_rfl) rfl <|
          Segs.cons (Step.guard rfl rfl rfl Grd.plain _ (by first | exact Iff.rfl | simp) (.plain .nil) (fun hG => (ox_load_var t30))) ⟨(.cons rfl ⟨rfl, trivial⟩), .one rfl⟩ (by kernel_rfl) rfl <|
          Segs.cons (Step.guard rfl rfl rfl Grd.plain _ (by first | exact Iff.rfl | simp) (.cond (fun h => h) .nil) (fun hG => (ox_call (c_wire_Answer (Cn_on hv10 hG)) (.cons .tmp .nil)))) ⟨(.cons rfl ⟨rfl, trivial⟩), .nil⟩ (by kernel_rfl) rfl <|
          Segs.cons (Step.guard rfl rfl rfl Grd.plain _ (by first | exact Iff.rfl | simp) (.cond (fun h => h) .nil) (fun hG => (ox_bts (e := 5) (by kernel_rfl) .tmp))) ⟨(.cons rfl ⟨rfl, trivial⟩), .nil⟩ (by kernel_rfl) rfl <|
          Segs.cons (Step.guard rfl rfl rfl Grd.plain _ (by first | exact Iff.rfl | simp) (.plain .nil) (fun hG => (ox_load_var t30))) ⟨(.cons rfl ⟨rfl, trivial⟩), .one rfl⟩ (by kernel_rfl) rfl <|
          Segs.cons (Step.guard rfl rfl rfl Grd.plain _ (by first | exact Iff.rfl | simp) (.cond (fun h => h) .nil) (fun hG => (ox_call (c_wire_Answer (Cn_on hv11 hG)) (.cons .tmp .nil)))) ⟨(.cons rfl ⟨rfl, trivial⟩), .nil⟩ (by kernel_rfl) rfl <|
          Segs.cons (Step.guard rfl rfl rfl Grd.plain _ (by first | exact Iff.rfl | simp) (.cond (fun h => h) .nil) (fun hG => (ox_bts (e := 5) (by kernel_rfl) .tmp))) ⟨(.cons rfl ⟨rfl, trivial⟩), .nil⟩ (by kernel_rfl) rfl <|
          Segs.cons (Step.guard rfl rfl rfl Grd.plain _ (by first | exact Iff.rfl | simp) (.cond (fun h => h) (.cond (fun h => h) .nil)) (fun hG => (ox_eqlStr .tmp .tmp))) ⟨(.cons rfl ⟨rfl, rfl, trivial⟩), .nil⟩ (by kernel_rfl) rfl <|
          Segs.cons (Step.guard rfl rfl rfl Grd.plain _ (by first | exact Iff.rfl | simp) (.plain .nil) (fun hG => (ox_load_var t30))) ⟨(.cons rfl ⟨rfl, trivial⟩), .one rfl⟩ (by kernel_rfl) rfl <|
          Segs.cons (Step.guard rfl rfl rfl Grd.plain _ (by first | exact Iff.rfl | simp) (.plain .nil) (fun hG => (ox_load_var t30))) ⟨(.cons rfl ⟨rfl, trivial⟩), .one rfl⟩ (by kernel_rfl) rfl <|
          Segs.cons (Step.guard rfl rfl rfl Grd.plain _ (by first | exact Iff.rfl | simp) (.cond (fun h => h) (.cond (fun h => h) .nil)) (fun hG => (ox_eqlT e30 .tmp .tmp))) ⟨(.cons rfl ⟨rfl, rfl, trivial⟩), .nil⟩ (by kernel_rfl) rfl <|
          Segs.cons (Step.guard rfl rfl rfl Grd.plain _ (by first | exact Iff.rfl | simp) (.cond (fun h => h) (.cond (fun h => h) .nil)) (fun hG => (ox_eqlB e4 .tmp .tmp))) ⟨(.cons rfl ⟨rfl, rfl, trivial⟩), .nil⟩ (by kernel_rfl) rfl <|
          Segs.cons (Step.put rfl rfl ox_pick_or) ⟨⟨rfl, rfl, trivial⟩, .nil⟩ (by kernel_rfl) rfl <|
          Segs.cons (Step.put rfl rfl (ox_assign .tmp)) ⟨.one rfl, .nil⟩ (by kernel_rfl) rfl <|
          Segs.nil) _ [[], [0], [0, 1], [0, 1, 2], [0, 1, 2, 3], [0, 1, 2, 3, 4], [0, 1, 2, 3, 4, 5], [0, 1, 2, 3, 4, 5, 6], [0, 1, 2, 3, 4, 5, 6, 7], [0, 1, 2, 3, 4, 5, 6, 7, 8], [0, 1, 2, 3, 4, 5, 6, 7, 8, 9], [0, 1, 2, 3, 4, 5, 6, 7, 8, 9, 10], [0, 1, 2, 3, 4, 5, 6, 7, 8], [0, 1, 2, 3, 4, 5, 6, 7, 8, 9, 10, 12], [0, 1, 2, 3, 4, 5, 6, 7, 8, 9, 10, 12, 13], [0, 1, 2, 3, 4, 5, 6, 7, 8, 9, 10, 11, 12, 13, 14], [0, 1, 2, 3, 4, 5, 6, 7, 8], [0, 1, 2, 3, 4, 5, 6, 7, 8], [0, 1, 2, 3, 4, 5, 6, 7, 8, 16, 17], [0, 1, 2, 3, 4, 5, 6, 7, 8, 9, 10, 11, 12, 13, 14, 15, 16, 17, 18], [0, 1, 2, 3, 4, 5, 6, 7, 8, 9, 10, 11, 12, 13, 14, 15, 16, 17, 18, 19], [0, 1, 2, 3, 4, 5, 6, 7, 8, 9, 10, 11, 12, 13, 14, 15, 16, 17, 18, 19, 20]] rfl (by kernel_rfl) (by kernel_rfl) ?_
      refine PT.sub (σ' := ⟨[(8, .val ((((!decide (v8 = (0 : Int))) || (!decide (v9 = (0 : Int)))) || (decide ((decide ((bts v10) = (bts v11))) = (decide (a2 = a3)))))))], []⟩) ⟨rfl, trivial⟩ trivial ?_
      refine PT.ret ?_
      obtain rfl := Option.some.inj hφ
      exact PT.done hw0 rfl (.tmp rfl rfl .nil) rfl

/-- mendkernel/mklaw5.WireTurns -/
theorem c_mklaw5_WireTurns {a0 : Mk.Request} {a1 : Mk.Answer} {a2 : List UInt8} {r : Bool} (hφ : mklaw5_WireTurns a0 a1 a2 = some r) : Fn Go.Proofs.Try.prog 5 [.val a0, .val a1, .val a2] (.val r) := by
  unfold mklaw5_WireTurns at hφ
  refine Fn.mk' Go.Proofs.Try.func5 rfl (by decide) rfl rfl rfl (fun w0 hw0 => ?_)
  refine PT.seq ?_
  refine PT.region ?_
  refine Ops.putO rfl rfl (ox_box (id := 3) .tmp) (.one rfl) (.nil) rfl (by kernel_rfl) ?_
  refine Ops.putO rfl rfl (ox_box (id := 4) .tmp) (.one rfl) (.nil) rfl (by kernel_rfl) ?_
  refine Ops.put rfl rfl (ox_assign .bool) (.nil) (.nil) rfl ?_
  refine Ops.nil ?_
  refine PT.sub (σ' := ⟨[(2, .val (a2)), (3, _), (4, _)], [(3, .var (a0) []), (4, .var (a1) [])]⟩) ⟨rfl, rfl, rfl, trivial⟩ ⟨rfl, rfl, trivial⟩ ?_
  refine PT.seq ?_
  refine PT.seq ?_
  obtain ⟨v1, hv1, hφ⟩ := B_some hφ
  refine PT.region ?_
  refine Ops.put rfl rfl (ox_call (c_mklaw5_alive hv1) .nil) (.nil) (.nil) rfl ?_
  refine Ops.put rfl rfl (ox_not .tmp) (.one rfl) (.nil) rfl ?_
  refine Ops.nil ?_
  refine PT.sub (σ' := ⟨[(2, .val (a2)), (3, _), (4, _), (16, .val ((!v1)))], [(3, .var (a0) []), (4, .var (a1) [])]⟩) ⟨rfl, rfl, rfl, rfl, trivial⟩ ⟨rfl, rfl, trivial⟩ ?_
  refine PT.cond _ rfl (fun hc2 => ?_) (fun hc2 => ?_)
  · replace hφ := if_then hφ hc2
    refine PT.sub (σ' := ⟨[], []⟩) trivial trivial ?_
    refine PT.seq ?_
    refine PT.region ?_
    refine Ops.put rfl rfl (ox_assign .bool) (.nil) (.nil) rfl ?_
    refine Ops.nil ?_
    refine PT.sub (σ' := ⟨[(6, .val (false))], []⟩) ⟨rfl, trivial⟩ trivial ?_
    refine PT.ret ?_
    obtain rfl := Option.some.inj hφ
    exact PT.done hw0 rfl (.tmp rfl rfl .nil) rfl
  · replace hφ := if_else hφ hc2
    refine PT.sub (σ' := ⟨[(2, .val (a2)), (3, _), (4, _)], [(3, .var (a0) []), (4, .var (a1) [])]⟩) ⟨rfl, rfl, rfl, trivial⟩ ⟨rfl, rfl, trivial⟩ ?_
    refine PT.skip ?_
    obtain ⟨k3, hk3, hφ⟩ := J_some hφ
    refine PT.cut (ι := (List UInt8) × Mk.Answer) (fun p => ⟨[(2, .val (p.1)), (4, .ptr 4 (Lens.id (α := Mk.Answer)))], [(4, .var (p.2) [])]⟩) (fun p => k3 (p.1) (p.2) = some r) ?_ ?_
    · skip
      refine PT.seq ?_
      obtain ⟨v4, hv4, hφ⟩ := B_some hφ
      refine PT.region ?_
      refine Ops.put rfl rfl (ox_load_var t25) (.one rfl) (.one rfl) rfl ?_
      refine Ops.put rfl rfl (ox_call (c_wire_WrongRequest hv4) (.cons .tmp .nil)) ((.app (.one rfl) .nil)) (.nil) rfl ?_
      refine Ops.put rfl rfl (ox_eql .tmp .int) ((.app (.one rfl) (.nil))) (.nil) rfl ?_
      refine Ops.nil ?_
      refine PT.sub (σ' := ⟨[(2, .val (a2)), (3, _), (4, _), (19, .val ((decide (v4 = (0 : Int)))))], [(3, .var (a0) []), (4, .var (a1) [])]⟩) ⟨rfl, rfl, rfl, rfl, trivial⟩ ⟨rfl, rfl, trivial⟩ ?_
      refine PT.cond _ rfl (fun hc5 => ?_) (fun hc5 => ?_)
      · replace hφ := if_then hφ hc5
        refine PT.sub (σ' := ⟨[(2, .val (a2)), (3, _), (4, _)], [(3, .var (a0) []), (4, .var (a1) [])]⟩) ⟨rfl, rfl, rfl, trivial⟩ ⟨rfl, rfl, trivial⟩ ?_
        refine PT.seq ?_
        obtain ⟨v6, hv6, hφ⟩ := B_some hφ
        obtain ⟨v7, hv7, hφ⟩ := B_some hφ
        refine PT.region ?_
        refine Ops.put rfl rfl (ox_load_var t25) (.one rfl) (.one rfl) rfl ?_
        refine Ops.put rfl rfl (ox_call (c_wire_Request hv6) (.cons .tmp .nil)) ((.app (.one rfl) .nil)) (.nil) rfl ?_
        refine Ops.put rfl rfl (ox_call (c_wire_ReadRequest hv7) (.cons .tmp .nil)) ((.app (.one rfl) .nil)) (.nil) rfl ?_
        refine Ops.put rfl rfl (ox_move .tmp) (.one rfl) (.nil) rfl ?_
        refine Ops.put rfl rfl (ox_extract rfl) (.one rfl) (.nil) rfl ?_
        refine Ops.put rfl rfl (ox_extract rfl) (.one rfl) (.nil) rfl ?_
        refine Ops.putO rfl rfl (ox_alloc (id := 7) z25) (.nil) (.nil) rfl (by kernel_rfl) ?_
        refine Ops.mute rfl rfl (ox_store_var t25 .tmp) ((.cons rfl (.one rfl))) (.one rfl) ?_
        refine Ops.put rfl rfl (ox_assign .tmp) (.one rfl) (.nil) rfl ?_
        refine Ops.nil ?_
        refine PT.sub (σ' := ⟨[(2, .val (a2)), (3, _), (4, _), (7, _), (8, .val (v7.2))], [(3, .var (a0) []), (4, .var (a1) []), (7, .var (v7.1) [])]⟩) ⟨rfl, rfl, rfl, rfl, rfl, trivial⟩ ⟨rfl, rfl, rfl, trivial⟩ ?_
        refine PT.seq ?_
        refine PT.region ?_
        refine Ops.put rfl rfl (ox_move .tmp) (.one rfl) (.nil) rfl ?_
        refine Ops.put rfl rfl (ox_neq .tmp .int) ((.app (.one rfl) (.nil))) (.nil) rfl ?_
        refine Ops.put rfl rfl (ox_move .tmp) (.one rfl) (.nil) rfl ?_
        refine Ops.guard rfl rfl rfl rfl (.plain .nil) (fun hG => (ox_load_var t25)) ⟨rfl, trivial⟩ (.one rfl) rfl ?_
        refine Ops.guard rfl rfl rfl rfl (.plain .nil) (fun hG => (ox_load_var t25)) ⟨rfl, trivial⟩ (.one rfl) rfl ?_
        refine Ops.guard rfl rfl rfl rfl (.cond (fun h => h) (.cond (fun h => h) .nil)) (fun hG => (ox_neqT e25 .tmp .tmp)) ⟨rfl, rfl, trivial⟩ (.nil) rfl ?_
        refine Ops.put rfl rfl ox_pick_or (⟨rfl, rfl, trivial⟩) (.nil) rfl ?_
        refine Ops.nil ?_
        refine PT.sub (σ' := ⟨[(2, .val (a2)), (4, _), (32, .val (((!decide (v7.2 = (0 : Int))) || (!decide (v7.1 = a0)))))], [(4, .var (a1) [])]⟩) ⟨rfl, rfl, rfl, trivial⟩ ⟨rfl, trivial⟩ ?_
        refine PT.cond _ rfl (fun hc8 => ?_) (fun hc8 => ?_)
        · replace hφ := if_then hφ hc8
          refine PT.sub (σ' := ⟨[], []⟩) trivial trivial ?_
          refine PT.seq ?_
          refine PT.region ?_
          refine Ops.put rfl rfl (ox_assign .bool) (.nil) (.nil) rfl ?_
          refine Ops.nil ?_
          refine PT.sub (σ' := ⟨[(6, .val (false))], []⟩) ⟨rfl, trivial⟩ trivial ?_
          refine PT.ret ?_
          obtain rfl := Option.some.inj hφ
          exact PT.done hw0 rfl (.tmp rfl rfl .nil) rfl
        · replace hφ := if_else hφ hc8
          refine PT.sub (σ' := ⟨[(2, .val (a2)), (4, _)], [(4, .var (a1) [])]⟩) ⟨rfl, rfl, trivial⟩ ⟨rfl, trivial⟩ ?_
          refine PT.skip ?_
          exact PT.meet (a2, a1) hφ ⟨rfl, rfl, trivial⟩ ⟨rfl, trivial⟩
      · replace hφ := if_else hφ hc5
        refine PT.sub (σ' := ⟨[(2, .val (a2)), (4, _)], [(4, .var (a1) [])]⟩) ⟨rfl, rfl, trivial⟩ ⟨rfl, trivial⟩ ?_
        refine PT.skip ?_
        exact PT.meet (a2, a1) hφ ⟨rfl, rfl, trivial⟩ ⟨rfl, trivial⟩
    · rintro ⟨x2_k3, y4_k3⟩ hφ
      subst hk3
      refine PT.sub (σ' := ⟨[(2, .val (x2_k3)), (4, .ptr 4 (Lens.id (α := Mk.Answer)))], [(4, .var (y4_k3) [])]⟩) ⟨rfl, rfl, trivial⟩ ⟨rfl, trivial⟩ ?_
      obtain ⟨k9, hk9, hφ⟩ := J_some hφ
      refine PT.cut (ι := (List UInt8)) (fun p => ⟨[(2, .val (p))], []⟩) (fun p => k9 (p) = some r) ?_ ?_
      · skip
        refine PT.seq ?_
        obtain ⟨v10, hv10, hφ⟩ := B_some hφ
        refine PT.region ?_
        refine Ops.put rfl rfl (ox_load_var t30) (.one rfl) (.one rfl) rfl ?_
        refine Ops.put rfl rfl (ox_call (c_wire_WrongAnswer hv10) (.cons .tmp .nil)) ((.app (.one rfl) .nil)) (.nil) rfl ?_
        refine Ops.put rfl rfl (ox_eql .tmp .int) ((.app (.one rfl) (.nil))) (.nil) rfl ?_
        refine Ops.nil ?_
        refine PT.sub (σ' := ⟨[(2, .val (x2_k3)), (4, _), (35, .val ((decide (v10 = (0 : Int)))))], [(4, .var (y4_k3) [])]⟩) ⟨rfl, rfl, rfl, trivial⟩ ⟨rfl, trivial⟩ ?_
        refine PT.cond _ rfl (fun hc11 => ?_) (fun hc11 => ?_)
        · replace hφ := if_then hφ hc11
          refine PT.sub (σ' := ⟨[(2, .val (x2_k3)), (4, _)], [(4, .var (y4_k3) [])]⟩) ⟨rfl, rfl, trivial⟩ ⟨rfl, trivial⟩ ?_
          refine PT.seq ?_
          obtain ⟨v12, hv12, hφ⟩ := B_some hφ
          obtain ⟨v13, hv13, hφ⟩ := B_some hφ
          refine PT.region ?_
          refine Ops.put rfl rfl (ox_load_var t30) (.one rfl) (.one rfl) rfl ?_
          refine Ops.put rfl rfl (ox_call (c_wire_Answer hv12) (.cons .tmp .nil)) ((.app (.one rfl) .nil)) (.nil) rfl ?_
          refine Ops.put rfl rfl (ox_call (c_wire_ReadAnswer hv13) (.cons .tmp .nil)) ((.app (.one rfl) .nil)) (.nil) rfl ?_
          refine Ops.put rfl rfl (ox_move .tmp) (.one rfl) (.nil) rfl ?_
          refine Ops.put rfl rfl (ox_extract rfl) (.one rfl) (.nil) rfl ?_
          refine Ops.put rfl rfl (ox_extract rfl) (.one rfl) (.nil) rfl ?_
          refine Ops.putO rfl rfl (ox_alloc (id := 9) z30) (.nil) (.nil) rfl (by kernel_rfl) ?_
          refine Ops.mute rfl rfl (ox_store_var t30 .tmp) ((.cons rfl (.one rfl))) (.one rfl) ?_
          refine Ops.put rfl rfl (ox_assign .tmp) (.one rfl) (.nil) rfl ?_
          refine Ops.nil ?_
          refine PT.sub (σ' := ⟨[(2, .val (x2_k3)), (4, _), (9, _), (10, .val (v13.2))], [(4, .var (y4_k3) []), (9, .var (v13.1) [])]⟩) ⟨rfl, rfl, rfl, rfl, trivial⟩ ⟨rfl, rfl, trivial⟩ ?_
          refine PT.seq ?_
          refine PT.region ?_
          refine Ops.put rfl rfl (ox_move .tmp) (.one rfl) (.nil) rfl ?_
          refine Ops.put rfl rfl (ox_neq .tmp .int) ((.app (.one rfl) (.nil))) (.nil) rfl ?_
          refine Ops.put rfl rfl (ox_move .tmp) (.one rfl) (.nil) rfl ?_
          refine Ops.guard rfl rfl rfl rfl (.plain .nil) (fun hG => (ox_load_var t30)) ⟨rfl, trivial⟩ (.one rfl) rfl ?_
          refine Ops.guard rfl rfl rfl rfl (.plain .nil) (fun hG => (ox_load_var t30)) ⟨rfl, trivial⟩ (.one rfl) rfl ?_
          refine Ops.guard rfl rfl rfl rfl (.cond (fun h => h) (.cond (fun h => h) .nil)) (fun hG => (ox_neqT e30 .tmp .tmp)) ⟨rfl, rfl, trivial⟩ (.nil) rfl ?_
          refine Ops.put rfl rfl ox_pick_or (⟨rfl, rfl, trivial⟩) (.nil) rfl ?_
          refine Ops.nil ?_
          refine PT.sub (σ' := ⟨[(2, .val (x2_k3)), (48, .val (((!decide (v13.2 = (0 : Int))) || (!decide (v13.1 = y4_k3)))))], []⟩) ⟨rfl, rfl, trivial⟩ trivial ?_
          refine PT.cond _ rfl (fun hc14 => ?_) (fun hc14 => ?_)
          · replace hφ := if_then hφ hc14
            refine PT.sub (σ' := ⟨[], []⟩) trivial trivial ?_
            refine PT.seq ?_
            refine PT.region ?_
            refine Ops.put rfl rfl (ox_assign .bool) (.nil) (.nil) rfl ?_
            refine Ops.nil ?_
            refine PT.sub (σ' := ⟨[(6, .val (false))], []⟩) ⟨rfl, trivial⟩ trivial ?_
            refine PT.ret ?_
            obtain rfl := Option.some.inj hφ
            exact PT.done hw0 rfl (.tmp rfl rfl .nil) rfl
          · replace hφ := if_else hφ hc14
            refine PT.sub (σ' := ⟨[(2, .val (x2_k3))], []⟩) ⟨rfl, trivial⟩ trivial ?_
            refine PT.skip ?_
            exact PT.meet (x2_k3) hφ ⟨rfl, trivial⟩ trivial
        · replace hφ := if_else hφ hc11
          refine PT.sub (σ' := ⟨[(2, .val (x2_k3))], []⟩) ⟨rfl, trivial⟩ trivial ?_
          refine PT.skip ?_
          exact PT.meet (x2_k3) hφ ⟨rfl, trivial⟩ trivial
      · rintro x2_k9 hφ
        subst hk9
        refine PT.sub (σ' := ⟨[(2, .val (x2_k9))], []⟩) ⟨rfl, trivial⟩ trivial ?_
        refine PT.seq ?_
        obtain ⟨v15, hv15, hφ⟩ := B_some hφ
        refine PT.region ?_
        refine Ops.put rfl rfl (ox_move .tmp) (.one rfl) (.nil) rfl ?_
        refine Ops.put rfl rfl (ox_call (c_wire_ReadRequest hv15) (.cons .tmp .nil)) ((.app (.one rfl) .nil)) (.nil) rfl ?_
        refine Ops.put rfl rfl (ox_move .tmp) (.one rfl) (.nil) rfl ?_
        refine Ops.put rfl rfl (ox_extract rfl) (.one rfl) (.nil) rfl ?_
        refine Ops.put rfl rfl (ox_extract rfl) (.one rfl) (.nil) rfl ?_
        refine Ops.putO rfl rfl (ox_alloc (id := 11) z25) (.nil) (.nil) rfl (by kernel_rfl) ?_
        refine Ops.mute rfl rfl (ox_store_var t25 .tmp) ((.cons rfl (.one rfl))) (.one rfl) ?_
        refine Ops.put rfl rfl (ox_assign .tmp) (.one rfl) (.nil) rfl ?_
        refine Ops.nil ?_
        refine PT.sub (σ' := ⟨[(2, .val (x2_k9)), (11, _), (12, .val (v15.2))], [(11, .var (v15.1) [])]⟩) ⟨rfl, rfl, rfl, trivial⟩ ⟨rfl, trivial⟩ ?_
        refine PT.seq ?_
        obtain ⟨v16, hv16, hφ⟩ := B_some hφ
        refine PT.region ?_
        refine Ops.put rfl rfl (ox_move .tmp) (.one rfl) (.nil) rfl ?_
        refine Ops.put rfl rfl (ox_call (c_wire_ReadAnswer hv16) (.cons .tmp .nil)) ((.app (.one rfl) .nil)) (.nil) rfl ?_
        refine Ops.put rfl rfl (ox_move .tmp) (.one rfl) (.nil) rfl ?_
        refine Ops.put rfl rfl (ox_extract rfl) (.one rfl) (.nil) rfl ?_
        refine Ops.put rfl rfl (ox_extract rfl) (.one rfl) (.nil) rfl ?_
        refine Ops.putO rfl rfl (ox_alloc (id := 13) z30) (.nil) (.nil) rfl (by kernel_rfl) ?_
        refine Ops.mute rfl rfl (ox_store_var t30 .tmp) ((.cons rfl (.one rfl))) (.one rfl) ?_
        refine Ops.put rfl rfl (ox_assign .tmp) (.one rfl) (.nil) rfl ?_
        refine Ops.nil ?_
        refine PT.sub (σ' := ⟨[(2, .val (x2_k9)), (11, _), (12, .val (v15.2)), (13, _), (14, .val (v16.2))], [(11, .var (v15.1) []), (13, .var (v16.1) [])]⟩) ⟨rfl, rfl, rfl, rfl, rfl, trivial⟩ ⟨rfl, rfl, trivial⟩ ?_
        refine PT.seq ?_
        obtain ⟨v17, hv17, hφ⟩ := B_some hφ
        obtain ⟨v18, hv18, hφ⟩ := B_some hφ
        refine PT.draw hMixed (
            Segs.cons (Step.put rfl rfl (ox_move .tmp)) ⟨.one rfl, .nil⟩ (by kernel_rfl) rfl <|
            Segs.cons (Step.put rfl rfl (ox_neq .tmp .int)) ⟨(.app (.one rfl) (.nil)), .nil⟩ (by kernel_rfl) rfl <|
            Segs.cons (Step.put rfl rfl (ox_move .tmp)) ⟨.one rfl, .nil⟩ (by kernel_rfl) rfl <|
            Segs.cons (Step.guard rfl rfl rfl Grd.plain _ (by first | exact Iff.rfl | simp) (.plain .nil) (fun hG => (ox_move .tmp))) ⟨(.cons rfl ⟨rfl, trivial⟩), .nil⟩ (by kernel_rfl) rfl <|
            Segs.cons (Step.guard rfl rfl rfl Grd.plain _ (by first | exact Iff.rfl | simp) (.cond (fun h => h) .nil) (fun hG => (ox_neq .tmp .int))) ⟨(.cons rfl ⟨rfl, trivial⟩), .nil⟩ (by kernel_rfl) rfl <|
            Segs.cons (Step.put rfl rfl ox_pick_or) ⟨⟨rfl, rfl, trivial⟩, .nil⟩ (by kernel_rfl) rfl <|
            Segs.cons (Step.put rfl rfl (ox_move .tmp)) ⟨.one rfl, .nil⟩ (by kernel_rfl) rfl <|
            Segs.cons (Step.guard rfl rfl rfl Grd.plain _ (by first | exact Iff.rfl | simp) (.plain .nil) (fun hG => (ox_move .tmp))) ⟨(.cons rfl ⟨rfl, trivial⟩), .nil⟩ (by kernel_rfl) rfl <|
            Segs.cons (Step.guard rfl rfl rfl Grd.plain _ (by first | exact Iff.rfl | simp) (.cond (fun h => h) .nil) (fun hG => (ox_neq .tmp .int))) ⟨(.cons rfl ⟨rfl, trivial⟩), .nil⟩ (by kernel_rfl) rfl <|
            Segs.cons (Step.guard rfl rfl rfl Grd.plain _ (by first | exact Iff.rfl | simp) (.cond (fun h => h) .nil) (fun hG => (ox_move .tmp))) ⟨(.cons rfl ⟨rfl, trivial⟩), .nil⟩ (by kernel_rfl) rfl <|
            Segs.cons (Step.guard rfl rfl rfl Grd.cond _ (by first | exact Iff.rfl | simp) (.plain .nil) (fun hG => (ox_load_var t25))) ⟨(.cons rfl ⟨rfl, trivial⟩), .one rfl⟩ (by kernel_rfl) rfl <|
            Segs.cons (Step.guard rfl rfl rfl Grd.cond _ (by first | exact Iff.rfl | simp) (.cond (fun h => h) .nil) (fun hG => (ox_call (c_wire_Request (Cn_on hv17 hG)) (.cons .tmp .nil)))) ⟨(.cons rfl ⟨rfl, trivial⟩), .nil⟩ (by kernel_rfl) rfl <|
            Segs.cons (Step.guard rfl rfl rfl Grd.cond _ (by first | exact Iff.rfl | simp) (.cond (fun h => h) .nil) (fun hG => (ox_bts (e := 5) (by kernel_rfl) .tmp))) ⟨(.cons rfl ⟨rfl, trivial⟩), .nil⟩ (by kernel_rfl) rfl <|
            Segs.cons (Step.guard rfl rfl rfl Grd.cond _ (by first | exact Iff.rfl | simp) (.plain .nil) (fun hG => (ox_move .tmp))) ⟨(.cons rfl ⟨rfl, trivial⟩), .nil⟩ (by kernel_rfl) rfl <|
            Segs.cons (Step.guard rfl rfl rfl Grd.cond _ (by first | exact Iff.rfl | simp) (.cond (fun h => h) .nil) (fun hG => (ox_bts (e := 5) (by kernel_rfl) .tmp))) ⟨(.cons rfl ⟨rfl, trivial⟩), .nil⟩ (by kernel_rfl) rfl <|
            Segs.cons (Step.guard rfl rfl rfl Grd.cond _ (by first | exact Iff.rfl | simp) (.cond (fun h => h) (.cond (fun h => h) .nil)) (fun hG => (ox_eqlStr .tmp .tmp))) ⟨(.cons rfl ⟨rfl, rfl, trivial⟩), .nil⟩ (by kernel_rfl) rfl <|
            Segs.cons (Step.guard rfl rfl rfl Grd.plain _ (by first | exact Iff.rfl | simp) (.cond (fun h => h) (.part (fun h => h) .nil)) (fun hG => ox_pick_or)) ⟨(.cons rfl ⟨rfl, rfl, trivial⟩), .nil⟩ (by kernel_rfl) rfl <|
            Segs.cons (Step.put rfl rfl ox_pick_and) ⟨⟨rfl, rfl, trivial⟩, .nil⟩ (by kernel_rfl) rfl <|
            Segs.cons (Step.put rfl rfl (ox_move .tmp)) ⟨.one rfl, .nil⟩ (by kernel_rfl) rfl <|
            Segs.cons (Step.guard rfl rfl rfl Grd.plain _ (by first | exact Iff.rfl | simp) (.plain .nil) (fun hG => (ox_move .tmp))) ⟨(.cons rfl ⟨rfl, trivial⟩), .nil⟩ (by kernel_rfl) rfl <|
            Segs.cons (Step.guard rfl rfl rfl Grd.plain _ (by first | exact Iff.rfl | simp) (.cond (fun h => h) .nil) (fun hG => (ox_neq .tmp .int))) ⟨(.cons rfl ⟨rfl, trivial⟩), .nil⟩ (by kernel_rfl) rfl <|
            Segs.cons (Step.guard rfl rfl rfl Grd.plain _ (by first | exact Iff.rfl | simp) (.cond (fun h => h) .nil) (fun hG => (ox_move .tmp))) ⟨(.cons rfl ⟨rfl, trivial⟩), .nil⟩ (by kernel_rfl) rfl <|
            Segs.cons (Step.guard rfl rfl rfl Grd.cond _ (by first | exact Iff.rfl | simp) (.plain .nil) (fun hG => (ox_load_var t30))) ⟨(.cons rfl ⟨rfl, trivial⟩), .one rfl⟩ (by kernel_rfl) rfl <|
            Segs.cons (Step.guard rfl rfl rfl Grd.cond _ (by first | exact Iff.rfl | simp) (.cond (fun h => h) .nil) (fun hG => (ox_call (c_wire_Answer (Cn_on hv18 hG)) (.cons .tmp .nil)))) ⟨(.cons rfl ⟨rfl, trivial⟩), .nil⟩ (by kernel_rfl) rfl <|
            Segs.cons (Step.guard rfl rfl rfl Grd.cond _ (by first | exact Iff.rfl | simp) (.cond (fun h => h) .nil) (fun hG => (ox_bts (e := 5) (by kernel_rfl) .tmp))) ⟨(.cons rfl ⟨rfl, trivial⟩), .nil⟩ (by kernel_rfl) rfl <|
            Segs.cons (Step.guard rfl rfl rfl Grd.cond _ (by first | exact Iff.rfl | simp) (.plain .nil) (fun hG => (ox_move .tmp))) ⟨(.cons rfl ⟨rfl, trivial⟩), .nil⟩ (by kernel_rfl) rfl <|
            Segs.cons (Step.guard rfl rfl rfl Grd.cond _ (by first | exact Iff.rfl | simp) (.cond (fun h => h) .nil) (fun hG => (ox_bts (e := 5) (by kernel_rfl) .tmp))) ⟨(.cons rfl ⟨rfl, trivial⟩), .nil⟩ (by kernel_rfl) rfl <|
            Segs.cons (Step.guard rfl rfl rfl Grd.cond _ (by first | exact Iff.rfl | simp) (.cond (fun h => h) (.cond (fun h => h) .nil)) (fun hG => (ox_eqlStr .tmp .tmp))) ⟨(.cons rfl ⟨rfl, rfl, trivial⟩), .nil⟩ (by kernel_rfl) rfl <|
            Segs.cons (Step.guard rfl rfl rfl Grd.plain _ (by first | exact Iff.rfl | simp) (.cond (fun h => h) (.part (fun h => h) .nil)) (fun hG => ox_pick_or)) ⟨(.cons rfl ⟨rfl, rfl, trivial⟩), .nil⟩ (by kernel_rfl) rfl <|
            Segs.cons (Step.put rfl rfl ox_pick_and) ⟨⟨rfl, rfl, trivial⟩, .nil⟩ (by kernel_rfl) rfl <|
            Segs.cons (Step.put rfl rfl (ox_assign .tmp)) ⟨.one rfl, .nil⟩ (by kernel_rfl) rfl <|
            Segs.nil) _ [[], [0], [0, 1], [0, 1, 2], [0, 1, 2, 3], [0, 1, 2, 3, 4], [0, 1, 2, 3, 4, 5], [0, 1, 2, 3, 4, 5, 6], [0, 1, 2, 3, 4, 5, 6, 7], [0, 1, 2, 3, 4, 5, 6, 7, 8], [0, 1, 2, 3, 4, 5, 6, 7, 8, 9], [0, 1, 2, 3, 4, 5, 6, 7, 8, 9, 10], [0, 1, 2, 3, 4, 5, 6, 7, 8, 9, 10, 11], [0, 1, 2, 3, 4, 5, 6, 7, 8, 9], [0, 1, 2, 3, 4, 5, 6, 7, 8, 9, 13], [0, 1, 2, 3, 4, 5, 6, 7, 8, 9, 10, 11, 12, 13, 14], [0, 1, 2, 3, 4, 5, 6, 7, 8, 9, 10, 11, 12, 13, 14, 15], [0, 1, 2, 3, 4, 5, 6, 7, 8, 9, 10, 11, 12, 13, 14, 15, 16], [0, 1, 2, 3, 4, 5, 6, 7, 8, 9, 10, 11, 12, 13, 14, 15, 16, 17], [0, 1, 2, 3, 4, 5, 6, 7, 8, 9, 10, 11, 12, 13, 14, 15, 16, 17, 18], [0, 1, 2, 3, 4, 5, 6, 7, 8, 9, 10, 11, 12, 13, 14, 15, 16, 17, 18, 19], [0, 1, 2, 3, 4, 5, 6, 7, 8, 9, 10, 11, 12, 13, 14, 15, 16, 17, 18, 19, 20], [0, 1, 2, 3, 4, 5, 6, 7, 8, 9, 10, 11, 12, 13, 14, 15, 16, 17, 18, 19, 20, 21], [0, 1, 2, 3, 4, 5, 6, 7, 8, 9, 10, 11, 12, 13, 14, 15, 16, 17, 18, 19, 20, 21, 22], [0, 1, 2, 3, 4, 5, 6, 7, 8, 9, 10, 11, 12, 13, 14, 15, 16, 17, 18, 19, 20, 21, 22, 23], [0, 1, 2, 3, 4, 5, 6, 7, 8, 9, 10, 11, 12, 13, 14, 15, 16, 17, 18, 19, 20, 21], [0, 1, 2, 3, 4, 5, 6, 7, 8, 9, 10, 11, 12, 13, 14, 15, 16, 17, 18, 19, 20, 21, 25], [0, 1, 2, 3, 4, 5, 6, 7, 8, 9, 10, 11, 12, 13, 14, 15, 16, 17, 18, 19, 20, 21, 22, 23, 24, 25, 26], [0, 1, 2, 3, 4, 5, 6, 7, 8, 9, 10, 11, 12, 13, 14, 15, 16, 17, 18, 19, 20, 21, 22, 23, 24, 25, 26, 27], [0, 1, 2, 3, 4, 5, 6, 7, 8, 9, 10, 11, 12, 13, 14, 15, 16, 17, 18, 19, 20, 21, 22, 23, 24, 25, 26, 27, 28], [0, 1, 2, 3, 4, 5, 6, 7, 8, 9, 10, 11, 12, 13, 14, 15, 16, 17, 18, 19, 20, 21, 22, 23, 24, 25, 26, 27, 28, 29]] rfl (by kernel_rfl) (by kernel_rfl) ?_
        refine PT.sub (σ' := ⟨[(6, .val (((((!decide (v15.2 = (0 : Int))) || (!decide (v16.2 = (0 : Int)))) && ((!decide (v15.2 = (0 : Int))) || (decide ((bts v17) = (bts x2_k9))))) && ((!decide (v16.2 = (0 : Int))) || (decide ((bts v18) = (bts x2_k9)))))))], []⟩) ⟨rfl, trivial⟩ trivial ?_
        refine PT.ret ?_
        obtain rfl := Option.some.inj hφ
        exact PT.done hw0 rfl (.tmp rfl rfl .nil) rfl
end Go.Gx
