/- WHAT THE STATEMENTS OF THIS GROUP NEED, part 4: laid together by prune.py out of own texts. -/
import Derived.Test.YtjclefplnjicgaaGreatDoorZTpB3
set_option linter.unusedVariables false
set_option linter.unusedSimpArgs false
set_option maxRecDepth 20000
set_option maxHeartbeats 4000000
section
namespace Go.Gx
open Sp
theorem c_serve_Come {a0 : Mk.Server} {a1 : List UInt8} {r : (Mk.Server × Int)} (hφ : serve_Come a0 a1 = some r) : Fn Go.Proofs.Tryz.prog 54 [.val a0, .val a1] (.tup [.val r.1, .val r.2]) := by
 unfold serve_Come at hφ
 refine Fn.mk' Go.Proofs.Tryz.func54 rfl (by decide) rfl rfl rfl (fun w0 hw0 => ?_)
 refine Q2 (Q1 ?_)
 refine O3 rfl rfl (ox_box (id := 2) .tmp) (.one rfl) .nil rfl (by kernel_rfl) <| O3 rfl rfl (ox_alloc (id := 4) z40) .nil .nil rfl (by kernel_rfl) <| O5 (ox1 .int) .nil .nil rfl <| O1 <| Q0 (σ' := ⟨[(1, .val (a1)), (2, _), (4, _)], [(2, .var (a0) []), (4, .var zSv [])]⟩) (j3 rfl rfl rfl) (j2 rfl rfl) ?_
 refine Q2 ?_
 obtain ⟨v1, hv1, hφ⟩ := B_some hφ
 refine Q1 ?_
 refine O5 (ox4 t40) (.one rfl) (.one rfl) rfl <| O3 rfl rfl (ox_callX (x_serve_Own hv1) [] [(30031, 40081)] [(30031, 40081)] [] (.cons .tmp .nil) rfl rfl rfl rfl rfl rfl rfl rfl trivial rfl rfl rfl rfl) (.app (.one rfl) .nil) .nil rfl (by kernel_rfl) <| O3 rfl rfl (ox_alloc (id := 6) z40) .nil .nil rfl (by kernel_rfl) <| O2 rfl rfl (ox_store_varH t40 rfl .tmp) (.cons rfl (.one rfl)) (.one rfl) <| O1 <| Q0 (σ' := ⟨[(1, _), (2, _), (4, _), (6, _)], [(2, _), (4, _), (6, .var ({ v1 with Box := ([] : List (List UInt8)) }) [(1, 40081)]), (40081, .arr 112 (v1.Box))]⟩) (j4 rfl rfl rfl rfl) (j4 rfl rfl rfl rfl) ?_
 refine Q2 ?_
 refine Q2 (Q1 ?_)
 refine O5 (ox3 Server_Box f40_1) (.one rfl) .nil rfl <| O5 (ox2 t31) (.one rfl) (.one rfl) rfl <| O5 (ox_len s31 .tmp) (.one rfl) .nil rfl <| O5 (ox_geq .tmp .int) (.app (.one rfl) .nil) .nil rfl <| O1 <| Q0 (σ' := ⟨[(1, _), (4, _), (6, _), (12, .val (decide ((3 : Int) ≤ (a0.Box.length : Int))))], [(4, _), (6, _), (40081, _)]⟩) (j4 rfl rfl rfl rfl) (j3 rfl rfl rfl) ?_
 refine Q3 _ rfl (fun hc2 => ?_) (fun hc2 => ?_)
 ·replace hφ := if_then hφ hc2
  refine Q0 (σ' := ⟨[(4, _), (6, _)], [(4, _), (6, _), (40081, _)]⟩) (j2 rfl rfl) (j3 rfl rfl rfl) ?_
  refine Q2 ?_
  refine PT.freezeHole 6 40081 [] Server_Box rfl rfl rfl rfl trivial ?_
  refine Q1 ?_
  refine O5 (ox4 t40) (.one rfl) (.one rfl) rfl <| O2 rfl rfl (ox5 t40 .tmp) (.cons rfl (.one rfl)) (.one rfl) <| O5 (ox1 .int) .nil .nil rfl <| O1 <| Q0 (σ' := ⟨[(4, _), (5, .val (9 : Int))], [(4, .var ({ ({ v1 with Box := ([] : List (List UInt8)) }) with Box := v1.Box }) [])]⟩) (j2 rfl rfl) (j1 rfl) ?_
  refine Q5 ?_
  obtain rfl := Option.some.inj hφ
  exact Q6 hw0 rfl (.cell t40 rfl rfl (.tmp rfl rfl .nil)) rfl
 ·replace hφ := if_else hφ hc2
  refine Q0 (σ' := ⟨[(1, _), (4, _), (6, _)], [(4, _), (6, _), (40081, _)]⟩) (j3 rfl rfl rfl) (j3 rfl rfl rfl) ?_
  refine Q4 ?_
  refine Q2 ?_
  obtain ⟨v3, hv3, hφ⟩ := B_some hφ
  obtain ⟨hb4, hφ⟩ := G_some hφ
  refine Q8 hMixed (
    .cons (S5 (ox3 Server_Box f40_1)) ⟨.one rfl, .nil⟩ (by kernel_rfl) rfl <|
    .cons (S5 (ox_take_hole (k' := 20015) t31 rfl rfl rfl rfl rfl)) ⟨.one rfl, .cons rfl (.one rfl)⟩ (by kernel_rfl) rfl <|
    .cons (S5 (ox0 .tmp)) ⟨.one rfl, .nil⟩ (by kernel_rfl) rfl <|
    .cons (S5 (ox_call (c_slices_Clone___byte_byte_ hv3) (.cons .tmp .nil))) ⟨(.app (.one rfl) .nil), .nil⟩ (by kernel_rfl) rfl <|
    .cons (S5 (ox_buildSlice_val s31 z112 (.cons .tmp Parts.nil) rfl (by decide))) ⟨(.app (.one rfl) .nil), .nil⟩ (by kernel_rfl) rfl <|
    .cons (Step.putK [15] rfl rfl (ox_append a31 .tmp .tmp hb4.1 hb4.2)) ⟨(.app (.one rfl) (.one rfl)), .one rfl⟩ (by kernel_rfl) rfl <|
    .cons (S5 (ox3 Server_Box f40_1)) ⟨.one rfl, .nil⟩ (by kernel_rfl) rfl <|
    .cons (S4 rfl rfl (ox_store_sl t31 .tmp rfl)) ⟨(.cons rfl (.one rfl)), .cons rfl (.one rfl)⟩ (by kernel_rfl) rfl <|
    .nil) _ [[], [0], [], [2], [2, 3], [0, 1, 2, 3, 4], [0, 1, 2, 3, 4, 5], [0, 1, 2, 3, 4, 5, 6]] rfl (by kernel_rfl) (by kernel_rfl) ?_
  refine Q0 (σ' := ⟨[(4, _), (6, _)], [(4, _), (6, _), (40081, .arr 112 (v1.Box ++ ([v3] : List (List UInt8))))]⟩) (j2 rfl rfl) (j3 rfl rfl rfl) ?_
  refine Q2 ?_
  refine PT.freezeHole 6 40081 [] Server_Box rfl rfl rfl rfl trivial ?_
  refine Q1 ?_
  refine O5 (ox4 t40) (.one rfl) (.one rfl) rfl <| O2 rfl rfl (ox5 t40 .tmp) (.cons rfl (.one rfl)) (.one rfl) <| O5 (ox1 .int) .nil .nil rfl <| O1 <| Q0 (σ' := ⟨[(4, _), (5, .val (0 : Int))], [(4, .var ({ ({ v1 with Box := ([] : List (List UInt8)) }) with Box := (v1.Box ++ ([v3] : List (List UInt8))) }) [])]⟩) (j2 rfl rfl) (j1 rfl) ?_
  refine Q5 ?_
  obtain rfl := Option.some.inj hφ
  exact Q6 hw0 rfl (.cell t40 rfl rfl (.tmp rfl rfl .nil)) rfl
theorem x_serve_take {a0 : Mk.Store} {a1 : Mk.Server} {r : (Mk.Server × (List UInt8))} (hφ : serve_take a0 a1 = some r) : FnX Go.Proofs.Tryz.prog 77 [.val a0, .ptr 601 (Lens.id (α := Mk.Server))] [(601, .var (a1) [])] (.nlist r.2) [(601, .var (r.1) [])] [601] := by
 unfold serve_take at hφ
 refine FnX.mk' Go.Proofs.Tryz.func77 rfl (by decide) rfl (fun w0 m0 => ?_)
 refine Q2 (Q1 ?_)
 refine O3 rfl rfl (ox_box (id := 2) .tmp) (.one rfl) .nil rfl (by kernel_rfl) <| O5 (ox1 .nilS) .nil .nil rfl <| O1 <| Q0 (σ' := ⟨[(1, _), (2, _)], [(2, .var (a0) []), (601, .var (a1) []), (1501, .pin 601 (m0.blk 601) (m0.sv 601))]⟩) (j2 rfl rfl) (j3 rfl rfl rfl) ?_
 refine Q2 ?_
 obtain ⟨hb1, hφ⟩ := G_some hφ
 obtain ⟨v2, hv2, hφ⟩ := B_some hφ
 refine Q1 ?_
 refine O5 (ox0 .tmp) (.one rfl) .nil rfl <| O5 oxb (.one rfl) .nil rfl <| O5 (ox3 Server_Box f40_1) (.one rfl) .nil rfl <| O5 (ox2 t31) (.one rfl) (.one rfl) rfl <| O5 (ox_ix s31 .tmp .int hb1.1 hb1.2) (.app (.one rfl) .nil) .nil rfl <| O5 (ox_load_elem t112) (.one rfl) .nil rfl ?_
 refine O5 (ox_call (c_wire_ReadRequest hv2) (.cons .tmp .nil)) (.app (.one rfl) .nil) .nil rfl <| O5 (ox0 .tmp) (.one rfl) .nil rfl <| O5 (ox7 rfl) (.one rfl) .nil rfl <| O5 (ox7 rfl) (.one rfl) .nil rfl <| O3 rfl rfl (ox_alloc (id := 5) z35) .nil .nil rfl (by kernel_rfl) <| O2 rfl rfl (ox5 t35 .tmp) (.cons rfl (.one rfl)) (.one rfl) ?_
 refine O5 (ox1 .tmp) (.one rfl) .nil rfl <| O1 <| Q0 (σ' := ⟨[(1, _), (2, _), (5, _), (6, .val (v2.2))], [(2, _), (5, .var (v2.1) []), (601, _), (1501, _)]⟩) (j4 rfl rfl rfl rfl) (j4 rfl rfl rfl rfl) ?_
 refine Q2 ?_
 obtain ⟨hb3, hφ⟩ := G_some hφ
 refine Q1 ?_
 refine O5 (ox0 .tmp) (.one rfl) .nil rfl <| O5 (ox0 .tmp) (.one rfl) .nil rfl <| O5 oxb (.one rfl) .nil rfl <| O5 (ox3 Server_Box f40_1) (.one rfl) .nil rfl <| O5 (ox2 t31) (.one rfl) (.one rfl) rfl <| O5 (ox_slice s31 .tmp (.some .int) .none hb3.1 hb3.2.1 hb3.2.2) (.app (.one rfl) (.app .nil .nil)) .nil rfl ?_
 refine O5 oxb (.one rfl) .nil rfl <| O5 (ox3 Server_Box f40_1) (.one rfl) .nil rfl <| O2 rfl rfl (ox_store_fld t31 .tmp) (.cons rfl (.one rfl)) (.one rfl) <| O1 <| Q0 (σ' := ⟨[(1, _), (2, _), (5, _), (6, _)], [(2, _), (5, _), (601, .var ({ a1 with Box := (sub a1.Box (1 : Int) (a1.Box.length : Int)) }) []), (1501, _)]⟩) (j4 rfl rfl rfl rfl) (j4 rfl rfl rfl rfl) ?_
 refine Q2 ?_
 refine Q2 (Q1 ?_)
 refine O5 (ox0 .tmp) (.one rfl) .nil rfl <| O5 (ox_neq .tmp .int) (.app (.one rfl) .nil) .nil rfl <| O1 <| Q0 (σ' := ⟨[(1, _), (2, _), (5, _), (28, .val (!decide (v2.2 = (0 : Int))))], [(2, _), (5, _), (601, _), (1501, _)]⟩) (j4 rfl rfl rfl rfl) (j4 rfl rfl rfl rfl) ?_
 refine Q3 _ rfl (fun hc4 => ?_) (fun hc4 => ?_)
 ·replace hφ := if_then hφ hc4
  refine Q0 (σ' := ⟨[], [(601, _), (1501, _)]⟩) trivial (j2 rfl rfl) ?_
  refine Q2 (Q1 ?_)
  refine O5 (ox1 .nilS) .nil .nil rfl <| O1 <| Q0 (σ' := ⟨[(4, .nilS)], [(601, _), (1501, _)]⟩) (j1 rfl) (j2 rfl rfl) ?_
  refine Q5 ?_
  refine PT.asNlistNil 4 (UInt8) rfl ?_
  obtain rfl := Option.some.inj hφ
  exact Q7 rfl (.tmp rfl .nil) rfl (j1 rfl) (j1 rfl)
 ·replace hφ := if_else hφ hc4
  refine Q0 (σ' := ⟨[(1, _), (2, _), (5, _)], [(2, _), (5, _), (601, _), (1501, _)]⟩) (j3 rfl rfl rfl) (j4 rfl rfl rfl rfl) ?_
  refine Q4 ?_
  refine Q2 ?_
  obtain ⟨v5, hv5, hφ⟩ := B_some hφ
  refine Q1 ?_
  refine O5 (ox4 t30) (.one rfl) (.one rfl) rfl <| O5 (ox3 Request_Client f35_0) (.one rfl) .nil rfl <| O5 (ox2 t3) (.one rfl) (.one rfl) rfl <| O5 (ox_call (c_store_Last hv5) (.cons .tmp (.cons .tmp .nil))) (.app (.one rfl) (.app (.one rfl) .nil)) .nil rfl <| O5 (ox0 .tmp) (.one rfl) .nil rfl <| O5 (ox7 rfl) (.one rfl) .nil rfl ?_
  refine O5 (ox7 rfl) (.one rfl) .nil rfl <| O3 rfl rfl (ox_alloc (id := 7) z105) .nil .nil rfl (by kernel_rfl) <| O2 rfl rfl (ox5 t105 .tmp) (.cons rfl (.one rfl)) (.one rfl) <| O5 (ox1 .tmp) (.one rfl) .nil rfl <| O1 <| Q0 (σ' := ⟨[(1, _), (2, _), (5, _), (7, _), (8, .val (v5.2))], [(2, _), (5, _), (7, .var (v5.1) []), (601, _), (1501, _)]⟩) (j5 rfl rfl rfl rfl rfl) (j5 rfl rfl rfl rfl rfl) ?_
  refine Q2 ?_
  refine PT.block ?_
  refine Q2 (Q1 ?_)
  refine O5 (ox0 .tmp) (.one rfl) .nil rfl <| O5 (ox0 .tmp) (.one rfl) .nil rfl <| O4 rfl rfl rfl rfl (.plain .nil) (fun hG => (ox3 Answer_Token f105_1)) (j1 rfl) .nil rfl <| O4 rfl rfl rfl rfl (.cond (fun h => h) .nil) (fun hG => (ox2 t3)) (j1 rfl) (.one rfl) rfl <| O4 rfl rfl rfl rfl (.plain .nil) (fun hG => (ox3 Request_Token f35_1)) (j1 rfl) .nil rfl <| O4 rfl rfl rfl rfl (.cond (fun h => h) .nil) (fun hG => (ox2 t3)) (j1 rfl) (.one rfl) rfl ?_
  refine O4 rfl rfl rfl rfl (.cond (fun h => h) (.cond (fun h => h) .nil)) (fun hG => (ox_eql .tmp .tmp)) (j2 rfl rfl) .nil rfl <| O5 ox8 (j2 rfl rfl) .nil rfl <| O5 (ox1 .tmp) (.one rfl) .nil rfl <| O1 <| Q0 (σ' := ⟨[(1, _), (2, _), (5, _), (7, _), (8, _), (36, .val (v5.2 && (decide (v5.1.Token = v2.1.Token))))], [(2, _), (5, _), (7, _), (601, _), (1501, _)]⟩) (j6 rfl rfl rfl rfl rfl rfl) (j5 rfl rfl rfl rfl rfl) ?_
  refine Q3 _ rfl (fun hc6 => ?_) (fun hc6 => ?_)
  ·replace hφ := if_then hφ hc6
   refine Q0 (σ' := ⟨[(7, _)], [(7, _), (601, _), (1501, _)]⟩) (j1 rfl) (j3 rfl rfl rfl) ?_
   refine Q2 ?_
   obtain ⟨v7, hv7, hφ⟩ := B_some hφ
   refine Q1 ?_
   refine O5 (ox4 t105) (.one rfl) (.one rfl) rfl <| O5 (ox_call (c_wire_Answer hv7) (.cons .tmp .nil)) (.app (.one rfl) .nil) .nil rfl <| O5 (ox1 .tmp) (.one rfl) .nil rfl <| O1 <| Q0 (σ' := ⟨[(4, .val (v7))], [(601, _), (1501, _)]⟩) (j1 rfl) (j2 rfl rfl) ?_
   refine Q5 ?_
   obtain ⟨hb8, hφ⟩ := G_some hφ
   refine PT.asNlist 4 hb8 rfl ?_
   obtain rfl := Option.some.inj hφ
   exact Q7 rfl (.tmp rfl .nil) rfl (j1 rfl) (j1 rfl)
  ·replace hφ := if_else hφ hc6
   refine Q0 (σ' := ⟨[(1, _), (2, _), (5, _), (7, _), (8, _)], [(2, _), (5, _), (7, _), (601, _), (1501, _)]⟩) (j5 rfl rfl rfl rfl rfl) (j5 rfl rfl rfl rfl rfl) ?_
   refine Q2 (Q1 ?_)
   refine O5 (ox0 .tmp) (.one rfl) .nil rfl <| O5 (ox0 .tmp) (.one rfl) .nil rfl <| O4 rfl rfl rfl rfl (.plain .nil) (fun hG => (ox3 Answer_Token f105_1)) (j1 rfl) .nil rfl <| O4 rfl rfl rfl rfl (.cond (fun h => h) .nil) (fun hG => (ox2 t3)) (j1 rfl) (.one rfl) rfl <| O4 rfl rfl rfl rfl (.plain .nil) (fun hG => (ox3 Request_Token f35_1)) (j1 rfl) .nil rfl <| O4 rfl rfl rfl rfl (.cond (fun h => h) .nil) (fun hG => (ox2 t3)) (j1 rfl) (.one rfl) rfl ?_
   refine O4 rfl rfl rfl rfl (.cond (fun h => h) (.cond (fun h => h) .nil)) (fun hG => (ox_gtr .tmp .tmp)) (j2 rfl rfl) .nil rfl <| O5 ox8 (j2 rfl rfl) .nil rfl <| O5 (ox1 .tmp) (.one rfl) .nil rfl <| O1 <| Q0 (σ' := ⟨[(1, _), (2, _), (5, _), (47, .val (v5.2 && (decide (v2.1.Token < v5.1.Token))))], [(2, _), (5, _), (601, _), (1501, _)]⟩) (j4 rfl rfl rfl rfl) (j4 rfl rfl rfl rfl) ?_
   refine Q3 _ rfl (fun hc9 => ?_) (fun hc9 => ?_)
   ·replace hφ := if_then hφ hc9
    refine Q0 (σ' := ⟨[], [(601, _), (1501, _)]⟩) trivial (j2 rfl rfl) ?_
    refine Q2 (Q1 ?_)
    refine O5 (ox1 .nilS) .nil .nil rfl <| O1 <| Q0 (σ' := ⟨[(4, .nilS)], [(601, _), (1501, _)]⟩) (j1 rfl) (j2 rfl rfl) ?_
    refine Q5 ?_
    refine PT.asNlistNil 4 (UInt8) rfl ?_
    obtain rfl := Option.some.inj hφ
    exact Q7 rfl (.tmp rfl .nil) rfl (j1 rfl) (j1 rfl)
   ·replace hφ := if_else hφ hc9
    refine Q0 (σ' := ⟨[(1, _), (2, _), (5, _)], [(2, _), (5, _), (601, _), (1501, _)]⟩) (j3 rfl rfl rfl) (j4 rfl rfl rfl rfl) ?_
    refine Q4 ?_
    refine Q2 ?_
    refine Q8 hMixed (
      .cons (S5 (ox0 .tmp)) ⟨.one rfl, .nil⟩ (by kernel_rfl) rfl <|
      .cons (S5 (ox0 .tmp)) ⟨.one rfl, .nil⟩ (by kernel_rfl) rfl <|
      .cons (S5 (ox4 t35)) ⟨.one rfl, .one rfl⟩ (by kernel_rfl) rfl <|
      .cons (S5 oxb) ⟨.one rfl, .nil⟩ (by kernel_rfl) rfl <|
      .cons (S5 (ox3 Server_Busy f40_2)) ⟨.one rfl, .nil⟩ (by kernel_rfl) rfl <|
      .cons (S4 rfl rfl (ox_store_fld t4 .bool)) ⟨(.cons rfl .nil), .one rfl⟩ (by kernel_rfl) rfl <|
      .cons (S5 oxb) ⟨.one rfl, .nil⟩ (by kernel_rfl) rfl <|
      .cons (S5 (ox3 Server_Now f40_3)) ⟨.one rfl, .nil⟩ (by kernel_rfl) rfl <|
      .cons (S4 rfl rfl (ox_store_fld t35 .tmp)) ⟨(.cons rfl (.one rfl)), .one rfl⟩ (by kernel_rfl) rfl <|
      .nil) _ [[], [], [], [0], [0, 3], [0, 3, 4], [0, 1, 2, 3, 4, 5], [0, 1, 2, 3, 4, 5, 6], [0, 1, 2, 3, 4, 5, 6, 7]] rfl (by kernel_rfl) (by kernel_rfl) ?_
    refine Q0 (σ' := ⟨[(1, _), (2, _), (5, _)], [(2, _), (5, _), (601, .var ({ ({ ({ a1 with Box := (sub a1.Box (1 : Int) (a1.Box.length : Int)) }) with Busy := true }) with Now := v2.1 }) []), (1501, _)]⟩) (j3 rfl rfl rfl) (j4 rfl rfl rfl rfl) ?_
    refine Q2 ?_
    obtain ⟨v10, hv10, hφ⟩ := B_some hφ
    refine Q1 ?_
    refine O5 (ox0 .tmp) (.one rfl) .nil rfl <| O5 (ox0 .tmp) (.one rfl) .nil rfl <| O5 (ox3 Store_Cells f30_0) (.one rfl) .nil rfl <| O5 (ox2 t25) (.one rfl) (.one rfl) rfl <| O5 (ox3 Request_Call f35_2) (.one rfl) .nil rfl <| O5 (ox2 t33) (.one rfl) (.one rfl) rfl ?_
    refine O5 (ox_call (c_plan_Make hv10) (.cons .tmp (.cons .tmp .nil))) (.app (.one rfl) (.app (.one rfl) .nil)) .nil rfl <| O5 (ox0 .tmp) (.one rfl) .nil rfl <| O5 (ox7 rfl) (.one rfl) .nil rfl <| O5 (ox7 rfl) (.one rfl) .nil rfl <| O5 oxb (.one rfl) .nil rfl <| O5 (ox3 Server_Plan f40_4) (.one rfl) .nil rfl ?_
    refine O2 rfl rfl (ox_store_fld t26 .tmp) (.cons rfl (.one rfl)) (.one rfl) <| O5 oxb (.one rfl) .nil rfl <| O5 (ox3 Server_Says f40_5) (.one rfl) .nil rfl <| O2 rfl rfl (ox_store_fld t38 .tmp) (.cons rfl (.one rfl)) (.one rfl) <| O1 <| Q0 (σ' := ⟨[], [(601, .var ({ ({ ({ ({ ({ a1 with Box := (sub a1.Box (1 : Int) (a1.Box.length : Int)) }) with Busy := true }) with Now := v2.1 }) with Plan := v10.1 }) with Says := v10.2 }) []), (1501, _)]⟩) trivial (j2 rfl rfl) ?_
    refine Q2 (Q1 ?_)
    refine O5 (ox1 .nilS) .nil .nil rfl <| O1 <| Q0 (σ' := ⟨[(4, .nilS)], [(601, _), (1501, _)]⟩) (j1 rfl) (j2 rfl rfl) ?_
    refine Q5 ?_
    refine PT.asNlistNil 4 (UInt8) rfl ?_
    obtain rfl := Option.some.inj hφ
    exact Q7 rfl (.tmp rfl .nil) rfl (j1 rfl) (j1 rfl)
theorem c_serve_Go {a0 : Mk.Store} {a1 : Mk.Server} {r : (Mk.Store × Mk.Server × (List UInt8) × Int)} (hφ : serve_Go a0 a1 = some r) : Fn Go.Proofs.Tryz.prog 55 [.val a0, .val a1] (.tup [.val r.1, .val r.2.1, .nlist r.2.2.1, .val r.2.2.2]) := by
 unfold serve_Go at hφ
 refine Fn.mk' Go.Proofs.Tryz.func55 rfl (by decide) rfl rfl rfl (fun w0 hw0 => ?_)
 refine Q2 (Q1 ?_)
 refine O3 rfl rfl (ox_box (id := 2) .tmp) (.one rfl) .nil rfl (by kernel_rfl) <| O3 rfl rfl (ox_box (id := 3) .tmp) (.one rfl) .nil rfl (by kernel_rfl) <| O3 rfl rfl (ox_alloc (id := 4) z30) .nil .nil rfl (by kernel_rfl) <| O3 rfl rfl (ox_alloc (id := 5) z40) .nil .nil rfl (by kernel_rfl) <| O5 (ox1 .nilS) .nil .nil rfl <| O5 (ox1 .int) .nil .nil rfl <| O1 <| Q0 (σ' := ⟨[(2, _), (3, _), (4, _), (5, _)], [(2, .var (a0) []), (3, .var (a1) []), (4, .var zSt []), (5, .var zSv [])]⟩) (j4 rfl rfl rfl rfl) (j4 rfl rfl rfl rfl) ?_
 refine Q2 ?_
 obtain ⟨v1, hv1, hφ⟩ := B_some hφ
 refine Q1 ?_
 refine O5 (ox4 t40) (.one rfl) (.one rfl) rfl <| O5 (ox_call (c_serve_Own hv1) (.cons .tmp .nil)) (.app (.one rfl) .nil) .nil rfl <| O3 rfl rfl (ox_alloc (id := 8) z40) .nil .nil rfl (by kernel_rfl) <| O2 rfl rfl (ox5 t40 .tmp) (.cons rfl (.one rfl)) (.one rfl) <| O1 <| Q0 (σ' := ⟨[(2, _), (3, _), (4, _), (5, _), (8, _)], [(2, _), (3, _), (4, _), (5, _), (8, .var (v1) [])]⟩) (j5 rfl rfl rfl rfl rfl) (j5 rfl rfl rfl rfl rfl) ?_
 refine Q2 ?_
 refine PT.block ?_
 refine Q2 (Q1 ?_)
 refine O5 (ox3 Server_Busy f40_2) (.one rfl) .nil rfl <| O5 (ox2 t4) (.one rfl) (.one rfl) rfl <| O5 (ox_not .tmp) (.one rfl) .nil rfl <| O5 (ox0 .tmp) (.one rfl) .nil rfl <| O4 rfl rfl rfl rfl (.plain .nil) (fun hG => (ox3 Server_Box f40_1)) (j1 rfl) .nil rfl <| O4 rfl rfl rfl rfl (.cond (fun h => h) .nil) (fun hG => (ox2 t31)) (j1 rfl) (.one rfl) rfl ?_
 refine O4 rfl rfl rfl rfl (.cond (fun h => h) .nil) (fun hG => (ox_len s31 .tmp)) (j1 rfl) .nil rfl <| O4 rfl rfl rfl rfl (.cond (fun h => h) .nil) (fun hG => (ox_eql .tmp .int)) (j1 rfl) .nil rfl <| O5 ox8 (j2 rfl rfl) .nil rfl <| O5 (ox1 .tmp) (.one rfl) .nil rfl <| O1 <| Q0 (σ' := ⟨[(2, _), (3, _), (4, _), (5, _), (8, _), (13, .val ((!a1.Busy) && (decide ((a1.Box.length : Int) = (0 : Int)))))], [(2, _), (3, _), (4, _), (5, _), (8, _)]⟩) (j6 rfl rfl rfl rfl rfl rfl) (j5 rfl rfl rfl rfl rfl) ?_
 refine Q3 _ rfl (fun hc2 => ?_) (fun hc2 => ?_)
 ·replace hφ := if_then hφ hc2
  refine Q0 (σ' := ⟨[(2, _), (4, _), (5, _), (8, _)], [(2, _), (4, _), (5, _), (8, _)]⟩) (j4 rfl rfl rfl rfl) (j4 rfl rfl rfl rfl) ?_
  refine Q2 ?_
  obtain ⟨v3, hv3, hφ⟩ := B_some hφ
  refine Q8 hMixed (
    .cons (S5 (ox4 t30)) ⟨.one rfl, .one rfl⟩ (by kernel_rfl) rfl <|
    .cons (S5 (ox_call (c_store_Own hv3) (.cons .tmp .nil))) ⟨(.app (.one rfl) .nil), .nil⟩ (by kernel_rfl) rfl <|
    .cons (S5 (ox4 t40)) ⟨.one rfl, .one rfl⟩ (by kernel_rfl) rfl <|
    .cons (S4 rfl rfl (ox5 t30 .tmp)) ⟨(.cons rfl (.one rfl)), .one rfl⟩ (by kernel_rfl) rfl <|
    .cons (S4 rfl rfl (ox5 t40 .tmp)) ⟨(.cons rfl (.one rfl)), .one rfl⟩ (by kernel_rfl) rfl <|
    .cons (S5 (ox1 .nilS)) ⟨.nil, .nil⟩ (by kernel_rfl) rfl <|
    .cons (S5 (ox1 .int)) ⟨.nil, .nil⟩ (by kernel_rfl) rfl <|
    .nil) _ [[], [0], [], [0, 1], [0, 1, 2, 3], [0, 1, 2, 3, 4], [0, 1, 2, 3, 4, 5]] rfl (by kernel_rfl) (by kernel_rfl) ?_
  refine Q0 (σ' := ⟨[(4, _), (5, _), (6, .nilS), (7, .val (12 : Int))], [(4, .var (v3) []), (5, .var (v1) [])]⟩) (j4 rfl rfl rfl rfl) (j2 rfl rfl) ?_
  refine Q5 ?_
  refine PT.asNlistNil 6 (UInt8) rfl ?_
  obtain rfl := Option.some.inj hφ
  exact Q6 hw0 rfl (.cell t30 rfl rfl (.cell t40 rfl rfl (.tmp rfl rfl (.tmp rfl rfl .nil)))) rfl
 ·replace hφ := if_else hφ hc2
  refine Q0 (σ' := ⟨[(2, _), (3, _), (4, _), (5, _), (8, _)], [(2, _), (3, _), (4, _), (5, _), (8, _)]⟩) (j5 rfl rfl rfl rfl rfl) (j5 rfl rfl rfl rfl rfl) ?_
  refine Q2 (Q1 ?_)
  refine O5 (ox3 Server_Busy f40_2) (.one rfl) .nil rfl <| O5 (ox2 t4) (.one rfl) (.one rfl) rfl <| O5 (ox_not .tmp) (.one rfl) .nil rfl <| O5 (ox1 .tmp) (.one rfl) .nil rfl <| O1 <| Q0 (σ' := ⟨[(2, _), (3, _), (4, _), (5, _), (8, _), (26, .val (!a1.Busy))], [(2, _), (3, _), (4, _), (5, _), (8, _)]⟩) (j6 rfl rfl rfl rfl rfl rfl) (j5 rfl rfl rfl rfl rfl) ?_
  refine Q3 _ rfl (fun hc4 => ?_) (fun hc4 => ?_)
  ·replace hφ := if_then hφ hc4
   refine Q0 (σ' := ⟨[(2, _), (4, _), (5, _), (8, _)], [(2, _), (4, _), (5, _), (8, _)]⟩) (j4 rfl rfl rfl rfl) (j4 rfl rfl rfl rfl) ?_
   refine Q2 ?_
   obtain ⟨v5, hv5, hφ⟩ := B_some hφ
   refine Q1 ?_
   refine O5 (ox4 t30) (.one rfl) (.one rfl) rfl <| O3 rfl rfl (ox_callX (x_serve_take hv5) [(601, 8)] [(601, 8)] [] [] (.cons .tmp (.cons .tmp .nil)) rfl rfl rfl rfl rfl rfl rfl rfl (j1 rfl) rfl rfl rfl rfl) (.app (.one rfl) (.app (.one rfl) .nil)) (.cons rfl .nil) rfl (by kernel_rfl) <| O5 (ox1 .tmp) (.one rfl) .nil rfl <| O1 <| Q0 (σ' := ⟨[(2, _), (4, _), (5, _), (8, _), (9, _)], [(2, _), (4, _), (5, _), (8, .var (v5.1) [])]⟩) (j5 rfl rfl rfl rfl rfl) (j4 rfl rfl rfl rfl) ?_
   refine Q2 ?_
   obtain ⟨v6, hv6, hφ⟩ := B_some hφ
   refine Q8 hMixed (
     .cons (S5 (ox4 t30)) ⟨.one rfl, .one rfl⟩ (by kernel_rfl) rfl <|
     .cons (S5 (ox_call (c_store_Own hv6) (.cons .tmp .nil))) ⟨(.app (.one rfl) .nil), .nil⟩ (by kernel_rfl) rfl <|
     .cons (S5 (ox4 t40)) ⟨.one rfl, .one rfl⟩ (by kernel_rfl) rfl <|
     .cons (S5 (ox0 .tmp)) ⟨.one rfl, .nil⟩ (by kernel_rfl) rfl <|
     .cons (S4 rfl rfl (ox5 t30 .tmp)) ⟨(.cons rfl (.one rfl)), .one rfl⟩ (by kernel_rfl) rfl <|
     .cons (S4 rfl rfl (ox5 t40 .tmp)) ⟨(.cons rfl (.one rfl)), .one rfl⟩ (by kernel_rfl) rfl <|
     .cons (S5 (ox1 .tmp)) ⟨.one rfl, .nil⟩ (by kernel_rfl) rfl <|
     .cons (S5 (ox1 .int)) ⟨.nil, .nil⟩ (by kernel_rfl) rfl <|
     .nil) _ [[], [0], [], [], [0, 1], [0, 1, 2, 4], [0, 1, 2, 3, 4, 5], [0, 1, 2, 3, 4, 5, 6]] rfl (by kernel_rfl) (by kernel_rfl) ?_
   refine Q0 (σ' := ⟨[(4, _), (5, _), (6, _), (7, .val (0 : Int))], [(4, .var (v6) []), (5, .var (v5.1) [])]⟩) (j4 rfl rfl rfl rfl) (j2 rfl rfl) ?_
   refine Q5 ?_
   obtain rfl := Option.some.inj hφ
   exact Q6 hw0 rfl (.cell t30 rfl rfl (.cell t40 rfl rfl (.tmp rfl rfl (.tmp rfl rfl .nil)))) rfl
  ·replace hφ := if_else hφ hc4
   refine Q0 (σ' := ⟨[(2, _), (3, _), (4, _), (5, _), (8, _)], [(2, _), (3, _), (4, _), (5, _), (8, _)]⟩) (j5 rfl rfl rfl rfl rfl) (j5 rfl rfl rfl rfl rfl) ?_
   refine Q2 (Q1 ?_)
   refine O5 (ox3 Server_Plan f40_4) (.one rfl) .nil rfl <| O5 (ox2 t26) (.one rfl) (.one rfl) rfl <| O5 (ox_len s26 .tmp) (.one rfl) .nil rfl <| O5 (ox_gtr .tmp .int) (.app (.one rfl) .nil) .nil rfl <| O5 (ox1 .tmp) (.one rfl) .nil rfl <| O1 <| Q0 (σ' := ⟨[(2, _), (3, _), (4, _), (5, _), (8, _), (36, .val (decide ((0 : Int) < (a1.Plan.length : Int))))], [(2, _), (3, _), (4, _), (5, _), (8, _)]⟩) (j6 rfl rfl rfl rfl rfl rfl) (j5 rfl rfl rfl rfl rfl) ?_
   refine Q3 _ rfl (fun hc7 => ?_) (fun hc7 => ?_)
   ·replace hφ := if_then hφ hc7
    refine Q0 (σ' := ⟨[(2, _), (3, _), (4, _), (5, _), (8, _)], [(2, _), (3, _), (4, _), (5, _), (8, _)]⟩) (j5 rfl rfl rfl rfl rfl) (j5 rfl rfl rfl rfl rfl) ?_
    refine Q2 ?_
    obtain ⟨hb8, hφ⟩ := G_some hφ
    refine Q1 ?_
    refine O5 (ox3 Server_Plan f40_4) (.one rfl) .nil rfl <| O5 (ox2 t26) (.one rfl) (.one rfl) rfl <| O5 (ox_slice s26 .tmp (.some .int) .none hb8.1 hb8.2.1 hb8.2.2) (.app (.one rfl) (.app .nil .nil)) .nil rfl <| O5 (ox3 Server_Plan f40_4) (.one rfl) .nil rfl <| O2 rfl rfl (ox_store_fld t26 .tmp) (.cons rfl (.one rfl)) (.one rfl) <| O1 <| Q0 (σ' := ⟨[(2, _), (3, _), (4, _), (5, _), (8, _)], [(2, _), (3, _), (4, _), (5, _), (8, .var ({ v1 with Plan := (sub v1.Plan (1 : Int) (v1.Plan.length : Int)) }) [])]⟩) (j5 rfl rfl rfl rfl rfl) (j5 rfl rfl rfl rfl rfl) ?_
    refine Q2 ?_
    obtain ⟨hb9, hφ⟩ := G_some hφ
    obtain ⟨v10, hv10, hφ⟩ := B_some hφ
    refine Q8 hMixed (
      .cons (S5 (ox4 t30)) ⟨.one rfl, .one rfl⟩ (by kernel_rfl) rfl <|
      .cons (S5 (ox3 Server_Plan f40_4)) ⟨.one rfl, .nil⟩ (by kernel_rfl) rfl <|
      .cons (S5 (ox2 t26)) ⟨.one rfl, .one rfl⟩ (by kernel_rfl) rfl <|
      .cons (S5 (ox_ix s26 .tmp .int hb9.1 hb9.2)) ⟨(.app (.one rfl) .nil), .nil⟩ (by kernel_rfl) rfl <|
      .cons (S5 (ox_load_elem t52)) ⟨.one rfl, .nil⟩ (by kernel_rfl) rfl <|
      .cons (S5 (ox_call (c_store_Write hv10) (.cons .tmp (.cons .tmp .nil)))) ⟨(.app (.one rfl) (.app (.one rfl) .nil)), .nil⟩ (by kernel_rfl) rfl <|
      .cons (S5 (ox4 t40)) ⟨.one rfl, .one rfl⟩ (by kernel_rfl) rfl <|
      .cons (S4 rfl rfl (ox5 t30 .tmp)) ⟨(.cons rfl (.one rfl)), .one rfl⟩ (by kernel_rfl) rfl <|
      .cons (S4 rfl rfl (ox5 t40 .tmp)) ⟨(.cons rfl (.one rfl)), .one rfl⟩ (by kernel_rfl) rfl <|
      .cons (S5 (ox1 .nilS)) ⟨.nil, .nil⟩ (by kernel_rfl) rfl <|
      .cons (S5 (ox1 .int)) ⟨.nil, .nil⟩ (by kernel_rfl) rfl <|
      .nil) _ [[], [], [1], [1, 2], [1, 2, 3], [0, 1, 2, 3, 4], [], [0, 1, 2, 3, 4, 5], [0, 1, 2, 3, 4, 5, 6, 7], [0, 1, 2, 3, 4, 5, 6, 7, 8], [0, 1, 2, 3, 4, 5, 6, 7, 8, 9]] rfl (by kernel_rfl) (by kernel_rfl) ?_
    refine Q0 (σ' := ⟨[(4, _), (5, _), (6, .nilS), (7, .val (0 : Int))], [(4, .var (v10) []), (5, .var ({ v1 with Plan := (sub v1.Plan (1 : Int) (v1.Plan.length : Int)) }) [])]⟩) (j4 rfl rfl rfl rfl) (j2 rfl rfl) ?_
    refine Q5 ?_
    refine PT.asNlistNil 6 (UInt8) rfl ?_
    obtain rfl := Option.some.inj hφ
    exact Q6 hw0 rfl (.cell t30 rfl rfl (.cell t40 rfl rfl (.tmp rfl rfl (.tmp rfl rfl .nil)))) rfl
   ·replace hφ := if_else hφ hc7
    refine Q0 (σ' := ⟨[(2, _), (3, _), (4, _), (5, _), (8, _)], [(2, _), (3, _), (4, _), (5, _), (8, _)]⟩) (j5 rfl rfl rfl rfl rfl) (j5 rfl rfl rfl rfl rfl) ?_
    refine Q4 ?_
    refine Q2 ?_
    obtain ⟨v11, hv11, hφ⟩ := B_some hφ
    refine Q1 ?_
    refine O5 (ox3 Server_Now f40_3) (.one rfl) .nil rfl <| O5 (ox_fieldAddr_ptr Request_Client f35_0) (.one rfl) .nil rfl <| O5 (ox2 t3) (.one rfl) (.one rfl) rfl <| O5 (ox3 Server_Now f40_3) (.one rfl) .nil rfl <| O5 (ox_fieldAddr_ptr Request_Token f35_1) (.one rfl) .nil rfl <| O5 (ox2 t3) (.one rfl) (.one rfl) rfl ?_
    refine O5 (ox3 Server_Says f40_5) (.one rfl) .nil rfl <| O5 (ox2 t38) (.one rfl) (.one rfl) rfl <| O5 (oxa z105 u105 rfl (.cons Answer_Client f105_0 .tmp (.cons Answer_Token f105_1 .tmp (.cons Answer_Reply f105_2 .tmp Bld.nil)))) (.app (.one rfl) (.app (.one rfl) (.app (.one rfl) .nil))) .nil rfl <| O5 (ox_call (c_wire_Answer hv11) (.cons .tmp .nil)) (.app (.one rfl) .nil) .nil rfl <| O5 (ox1 .tmp) (.one rfl) .nil rfl <| O1 <| Q0 (σ' := ⟨[(2, _), (3, _), (4, _), (5, _), (8, _), (10, .val (v11))], [(2, _), (3, _), (4, _), (5, _), (8, _)]⟩) (j6 rfl rfl rfl rfl rfl rfl) (j5 rfl rfl rfl rfl rfl) ?_
    refine Q2 ?_
    obtain ⟨v12, hv12, hφ⟩ := B_some hφ
    refine Q8 hMixed (
      .cons (S5 (ox4 t30)) ⟨.one rfl, .one rfl⟩ (by kernel_rfl) rfl <|
      .cons (S5 (ox3 Server_Now f40_3)) ⟨.one rfl, .nil⟩ (by kernel_rfl) rfl <|
      .cons (S5 (ox2 t35)) ⟨.one rfl, .one rfl⟩ (by kernel_rfl) rfl <|
      .cons (S5 (ox3 Server_Says f40_5)) ⟨.one rfl, .nil⟩ (by kernel_rfl) rfl <|
      .cons (S5 (ox2 t38)) ⟨.one rfl, .one rfl⟩ (by kernel_rfl) rfl <|
      .cons (S5 (ox_call (c_store_Commit hv12) (.cons .tmp (.cons .tmp (.cons .tmp .nil))))) ⟨(.app (.one rfl) (.app (.one rfl) (.app (.one rfl) .nil))), .nil⟩ (by kernel_rfl) rfl <|
      .cons (S5 (ox3 Server_Gen f40_0)) ⟨.one rfl, .nil⟩ (by kernel_rfl) rfl <|
      .cons (S5 (ox2 t3)) ⟨.one rfl, .one rfl⟩ (by kernel_rfl) rfl <|
      .cons (S5 (ox3 Server_Box f40_1)) ⟨.one rfl, .nil⟩ (by kernel_rfl) rfl <|
      .cons (S5 (ox2 t31)) ⟨.one rfl, .one rfl⟩ (by kernel_rfl) rfl <|
      .cons (S5 (oxa z40 u40 rfl (.cons Server_Gen f40_0 .tmp (.cons Server_Box f40_1 .tmp Bld.nil)))) ⟨(.app (.one rfl) (.app (.one rfl) .nil)), .nil⟩ (by kernel_rfl) rfl <|
      .cons (S5 (ox0 .tmp)) ⟨.one rfl, .nil⟩ (by kernel_rfl) rfl <|
      .cons (S4 rfl rfl (ox5 t30 .tmp)) ⟨(.cons rfl (.one rfl)), .one rfl⟩ (by kernel_rfl) rfl <|
      .cons (S4 rfl rfl (ox5 t40 .tmp)) ⟨(.cons rfl (.one rfl)), .one rfl⟩ (by kernel_rfl) rfl <|
      .cons (S5 (ox1 .tmp)) ⟨.one rfl, .nil⟩ (by kernel_rfl) rfl <|
      .cons (S5 (ox1 .int)) ⟨.nil, .nil⟩ (by kernel_rfl) rfl <|
      .nil) _ [[], [], [1], [], [3], [0, 1, 2, 3, 4], [], [6], [], [8], [6, 7, 8, 9], [], [0, 1, 2, 3, 4, 5], [0, 1, 2, 3, 4, 5, 6, 7, 8, 9, 10, 12], [0, 1, 2, 3, 4, 5, 6, 7, 8, 9, 10, 11, 12, 13], [0, 1, 2, 3, 4, 5, 6, 7, 8, 9, 10, 11, 12, 13, 14]] rfl (by kernel_rfl) (by kernel_rfl) ?_
    refine Q0 (σ' := ⟨[(4, _), (5, _), (6, .val (v11)), (7, .val (0 : Int))], [(4, .var (v12) []), (5, .var ({ Gen := a1.Gen, Box := v1.Box, Busy := false, Now := zRq, Plan := ([] : List Mk.Write), Says := zRe } : Mk.Server) [])]⟩) (j4 rfl rfl rfl rfl) (j2 rfl rfl) ?_
    refine Q5 ?_
    obtain ⟨hb13, hφ⟩ := G_some hφ
    refine PT.asNlist 6 hb13 rfl ?_
    obtain rfl := Option.some.inj hφ
    exact Q6 hw0 rfl (.cell t30 rfl rfl (.cell t40 rfl rfl (.tmp rfl rfl (.tmp rfl rfl .nil)))) rfl
end Go.Gx
end
section
namespace Go.Gx
open Sp
theorem c_machine_New {a0 : List (List Mk.Call)} {r : (Mk.Machine × Int)} (hφ : machine_New a0 = some r) : Fn Go.Proofs.Tryz.prog 20 [.val a0] (.tup [.val r.1, .val r.2]) := by
 unfold machine_New at hφ
 refine Fn.mk' Go.Proofs.Tryz.func20 rfl (by decide) rfl rfl rfl (fun w0 hw0 => ?_)
 refine Q2 (Q1 ?_)
 refine O3 rfl rfl (ox_alloc (id := 2) z43) .nil .nil rfl (by kernel_rfl) <| O5 (ox1 .int) .nil .nil rfl <| O1 <| Q0 (σ' := ⟨[(0, .val (a0)), (2, _)], [(2, .var (zMa) [])]⟩) (j2 rfl rfl) (j1 rfl) ?_
 refine Q2 ?_
 refine Q2 (Q1 ?_)
 refine O5 (ox0 .tmp) (.one rfl) .nil rfl <| O5 (ox_len s55 .tmp) (.one rfl) .nil rfl <| O5 (ox_gtr .tmp .int) (.app (.one rfl) .nil) .nil rfl <| O1 <| Q0 (σ' := ⟨[(0, _), (2, _), (12, .val (decide ((3 : Int) < (a0.length : Int))))], [(2, _)]⟩) (j3 rfl rfl rfl) (j1 rfl) ?_
 refine Q3 _ rfl (fun hc1 => ?_) (fun hc1 => ?_)
 ·replace hφ := if_then hφ hc1
  refine Q0 (σ' := ⟨[(2, _)], [(2, _)]⟩) (j1 rfl) (j1 rfl) ?_
  refine Q2 (Q1 ?_)
  refine O5 (oxa z43 u43 rfl Bld.nil) .nil .nil rfl <| O2 rfl rfl (ox5 t43 .tmp) (.cons rfl (.one rfl)) (.one rfl) <| O5 (ox1 .int) .nil .nil rfl <| O1 <| Q0 (σ' := ⟨[(2, _), (3, .val (5 : Int))], [(2, _)]⟩) (j2 rfl rfl) (j1 rfl) ?_
  refine Q5 ?_
  obtain rfl := Option.some.inj hφ
  exact Q6 hw0 rfl (.cell t43 rfl rfl (.tmp rfl rfl .nil)) rfl
 ·replace hφ := if_else hφ hc1
  refine Q0 (σ' := ⟨[(0, _), (2, _)], [(2, _)]⟩) (j2 rfl rfl) (j1 rfl) ?_
  refine Q4 ?_
  refine Q2 ?_
  obtain ⟨v2, hv2, hφ⟩ := B_some hφ
  refine Q1 ?_
  refine O5 (ox_call (c_store_New hv2) .nil) .nil .nil rfl <| O3 rfl rfl (ox_buildHZ (off := 19) (k := 50155) (E := 49) (γ := Mk.Client) z43 u43 rfl (by kernel_rfl) (.cons Machine_Store f43_0 .tmp (.cons Machine_Up f43_2 .bool .nil))) (.app (.one rfl) (.app .nil .nil)) .nil rfl (by kernel_rfl) <| O3 rfl rfl (ox_alloc (id := 4) z43) .nil .nil rfl (by kernel_rfl) <| O2 rfl rfl (ox_store_varH t43 rfl .tmp) (.cons rfl (.one rfl)) (.one rfl) <| O1 <| Q0 (σ' := ⟨[(0, _), (2, _), (4, _)], [(2, _), (4, .var (({ Store := v2, Server := zSv, Up := true, Pause := (0 : Int), Falls := (0 : Int), Clients := ([] : List Mk.Client) } : Mk.Machine)) [(19, 50155)]), (50155, .arr 49 ([] : List Mk.Client))]⟩) (j3 rfl rfl rfl) (j3 rfl rfl rfl) ?_
  obtain ⟨k3, hk3, hφ⟩ := J_some hφ
  refine PT.cut (ι := Mk.Machine × Mk.Machine × (List Mk.Client)) (fun p => ⟨[(2, .ptr 2 (Lens.id (α := Mk.Machine))), (4, .ptr 4 (Lens.id (α := Mk.Machine)))], [(2, .var (p.1) []), (4, .var (p.2.1) [(19, 50155)]), (50155, .arr 49 (p.2.2))]⟩) (fun p => k3 (p.1) (p.2.1) (p.2.2) = some r) ?_ ?_
  ·skip
   refine Q2 (Q1 ?_)
   refine O5 (ox0 .tmp) (.one rfl) .nil rfl <| O5 (ox_len s55 .tmp) (.one rfl) .nil rfl <| O5 (ox0 .int) .nil .nil rfl <| O1 <| Q0 (σ' := ⟨[(2, _), (4, _), (16, .val (a0)), (17, .val (a0.length : Int)), (18, .val (0 : Int))], [(2, _), (4, _), (50155, _)]⟩) (j5 rfl rfl rfl rfl rfl) (j3 rfl rfl rfl) ?_
   refine PT.block ?_
   refine PT.loop (ι := Nat × (List (List Mk.Call)) × Int × Int × Mk.Machine × Mk.Machine × (List Mk.Client)) (fun p => ⟨[(2, .ptr 2 (Lens.id (α := Mk.Machine))), (4, .ptr 4 (Lens.id (α := Mk.Machine))), (16, .val (p.2.1)), (17, .val (p.2.2.1)), (18, .val (p.2.2.2.1))], [(2, .var (p.2.2.2.2.1) []), (4, .var (p.2.2.2.2.2.1) [(19, 50155)]), (50155, .arr 49 (p.2.2.2.2.2.2))]⟩) (fun p => machine_New_l1 k3 p.1 (p.2.1) (p.2.2.1) (p.2.2.2.1) (p.2.2.2.2.1) (p.2.2.2.2.2.1) (p.2.2.2.2.2.2) = some r) (fun p => p.1) (((a0.length : Int) - (0 : Int)).toNat + 1, a0, (a0.length : Int), (0 : Int), zMa, ({ Store := v2, Server := zSv, Up := true, Pause := (0 : Int), Falls := (0 : Int), Clients := ([] : List Mk.Client) } : Mk.Machine), ([] : List Mk.Client)) hφ (j5 rfl rfl rfl rfl rfl) (j3 rfl rfl rfl) ?_
   rintro ⟨m4, x16_m4, x17_m4, x18_m4, y2_m4, y4_m4, y50155_m4⟩ (hφ : machine_New_l1 k3 m4 x16_m4 x17_m4 x18_m4 y2_m4 y4_m4 y50155_m4 = some r)
   obtain _ | m4 := m4
   ·exact (none_no hφ).elim
   rw [machine_New_l1.eq_2] at hφ
   refine Q0 (σ' := ⟨[(2, .ptr 2 (Lens.id (α := Mk.Machine))), (4, .ptr 4 (Lens.id (α := Mk.Machine))), (16, .val (x16_m4)), (17, .val (x17_m4)), (18, .val (x18_m4))], [(2, .var (y2_m4) []), (4, .var (y4_m4) [(19, 50155)]), (50155, .arr 49 (y50155_m4))]⟩) (j5 rfl rfl rfl rfl rfl) (j3 rfl rfl rfl) ?_
   refine Q2 (Q1 ?_)
   refine O5 (ox_lss .tmp .tmp) (.app (.one rfl) (.one rfl)) .nil rfl <| O1 <| Q0 (σ' := ⟨[(2, _), (4, _), (16, _), (17, _), (18, _), (19, .val (decide (x18_m4 < x17_m4)))], [(2, _), (4, _), (50155, _)]⟩) (j6 rfl rfl rfl rfl rfl rfl) (j3 rfl rfl rfl) ?_
   refine Q2 ?_
   refine Q3 _ rfl (fun hc5 => ?_) (fun hc5 => ?_)
   ·replace hφ := if_then hφ hc5
    refine Q0 (σ' := ⟨[(2, _), (4, _), (16, _), (17, _), (18, _)], [(2, _), (4, _), (50155, _)]⟩) (j5 rfl rfl rfl rfl rfl) (j3 rfl rfl rfl) ?_
    refine Q4 ?_
    refine Q2 ?_
    refine PT.block ?_
    refine Q2 ?_
    obtain ⟨hb6, hφ⟩ := G_some hφ
    refine Q1 ?_
    refine O5 (ox_ix s55 .tmp .tmp hb6.1 hb6.2) (.app (.one rfl) (.one rfl)) .nil rfl <| O5 (ox_load_elem t46) (.one rfl) .nil rfl <| O5 (ox1 .tmp) (.one rfl) .nil rfl <| O1 <| Q0 (σ' := ⟨[(2, _), (4, _), (6, .val (ix x16_m4 x18_m4)), (16, _), (17, _), (18, _)], [(2, _), (4, _), (50155, _)]⟩) (j6 rfl rfl rfl rfl rfl rfl) (j3 rfl rfl rfl) ?_
    refine Q2 ?_
    refine Q2 (Q1 ?_)
    refine O5 (ox0 .tmp) (.one rfl) .nil rfl <| O5 (ox_len s46 .tmp) (.one rfl) .nil rfl <| O5 (ox_gtr .tmp .int) (.app (.one rfl) .nil) .nil rfl <| O1 <| Q0 (σ' := ⟨[(2, _), (4, _), (6, _), (16, _), (17, _), (18, _), (24, .val (decide ((8 : Int) < ((ix x16_m4 x18_m4).length : Int))))], [(2, _), (4, _), (50155, _)]⟩) (j7 rfl rfl rfl rfl rfl rfl rfl) (j3 rfl rfl rfl) ?_
    refine Q3 _ rfl (fun hc7 => ?_) (fun hc7 => ?_)
    ·replace hφ := if_then hφ hc7
     refine Q0 (σ' := ⟨[(2, _)], [(2, _)]⟩) (j1 rfl) (j1 rfl) ?_
     refine Q2 (Q1 ?_)
     refine O5 (oxa z43 u43 rfl Bld.nil) .nil .nil rfl <| O2 rfl rfl (ox5 t43 .tmp) (.cons rfl (.one rfl)) (.one rfl) <| O5 (ox1 .int) .nil .nil rfl <| O1 <| Q0 (σ' := ⟨[(2, _), (3, .val (4 : Int))], [(2, .var (zMa) [])]⟩) (j2 rfl rfl) (j1 rfl) ?_
     refine Q5 ?_
     obtain rfl := Option.some.inj hφ
     exact Q6 hw0 rfl (.cell t43 rfl rfl (.tmp rfl rfl .nil)) rfl
    ·replace hφ := if_else hφ hc7
     refine Q0 (σ' := ⟨[(2, _), (4, _), (6, _), (16, _), (17, _), (18, _)], [(2, _), (4, _), (50155, _)]⟩) (j6 rfl rfl rfl rfl rfl rfl) (j3 rfl rfl rfl) ?_
     refine Q4 ?_
     obtain ⟨k8, hk8, hφ⟩ := J_some hφ
     refine PT.cut (ι := (List Mk.Call) × (List (List Mk.Call)) × Int × Int × Mk.Machine × Mk.Machine × (List Mk.Client)) (fun p => ⟨[(2, .ptr 2 (Lens.id (α := Mk.Machine))), (4, .ptr 4 (Lens.id (α := Mk.Machine))), (6, .val (p.1)), (16, .val (p.2.1)), (17, .val (p.2.2.1)), (18, .val (p.2.2.2.1))], [(2, .var (p.2.2.2.2.1) []), (4, .var (p.2.2.2.2.2.1) [(19, 50155)]), (50155, .arr 49 (p.2.2.2.2.2.2))]⟩) (fun p => k8 (p.1) (p.2.1) (p.2.2.1) (p.2.2.2.1) (p.2.2.2.2.1) (p.2.2.2.2.2.1) (p.2.2.2.2.2.2) = some r) ?_ ?_
     ·skip
      refine Q2 (Q1 ?_)
      refine O5 (ox0 .tmp) (.one rfl) .nil rfl <| O5 (ox_len s46 .tmp) (.one rfl) .nil rfl <| O5 (ox0 .int) .nil .nil rfl <| O1 <| Q0 (σ' := ⟨[(2, _), (4, _), (6, _), (16, _), (17, _), (18, _), (26, .val (ix x16_m4 x18_m4)), (27, .val ((ix x16_m4 x18_m4).length : Int)), (28, .val (0 : Int))], [(2, _), (4, _), (50155, _)]⟩) (j9 rfl rfl rfl rfl rfl rfl rfl rfl rfl) (j3 rfl rfl rfl) ?_
      refine PT.block ?_
      refine PT.loop (ι := Nat × (List Mk.Call) × (List (List Mk.Call)) × Int × Int × (List Mk.Call) × Int × Int × Mk.Machine × Mk.Machine × (List Mk.Client)) (fun p => ⟨[(2, .ptr 2 (Lens.id (α := Mk.Machine))), (4, .ptr 4 (Lens.id (α := Mk.Machine))), (6, .val (p.2.1)), (16, .val (p.2.2.1)), (17, .val (p.2.2.2.1)), (18, .val (p.2.2.2.2.1)), (26, .val (p.2.2.2.2.2.1)), (27, .val (p.2.2.2.2.2.2.1)), (28, .val (p.2.2.2.2.2.2.2.1))], [(2, .var (p.2.2.2.2.2.2.2.2.1) []), (4, .var (p.2.2.2.2.2.2.2.2.2.1) [(19, 50155)]), (50155, .arr 49 (p.2.2.2.2.2.2.2.2.2.2))]⟩) (fun p => machine_New_l2 k8 p.1 (p.2.1) (p.2.2.1) (p.2.2.2.1) (p.2.2.2.2.1) (p.2.2.2.2.2.1) (p.2.2.2.2.2.2.1) (p.2.2.2.2.2.2.2.1) (p.2.2.2.2.2.2.2.2.1) (p.2.2.2.2.2.2.2.2.2.1) (p.2.2.2.2.2.2.2.2.2.2) = some r) (fun p => p.1) ((((ix x16_m4 x18_m4).length : Int) - (0 : Int)).toNat + 1, (ix x16_m4 x18_m4), x16_m4, x17_m4, x18_m4, (ix x16_m4 x18_m4), ((ix x16_m4 x18_m4).length : Int), (0 : Int), y2_m4, y4_m4, y50155_m4) hφ (j9 rfl rfl rfl rfl rfl rfl rfl rfl rfl) (j3 rfl rfl rfl) ?_
      rintro ⟨m9, x6_m9, x16_m9, x17_m9, x18_m9, x26_m9, x27_m9, x28_m9, y2_m9, y4_m9, y50155_m9⟩ (hφ : machine_New_l2 k8 m9 x6_m9 x16_m9 x17_m9 x18_m9 x26_m9 x27_m9 x28_m9 y2_m9 y4_m9 y50155_m9 = some r)
      obtain _ | m9 := m9
      ·exact (none_no hφ).elim
      rw [machine_New_l2.eq_2] at hφ
      refine Q0 (σ' := ⟨[(2, _), (4, _), (6, .val (x6_m9)), (16, .val (x16_m9)), (17, .val (x17_m9)), (18, .val (x18_m9)), (26, .val (x26_m9)), (27, .val (x27_m9)), (28, .val (x28_m9))], [(2, .var (y2_m9) []), (4, .var (y4_m9) [(19, 50155)]), (50155, .arr 49 (y50155_m9))]⟩) (j9 rfl rfl rfl rfl rfl rfl rfl rfl rfl) (j3 rfl rfl rfl) ?_
      refine Q2 (Q1 ?_)
      refine O5 (ox_lss .tmp .tmp) (.app (.one rfl) (.one rfl)) .nil rfl <| O1 <| Q0 (σ' := ⟨[(2, _), (4, _), (6, _), (16, _), (17, _), (18, _), (26, _), (27, _), (28, _), (29, .val (decide (x28_m9 < x27_m9)))], [(2, _), (4, _), (50155, _)]⟩) (j10 rfl rfl rfl rfl rfl rfl rfl rfl rfl rfl) (j3 rfl rfl rfl) ?_
      refine Q2 ?_
      refine Q3 _ rfl (fun hc10 => ?_) (fun hc10 => ?_)
      ·replace hφ := if_then hφ hc10
       refine Q0 (σ' := ⟨[(2, _), (4, _), (6, _), (16, _), (17, _), (18, _), (26, _), (27, _), (28, _)], [(2, _), (4, _), (50155, _)]⟩) (j9 rfl rfl rfl rfl rfl rfl rfl rfl rfl) (j3 rfl rfl rfl) ?_
       refine Q4 ?_
       refine Q2 ?_
       refine PT.block ?_
       refine Q2 ?_
       obtain ⟨hb11, hφ⟩ := G_some hφ
       refine Q1 ?_
       refine O5 (ox_ix s46 .tmp .tmp hb11.1 hb11.2) (.app (.one rfl) (.one rfl)) .nil rfl <| O5 (ox_load_elem t33) (.one rfl) .nil rfl <| O3 rfl rfl (ox_alloc (id := 8) z33) .nil .nil rfl (by kernel_rfl) <| O2 rfl rfl (ox5 t33 .tmp) (.cons rfl (.one rfl)) (.one rfl) <| O1 <| Q0 (σ' := ⟨[(2, _), (4, _), (6, _), (8, _), (16, _), (17, _), (18, _), (26, _), (27, _), (28, _)], [(2, _), (4, _), (8, .var (ix x26_m9 x28_m9) []), (50155, _)]⟩) (j10 rfl rfl rfl rfl rfl rfl rfl rfl rfl rfl) (j4 rfl rfl rfl rfl) ?_
       refine Q2 ?_
       obtain ⟨v12, hv12, hφ⟩ := B_some hφ
       refine Q1 ?_
       refine O5 (ox4 t33) (.one rfl) (.one rfl) rfl <| O5 (ox_call (c_model_Wrong hv12) (.cons .tmp .nil)) (.app (.one rfl) .nil) .nil rfl <| O5 (ox1 .tmp) (.one rfl) .nil rfl <| O1 <| Q0 (σ' := ⟨[(2, _), (4, _), (6, _), (9, .val (v12)), (16, _), (17, _), (18, _), (26, _), (27, _), (28, _)], [(2, _), (4, _), (50155, _)]⟩) (j10 rfl rfl rfl rfl rfl rfl rfl rfl rfl rfl) (j3 rfl rfl rfl) ?_
       refine Q2 (Q1 ?_)
       refine O5 (ox0 .tmp) (.one rfl) .nil rfl <| O5 (ox_neq .tmp .int) (.app (.one rfl) .nil) .nil rfl <| O1 <| Q0 (σ' := ⟨[(2, _), (4, _), (6, _), (9, _), (16, _), (17, _), (18, _), (26, _), (27, _), (28, _), (35, .val (!decide (v12 = (0 : Int))))], [(2, _), (4, _), (50155, _)]⟩) (j11 rfl rfl rfl rfl rfl rfl rfl rfl rfl rfl rfl) (j3 rfl rfl rfl) ?_
       refine Q3 _ rfl (fun hc13 => ?_) (fun hc13 => ?_)
       ·replace hφ := if_then hφ hc13
        refine Q0 (σ' := ⟨[(2, _), (9, _)], [(2, _)]⟩) (j2 rfl rfl) (j1 rfl) ?_
        refine Q2 (Q1 ?_)
        refine O5 (oxa z43 u43 rfl Bld.nil) .nil .nil rfl <| O5 (ox0 .tmp) (.one rfl) .nil rfl <| O2 rfl rfl (ox5 t43 .tmp) (.cons rfl (.one rfl)) (.one rfl) <| O5 (ox1 .tmp) (.one rfl) .nil rfl <| O1 <| Q0 (σ' := ⟨[(2, _), (3, .val (v12))], [(2, .var (zMa) [])]⟩) (j2 rfl rfl) (j1 rfl) ?_
        refine Q5 ?_
        obtain rfl := Option.some.inj hφ
        exact Q6 hw0 rfl (.cell t43 rfl rfl (.tmp rfl rfl .nil)) rfl
       ·replace hφ := if_else hφ hc13
        refine Q0 (σ' := ⟨[(2, _), (4, _), (6, _), (16, _), (17, _), (18, _), (26, _), (27, _), (28, _)], [(2, _), (4, _), (50155, _)]⟩) (j9 rfl rfl rfl rfl rfl rfl rfl rfl rfl) (j3 rfl rfl rfl) ?_
        refine Q4 ?_
        obtain ⟨hb14, hφ⟩ := G_some hφ
        refine Q1 ?_
        refine O5 (ox_add .tmp .int hb14) (.app (.one rfl) .nil) .nil rfl <| O5 (ox0 .tmp) (.one rfl) .nil rfl <| O1 <| Q0 (σ' := ⟨[(2, _), (4, _), (6, _), (16, _), (17, _), (18, _), (26, _), (27, _), (28, .val (x28_m9 + (1 : Int)))], [(2, _), (4, _), (50155, _)]⟩) (j9 rfl rfl rfl rfl rfl rfl rfl rfl rfl) (j3 rfl rfl rfl) ?_
        exact PT.next (m9, x6_m9, x16_m9, x17_m9, x18_m9, x26_m9, x27_m9, (x28_m9 + (1 : Int)), y2_m9, y4_m9, y50155_m9) hφ (Nat.lt_succ_self _) (j9 rfl rfl rfl rfl rfl rfl rfl rfl rfl) (j3 rfl rfl rfl)
      ·replace hφ := if_else hφ hc10
       refine Q0 (σ' := ⟨[(2, _), (4, _), (6, _), (16, _), (17, _), (18, _)], [(2, _), (4, _), (50155, _)]⟩) (j6 rfl rfl rfl rfl rfl rfl) (j3 rfl rfl rfl) ?_
       refine PT.exit ?_
       exact PT.meet (x6_m9, x16_m9, x17_m9, x18_m9, y2_m9, y4_m9, y50155_m9) hφ (j6 rfl rfl rfl rfl rfl rfl) (j3 rfl rfl rfl)
     ·rintro ⟨x6_k8, x16_k8, x17_k8, x18_k8, y2_k8, y4_k8, y50155_k8⟩ hφ
      subst hk8
      refine Q0 (σ' := ⟨[(2, _), (4, _), (6, .val (x6_k8)), (16, .val (x16_k8)), (17, .val (x17_k8)), (18, .val (x18_k8))], [(2, .var (y2_k8) []), (4, .var (y4_k8) [(19, 50155)]), (50155, .arr 49 (y50155_k8))]⟩) (j6 rfl rfl rfl rfl rfl rfl) (j3 rfl rfl rfl) ?_
      obtain ⟨v15, hv15, hφ⟩ := B_some hφ
      obtain ⟨hb16, hφ⟩ := G_some hφ
      refine Q8 hMixed (
        .cons (S5 (ox3 Machine_Clients f43_5)) ⟨.one rfl, .nil⟩ (by kernel_rfl) rfl <|
        .cons (S5 (ox_take_hole (k' := 20040) t41 rfl rfl rfl rfl rfl)) ⟨.one rfl, .cons rfl (.one rfl)⟩ (by kernel_rfl) rfl <|
        .cons (S5 (ox0 .tmp)) ⟨.one rfl, .nil⟩ (by kernel_rfl) rfl <|
        .cons (S5 (ox_call (c_slices_Clone___api_Call_api_Call_ hv15) (.cons .tmp .nil))) ⟨(.app (.one rfl) .nil), .nil⟩ (by kernel_rfl) rfl <|
        .cons (S5 (oxa z49 u49 rfl (.cons Client_Calls f49_0 .tmp Bld.nil))) ⟨(.app (.one rfl) .nil), .nil⟩ (by kernel_rfl) rfl <|
        .cons (S5 (ox_buildSlice_val s41 z49 (.cons .tmp Parts.nil) rfl (by decide))) ⟨(.app (.one rfl) .nil), .nil⟩ (by kernel_rfl) rfl <|
        .cons (Step.putK [40] rfl rfl (ox_append a41 .tmp .tmp hb16.1 hb16.2)) ⟨(.app (.one rfl) (.one rfl)), .one rfl⟩ (by kernel_rfl) rfl <|
        .cons (S5 (ox3 Machine_Clients f43_5)) ⟨.one rfl, .nil⟩ (by kernel_rfl) rfl <|
        .cons (S4 rfl rfl (ox_store_sl t41 .tmp rfl)) ⟨(.cons rfl (.one rfl)), .cons rfl (.one rfl)⟩ (by kernel_rfl) rfl <|
        .nil) _ [[], [0], [], [2], [2, 3], [2, 3, 4], [0, 1, 2, 3, 4, 5], [0, 1, 2, 3, 4, 5, 6], [0, 1, 2, 3, 4, 5, 6, 7]] rfl (by kernel_rfl) (by kernel_rfl) ?_
      refine Q0 (σ' := ⟨[(2, _), (4, _), (16, _), (17, _), (18, _)], [(2, _), (4, _), (50155, .arr 49 ((y50155_k8 ++ ([({ Calls := v15, At := (0 : Int), Sent := false, Gen := (0 : Int), Box := ([] : List (List UInt8)), Got := ([] : List Mk.Reply) } : Mk.Client)] : List Mk.Client))))]⟩) (j5 rfl rfl rfl rfl rfl) (j3 rfl rfl rfl) ?_
      obtain ⟨hb17, hφ⟩ := G_some hφ
      refine Q1 ?_
      refine O5 (ox_add .tmp .int hb17) (.app (.one rfl) .nil) .nil rfl <| O5 (ox0 .tmp) (.one rfl) .nil rfl <| O1 <| Q0 (σ' := ⟨[(2, _), (4, _), (16, _), (17, _), (18, .val (x18_k8 + (1 : Int)))], [(2, _), (4, _), (50155, _)]⟩) (j5 rfl rfl rfl rfl rfl) (j3 rfl rfl rfl) ?_
      exact PT.next (m4, x16_k8, x17_k8, (x18_k8 + (1 : Int)), y2_k8, y4_k8, (y50155_k8 ++ ([({ Calls := v15, At := (0 : Int), Sent := false, Gen := (0 : Int), Box := ([] : List (List UInt8)), Got := ([] : List Mk.Reply) } : Mk.Client)] : List Mk.Client))) hφ (Nat.lt_succ_self _) (j5 rfl rfl rfl rfl rfl) (j3 rfl rfl rfl)
   ·replace hφ := if_else hφ hc5
    refine Q0 (σ' := ⟨[(2, _), (4, _)], [(2, _), (4, _), (50155, _)]⟩) (j2 rfl rfl) (j3 rfl rfl rfl) ?_
    refine PT.exit ?_
    exact PT.meet (y2_m4, y4_m4, y50155_m4) hφ (j2 rfl rfl) (j3 rfl rfl rfl)
  ·rintro ⟨y2_k3, y4_k3, y50155_k3⟩ hφ
   subst hk3
   refine Q0 (σ' := ⟨[(2, .ptr 2 (Lens.id (α := Mk.Machine))), (4, .ptr 4 (Lens.id (α := Mk.Machine)))], [(2, .var (y2_k3) []), (4, .var (y4_k3) [(19, 50155)]), (50155, .arr 49 (y50155_k3))]⟩) (j2 rfl rfl) (j3 rfl rfl rfl) ?_
   refine Q2 ?_
   refine PT.freezeHole 4 50155 [] Machine_Clients rfl rfl rfl rfl trivial ?_
   refine Q1 ?_
   refine O5 (ox4 t43) (.one rfl) (.one rfl) rfl <| O2 rfl rfl (ox5 t43 .tmp) (.cons rfl (.one rfl)) (.one rfl) <| O5 (ox1 .int) .nil .nil rfl <| O1 <| Q0 (σ' := ⟨[(2, _), (3, .val (0 : Int))], [(2, .var ({ y4_k3 with Clients := y50155_k3 }) [])]⟩) (j2 rfl rfl) (j1 rfl) ?_
   refine Q5 ?_
   obtain rfl := Option.some.inj hφ
   exact Q6 hw0 rfl (.cell t43 rfl rfl (.tmp rfl rfl .nil)) rfl
theorem x_machine_goes {a0 : Mk.Machine} {a1 : Int} {r : (Mk.Machine × Int)} (hφ : machine_goes a0 a1 = some r) : FnX Go.Proofs.Tryz.prog 35 [.ptr 600 (Lens.id (α := Mk.Machine)), .val a1] [(600, .var ({ a0 with Clients := ([] : List Mk.Client) }) [(19, 700)]), (700, .arr 49 (a0.Clients))] (.val r.2) [(600, .var ({ r.1 with Clients := ([] : List Mk.Client) }) [(19, 700)]), (700, .arr 49 r.1.Clients)] [600] := by
 unfold machine_goes at hφ
 refine FnX.mk' Go.Proofs.Tryz.func35 rfl (by decide) rfl (fun w0 m0 => ?_)
 refine Q2 (Q1 ?_)
 refine O5 (ox1 .int) .nil .nil rfl <| O1 <| Q0 (σ' := ⟨[(0, _), (1, .val (a1))], [(600, .var ({ a0 with Clients := ([] : List Mk.Client) }) [(19, 700)]), (700, .arr 49 (a0.Clients)), (1500, .pin 600 (m0.blk 600) (m0.sv 600))]⟩) (j2 rfl rfl) (j3 rfl rfl rfl) ?_
 refine Q2 ?_
 refine Q2 (Q1 ?_)
 refine O5 (ox0 .tmp) (.one rfl) .nil rfl <| O5 (ox_lss .tmp .int) (.app (.one rfl) .nil) .nil rfl <| O5 (ox0 .tmp) (.one rfl) .nil rfl <| O4 rfl rfl rfl rfl (.plain .nil) (fun hG => (ox0 .tmp)) (j1 rfl) .nil rfl <| O4 rfl rfl rfl rfl (.plain .nil) (fun hG => (ox0 .tmp)) (j1 rfl) .nil rfl <| O4 rfl rfl rfl rfl (.cond (fun h => h) .nil) (fun hG => oxb) (j1 rfl) .nil rfl ?_
 refine O4 rfl rfl rfl rfl (.cond (fun h => h) .nil) (fun hG => (ox3 Machine_Clients f43_5)) (j1 rfl) .nil rfl <| O4 rfl rfl rfl rfl (.cond (fun h => h) .nil) (fun hG => (ox_load_hole t41 rfl)) (j1 rfl) (.cons rfl (.one rfl)) rfl <| O4 rfl rfl rfl rfl (.cond (fun h => h) .nil) (fun hG => (ox_len_arr s41 .tmp)) (j1 rfl) (.one rfl) rfl <| O4 rfl rfl rfl rfl (.cond (fun h => h) (.cond (fun h => h) .nil)) (fun hG => (ox_geq .tmp .tmp)) (j2 rfl rfl) .nil rfl <| O5 ox9 (j2 rfl rfl) .nil rfl <| O1 <| Q0 (σ' := ⟨[(0, _), (1, _), (20, .val ((decide (a1 < (0 : Int))) || (decide ((a0.Clients.length : Int) ≤ a1))))], [(600, _), (700, _), (1500, _)]⟩) (j3 rfl rfl rfl) (j3 rfl rfl rfl) ?_
 refine Q3 _ rfl (fun hc1 => ?_) (fun hc1 => ?_)
 ·replace hφ := if_then hφ hc1
  refine Q0 (σ' := ⟨[], [(600, _), (700, _), (1500, _)]⟩) trivial (j3 rfl rfl rfl) ?_
  refine Q2 (Q1 ?_)
  refine O5 (ox1 .int) .nil .nil rfl <| O1 <| Q0 (σ' := ⟨[(4, .val (6 : Int))], [(600, _), (700, _), (1500, _)]⟩) (j1 rfl) (j3 rfl rfl rfl) ?_
  refine Q5 ?_
  refine PT.holeNil 600 Machine_Clients rfl rfl ?_
  obtain rfl := Option.some.inj hφ
  exact Q7 rfl (.tmp rfl .nil) rfl (j2 rfl rfl) (j1 rfl)
 ·replace hφ := if_else hφ hc1
  refine Q0 (σ' := ⟨[(0, _), (1, _)], [(600, _), (700, _), (1500, _)]⟩) (j2 rfl rfl) (j3 rfl rfl rfl) ?_
  refine Q4 ?_
  refine Q2 ?_
  obtain ⟨hb2, hφ⟩ := G_some hφ
  obtain ⟨v3, hv3, hφ⟩ := B_some hφ
  refine Q8 hMixed (
    .cons (S5 (ox0 .tmp)) ⟨.one rfl, .nil⟩ (by kernel_rfl) rfl <|
    .cons (S5 oxb) ⟨.one rfl, .nil⟩ (by kernel_rfl) rfl <|
    .cons (S5 (ox3 Machine_Clients f43_5)) ⟨.one rfl, .nil⟩ (by kernel_rfl) rfl <|
    .cons (S5 (ox_load_hole t41 rfl)) ⟨.one rfl, .cons rfl (.one rfl)⟩ (by kernel_rfl) rfl <|
    .cons (S5 (ox0 .tmp)) ⟨.one rfl, .nil⟩ (by kernel_rfl) rfl <|
    .cons (S5 (ox_index_arr s41 .tmp .tmp hb2.1 hb2.2)) ⟨(.app (.one rfl) (.one rfl)), .one rfl⟩ (by kernel_rfl) rfl <|
    .cons (S5 (ox_load_ax t49 hb2)) ⟨.one rfl, .one rfl⟩ (by kernel_rfl) rfl <|
    .cons (S5 (ox0 .tmp)) ⟨.one rfl, .nil⟩ (by kernel_rfl) rfl <|
    .cons (S5 (ox0 .tmp)) ⟨.one rfl, .nil⟩ (by kernel_rfl) rfl <|
    .cons (S5 oxb) ⟨.one rfl, .nil⟩ (by kernel_rfl) rfl <|
    .cons (S5 (ox3 Machine_Server f43_1)) ⟨.one rfl, .nil⟩ (by kernel_rfl) rfl <|
    .cons (S5 (ox_fieldAddr_ptr Server_Gen f40_0)) ⟨.one rfl, .nil⟩ (by kernel_rfl) rfl <|
    .cons (S5 (ox6 t3 rfl)) ⟨.one rfl, .one rfl⟩ (by kernel_rfl) rfl <|
    .cons (S5 (ox0 .tmp)) ⟨.one rfl, .nil⟩ (by kernel_rfl) rfl <|
    .cons (S5 oxb) ⟨.one rfl, .nil⟩ (by kernel_rfl) rfl <|
    .cons (S5 (ox3 Machine_Up f43_2)) ⟨.one rfl, .nil⟩ (by kernel_rfl) rfl <|
    .cons (S5 (ox6 t4 rfl)) ⟨.one rfl, .one rfl⟩ (by kernel_rfl) rfl <|
    .cons (S5 (ox_call (c_client_Go hv3) (.cons .tmp (.cons .tmp (.cons .tmp (.cons .tmp .nil)))))) ⟨(.app (.one rfl) (.app (.one rfl) (.app (.one rfl) (.app (.one rfl) .nil)))), .nil⟩ (by kernel_rfl) rfl <|
    .cons (S5 (ox0 .tmp)) ⟨.one rfl, .nil⟩ (by kernel_rfl) rfl <|
    .cons (S5 (ox7 rfl)) ⟨.one rfl, .nil⟩ (by kernel_rfl) rfl <|
    .cons (S5 (ox7 rfl)) ⟨.one rfl, .nil⟩ (by kernel_rfl) rfl <|
    .cons (S5 (ox7 rfl)) ⟨.one rfl, .nil⟩ (by kernel_rfl) rfl <|
    .cons (S5 (ox_alloc (id := 5) z49)) ⟨.nil, .nil⟩ (by kernel_rfl) rfl <|
    .cons (S4 rfl rfl (ox5 t49 .tmp)) ⟨(.cons rfl (.one rfl)), .one rfl⟩ (by kernel_rfl) rfl <|
    .cons (S5 (ox1 .tmp)) ⟨.one rfl, .nil⟩ (by kernel_rfl) rfl <|
    .cons (S5 (ox1 .tmp)) ⟨.one rfl, .nil⟩ (by kernel_rfl) rfl <|
    .nil) _ [[], [0], [0, 1], [0, 1, 2], [], [0, 1, 2, 3, 4], [0, 1, 2, 3, 4, 5], [], [], [8], [8, 9], [8, 9, 10], [8, 9, 10, 11], [], [13], [13, 14], [13, 14, 15], [0, 1, 2, 3, 4, 5, 6, 7, 8, 9, 10, 11, 12, 13, 14, 15, 16], [0, 1, 2, 3, 4, 5, 6, 7, 8, 9, 10, 11, 12, 13, 14, 15, 16, 17], [0, 1, 2, 3, 4, 5, 6, 7, 8, 9, 10, 11, 12, 13, 14, 15, 16, 17, 18], [0, 1, 2, 3, 4, 5, 6, 7, 8, 9, 10, 11, 12, 13, 14, 15, 16, 17, 18], [0, 1, 2, 3, 4, 5, 6, 7, 8, 9, 10, 11, 12, 13, 14, 15, 16, 17, 18], [], [0, 1, 2, 3, 4, 5, 6, 7, 8, 9, 10, 11, 12, 13, 14, 15, 16, 17, 18, 19, 22], [0, 1, 2, 3, 4, 5, 6, 7, 8, 9, 10, 11, 12, 13, 14, 15, 16, 17, 18, 19, 20, 22, 23], [0, 1, 2, 3, 4, 5, 6, 7, 8, 9, 10, 11, 12, 13, 14, 15, 16, 17, 18, 19, 20, 21, 22, 23, 24]] rfl (by kernel_rfl) (by kernel_rfl) ?_
  refine Q0 (σ' := ⟨[(0, _), (1, _), (5, _), (6, _), (7, .val (v3.2.2))], [(5, .var (v3.1) []), (600, _), (700, _), (1500, _)]⟩) (j5 rfl rfl rfl rfl rfl) (j4 rfl rfl rfl rfl) ?_
  refine Q2 ?_
  refine Q2 (Q1 ?_)
  refine O5 (ox0 .tmp) (.one rfl) .nil rfl <| O5 (ox_neq .tmp .int) (.app (.one rfl) .nil) .nil rfl <| O1 <| Q0 (σ' := ⟨[(0, _), (1, _), (5, _), (6, _), (7, _), (44, .val (!decide (v3.2.2 = (0 : Int))))], [(5, _), (600, _), (700, _), (1500, _)]⟩) (j6 rfl rfl rfl rfl rfl rfl) (j4 rfl rfl rfl rfl) ?_
  refine Q3 _ rfl (fun hc4 => ?_) (fun hc4 => ?_)
  ·replace hφ := if_then hφ hc4
   refine Q0 (σ' := ⟨[(7, _)], [(600, _), (700, _), (1500, _)]⟩) (j1 rfl) (j3 rfl rfl rfl) ?_
   refine Q2 (Q1 ?_)
   refine O5 (ox0 .tmp) (.one rfl) .nil rfl <| O5 (ox1 .tmp) (.one rfl) .nil rfl <| O1 <| Q0 (σ' := ⟨[(4, .val (v3.2.2))], [(600, _), (700, _), (1500, _)]⟩) (j1 rfl) (j3 rfl rfl rfl) ?_
   refine Q5 ?_
   refine PT.holeNil 600 Machine_Clients rfl rfl ?_
   obtain rfl := Option.some.inj hφ
   exact Q7 rfl (.tmp rfl .nil) rfl (j2 rfl rfl) (j1 rfl)
  ·replace hφ := if_else hφ hc4
   refine Q0 (σ' := ⟨[(0, _), (1, _), (5, _), (6, _)], [(5, _), (600, _), (700, _), (1500, _)]⟩) (j4 rfl rfl rfl rfl) (j4 rfl rfl rfl rfl) ?_
   refine Q4 ?_
   obtain ⟨k5, hk5, hφ⟩ := J_some hφ
   refine PT.cut (ι := Int × Mk.Client × Mk.Machine × (List Mk.Client)) (fun p => ⟨[(0, .ptr 600 (Lens.id (α := Mk.Machine))), (1, .val (p.1)), (5, .ptr 5 (Lens.id (α := Mk.Client)))], [(5, .var (p.2.1) []), (600, .var (p.2.2.1) [(19, 700)]), (700, .arr 49 (p.2.2.2)), (1500, .pin 600 (m0.blk 600) (m0.sv 600))]⟩) (fun p => k5 (p.1) (p.2.1) (p.2.2.1) (p.2.2.2) = some r) ?_ ?_
   ·skip
    refine Q2 (Q1 ?_)
    refine O5 (ox0 .tmp) (.one rfl) .nil rfl <| O5 (ox_noNilN (by kernel_rfl) .tmp .nilS) (.app (.one rfl) .nil) .nil rfl <| O1 <| Q0 (σ' := ⟨[(0, _), (1, _), (5, _), (6, _), (47, .val (!v3.2.1.isEmpty))], [(5, _), (600, _), (700, _), (1500, _)]⟩) (j5 rfl rfl rfl rfl rfl) (j4 rfl rfl rfl rfl) ?_
    refine Q3 _ rfl (fun hc6 => ?_) (fun hc6 => ?_)
    ·replace hφ := if_then hφ hc6
     refine Q0 (σ' := ⟨[(0, _), (1, _), (5, _), (6, _)], [(5, _), (600, _), (700, _), (1500, _)]⟩) (j4 rfl rfl rfl rfl) (j4 rfl rfl rfl rfl) ?_
     refine Q2 ?_
     refine PT.ofNlist 6 rfl ?_
     obtain ⟨v7, hv7, hφ⟩ := B_some hφ
     refine Q1 ?_
     refine O5 (ox0 .tmp) (.one rfl) .nil rfl <| O5 oxb (.one rfl) .nil rfl <| O5 (ox3 Machine_Server f43_1) (.one rfl) .nil rfl <| O5 (ox6 t40 rfl) (.one rfl) (.one rfl) rfl <| O5 (ox0 .tmp) (.one rfl) .nil rfl <| O5 (ox_call (c_serve_Come hv7) (.cons .tmp (.cons .tmp .nil))) (.app (.one rfl) (.app (.one rfl) .nil)) .nil rfl ?_
     refine O5 (ox0 .tmp) (.one rfl) .nil rfl <| O5 (ox7 rfl) (.one rfl) .nil rfl <| O5 (ox7 rfl) (.one rfl) .nil rfl <| O3 rfl rfl (ox_alloc (id := 8) z40) .nil .nil rfl (by kernel_rfl) <| O2 rfl rfl (ox5 t40 .tmp) (.cons rfl (.one rfl)) (.one rfl) <| O5 (ox1 .tmp) (.one rfl) .nil rfl <| O1 <| Q0 (σ' := ⟨[(0, _), (1, _), (5, _), (8, _), (9, .val (v7.2))], [(5, _), (8, .var (v7.1) []), (600, _), (700, _), (1500, _)]⟩) (j5 rfl rfl rfl rfl rfl) (j5 rfl rfl rfl rfl rfl) ?_
     refine Q2 ?_
     refine Q2 (Q1 ?_)
     refine O5 (ox0 .tmp) (.one rfl) .nil rfl <| O5 (ox_neq .tmp .int) (.app (.one rfl) .nil) .nil rfl <| O1 <| Q0 (σ' := ⟨[(0, _), (1, _), (5, _), (8, _), (9, _), (58, .val (!decide (v7.2 = (0 : Int))))], [(5, _), (8, _), (600, _), (700, _), (1500, _)]⟩) (j6 rfl rfl rfl rfl rfl rfl) (j5 rfl rfl rfl rfl rfl) ?_
     refine Q3 _ rfl (fun hc8 => ?_) (fun hc8 => ?_)
     ·replace hφ := if_then hφ hc8
      refine Q0 (σ' := ⟨[(9, _)], [(600, _), (700, _), (1500, _)]⟩) (j1 rfl) (j3 rfl rfl rfl) ?_
      refine Q2 (Q1 ?_)
      refine O5 (ox0 .tmp) (.one rfl) .nil rfl <| O5 (ox1 .tmp) (.one rfl) .nil rfl <| O1 <| Q0 (σ' := ⟨[(4, .val (v7.2))], [(600, _), (700, _), (1500, _)]⟩) (j1 rfl) (j3 rfl rfl rfl) ?_
      refine Q5 ?_
      refine PT.holeNil 600 Machine_Clients rfl rfl ?_
      obtain rfl := Option.some.inj hφ
      exact Q7 rfl (.tmp rfl .nil) rfl (j2 rfl rfl) (j1 rfl)
     ·replace hφ := if_else hφ hc8
      refine Q0 (σ' := ⟨[(0, _), (1, _), (5, _), (8, _)], [(5, _), (8, _), (600, _), (700, _), (1500, _)]⟩) (j4 rfl rfl rfl rfl) (j5 rfl rfl rfl rfl rfl) ?_
      refine Q4 ?_
      refine Q1 ?_
      refine O5 (ox0 .tmp) (.one rfl) .nil rfl <| O5 (ox4 t40) (.one rfl) (.one rfl) rfl <| O5 oxb (.one rfl) .nil rfl <| O5 (ox3 Machine_Server f43_1) (.one rfl) .nil rfl <| O2 rfl rfl (ox_store_over t40 .tmp rfl) (.cons rfl (.one rfl)) (.one rfl) <| O1 <| Q0 (σ' := ⟨[(0, _), (1, _), (5, _)], [(5, _), (600, .var ({ ({ a0 with Clients := ([] : List Mk.Client) }) with Server := v7.1 }) [(19, 700)]), (700, _), (1500, _)]⟩) (j3 rfl rfl rfl) (j4 rfl rfl rfl rfl) ?_
      exact PT.meet (a1, v3.1, { ({ a0 with Clients := ([] : List Mk.Client) }) with Server := v7.1 }, a0.Clients) hφ (j3 rfl rfl rfl) (j4 rfl rfl rfl rfl)
    ·replace hφ := if_else hφ hc6
     refine Q0 (σ' := ⟨[(0, _), (1, _), (5, _)], [(5, _), (600, _), (700, _), (1500, _)]⟩) (j3 rfl rfl rfl) (j4 rfl rfl rfl rfl) ?_
     refine Q4 ?_
     exact PT.meet (a1, v3.1, { a0 with Clients := ([] : List Mk.Client) }, a0.Clients) hφ (j3 rfl rfl rfl) (j4 rfl rfl rfl rfl)
   ·rintro ⟨x1_k5, y5_k5, y600_k5, y700_k5⟩ hφ
    subst hk5
    refine Q0 (σ' := ⟨[(0, .ptr 600 (Lens.id (α := Mk.Machine))), (1, .val (x1_k5)), (5, .ptr 5 (Lens.id (α := Mk.Client)))], [(5, .var (y5_k5) []), (600, .var (y600_k5) [(19, 700)]), (700, .arr 49 (y700_k5)), (1500, _)]⟩) (j3 rfl rfl rfl) (j4 rfl rfl rfl rfl) ?_
    refine Q2 ?_
    obtain ⟨hb9, hφ⟩ := G_some hφ
    refine Q8 hMixed (
      .cons (S5 (ox0 .tmp)) ⟨.one rfl, .nil⟩ (by kernel_rfl) rfl <|
      .cons (S5 oxb) ⟨.one rfl, .nil⟩ (by kernel_rfl) rfl <|
      .cons (S5 (ox3 Machine_Clients f43_5)) ⟨.one rfl, .nil⟩ (by kernel_rfl) rfl <|
      .cons (S5 (ox_load_hole t41 rfl)) ⟨.one rfl, .cons rfl (.one rfl)⟩ (by kernel_rfl) rfl <|
      .cons (S5 (ox0 .tmp)) ⟨.one rfl, .nil⟩ (by kernel_rfl) rfl <|
      .cons (S5 (ox4 t49)) ⟨.one rfl, .one rfl⟩ (by kernel_rfl) rfl <|
      .cons (S5 (ox_index_arr s41 .tmp .tmp hb9.1 hb9.2)) ⟨(.app (.one rfl) (.one rfl)), .one rfl⟩ (by kernel_rfl) rfl <|
      .cons (S4 rfl rfl (ox_store_ax t49 .tmp hb9)) ⟨(.cons rfl (.one rfl)), .one rfl⟩ (by kernel_rfl) rfl <|
      .nil) _ [[], [0], [0, 1], [0, 1, 2], [], [], [0, 1, 2, 3, 4, 5], [0, 1, 2, 3, 4, 5, 6]] rfl (by kernel_rfl) (by kernel_rfl) ?_
    refine Q0 (σ' := ⟨[], [(600, _), (700, .arr 49 (up y700_k5 x1_k5 y5_k5)), (1500, _)]⟩) trivial (j3 rfl rfl rfl) ?_
    refine Q2 (Q1 ?_)
    refine O5 (ox1 .int) .nil .nil rfl <| O1 <| Q0 (σ' := ⟨[(4, .val (0 : Int))], [(600, _), (700, _), (1500, _)]⟩) (j1 rfl) (j3 rfl rfl rfl) ?_
    refine Q5 ?_
    refine PT.holeNil 600 Machine_Clients rfl rfl ?_
    obtain rfl := Option.some.inj hφ
    exact Q7 rfl (.tmp rfl .nil) rfl (j2 rfl rfl) (j1 rfl)
theorem x_machine_serves {a0 : Mk.Machine} {a1 : Int} {r : (Mk.Machine × Int)} (hφ : machine_serves a0 a1 = some r) : FnX Go.Proofs.Tryz.prog 36 [.ptr 600 (Lens.id (α := Mk.Machine)), .val a1] [(600, .var ({ a0 with Clients := ([] : List Mk.Client) }) [(19, 700)]), (700, .arr 49 (a0.Clients))] (.val r.2) [(600, .var ({ r.1 with Clients := ([] : List Mk.Client) }) [(19, 700)]), (700, .arr 49 r.1.Clients)] [600] := by
 unfold machine_serves at hφ
 refine FnX.mk' Go.Proofs.Tryz.func36 rfl (by decide) rfl (fun w0 m0 => ?_)
 refine Q2 (Q1 ?_)
 refine O5 (ox1 .int) .nil .nil rfl <| O1 <| Q0 (σ' := ⟨[(0, _)], [(600, .var ({ a0 with Clients := ([] : List Mk.Client) }) [(19, 700)]), (700, .arr 49 (a0.Clients)), (1500, .pin 600 (m0.blk 600) (m0.sv 600))]⟩) (j1 rfl) (j3 rfl rfl rfl) ?_
 refine Q2 ?_
 refine Q2 (Q1 ?_)
 refine O5 (ox0 .tmp) (.one rfl) .nil rfl <| O5 oxb (.one rfl) .nil rfl <| O5 (ox3 Machine_Up f43_2) (.one rfl) .nil rfl <| O5 (ox6 t4 rfl) (.one rfl) (.one rfl) rfl <| O5 (ox_not .tmp) (.one rfl) .nil rfl <| O1 <| Q0 (σ' := ⟨[(0, _), (15, .val (!{ a0 with Clients := ([] : List Mk.Client) }.Up))], [(600, _), (700, _), (1500, _)]⟩) (j2 rfl rfl) (j3 rfl rfl rfl) ?_
 refine Q3 _ rfl (fun hc1 => ?_) (fun hc1 => ?_)
 ·replace hφ := if_then hφ hc1
  refine Q0 (σ' := ⟨[], [(600, _), (700, _), (1500, _)]⟩) trivial (j3 rfl rfl rfl) ?_
  refine Q2 (Q1 ?_)
  refine O5 (ox1 .int) .nil .nil rfl <| O1 <| Q0 (σ' := ⟨[(4, .val (10 : Int))], [(600, _), (700, _), (1500, _)]⟩) (j1 rfl) (j3 rfl rfl rfl) ?_
  refine Q5 ?_
  refine PT.holeNil 600 Machine_Clients rfl rfl ?_
  obtain rfl := Option.some.inj hφ
  exact Q7 rfl (.tmp rfl .nil) rfl (j2 rfl rfl) (j1 rfl)
 ·replace hφ := if_else hφ hc1
  refine Q0 (σ' := ⟨[(0, _)], [(600, _), (700, _), (1500, _)]⟩) (j1 rfl) (j3 rfl rfl rfl) ?_
  refine Q4 ?_
  refine Q2 ?_
  obtain ⟨v2, hv2, hφ⟩ := B_some hφ
  refine Q8 hMixed (
    .cons (S5 (ox0 .tmp)) ⟨.one rfl, .nil⟩ (by kernel_rfl) rfl <|
    .cons (S5 oxb) ⟨.one rfl, .nil⟩ (by kernel_rfl) rfl <|
    .cons (S5 (ox3 Machine_Store f43_0)) ⟨.one rfl, .nil⟩ (by kernel_rfl) rfl <|
    .cons (S5 (ox6 t30 rfl)) ⟨.one rfl, .one rfl⟩ (by kernel_rfl) rfl <|
    .cons (S5 (ox0 .tmp)) ⟨.one rfl, .nil⟩ (by kernel_rfl) rfl <|
    .cons (S5 oxb) ⟨.one rfl, .nil⟩ (by kernel_rfl) rfl <|
    .cons (S5 (ox3 Machine_Server f43_1)) ⟨.one rfl, .nil⟩ (by kernel_rfl) rfl <|
    .cons (S5 (ox6 t40 rfl)) ⟨.one rfl, .one rfl⟩ (by kernel_rfl) rfl <|
    .cons (S5 (ox_call (c_serve_Go hv2) (.cons .tmp (.cons .tmp .nil)))) ⟨(.app (.one rfl) (.app (.one rfl) .nil)), .nil⟩ (by kernel_rfl) rfl <|
    .cons (S5 (ox0 .tmp)) ⟨.one rfl, .nil⟩ (by kernel_rfl) rfl <|
    .cons (S5 (ox7 rfl)) ⟨.one rfl, .nil⟩ (by kernel_rfl) rfl <|
    .cons (S5 (ox7 rfl)) ⟨.one rfl, .nil⟩ (by kernel_rfl) rfl <|
    .cons (S5 (ox7 rfl)) ⟨.one rfl, .nil⟩ (by kernel_rfl) rfl <|
    .cons (S5 (ox7 rfl)) ⟨.one rfl, .nil⟩ (by kernel_rfl) rfl <|
    .cons (S5 (ox_alloc (id := 5) z30)) ⟨.nil, .nil⟩ (by kernel_rfl) rfl <|
    .cons (S5 (ox_alloc (id := 6) z40)) ⟨.nil, .nil⟩ (by kernel_rfl) rfl <|
    .cons (S4 rfl rfl (ox5 t30 .tmp)) ⟨(.cons rfl (.one rfl)), .one rfl⟩ (by kernel_rfl) rfl <|
    .cons (S4 rfl rfl (ox5 t40 .tmp)) ⟨(.cons rfl (.one rfl)), .one rfl⟩ (by kernel_rfl) rfl <|
    .cons (S5 (ox1 .tmp)) ⟨.one rfl, .nil⟩ (by kernel_rfl) rfl <|
    .cons (S5 (ox1 .tmp)) ⟨.one rfl, .nil⟩ (by kernel_rfl) rfl <|
    .nil) _ [[], [0], [0, 1], [0, 1, 2], [], [4], [4, 5], [4, 5, 6], [0, 1, 2, 3, 4, 5, 6, 7], [0, 1, 2, 3, 4, 5, 6, 7, 8], [0, 1, 2, 3, 4, 5, 6, 7, 8, 9], [0, 1, 2, 3, 4, 5, 6, 7, 8, 9], [0, 1, 2, 3, 4, 5, 6, 7, 8, 9], [0, 1, 2, 3, 4, 5, 6, 7, 8, 9], [], [], [0, 1, 2, 3, 4, 5, 6, 7, 8, 9, 10, 14, 15], [0, 1, 2, 3, 4, 5, 6, 7, 8, 9, 10, 11, 14, 15, 16], [0, 1, 2, 3, 4, 5, 6, 7, 8, 9, 10, 11, 12, 14, 15, 16, 17], [0, 1, 2, 3, 4, 5, 6, 7, 8, 9, 10, 11, 12, 13, 14, 15, 16, 17, 18]] rfl (by kernel_rfl) (by kernel_rfl) ?_
  refine Q0 (σ' := ⟨[(0, _), (5, _), (6, _), (7, _), (8, .val (v2.2.2.2))], [(5, .var (v2.1) []), (6, .var (v2.2.1) []), (600, _), (700, _), (1500, _)]⟩) (j5 rfl rfl rfl rfl rfl) (j5 rfl rfl rfl rfl rfl) ?_
  refine Q2 ?_
  refine Q2 (Q1 ?_)
  refine O5 (ox0 .tmp) (.one rfl) .nil rfl <| O5 (ox_neq .tmp .int) (.app (.one rfl) .nil) .nil rfl <| O1 <| Q0 (σ' := ⟨[(0, _), (5, _), (6, _), (7, _), (8, _), (31, .val (!decide (v2.2.2.2 = (0 : Int))))], [(5, _), (6, _), (600, _), (700, _), (1500, _)]⟩) (j6 rfl rfl rfl rfl rfl rfl) (j5 rfl rfl rfl rfl rfl) ?_
  refine Q3 _ rfl (fun hc3 => ?_) (fun hc3 => ?_)
  ·replace hφ := if_then hφ hc3
   refine Q0 (σ' := ⟨[(8, _)], [(600, _), (700, _), (1500, _)]⟩) (j1 rfl) (j3 rfl rfl rfl) ?_
   refine Q2 (Q1 ?_)
   refine O5 (ox0 .tmp) (.one rfl) .nil rfl <| O5 (ox1 .tmp) (.one rfl) .nil rfl <| O1 <| Q0 (σ' := ⟨[(4, .val (v2.2.2.2))], [(600, _), (700, _), (1500, _)]⟩) (j1 rfl) (j3 rfl rfl rfl) ?_
   refine Q5 ?_
   refine PT.holeNil 600 Machine_Clients rfl rfl ?_
   obtain rfl := Option.some.inj hφ
   exact Q7 rfl (.tmp rfl .nil) rfl (j2 rfl rfl) (j1 rfl)
  ·replace hφ := if_else hφ hc3
   refine Q0 (σ' := ⟨[(0, _), (5, _), (6, _), (7, _)], [(5, _), (6, _), (600, _), (700, _), (1500, _)]⟩) (j4 rfl rfl rfl rfl) (j5 rfl rfl rfl rfl rfl) ?_
   refine Q4 ?_
   refine Q2 ?_
   refine Q8 hMixed (
     .cons (S5 (ox0 .tmp)) ⟨.one rfl, .nil⟩ (by kernel_rfl) rfl <|
     .cons (S5 (ox0 .tmp)) ⟨.one rfl, .nil⟩ (by kernel_rfl) rfl <|
     .cons (S5 (ox4 t30)) ⟨.one rfl, .one rfl⟩ (by kernel_rfl) rfl <|
     .cons (S5 (ox4 t40)) ⟨.one rfl, .one rfl⟩ (by kernel_rfl) rfl <|
     .cons (S5 oxb) ⟨.one rfl, .nil⟩ (by kernel_rfl) rfl <|
     .cons (S5 (ox3 Machine_Store f43_0)) ⟨.one rfl, .nil⟩ (by kernel_rfl) rfl <|
     .cons (S4 rfl rfl (ox_store_over t30 .tmp rfl)) ⟨(.cons rfl (.one rfl)), .one rfl⟩ (by kernel_rfl) rfl <|
     .cons (S5 oxb) ⟨.one rfl, .nil⟩ (by kernel_rfl) rfl <|
     .cons (S5 (ox3 Machine_Server f43_1)) ⟨.one rfl, .nil⟩ (by kernel_rfl) rfl <|
     .cons (S4 rfl rfl (ox_store_over t40 .tmp rfl)) ⟨(.cons rfl (.one rfl)), .one rfl⟩ (by kernel_rfl) rfl <|
     .nil) _ [[], [], [], [], [0, 2], [0, 2, 4], [0, 2, 4, 5], [0, 1, 2, 3, 4, 5, 6], [0, 1, 2, 3, 4, 5, 6, 7], [0, 1, 2, 3, 4, 5, 6, 7, 8]] rfl (by kernel_rfl) (by kernel_rfl) ?_
   refine Q0 (σ' := ⟨[(0, _), (7, _)], [(600, .var ({ ({ ({ a0 with Clients := ([] : List Mk.Client) }) with Store := v2.1 }) with Server := v2.2.1 }) [(19, 700)]), (700, _), (1500, _)]⟩) (j2 rfl rfl) (j3 rfl rfl rfl) ?_
   refine Q2 ?_
   refine Q2 (Q1 ?_)
   refine O5 (ox0 .tmp) (.one rfl) .nil rfl <| O5 (ox_isNilN (by kernel_rfl) .tmp .nilS) (.app (.one rfl) .nil) .nil rfl <| O1 <| Q0 (σ' := ⟨[(0, _), (7, _), (42, .val (v2.2.2.1.isEmpty))], [(600, _), (700, _), (1500, _)]⟩) (j3 rfl rfl rfl) (j3 rfl rfl rfl) ?_
   refine Q3 _ rfl (fun hc4 => ?_) (fun hc4 => ?_)
   ·replace hφ := if_then hφ hc4
    refine Q0 (σ' := ⟨[], [(600, _), (700, _), (1500, _)]⟩) trivial (j3 rfl rfl rfl) ?_
    refine Q2 (Q1 ?_)
    refine O5 (ox1 .int) .nil .nil rfl <| O1 <| Q0 (σ' := ⟨[(4, .val (0 : Int))], [(600, _), (700, _), (1500, _)]⟩) (j1 rfl) (j3 rfl rfl rfl) ?_
    refine Q5 ?_
    refine PT.holeNil 600 Machine_Clients rfl rfl ?_
    obtain rfl := Option.some.inj hφ
    exact Q7 rfl (.tmp rfl .nil) rfl (j2 rfl rfl) (j1 rfl)
   ·replace hφ := if_else hφ hc4
    refine Q0 (σ' := ⟨[(0, _), (7, _)], [(600, _), (700, _), (1500, _)]⟩) (j2 rfl rfl) (j3 rfl rfl rfl) ?_
    refine Q4 ?_
    obtain ⟨k5, hk5, hφ⟩ := J_some hφ
    refine PT.cut (ι := Mk.Machine × (List Mk.Client)) (fun p => ⟨[], [(600, .var (p.1) [(19, 700)]), (700, .arr 49 (p.2)), (1500, .pin 600 (m0.blk 600) (m0.sv 600))]⟩) (fun p => k5 (p.1) (p.2) = some r) ?_ ?_
    ·skip
     refine Q2 ?_
     refine PT.ofNlist 7 rfl ?_
     obtain ⟨v6, hv6, hφ⟩ := B_some hφ
     refine Q1 ?_
     refine O5 (ox0 .tmp) (.one rfl) .nil rfl <| O5 (ox_call (c_wire_ReadAnswer hv6) (.cons .tmp .nil)) (.app (.one rfl) .nil) .nil rfl <| O5 (ox0 .tmp) (.one rfl) .nil rfl <| O5 (ox7 rfl) (.one rfl) .nil rfl <| O5 (ox7 rfl) (.one rfl) .nil rfl <| O3 rfl rfl (ox_alloc (id := 9) z105) .nil .nil rfl (by kernel_rfl) ?_
     refine O2 rfl rfl (ox5 t105 .tmp) (.cons rfl (.one rfl)) (.one rfl) <| O5 (ox1 .tmp) (.one rfl) .nil rfl <| O1 <| Q0 (σ' := ⟨[(0, _), (7, .val (v2.2.2.1)), (9, _), (10, .val (v6.2))], [(9, .var (v6.1) []), (600, _), (700, _), (1500, _)]⟩) (j4 rfl rfl rfl rfl) (j4 rfl rfl rfl rfl) ?_
     refine Q2 ?_
     refine Q8 hMixed (
       .cons (S5 (ox0 .tmp)) ⟨.one rfl, .nil⟩ (by kernel_rfl) rfl <|
       .cons (S5 (ox_eql .tmp .int)) ⟨(.app (.one rfl) .nil), .nil⟩ (by kernel_rfl) rfl <|
       .cons (S5 (ox0 .tmp)) ⟨.one rfl, .nil⟩ (by kernel_rfl) rfl <|
       .cons (S3 rfl rfl rfl Grd.plain _ (by first | exact Iff.rfl | (simp; done) | (simp; intros; exact Iff.rfl)) (.plain .nil) (fun hG => (ox3 Answer_Client f105_0))) ⟨(.cons rfl (j1 rfl)), .nil⟩ (by kernel_rfl) rfl <|
       .cons (S3 rfl rfl rfl Grd.plain _ (by first | exact Iff.rfl | (simp; done) | (simp; intros; exact Iff.rfl)) (.cond (fun h => h) .nil) (fun hG => (ox2 t3))) ⟨(.cons rfl (j1 rfl)), .one rfl⟩ (by kernel_rfl) rfl <|
       .cons (S3 rfl rfl rfl Grd.plain _ (by first | exact Iff.rfl | (simp; done) | (simp; intros; exact Iff.rfl)) (.plain .nil) (fun hG => (ox0 .tmp))) ⟨(.cons rfl (j1 rfl)), .nil⟩ (by kernel_rfl) rfl <|
       .cons (S3 rfl rfl rfl Grd.plain _ (by first | exact Iff.rfl | (simp; done) | (simp; intros; exact Iff.rfl)) (.cond (fun h => h) .nil) (fun hG => oxb)) ⟨(.cons rfl (j1 rfl)), .nil⟩ (by kernel_rfl) rfl <|
       .cons (S3 rfl rfl rfl Grd.plain _ (by first | exact Iff.rfl | (simp; done) | (simp; intros; exact Iff.rfl)) (.cond (fun h => h) .nil) (fun hG => (ox3 Machine_Clients f43_5))) ⟨(.cons rfl (j1 rfl)), .nil⟩ (by kernel_rfl) rfl <|
       .cons (S3 rfl rfl rfl Grd.plain _ (by first | exact Iff.rfl | (simp; done) | (simp; intros; exact Iff.rfl)) (.cond (fun h => h) .nil) (fun hG => (ox_load_hole t41 rfl))) ⟨(.cons rfl (j1 rfl)), .cons rfl (.one rfl)⟩ (by kernel_rfl) rfl <|
       .cons (S3 rfl rfl rfl Grd.plain _ (by first | exact Iff.rfl | (simp; done) | (simp; intros; exact Iff.rfl)) (.cond (fun h => h) .nil) (fun hG => (ox_len_arr s41 .tmp))) ⟨(.cons rfl (j1 rfl)), .one rfl⟩ (by kernel_rfl) rfl <|
       .cons (S3 rfl rfl rfl Grd.plain _ (by first | exact Iff.rfl | (simp; done) | (simp; intros; exact Iff.rfl)) (.cond (fun h => h) (.cond (fun h => h) .nil)) (fun hG => (ox_lss .tmp .tmp))) ⟨(.cons rfl (j2 rfl rfl)), .nil⟩ (by kernel_rfl) rfl <|
       .cons (S5 ox8) ⟨(j2 rfl rfl), .nil⟩ (by kernel_rfl) rfl <|
       .nil) _ [[], [0], [0, 1], [0, 1, 2], [0, 1, 2, 3], [0, 1, 2], [0, 1, 2, 5], [0, 1, 2, 5, 6], [0, 1, 2, 5, 6, 7], [0, 1, 2, 5, 6, 7, 8], [0, 1, 2, 3, 4, 5, 6, 7, 8, 9], [0, 1, 2, 3, 4, 5, 6, 7, 8, 9, 10]] rfl (by kernel_rfl) (by kernel_rfl) ?_
     refine Q0 (σ' := ⟨[(0, _), (7, _), (9, _), (59, .val ((decide (v6.2 = (0 : Int))) && (decide (v6.1.Client < (a0.Clients.length : Int)))))], [(9, _), (600, _), (700, _), (1500, _)]⟩) (j4 rfl rfl rfl rfl) (j4 rfl rfl rfl rfl) ?_
     refine Q3 _ rfl (fun hc7 => ?_) (fun hc7 => ?_)
     ·replace hφ := if_then hφ hc7
      refine Q0 (σ' := ⟨[(0, _), (7, _), (9, _)], [(9, _), (600, _), (700, _), (1500, _)]⟩) (j3 rfl rfl rfl) (j4 rfl rfl rfl rfl) ?_
      obtain ⟨hb8, hφ⟩ := G_some hφ
      obtain ⟨v9, hv9, hφ⟩ := B_some hφ
      obtain ⟨hb10, hφ⟩ := G_some hφ
      refine Q8 hMixed (
        .cons (S5 (ox0 .tmp)) ⟨.one rfl, .nil⟩ (by kernel_rfl) rfl <|
        .cons (S5 oxb) ⟨.one rfl, .nil⟩ (by kernel_rfl) rfl <|
        .cons (S5 (ox3 Machine_Clients f43_5)) ⟨.one rfl, .nil⟩ (by kernel_rfl) rfl <|
        .cons (S5 (ox_load_hole t41 rfl)) ⟨.one rfl, .cons rfl (.one rfl)⟩ (by kernel_rfl) rfl <|
        .cons (S5 (ox3 Answer_Client f105_0)) ⟨.one rfl, .nil⟩ (by kernel_rfl) rfl <|
        .cons (S5 (ox2 t3)) ⟨.one rfl, .one rfl⟩ (by kernel_rfl) rfl <|
        .cons (S5 (ox0 .tmp)) ⟨.one rfl, .nil⟩ (by kernel_rfl) rfl <|
        .cons (S5 oxb) ⟨.one rfl, .nil⟩ (by kernel_rfl) rfl <|
        .cons (S5 (ox3 Machine_Clients f43_5)) ⟨.one rfl, .nil⟩ (by kernel_rfl) rfl <|
        .cons (S5 (ox_load_hole t41 rfl)) ⟨.one rfl, .cons rfl (.one rfl)⟩ (by kernel_rfl) rfl <|
        .cons (S5 (ox3 Answer_Client f105_0)) ⟨.one rfl, .nil⟩ (by kernel_rfl) rfl <|
        .cons (S5 (ox2 t3)) ⟨.one rfl, .one rfl⟩ (by kernel_rfl) rfl <|
        .cons (S5 (ox_index_arr s41 .tmp .tmp hb8.1 hb8.2)) ⟨(.app (.one rfl) (.one rfl)), .one rfl⟩ (by kernel_rfl) rfl <|
        .cons (S5 (ox_load_ax t49 hb8)) ⟨.one rfl, .one rfl⟩ (by kernel_rfl) rfl <|
        .cons (S5 (ox0 .tmp)) ⟨.one rfl, .nil⟩ (by kernel_rfl) rfl <|
        .cons (S5 (ox_call (c_client_Come hv9) (.cons .tmp (.cons .tmp .nil)))) ⟨(.app (.one rfl) (.app (.one rfl) .nil)), .nil⟩ (by kernel_rfl) rfl <|
        .cons (S5 (ox_index_arr s41 .tmp .tmp hb10.1 hb10.2)) ⟨(.app (.one rfl) (.one rfl)), .one rfl⟩ (by kernel_rfl) rfl <|
        .cons (S4 rfl rfl (ox_store_ax t49 .tmp hb10)) ⟨(.cons rfl (.one rfl)), .one rfl⟩ (by kernel_rfl) rfl <|
        .nil) _ [[], [0], [0, 1], [0, 1, 2], [], [4], [], [6], [6, 7], [6, 7, 8], [], [10], [6, 7, 8, 9, 10, 11], [6, 7, 8, 9, 10, 11, 12], [], [6, 7, 8, 9, 10, 11, 12, 13, 14], [0, 1, 2, 3, 4, 5, 6, 7, 8, 9, 10, 11, 12, 13, 14, 15], [0, 1, 2, 3, 4, 5, 6, 7, 8, 9, 10, 11, 12, 13, 14, 15, 16]] rfl (by kernel_rfl) (by kernel_rfl) ?_
      refine Q0 (σ' := ⟨[], [(600, _), (700, .arr 49 (up a0.Clients v6.1.Client v9)), (1500, _)]⟩) trivial (j3 rfl rfl rfl) ?_
      exact PT.meet ({ ({ ({ a0 with Clients := ([] : List Mk.Client) }) with Store := v2.1 }) with Server := v2.2.1 }, (up a0.Clients v6.1.Client v9)) hφ trivial (j3 rfl rfl rfl)
     ·replace hφ := if_else hφ hc7
      refine Q0 (σ' := ⟨[], [(600, _), (700, _), (1500, _)]⟩) trivial (j3 rfl rfl rfl) ?_
      refine Q4 ?_
      exact PT.meet ({ ({ ({ a0 with Clients := ([] : List Mk.Client) }) with Store := v2.1 }) with Server := v2.2.1 }, a0.Clients) hφ trivial (j3 rfl rfl rfl)
    ·rintro ⟨y600_k5, y700_k5⟩ hφ
     subst hk5
     refine Q0 (σ' := ⟨[], [(600, .var (y600_k5) [(19, 700)]), (700, .arr 49 (y700_k5)), (1500, _)]⟩) trivial (j3 rfl rfl rfl) ?_
     refine Q2 (Q1 ?_)
     refine O5 (ox1 .int) .nil .nil rfl <| O1 <| Q0 (σ' := ⟨[(4, .val (0 : Int))], [(600, _), (700, _), (1500, _)]⟩) (j1 rfl) (j3 rfl rfl rfl) ?_
     refine Q5 ?_
     refine PT.holeNil 600 Machine_Clients rfl rfl ?_
     obtain rfl := Option.some.inj hφ
     exact Q7 rfl (.tmp rfl .nil) rfl (j2 rfl rfl) (j1 rfl)
theorem x_machine_falls {a0 : Mk.Machine} {a1 : Int} {r : (Mk.Machine × Int)} (hφ : machine_falls a0 a1 = some r) : FnX Go.Proofs.Tryz.prog 37 [.ptr 600 (Lens.id (α := Mk.Machine)), .val a1] [(600, .var ({ a0 with Clients := ([] : List Mk.Client) }) [(19, 700)]), (700, .arr 49 (a0.Clients))] (.val r.2) [(600, .var (r.1) [])] [600] := by
 unfold machine_falls at hφ
 refine FnX.mk' Go.Proofs.Tryz.func37 rfl (by decide) rfl (fun w0 m0 => ?_)
 refine Q2 (Q1 ?_)
 refine O5 (ox1 .int) .nil .nil rfl <| O1 <| Q0 (σ' := ⟨[(0, _)], [(600, .var ({ a0 with Clients := ([] : List Mk.Client) }) [(19, 700)]), (700, .arr 49 (a0.Clients)), (1500, .pin 600 (m0.blk 600) (m0.sv 600))]⟩) (j1 rfl) (j3 rfl rfl rfl) ?_
 refine Q2 ?_
 refine PT.freezeHole 600 700 [] Machine_Clients rfl rfl rfl rfl trivial ?_
 obtain ⟨v1, hv1, hφ⟩ := B_some hφ
 refine Q1 ?_
 refine O5 (ox0 .tmp) (.one rfl) .nil rfl <| O5 oxb (.one rfl) .nil rfl <| O5 (ox4 t43) (.one rfl) (.one rfl) rfl <| O5 (ox_call (c_guard_Fall hv1) (.cons .tmp .nil)) (.app (.one rfl) .nil) .nil rfl <| O5 (ox0 .tmp) (.one rfl) .nil rfl <| O5 (ox7 rfl) (.one rfl) .nil rfl ?_
 refine O5 (ox7 rfl) (.one rfl) .nil rfl <| O3 rfl rfl (ox_alloc (id := 5) z43) .nil .nil rfl (by kernel_rfl) <| O2 rfl rfl (ox5 t43 .tmp) (.cons rfl (.one rfl)) (.one rfl) <| O5 (ox1 .tmp) (.one rfl) .nil rfl <| O1 <| Q0 (σ' := ⟨[(0, _), (5, _), (6, .val (v1.2))], [(5, .var (v1.1) []), (600, .var ({ ({ a0 with Clients := ([] : List Mk.Client) }) with Clients := a0.Clients }) []), (1500, _)]⟩) (j3 rfl rfl rfl) (j3 rfl rfl rfl) ?_
 refine Q2 (Q1 ?_)
 refine O5 (ox0 .tmp) (.one rfl) .nil rfl <| O5 (ox4 t43) (.one rfl) (.one rfl) rfl <| O5 oxb (.one rfl) .nil rfl <| O2 rfl rfl (ox5 t43 .tmp) (.cons rfl (.one rfl)) (.one rfl) <| O1 <| Q0 (σ' := ⟨[(6, _)], [(600, .var (v1.1) []), (1500, _)]⟩) (j1 rfl) (j2 rfl rfl) ?_
 refine Q2 (Q1 ?_)
 refine O5 (ox0 .tmp) (.one rfl) .nil rfl <| O5 (ox1 .tmp) (.one rfl) .nil rfl <| O1 <| Q0 (σ' := ⟨[(4, .val (v1.2))], [(600, _), (1500, _)]⟩) (j1 rfl) (j2 rfl rfl) ?_
 refine Q5 ?_
 obtain rfl := Option.some.inj hφ
 exact Q7 rfl (.tmp rfl .nil) rfl (j1 rfl) (j1 rfl)
theorem x_machine_ticks {a0 : Mk.Machine} {a1 : Int} {r : (Mk.Machine × Int)} (hφ : machine_ticks a0 a1 = some r) : FnX Go.Proofs.Tryz.prog 38 [.ptr 600 (Lens.id (α := Mk.Machine)), .val a1] [(600, .var ({ a0 with Clients := ([] : List Mk.Client) }) [(19, 700)]), (700, .arr 49 (a0.Clients))] (.val r.2) [(600, .var (r.1) [])] [600] := by
 unfold machine_ticks at hφ
 refine FnX.mk' Go.Proofs.Tryz.func38 rfl (by decide) rfl (fun w0 m0 => ?_)
 refine Q2 (Q1 ?_)
 refine O5 (ox1 .int) .nil .nil rfl <| O1 <| Q0 (σ' := ⟨[(0, _)], [(600, .var ({ a0 with Clients := ([] : List Mk.Client) }) [(19, 700)]), (700, .arr 49 (a0.Clients)), (1500, .pin 600 (m0.blk 600) (m0.sv 600))]⟩) (j1 rfl) (j3 rfl rfl rfl) ?_
 refine Q2 ?_
 refine PT.freezeHole 600 700 [] Machine_Clients rfl rfl rfl rfl trivial ?_
 obtain ⟨v1, hv1, hφ⟩ := B_some hφ
 refine Q1 ?_
 refine O5 (ox0 .tmp) (.one rfl) .nil rfl <| O5 (ox0 .tmp) (.one rfl) .nil rfl <| O5 oxb (.one rfl) .nil rfl <| O5 (ox4 t43) (.one rfl) (.one rfl) rfl <| O5 (ox_call (c_guard_Tick hv1) (.cons .tmp .nil)) (.app (.one rfl) .nil) .nil rfl <| O5 oxb (.one rfl) .nil rfl ?_
 refine O2 rfl rfl (ox5 t43 .tmp) (.cons rfl (.one rfl)) (.one rfl) <| O1 <| Q0 (σ' := ⟨[], [(600, .var (v1) []), (1500, _)]⟩) trivial (j2 rfl rfl) ?_
 refine Q2 (Q1 ?_)
 refine O5 (ox1 .int) .nil .nil rfl <| O1 <| Q0 (σ' := ⟨[(4, .val (0 : Int))], [(600, _), (1500, _)]⟩) (j1 rfl) (j2 rfl rfl) ?_
 refine Q5 ?_
 obtain rfl := Option.some.inj hφ
 exact Q7 rfl (.tmp rfl .nil) rfl (j1 rfl) (j1 rfl)
theorem c_machine_Do {a0 : Mk.Machine} {a1 : Mk.Step} {r : (Mk.Machine × Int)} (hφ : machine_Do a0 a1 = some r) : Fn Go.Proofs.Tryz.prog 21 [.val a0, .val a1] (.tup [.val r.1, .val r.2]) := by
 unfold machine_Do at hφ
 refine Fn.mk' Go.Proofs.Tryz.func21 rfl (by decide) rfl rfl rfl (fun w0 hw0 => ?_)
 refine Q2 (Q1 ?_)
 refine O3 rfl rfl (ox_box (id := 2) .tmp) (.one rfl) .nil rfl (by kernel_rfl) <| O3 rfl rfl (ox_box (id := 3) .tmp) (.one rfl) .nil rfl (by kernel_rfl) <| O3 rfl rfl (ox_alloc (id := 4) z43) .nil .nil rfl (by kernel_rfl) <| O5 (ox1 .int) .nil .nil rfl <| O1 <| Q0 (σ' := ⟨[(2, _), (3, _), (4, _)], [(2, .var (a0) []), (3, .var (a1) []), (4, .var (zMa) [])]⟩) (j3 rfl rfl rfl) (j3 rfl rfl rfl) ?_
 refine Q2 ?_
 obtain ⟨v1, hv1, hφ⟩ := B_some hφ
 refine Q1 ?_
 refine O5 (ox4 t43) (.one rfl) (.one rfl) rfl <| O3 rfl rfl (ox_callX (x_guard_Own hv1) [] [(30049, 40115)] [(30049, 40115)] [] (.cons .tmp .nil) rfl rfl rfl rfl rfl rfl rfl rfl trivial rfl rfl rfl rfl) (.app (.one rfl) .nil) .nil rfl (by kernel_rfl) <| O3 rfl rfl (ox_alloc (id := 6) z43) .nil .nil rfl (by kernel_rfl) <| O2 rfl rfl (ox_store_varH t43 rfl .tmp) (.cons rfl (.one rfl)) (.one rfl) <| O1 <| Q0 (σ' := ⟨[(3, _), (4, _), (6, _)], [(3, _), (4, _), (6, .var ({ v1 with Clients := ([] : List Mk.Client) }) [(19, 40115)]), (40115, .arr 49 (v1.Clients))]⟩) (j3 rfl rfl rfl) (j4 rfl rfl rfl rfl) ?_
 refine Q2 ?_
 cases hk2 : decide (a1.Kind = (1 : Int))
 case true =>
  replace hφ := if_then hφ hk2
  have hk2e := of_decide_eq_true hk2
  refine Q1 ?_
  refine O3 rfl rfl (ox_makeMap (T := 97) (id := 13)) .nil .nil rfl (by kernel_rfl) <| O2 rfl rfl (ox_insert (by kernel_rfl) .int OpdOk.funcV) (.cons rfl (.app .nil .nil)) (.one rfl) <| O2 rfl rfl (ox_insert (by kernel_rfl) .int OpdOk.funcV) (.cons rfl (.app .nil .nil)) (.one rfl) <| O2 rfl rfl (ox_insert (by kernel_rfl) .int OpdOk.funcV) (.cons rfl (.app .nil .nil)) (.one rfl) <| O2 rfl rfl (ox_insert (by kernel_rfl) .int OpdOk.funcV) (.cons rfl (.app .nil .nil)) (.one rfl) <| O5 (ox0 .tmp) (.one rfl) .nil rfl ?_
  refine O5 (ox3 Step_Kind f77_0) (.one rfl) .nil rfl <| O5 (ox2 t3) (.one rfl) (.one rfl) rfl <| O5 (ox_lookup_fn (f := 35) (by kernel_rfl) .tmp (by exact Eq.trans (congrArg (mget _) hk2e) rfl)) (.cons rfl (.one rfl)) (.one rfl) rfl <| O5 (ox0 .tmp) (.one rfl) .nil rfl <| O5 (ox7 rfl) (.one rfl) .nil rfl <| O5 (ox7 rfl) (.one rfl) .nil rfl ?_
  refine O5 (ox1 .tmp) (.one rfl) .nil rfl <| O5 (ox1 .tmp) (.one rfl) .nil rfl <| O1 <| Q0 (σ' := ⟨[(3, _), (4, _), (6, _), (7, _), (8, .val (true))], [(3, _), (4, _), (6, _), (40115, _)]⟩) (j5 rfl rfl rfl rfl rfl) (j4 rfl rfl rfl rfl) ?_
  refine Q2 ?_
  refine Q2 (Q1 ?_)
  refine O5 (ox0 .tmp) (.one rfl) .nil rfl <| O5 (ox_not .tmp) (.one rfl) .nil rfl <| O1 <| Q0 (σ' := ⟨[(3, _), (4, _), (6, _), (7, _), (21, .val (!true))], [(3, _), (4, _), (6, _), (40115, _)]⟩) (j5 rfl rfl rfl rfl rfl) (j4 rfl rfl rfl rfl) ?_
  refine Q3 _ rfl (fun hc3 => ?_) (fun hc3 => ?_)
  ·exact absurd hc3 (by decide)
  ·skip
   refine Q0 (σ' := ⟨[(3, _), (4, _), (6, _), (7, _)], [(3, _), (4, _), (6, _), (40115, _)]⟩) (j4 rfl rfl rfl rfl) (j4 rfl rfl rfl rfl) ?_
   refine Q4 ?_
   refine Q2 ?_
   obtain ⟨v4, hv4, hφ⟩ := B_some hφ
   refine Q1 ?_
   refine O5 (ox0 .tmp) (.one rfl) .nil rfl <| O5 (ox3 Step_N f77_1) (.one rfl) .nil rfl <| O5 (ox2 t3) (.one rfl) (.one rfl) rfl <| O3 rfl rfl (ox_callvX (x_machine_goes hv4) [(600, 6), (700, 40115)] [(600, 6), (700, 40115)] [(700, 40115)] [] (.cons .tmp (.cons .tmp .nil)) rfl rfl rfl rfl rfl rfl rfl rfl (j2 rfl rfl) rfl rfl rfl rfl) (.cons rfl (.app (.one rfl) (.app (.one rfl) .nil))) (.cons rfl (.cons rfl .nil)) rfl (by kernel_rfl) <| O5 (ox1 .tmp) (.one rfl) .nil rfl <| O1 <| Q0 (σ' := ⟨[(4, _), (6, _), (9, .val (v4.2))], [(4, _), (6, .var ({ v4.1 with Clients := ([] : List Mk.Client) }) [(19, 40115)]), (40115, .arr 49 (v4.1.Clients))]⟩) (j3 rfl rfl rfl) (j3 rfl rfl rfl) ?_
   refine Q2 ?_
   refine PT.freezeHole 6 40115 [] Machine_Clients rfl rfl rfl rfl trivial ?_
   refine Q1 ?_
   refine O5 (ox4 t43) (.one rfl) (.one rfl) rfl <| O5 (ox0 .tmp) (.one rfl) .nil rfl <| O2 rfl rfl (ox5 t43 .tmp) (.cons rfl (.one rfl)) (.one rfl) <| O5 (ox1 .tmp) (.one rfl) .nil rfl <| O1 <| Q0 (σ' := ⟨[(4, _), (5, .val (v4.2))], [(4, .var ({ ({ v4.1 with Clients := ([] : List Mk.Client) }) with Clients := v4.1.Clients }) [])]⟩) (j2 rfl rfl) (j1 rfl) ?_
   refine Q5 ?_
   obtain rfl := Option.some.inj hφ
   exact Q6 hw0 rfl (.cell t43 rfl rfl (.tmp rfl rfl .nil)) rfl
 case false =>
  replace hφ := if_else hφ hk2
  have hk2e := of_decide_eq_false hk2
  cases hk5 : decide (a1.Kind = (2 : Int))
  case true =>
   replace hφ := if_then hφ hk5
   have hk5e := of_decide_eq_true hk5
   refine Q1 ?_
   refine O3 rfl rfl (ox_makeMap (T := 97) (id := 13)) .nil .nil rfl (by kernel_rfl) <| O2 rfl rfl (ox_insert (by kernel_rfl) .int OpdOk.funcV) (.cons rfl (.app .nil .nil)) (.one rfl) <| O2 rfl rfl (ox_insert (by kernel_rfl) .int OpdOk.funcV) (.cons rfl (.app .nil .nil)) (.one rfl) <| O2 rfl rfl (ox_insert (by kernel_rfl) .int OpdOk.funcV) (.cons rfl (.app .nil .nil)) (.one rfl) <| O2 rfl rfl (ox_insert (by kernel_rfl) .int OpdOk.funcV) (.cons rfl (.app .nil .nil)) (.one rfl) <| O5 (ox0 .tmp) (.one rfl) .nil rfl ?_
   refine O5 (ox3 Step_Kind f77_0) (.one rfl) .nil rfl <| O5 (ox2 t3) (.one rfl) (.one rfl) rfl <| O5 (ox_lookup_fn (f := 36) (by kernel_rfl) .tmp (by exact Eq.trans (congrArg (mget _) hk5e) rfl)) (.cons rfl (.one rfl)) (.one rfl) rfl <| O5 (ox0 .tmp) (.one rfl) .nil rfl <| O5 (ox7 rfl) (.one rfl) .nil rfl <| O5 (ox7 rfl) (.one rfl) .nil rfl ?_
   refine O5 (ox1 .tmp) (.one rfl) .nil rfl <| O5 (ox1 .tmp) (.one rfl) .nil rfl <| O1 <| Q0 (σ' := ⟨[(3, _), (4, _), (6, _), (7, _), (8, .val (true))], [(3, _), (4, _), (6, _), (40115, _)]⟩) (j5 rfl rfl rfl rfl rfl) (j4 rfl rfl rfl rfl) ?_
   refine Q2 ?_
   refine Q2 (Q1 ?_)
   refine O5 (ox0 .tmp) (.one rfl) .nil rfl <| O5 (ox_not .tmp) (.one rfl) .nil rfl <| O1 <| Q0 (σ' := ⟨[(3, _), (4, _), (6, _), (7, _), (21, .val (!true))], [(3, _), (4, _), (6, _), (40115, _)]⟩) (j5 rfl rfl rfl rfl rfl) (j4 rfl rfl rfl rfl) ?_
   refine Q3 _ rfl (fun hc6 => ?_) (fun hc6 => ?_)
   ·exact absurd hc6 (by decide)
   ·skip
    refine Q0 (σ' := ⟨[(3, _), (4, _), (6, _), (7, _)], [(3, _), (4, _), (6, _), (40115, _)]⟩) (j4 rfl rfl rfl rfl) (j4 rfl rfl rfl rfl) ?_
    refine Q4 ?_
    refine Q2 ?_
    obtain ⟨v7, hv7, hφ⟩ := B_some hφ
    refine Q1 ?_
    refine O5 (ox0 .tmp) (.one rfl) .nil rfl <| O5 (ox3 Step_N f77_1) (.one rfl) .nil rfl <| O5 (ox2 t3) (.one rfl) (.one rfl) rfl <| O3 rfl rfl (ox_callvX (x_machine_serves hv7) [(600, 6), (700, 40115)] [(600, 6), (700, 40115)] [(700, 40115)] [] (.cons .tmp (.cons .tmp .nil)) rfl rfl rfl rfl rfl rfl rfl rfl (j2 rfl rfl) rfl rfl rfl rfl) (.cons rfl (.app (.one rfl) (.app (.one rfl) .nil))) (.cons rfl (.cons rfl .nil)) rfl (by kernel_rfl) <| O5 (ox1 .tmp) (.one rfl) .nil rfl <| O1 <| Q0 (σ' := ⟨[(4, _), (6, _), (9, .val (v7.2))], [(4, _), (6, .var ({ v7.1 with Clients := ([] : List Mk.Client) }) [(19, 40115)]), (40115, .arr 49 (v7.1.Clients))]⟩) (j3 rfl rfl rfl) (j3 rfl rfl rfl) ?_
    refine Q2 ?_
    refine PT.freezeHole 6 40115 [] Machine_Clients rfl rfl rfl rfl trivial ?_
    refine Q1 ?_
    refine O5 (ox4 t43) (.one rfl) (.one rfl) rfl <| O5 (ox0 .tmp) (.one rfl) .nil rfl <| O2 rfl rfl (ox5 t43 .tmp) (.cons rfl (.one rfl)) (.one rfl) <| O5 (ox1 .tmp) (.one rfl) .nil rfl <| O1 <| Q0 (σ' := ⟨[(4, _), (5, .val (v7.2))], [(4, .var ({ ({ v7.1 with Clients := ([] : List Mk.Client) }) with Clients := v7.1.Clients }) [])]⟩) (j2 rfl rfl) (j1 rfl) ?_
    refine Q5 ?_
    obtain rfl := Option.some.inj hφ
    exact Q6 hw0 rfl (.cell t43 rfl rfl (.tmp rfl rfl .nil)) rfl
  case false =>
   replace hφ := if_else hφ hk5
   have hk5e := of_decide_eq_false hk5
   cases hk8 : decide (a1.Kind = (3 : Int))
   case true =>
    replace hφ := if_then hφ hk8
    have hk8e := of_decide_eq_true hk8
    refine Q1 ?_
    refine O3 rfl rfl (ox_makeMap (T := 97) (id := 13)) .nil .nil rfl (by kernel_rfl) <| O2 rfl rfl (ox_insert (by kernel_rfl) .int OpdOk.funcV) (.cons rfl (.app .nil .nil)) (.one rfl) <| O2 rfl rfl (ox_insert (by kernel_rfl) .int OpdOk.funcV) (.cons rfl (.app .nil .nil)) (.one rfl) <| O2 rfl rfl (ox_insert (by kernel_rfl) .int OpdOk.funcV) (.cons rfl (.app .nil .nil)) (.one rfl) <| O2 rfl rfl (ox_insert (by kernel_rfl) .int OpdOk.funcV) (.cons rfl (.app .nil .nil)) (.one rfl) <| O5 (ox0 .tmp) (.one rfl) .nil rfl ?_
    refine O5 (ox3 Step_Kind f77_0) (.one rfl) .nil rfl <| O5 (ox2 t3) (.one rfl) (.one rfl) rfl <| O5 (ox_lookup_fn (f := 37) (by kernel_rfl) .tmp (by exact Eq.trans (congrArg (mget _) hk8e) rfl)) (.cons rfl (.one rfl)) (.one rfl) rfl <| O5 (ox0 .tmp) (.one rfl) .nil rfl <| O5 (ox7 rfl) (.one rfl) .nil rfl <| O5 (ox7 rfl) (.one rfl) .nil rfl ?_
    refine O5 (ox1 .tmp) (.one rfl) .nil rfl <| O5 (ox1 .tmp) (.one rfl) .nil rfl <| O1 <| Q0 (σ' := ⟨[(3, _), (4, _), (6, _), (7, _), (8, .val (true))], [(3, _), (4, _), (6, _), (40115, _)]⟩) (j5 rfl rfl rfl rfl rfl) (j4 rfl rfl rfl rfl) ?_
    refine Q2 ?_
    refine Q2 (Q1 ?_)
    refine O5 (ox0 .tmp) (.one rfl) .nil rfl <| O5 (ox_not .tmp) (.one rfl) .nil rfl <| O1 <| Q0 (σ' := ⟨[(3, _), (4, _), (6, _), (7, _), (21, .val (!true))], [(3, _), (4, _), (6, _), (40115, _)]⟩) (j5 rfl rfl rfl rfl rfl) (j4 rfl rfl rfl rfl) ?_
    refine Q3 _ rfl (fun hc9 => ?_) (fun hc9 => ?_)
    ·exact absurd hc9 (by decide)
    ·skip
     refine Q0 (σ' := ⟨[(3, _), (4, _), (6, _), (7, _)], [(3, _), (4, _), (6, _), (40115, _)]⟩) (j4 rfl rfl rfl rfl) (j4 rfl rfl rfl rfl) ?_
     refine Q4 ?_
     refine Q2 ?_
     obtain ⟨v10, hv10, hφ⟩ := B_some hφ
     refine Q1 ?_
     refine O5 (ox0 .tmp) (.one rfl) .nil rfl <| O5 (ox3 Step_N f77_1) (.one rfl) .nil rfl <| O5 (ox2 t3) (.one rfl) (.one rfl) rfl <| O3 rfl rfl (ox_callvX (x_machine_falls hv10) [(600, 6), (700, 40115)] [(600, 6)] [] [40115] (.cons .tmp (.cons .tmp .nil)) rfl rfl rfl rfl rfl rfl rfl rfl (j2 rfl rfl) rfl rfl rfl rfl) (.cons rfl (.app (.one rfl) (.app (.one rfl) .nil))) (.cons rfl (.cons rfl .nil)) rfl (by kernel_rfl) <| O5 (ox1 .tmp) (.one rfl) .nil rfl <| O1 <| Q0 (σ' := ⟨[(4, _), (6, _), (9, .val (v10.2))], [(4, _), (6, .var (v10.1) [])]⟩) (j3 rfl rfl rfl) (j2 rfl rfl) ?_
     refine Q2 (Q1 ?_)
     refine O5 (ox4 t43) (.one rfl) (.one rfl) rfl <| O5 (ox0 .tmp) (.one rfl) .nil rfl <| O2 rfl rfl (ox5 t43 .tmp) (.cons rfl (.one rfl)) (.one rfl) <| O5 (ox1 .tmp) (.one rfl) .nil rfl <| O1 <| Q0 (σ' := ⟨[(4, _), (5, .val (v10.2))], [(4, .var (v10.1) [])]⟩) (j2 rfl rfl) (j1 rfl) ?_
     refine Q5 ?_
     obtain rfl := Option.some.inj hφ
     exact Q6 hw0 rfl (.cell t43 rfl rfl (.tmp rfl rfl .nil)) rfl
   case false =>
    replace hφ := if_else hφ hk8
    have hk8e := of_decide_eq_false hk8
    cases hk11 : decide (a1.Kind = (4 : Int))
    case true =>
     replace hφ := if_then hφ hk11
     have hk11e := of_decide_eq_true hk11
     refine Q1 ?_
     refine O3 rfl rfl (ox_makeMap (T := 97) (id := 13)) .nil .nil rfl (by kernel_rfl) <| O2 rfl rfl (ox_insert (by kernel_rfl) .int OpdOk.funcV) (.cons rfl (.app .nil .nil)) (.one rfl) <| O2 rfl rfl (ox_insert (by kernel_rfl) .int OpdOk.funcV) (.cons rfl (.app .nil .nil)) (.one rfl) <| O2 rfl rfl (ox_insert (by kernel_rfl) .int OpdOk.funcV) (.cons rfl (.app .nil .nil)) (.one rfl) <| O2 rfl rfl (ox_insert (by kernel_rfl) .int OpdOk.funcV) (.cons rfl (.app .nil .nil)) (.one rfl) <| O5 (ox0 .tmp) (.one rfl) .nil rfl ?_
     refine O5 (ox3 Step_Kind f77_0) (.one rfl) .nil rfl <| O5 (ox2 t3) (.one rfl) (.one rfl) rfl <| O5 (ox_lookup_fn (f := 38) (by kernel_rfl) .tmp (by exact Eq.trans (congrArg (mget _) hk11e) rfl)) (.cons rfl (.one rfl)) (.one rfl) rfl <| O5 (ox0 .tmp) (.one rfl) .nil rfl <| O5 (ox7 rfl) (.one rfl) .nil rfl <| O5 (ox7 rfl) (.one rfl) .nil rfl ?_
     refine O5 (ox1 .tmp) (.one rfl) .nil rfl <| O5 (ox1 .tmp) (.one rfl) .nil rfl <| O1 <| Q0 (σ' := ⟨[(3, _), (4, _), (6, _), (7, _), (8, .val (true))], [(3, _), (4, _), (6, _), (40115, _)]⟩) (j5 rfl rfl rfl rfl rfl) (j4 rfl rfl rfl rfl) ?_
     refine Q2 ?_
     refine Q2 (Q1 ?_)
     refine O5 (ox0 .tmp) (.one rfl) .nil rfl <| O5 (ox_not .tmp) (.one rfl) .nil rfl <| O1 <| Q0 (σ' := ⟨[(3, _), (4, _), (6, _), (7, _), (21, .val (!true))], [(3, _), (4, _), (6, _), (40115, _)]⟩) (j5 rfl rfl rfl rfl rfl) (j4 rfl rfl rfl rfl) ?_
     refine Q3 _ rfl (fun hc12 => ?_) (fun hc12 => ?_)
     ·exact absurd hc12 (by decide)
     ·skip
      refine Q0 (σ' := ⟨[(3, _), (4, _), (6, _), (7, _)], [(3, _), (4, _), (6, _), (40115, _)]⟩) (j4 rfl rfl rfl rfl) (j4 rfl rfl rfl rfl) ?_
      refine Q4 ?_
      refine Q2 ?_
      obtain ⟨v13, hv13, hφ⟩ := B_some hφ
      refine Q1 ?_
      refine O5 (ox0 .tmp) (.one rfl) .nil rfl <| O5 (ox3 Step_N f77_1) (.one rfl) .nil rfl <| O5 (ox2 t3) (.one rfl) (.one rfl) rfl <| O3 rfl rfl (ox_callvX (x_machine_ticks hv13) [(600, 6), (700, 40115)] [(600, 6)] [] [40115] (.cons .tmp (.cons .tmp .nil)) rfl rfl rfl rfl rfl rfl rfl rfl (j2 rfl rfl) rfl rfl rfl rfl) (.cons rfl (.app (.one rfl) (.app (.one rfl) .nil))) (.cons rfl (.cons rfl .nil)) rfl (by kernel_rfl) <| O5 (ox1 .tmp) (.one rfl) .nil rfl <| O1 <| Q0 (σ' := ⟨[(4, _), (6, _), (9, .val (v13.2))], [(4, _), (6, .var (v13.1) [])]⟩) (j3 rfl rfl rfl) (j2 rfl rfl) ?_
      refine Q2 (Q1 ?_)
      refine O5 (ox4 t43) (.one rfl) (.one rfl) rfl <| O5 (ox0 .tmp) (.one rfl) .nil rfl <| O2 rfl rfl (ox5 t43 .tmp) (.cons rfl (.one rfl)) (.one rfl) <| O5 (ox1 .tmp) (.one rfl) .nil rfl <| O1 <| Q0 (σ' := ⟨[(4, _), (5, .val (v13.2))], [(4, .var (v13.1) [])]⟩) (j2 rfl rfl) (j1 rfl) ?_
      refine Q5 ?_
      obtain rfl := Option.some.inj hφ
      exact Q6 hw0 rfl (.cell t43 rfl rfl (.tmp rfl rfl .nil)) rfl
    case false =>
     replace hφ := if_else hφ hk11
     have hk11e := of_decide_eq_false hk11
     refine Q1 ?_
     refine O3 rfl rfl (ox_makeMap (T := 97) (id := 13)) .nil .nil rfl (by kernel_rfl) <| O2 rfl rfl (ox_insert (by kernel_rfl) .int OpdOk.funcV) (.cons rfl (.app .nil .nil)) (.one rfl) <| O2 rfl rfl (ox_insert (by kernel_rfl) .int OpdOk.funcV) (.cons rfl (.app .nil .nil)) (.one rfl) <| O2 rfl rfl (ox_insert (by kernel_rfl) .int OpdOk.funcV) (.cons rfl (.app .nil .nil)) (.one rfl) <| O2 rfl rfl (ox_insert (by kernel_rfl) .int OpdOk.funcV) (.cons rfl (.app .nil .nil)) (.one rfl) <| O5 (ox0 .tmp) (.one rfl) .nil rfl ?_
     refine O5 (ox3 Step_Kind f77_0) (.one rfl) .nil rfl <| O5 (ox2 t3) (.one rfl) (.one rfl) rfl <| O5 (ox_lookup_noFn (by kernel_rfl) .tmp (by simp [mget, mset, hk2e, hk5e, hk8e, hk11e])) (.cons rfl (.one rfl)) (.one rfl) rfl <| O5 (ox0 .tmp) (.one rfl) .nil rfl <| O5 (ox7 rfl) (.one rfl) .nil rfl <| O5 (ox7 rfl) (.one rfl) .nil rfl ?_
     refine O5 (ox1 .tmp) (.one rfl) .nil rfl <| O5 (ox1 .tmp) (.one rfl) .nil rfl <| O1 <| Q0 (σ' := ⟨[(3, _), (4, _), (6, _), (8, .val (false))], [(3, _), (4, _), (6, _), (40115, _)]⟩) (j4 rfl rfl rfl rfl) (j4 rfl rfl rfl rfl) ?_
     refine Q2 ?_
     refine Q2 (Q1 ?_)
     refine O5 (ox0 .tmp) (.one rfl) .nil rfl <| O5 (ox_not .tmp) (.one rfl) .nil rfl <| O1 <| Q0 (σ' := ⟨[(3, _), (4, _), (6, _), (21, .val (!false))], [(3, _), (4, _), (6, _), (40115, _)]⟩) (j4 rfl rfl rfl rfl) (j4 rfl rfl rfl rfl) ?_
     refine Q3 _ rfl (fun hc14 => ?_) (fun hc14 => ?_)
     ·skip
      refine Q0 (σ' := ⟨[(4, _), (6, _)], [(4, _), (6, _), (40115, _)]⟩) (j2 rfl rfl) (j3 rfl rfl rfl) ?_
      refine Q2 ?_
      refine PT.freezeHole 6 40115 [] Machine_Clients rfl rfl rfl rfl trivial ?_
      refine Q1 ?_
      refine O5 (ox4 t43) (.one rfl) (.one rfl) rfl <| O2 rfl rfl (ox5 t43 .tmp) (.cons rfl (.one rfl)) (.one rfl) <| O5 (ox1 .int) .nil .nil rfl <| O1 <| Q0 (σ' := ⟨[(4, _), (5, .val (1 : Int))], [(4, .var ({ ({ v1 with Clients := ([] : List Mk.Client) }) with Clients := v1.Clients }) [])]⟩) (j2 rfl rfl) (j1 rfl) ?_
      refine Q5 ?_
      obtain rfl := Option.some.inj hφ
      exact Q6 hw0 rfl (.cell t43 rfl rfl (.tmp rfl rfl .nil)) rfl
     ·exact absurd hc14 (by decide)
end Go.Gx
end
section
namespace Go.Gx
open Sp
theorem c_model_Of {a0 : List Int} {r : (List Mk.Write)} (hφ : model_Of a0 = some r) : Fn Go.Proofs.Tryz.prog 15 [.val a0] (.val r) := by
 unfold model_Of at hφ
 refine Fn.mk' Go.Proofs.Tryz.func15 rfl (by decide) rfl rfl rfl (fun w0 hw0 => ?_)
 refine Q2 (Q1 ?_)
 refine O5 (ox1 .nilS) .nil .nil rfl <| O1 <| Q0 (σ' := ⟨[(0, .val (a0))], []⟩) (j1 rfl) trivial ?_
 refine Q2 (Q1 ?_)
 refine O5 (ox1 .nilS) .nil .nil rfl <| O1 <| Q0 (σ' := ⟨[(0, _), (3, .nilS)], []⟩) (j2 rfl rfl) trivial ?_
 obtain ⟨k1, hk1, hφ⟩ := J_some hφ
 refine PT.cut (ι := (List Mk.Write)) (fun p => ⟨[(3, .sl 1003)], [(1003, .arr 52 (p))]⟩) (fun p => k1 (p) = some r) ?_ ?_
 ·skip
  refine Q2 ?_
  obtain ⟨hb2, hφ⟩ := G_some hφ
  refine Q1 ?_
  refine O5 (ox0 .tmp) (.one rfl) .nil rfl <| O5 (ox_ix s25 .tmp .int hb2.1 hb2.2) (.app (.one rfl) .nil) .nil rfl <| O5 (ox_load_elem t3) (.one rfl) .nil rfl <| O5 (ox0 .int) .nil .nil rfl <| O1 <| Q0 (σ' := ⟨[(0, _), (3, _), (7, .val (ix a0 (0 : Int))), (8, .val (0 : Int))], []⟩) (j4 rfl rfl rfl rfl) trivial ?_
  refine PT.block ?_
  refine PT.nilArr 1003 3 52 (Mk.Write) rfl (by kernel_rfl) ?_
  refine PT.loop (ι := Nat × (List Int) × Int × Int × (List Mk.Write)) (fun p => ⟨[(0, .val (p.2.1)), (3, .sl 1003), (7, .val (p.2.2.1)), (8, .val (p.2.2.2.1))], [(1003, .arr 52 (p.2.2.2.2))]⟩) (fun p => model_Of_l1 k1 p.1 (p.2.1) (p.2.2.1) (p.2.2.2.1) (p.2.2.2.2) = some r) (fun p => p.1) (((ix a0 (0 : Int)) - (0 : Int)).toNat + 1, a0, (ix a0 (0 : Int)), (0 : Int), ([] : List Mk.Write)) hφ (j4 rfl rfl rfl rfl) (j1 rfl) ?_
  rintro ⟨m3, x0_m3, x7_m3, x8_m3, y1003_m3⟩ (hφ : model_Of_l1 k1 m3 x0_m3 x7_m3 x8_m3 y1003_m3 = some r)
  obtain _ | m3 := m3
  ·exact (none_no hφ).elim
  rw [model_Of_l1.eq_2] at hφ
  refine Q0 (σ' := ⟨[(0, .val (x0_m3)), (3, .sl 1003), (7, .val (x7_m3)), (8, .val (x8_m3))], [(1003, .arr 52 (y1003_m3))]⟩) (j4 rfl rfl rfl rfl) (j1 rfl) ?_
  refine Q2 (Q1 ?_)
  refine O5 (ox_lss .tmp .tmp) (.app (.one rfl) (.one rfl)) .nil rfl <| O1 <| Q0 (σ' := ⟨[(0, _), (3, _), (7, _), (8, _), (9, .val (decide (x8_m3 < x7_m3)))], [(1003, _)]⟩) (j5 rfl rfl rfl rfl rfl) (j1 rfl) ?_
  refine Q2 ?_
  refine Q3 _ rfl (fun hc4 => ?_) (fun hc4 => ?_)
  ·replace hφ := if_then hφ hc4
   refine Q0 (σ' := ⟨[(0, _), (3, _), (7, _), (8, _)], [(1003, _)]⟩) (j4 rfl rfl rfl rfl) (j1 rfl) ?_
   refine Q4 ?_
   refine Q2 ?_
   refine PT.block ?_
   refine Q2 (Q1 ?_)
   refine O5 (ox0 .tmp) (.one rfl) .nil rfl <| O5 (ox1 .tmp) (.one rfl) .nil rfl <| O1 <| Q0 (σ' := ⟨[(0, _), (3, _), (4, .val (x8_m3)), (7, _), (8, _)], [(1003, _)]⟩) (j5 rfl rfl rfl rfl rfl) (j1 rfl) ?_
   obtain ⟨hb5, hφ⟩ := G_some hφ
   obtain ⟨hb6, hφ⟩ := G_some hφ
   obtain ⟨hb7, hφ⟩ := G_some hφ
   obtain ⟨hb8, hφ⟩ := G_some hφ
   obtain ⟨hb9, hφ⟩ := G_some hφ
   obtain ⟨hb10, hφ⟩ := G_some hφ
   obtain ⟨hb11, hφ⟩ := G_some hφ
   refine Q8 hMixed (
     .cons (S5 (ox0 .tmp)) ⟨.one rfl, .nil⟩ (by kernel_rfl) rfl <|
     .cons (S5 (ox0 .tmp)) ⟨.one rfl, .nil⟩ (by kernel_rfl) rfl <|
     .cons (S5 (ox0 .tmp)) ⟨.one rfl, .nil⟩ (by kernel_rfl) rfl <|
     .cons (S5 (ox_mul .int .tmp hb5)) ⟨(.app .nil (.one rfl)), .nil⟩ (by kernel_rfl) rfl <|
     .cons (S5 (ox_add .int .tmp hb6)) ⟨(.app .nil (.one rfl)), .nil⟩ (by kernel_rfl) rfl <|
     .cons (S5 (ox_ix s25 .tmp .tmp hb7.1 hb7.2)) ⟨(.app (.one rfl) (.one rfl)), .nil⟩ (by kernel_rfl) rfl <|
     .cons (S5 (ox_load_elem t3)) ⟨.one rfl, .nil⟩ (by kernel_rfl) rfl <|
     .cons (S5 (ox0 .tmp)) ⟨.one rfl, .nil⟩ (by kernel_rfl) rfl <|
     .cons (S5 (ox0 .tmp)) ⟨.one rfl, .nil⟩ (by kernel_rfl) rfl <|
     .cons (S5 (ox_mul .int .tmp hb8)) ⟨(.app .nil (.one rfl)), .nil⟩ (by kernel_rfl) rfl <|
     .cons (S5 (ox_add .int .tmp hb9)) ⟨(.app .nil (.one rfl)), .nil⟩ (by kernel_rfl) rfl <|
     .cons (S5 (ox_ix s25 .tmp .tmp hb10.1 hb10.2)) ⟨(.app (.one rfl) (.one rfl)), .nil⟩ (by kernel_rfl) rfl <|
     .cons (S5 (ox_load_elem t3)) ⟨.one rfl, .nil⟩ (by kernel_rfl) rfl <|
     .cons (S5 (oxa z52 u52 rfl (.cons Write_At f52_0 .tmp (.cons Write_N f52_1 .tmp Bld.nil)))) ⟨(.app (.one rfl) (.app (.one rfl) .nil)), .nil⟩ (by kernel_rfl) rfl <|
     .cons (S5 (ox_buildSlice_val s26 z52 (.cons .tmp Parts.nil) rfl (by decide))) ⟨(.app (.one rfl) .nil), .nil⟩ (by kernel_rfl) rfl <|
     .cons (Step.putK [3, 11] rfl rfl (ox_append a26 .tmp .tmp hb11.1 hb11.2)) ⟨(.app (.one rfl) (.one rfl)), .one rfl⟩ (by kernel_rfl) rfl <|
     .cons (S5 (ox1 .tmp)) ⟨.one rfl, .nil⟩ (by kernel_rfl) rfl <|
     .nil) _ [[], [], [], [2], [2, 3], [1, 2, 3, 4], [1, 2, 3, 4, 5], [], [], [8], [8, 9], [7, 8, 9, 10], [7, 8, 9, 10, 11], [1, 2, 3, 4, 5, 6, 7, 8, 9, 10, 11, 12], [1, 2, 3, 4, 5, 6, 7, 8, 9, 10, 11, 12, 13], [0, 1, 2, 3, 4, 5, 6, 7, 8, 9, 10, 11, 12, 13, 14], [0, 1, 2, 3, 4, 5, 6, 7, 8, 9, 10, 11, 12, 13, 14, 15]] rfl (by kernel_rfl) (by kernel_rfl) ?_
   refine Q0 (σ' := ⟨[(0, _), (3, _), (7, _), (8, _)], [(1003, .arr 52 ((y1003_m3 ++ ([({ At := (ix x0_m3 ((1 : Int) + ((2 : Int) * x8_m3))), N := (ix x0_m3 ((2 : Int) + ((2 : Int) * x8_m3))) } : Mk.Write)] : List Mk.Write))))]⟩) (j4 rfl rfl rfl rfl) (j1 rfl) ?_
   obtain ⟨hb12, hφ⟩ := G_some hφ
   refine Q1 ?_
   refine O5 (ox_add .tmp .int hb12) (.app (.one rfl) .nil) .nil rfl <| O5 (ox0 .tmp) (.one rfl) .nil rfl <| O1 <| Q0 (σ' := ⟨[(0, _), (3, _), (7, _), (8, .val (x8_m3 + (1 : Int)))], [(1003, _)]⟩) (j4 rfl rfl rfl rfl) (j1 rfl) ?_
   exact PT.next (m3, x0_m3, x7_m3, (x8_m3 + (1 : Int)), (y1003_m3 ++ ([({ At := (ix x0_m3 ((1 : Int) + ((2 : Int) * x8_m3))), N := (ix x0_m3 ((2 : Int) + ((2 : Int) * x8_m3))) } : Mk.Write)] : List Mk.Write))) hφ (Nat.lt_succ_self _) (j4 rfl rfl rfl rfl) (j1 rfl)
  ·replace hφ := if_else hφ hc4
   refine Q0 (σ' := ⟨[(3, _)], [(1003, _)]⟩) (j1 rfl) (j1 rfl) ?_
   refine PT.exit ?_
   exact PT.meet (y1003_m3) hφ (j1 rfl) (j1 rfl)
 ·rintro y1003_k1 hφ
  subst hk1
  refine Q0 (σ' := ⟨[(3, .sl 1003)], [(1003, .arr 52 (y1003_k1))]⟩) (j1 rfl) (j1 rfl) ?_
  refine Q2 (Q1 ?_)
  refine O5 (ox0 .tmp) (.one rfl) .nil rfl <| O5 (ox1 .tmp) (.one rfl) .nil rfl <| O1 <| Q0 (σ' := ⟨[(2, _)], [(1003, _)]⟩) (j1 rfl) (j1 rfl) ?_
  refine Q5 ?_
  refine PT.freeze 1003 [2] rfl (j1 rfl) ?_
  obtain rfl := Option.some.inj hφ
  exact Q6 hw0 rfl (.tmp rfl rfl .nil) rfl
end Go.Gx
end
section
namespace Go.Gx
open Sp
theorem c_look_Idle {a0 : Mk.Machine} {r : Bool} (hφ : look_Idle a0 = some r) : Fn Go.Proofs.Tryz.prog 14 [.val a0] (.val r) := by
 unfold look_Idle at hφ
 refine Fn.mk' Go.Proofs.Tryz.func14 rfl (by decide) rfl rfl rfl (fun w0 hw0 => ?_)
 refine Q2 (Q1 ?_)
 refine O3 rfl rfl (ox_box (id := 1) .tmp) (.one rfl) .nil rfl (by kernel_rfl) <| O5 (ox1 .bool) .nil .nil rfl <| O1 <| Q0 (σ' := ⟨[(1, _)], [(1, .var (a0) [])]⟩) (j1 rfl) (j1 rfl) ?_
 obtain ⟨k1, hk1, hφ⟩ := J_some hφ
 refine PT.cut (ι := Unit) (fun p => ⟨[], []⟩) (fun p => k1 () = some r) ?_ ?_
 ·skip
  refine Q2 (Q1 ?_)
  refine O5 (ox3 Machine_Clients f43_5) (.one rfl) .nil rfl <| O5 (ox2 t41) (.one rfl) (.one rfl) rfl <| O5 (ox_len s41 .tmp) (.one rfl) .nil rfl <| O5 (ox0 .int) .nil .nil rfl <| O1 <| Q0 (σ' := ⟨[(6, .val (a0.Clients)), (7, .val (a0.Clients.length : Int)), (8, .val (0 : Int))], []⟩) (j3 rfl rfl rfl) trivial ?_
  refine PT.block ?_
  refine PT.loop (ι := Nat × (List Mk.Client) × Int × Int) (fun p => ⟨[(6, .val (p.2.1)), (7, .val (p.2.2.1)), (8, .val (p.2.2.2))], []⟩) (fun p => look_Idle_l1 k1 p.1 (p.2.1) (p.2.2.1) (p.2.2.2) = some r) (fun p => p.1) (((a0.Clients.length : Int) - (0 : Int)).toNat + 1, a0.Clients, (a0.Clients.length : Int), (0 : Int)) hφ (j3 rfl rfl rfl) trivial ?_
  rintro ⟨m2, x6_m2, x7_m2, x8_m2⟩ (hφ : look_Idle_l1 k1 m2 x6_m2 x7_m2 x8_m2 = some r)
  obtain _ | m2 := m2
  ·exact (none_no hφ).elim
  rw [look_Idle_l1.eq_2] at hφ
  refine Q0 (σ' := ⟨[(6, .val (x6_m2)), (7, .val (x7_m2)), (8, .val (x8_m2))], []⟩) (j3 rfl rfl rfl) trivial ?_
  refine Q2 (Q1 ?_)
  refine O5 (ox_lss .tmp .tmp) (.app (.one rfl) (.one rfl)) .nil rfl <| O1 <| Q0 (σ' := ⟨[(6, _), (7, _), (8, _), (9, .val (decide (x8_m2 < x7_m2)))], []⟩) (j4 rfl rfl rfl rfl) trivial ?_
  refine Q2 ?_
  refine Q3 _ rfl (fun hc3 => ?_) (fun hc3 => ?_)
  ·replace hφ := if_then hφ hc3
   refine Q0 (σ' := ⟨[(6, _), (7, _), (8, _)], []⟩) (j3 rfl rfl rfl) trivial ?_
   refine Q4 ?_
   refine Q2 ?_
   refine PT.block ?_
   refine Q2 ?_
   obtain ⟨hb4, hφ⟩ := G_some hφ
   refine Q1 ?_
   refine O5 (ox_ix s41 .tmp .tmp hb4.1 hb4.2) (.app (.one rfl) (.one rfl)) .nil rfl <| O5 (ox_load_elem t49) (.one rfl) .nil rfl <| O3 rfl rfl (ox_alloc (id := 4) z49) .nil .nil rfl (by kernel_rfl) <| O2 rfl rfl (ox5 t49 .tmp) (.cons rfl (.one rfl)) (.one rfl) <| O1 <| Q0 (σ' := ⟨[(4, _), (6, _), (7, _), (8, _)], [(4, .var (ix x6_m2 x8_m2) [])]⟩) (j4 rfl rfl rfl rfl) (j1 rfl) ?_
   refine Q2 (Q1 ?_)
   refine O5 (ox3 Client_At f49_1) (.one rfl) .nil rfl <| O5 (ox2 t3) (.one rfl) (.one rfl) rfl <| O5 (ox3 Client_Calls f49_0) (.one rfl) .nil rfl <| O5 (ox2 t46) (.one rfl) (.one rfl) rfl <| O5 (ox_len s46 .tmp) (.one rfl) .nil rfl <| O5 (ox_lss .tmp .tmp) (.app (.one rfl) (.one rfl)) .nil rfl <| O1 <| Q0 (σ' := ⟨[(6, _), (7, _), (8, _), (17, .val (decide ((ix x6_m2 x8_m2).At < ((ix x6_m2 x8_m2).Calls.length : Int))))], []⟩) (j4 rfl rfl rfl rfl) trivial ?_
   refine Q3 _ rfl (fun hc5 => ?_) (fun hc5 => ?_)
   ·replace hφ := if_then hφ hc5
    refine Q0 (σ' := ⟨[], []⟩) trivial trivial ?_
    refine Q2 (Q1 ?_)
    refine O5 (ox1 .bool) .nil .nil rfl <| O1 <| Q0 (σ' := ⟨[(2, .val (false))], []⟩) (j1 rfl) trivial ?_
    refine Q5 ?_
    obtain rfl := Option.some.inj hφ
    exact Q6 hw0 rfl (.tmp rfl rfl .nil) rfl
   ·replace hφ := if_else hφ hc5
    refine Q0 (σ' := ⟨[(6, _), (7, _), (8, _)], []⟩) (j3 rfl rfl rfl) trivial ?_
    refine Q4 ?_
    obtain ⟨hb6, hφ⟩ := G_some hφ
    refine Q1 ?_
    refine O5 (ox_add .tmp .int hb6) (.app (.one rfl) .nil) .nil rfl <| O5 (ox0 .tmp) (.one rfl) .nil rfl <| O1 <| Q0 (σ' := ⟨[(6, _), (7, _), (8, .val (x8_m2 + (1 : Int)))], []⟩) (j3 rfl rfl rfl) trivial ?_
    exact PT.next (m2, x6_m2, x7_m2, (x8_m2 + (1 : Int))) hφ (Nat.lt_succ_self _) (j3 rfl rfl rfl) trivial
  ·replace hφ := if_else hφ hc3
   refine Q0 (σ' := ⟨[], []⟩) trivial trivial ?_
   refine PT.exit ?_
   exact PT.meet () hφ trivial trivial
 ·rintro ⟨⟩ hφ
  subst hk1
  refine Q0 (σ' := ⟨[], []⟩) trivial trivial ?_
  refine Q2 (Q1 ?_)
  refine O5 (ox1 .bool) .nil .nil rfl <| O1 <| Q0 (σ' := ⟨[(2, .val (true))], []⟩) (j1 rfl) trivial ?_
  refine Q5 ?_
  obtain rfl := Option.some.inj hφ
  exact Q6 hw0 rfl (.tmp rfl rfl .nil) rfl
theorem c_look_Now {a0 : Mk.Machine} {r : (List Mk.Write)} (hφ : look_Now a0 = some r) : Fn Go.Proofs.Tryz.prog 9 [.val a0] (.val r) := by
 unfold look_Now at hφ
 refine Fn.mk' Go.Proofs.Tryz.func9 rfl (by decide) rfl rfl rfl (fun w0 hw0 => ?_)
 refine Q2 (Q1 ?_)
 refine O3 rfl rfl (ox_box (id := 1) .tmp) (.one rfl) .nil rfl (by kernel_rfl) <| O5 (ox1 .nilS) .nil .nil rfl <| O1 <| Q0 (σ' := ⟨[(1, _)], [(1, .var (a0) [])]⟩) (j1 rfl) (j1 rfl) ?_
 refine Q2 ?_
 obtain ⟨v1, hv1, hφ⟩ := B_some hφ
 obtain ⟨v2, hv2, hφ⟩ := B_some hφ
 refine Q1 ?_
 refine O5 (ox3 Machine_Store f43_0) (.one rfl) .nil rfl <| O5 (ox2 t30) (.one rfl) (.one rfl) rfl <| O5 (ox_call (c_store_Back hv1) (.cons .tmp .nil)) (.app (.one rfl) .nil) .nil rfl <| O5 (ox_field Store_Cells .tmp rfl f30_0) (.one rfl) .nil rfl <| O5 (ox_call (c_model_Of hv2) (.cons .tmp .nil)) (.app (.one rfl) .nil) .nil rfl <| O5 (ox1 .tmp) (.one rfl) .nil rfl <| O1 <| Q0 (σ' := ⟨[(2, .val (v2))], []⟩) (j1 rfl) trivial ?_
 refine Q5 ?_
 obtain rfl := Option.some.inj hφ
 exact Q6 hw0 rfl (.tmp rfl rfl .nil) rfl
end Go.Gx
end
section
namespace Go.Gx
open Sp
theorem c_fair_Play {a0 : List (List Mk.Call)} {a1 : List Mk.Step} {r : (Mk.Machine × (List Int) × Int)} (hφ : fair_Play a0 a1 = some r) : Fn Go.Proofs.Tryz.prog 12 [.val a0, .val a1] (.tup [.val r.1, .val r.2.1, .val r.2.2]) := by
 unfold fair_Play at hφ
 refine Fn.mk' Go.Proofs.Tryz.func12 rfl (by decide) rfl rfl rfl (fun w0 hw0 => ?_)
 refine Q2 (Q1 ?_)
 refine O3 rfl rfl (ox_alloc (id := 4) z43) .nil .nil rfl (by kernel_rfl) <| O5 (ox1 .nilS) .nil .nil rfl <| O5 (ox1 .int) .nil .nil rfl <| O1 <| Q0 (σ' := ⟨[(0, .val (a0)), (1, .val (a1)), (4, _)], [(4, .var (zMa) [])]⟩) (j3 rfl rfl rfl) (j1 rfl) ?_
 refine Q2 ?_
 obtain ⟨v1, hv1, hφ⟩ := B_some hφ
 refine Q1 ?_
 refine O5 (ox0 .tmp) (.one rfl) .nil rfl <| O5 (ox_call (c_machine_New hv1) (.cons .tmp .nil)) (.app (.one rfl) .nil) .nil rfl <| O5 (ox0 .tmp) (.one rfl) .nil rfl <| O5 (ox7 rfl) (.one rfl) .nil rfl <| O5 (ox7 rfl) (.one rfl) .nil rfl <| O3 rfl rfl (ox_alloc (id := 7) z43) .nil .nil rfl (by kernel_rfl) ?_
 refine O2 rfl rfl (ox5 t43 .tmp) (.cons rfl (.one rfl)) (.one rfl) <| O5 (ox1 .tmp) (.one rfl) .nil rfl <| O1 <| Q0 (σ' := ⟨[(1, _), (4, _), (7, _), (8, .val (v1.2))], [(4, _), (7, .var (v1.1) [])]⟩) (j4 rfl rfl rfl rfl) (j2 rfl rfl) ?_
 refine Q2 ?_
 refine Q2 (Q1 ?_)
 refine O5 (ox0 .tmp) (.one rfl) .nil rfl <| O5 (ox_neq .tmp .int) (.app (.one rfl) .nil) .nil rfl <| O1 <| Q0 (σ' := ⟨[(1, _), (4, _), (7, _), (8, _), (20, .val (!decide (v1.2 = (0 : Int))))], [(4, _), (7, _)]⟩) (j5 rfl rfl rfl rfl rfl) (j2 rfl rfl) ?_
 refine Q3 _ rfl (fun hc2 => ?_) (fun hc2 => ?_)
 ·replace hφ := if_then hφ hc2
  refine Q0 (σ' := ⟨[(4, _), (8, _)], [(4, _)]⟩) (j2 rfl rfl) (j1 rfl) ?_
  refine Q2 (Q1 ?_)
  refine O5 (oxa z43 u43 rfl Bld.nil) .nil .nil rfl <| O5 (ox0 .tmp) (.one rfl) .nil rfl <| O2 rfl rfl (ox5 t43 .tmp) (.cons rfl (.one rfl)) (.one rfl) <| O5 (ox1 .nilS) .nil .nil rfl <| O5 (ox1 .tmp) (.one rfl) .nil rfl <| O1 <| Q0 (σ' := ⟨[(4, _), (5, .nilS), (6, .val (v1.2))], [(4, _)]⟩) (j3 rfl rfl rfl) (j1 rfl) ?_
  refine Q5 ?_
  refine PT.asNil 5 (Int) rfl ?_
  obtain rfl := Option.some.inj hφ
  exact Q6 hw0 rfl (.cell t43 rfl rfl (.tmp rfl rfl (.tmp rfl rfl .nil))) rfl
 ·replace hφ := if_else hφ hc2
  refine Q0 (σ' := ⟨[(1, _), (4, _), (7, _)], [(4, _), (7, _)]⟩) (j3 rfl rfl rfl) (j2 rfl rfl) ?_
  refine Q4 ?_
  refine Q2 ?_
  refine Q2 (Q1 ?_)
  refine O5 (ox0 .tmp) (.one rfl) .nil rfl <| O5 (ox_len s22 .tmp) (.one rfl) .nil rfl <| O5 (ox_gtr .tmp .int) (.app (.one rfl) .nil) .nil rfl <| O1 <| Q0 (σ' := ⟨[(1, _), (4, _), (7, _), (25, .val (decide ((400 : Int) < (a1.length : Int))))], [(4, _), (7, _)]⟩) (j4 rfl rfl rfl rfl) (j2 rfl rfl) ?_
  refine Q3 _ rfl (fun hc3 => ?_) (fun hc3 => ?_)
  ·replace hφ := if_then hφ hc3
   refine Q0 (σ' := ⟨[(4, _)], [(4, _)]⟩) (j1 rfl) (j1 rfl) ?_
   refine Q2 (Q1 ?_)
   refine O5 (oxa z43 u43 rfl Bld.nil) .nil .nil rfl <| O2 rfl rfl (ox5 t43 .tmp) (.cons rfl (.one rfl)) (.one rfl) <| O5 (ox1 .nilS) .nil .nil rfl <| O5 (ox1 .int) .nil .nil rfl <| O1 <| Q0 (σ' := ⟨[(4, _), (5, .nilS), (6, .val (5 : Int))], [(4, _)]⟩) (j3 rfl rfl rfl) (j1 rfl) ?_
   refine Q5 ?_
   refine PT.asNil 5 (Int) rfl ?_
   obtain rfl := Option.some.inj hφ
   exact Q6 hw0 rfl (.cell t43 rfl rfl (.tmp rfl rfl (.tmp rfl rfl .nil))) rfl
  ·replace hφ := if_else hφ hc3
   refine Q0 (σ' := ⟨[(1, _), (4, _), (7, _)], [(4, _), (7, _)]⟩) (j3 rfl rfl rfl) (j2 rfl rfl) ?_
   refine Q4 ?_
   refine Q2 (Q1 ?_)
   refine O5 (ox1 .nilS) .nil .nil rfl <| O1 <| Q0 (σ' := ⟨[(1, _), (4, _), (7, _), (9, .nilS)], [(4, _), (7, _)]⟩) (j4 rfl rfl rfl rfl) (j2 rfl rfl) ?_
   obtain ⟨k4, hk4, hφ⟩ := J_some hφ
   refine PT.cut (ι := Mk.Machine × Mk.Machine × (List Int)) (fun p => ⟨[(4, .ptr 4 (Lens.id (α := Mk.Machine))), (7, .ptr 7 (Lens.id (α := Mk.Machine))), (9, .sl 1009)], [(4, .var (p.1) []), (7, .var (p.2.1) []), (1009, .arr 36 (p.2.2))]⟩) (fun p => k4 (p.1) (p.2.1) (p.2.2) = some r) ?_ ?_
   ·skip
    refine Q2 (Q1 ?_)
    refine O5 (ox0 .tmp) (.one rfl) .nil rfl <| O5 (ox_len s22 .tmp) (.one rfl) .nil rfl <| O5 (ox0 .int) .nil .nil rfl <| O1 <| Q0 (σ' := ⟨[(4, _), (7, _), (9, _), (27, .val (a1)), (28, .val (a1.length : Int)), (29, .val (0 : Int))], [(4, _), (7, _)]⟩) (j6 rfl rfl rfl rfl rfl rfl) (j2 rfl rfl) ?_
    refine PT.block ?_
    refine PT.nilArr 1009 9 36 (Int) rfl (by kernel_rfl) ?_
    refine PT.loop (ι := Nat × (List Mk.Step) × Int × Int × Mk.Machine × Mk.Machine × (List Int)) (fun p => ⟨[(4, .ptr 4 (Lens.id (α := Mk.Machine))), (7, .ptr 7 (Lens.id (α := Mk.Machine))), (9, .sl 1009), (27, .val (p.2.1)), (28, .val (p.2.2.1)), (29, .val (p.2.2.2.1))], [(4, .var (p.2.2.2.2.1) []), (7, .var (p.2.2.2.2.2.1) []), (1009, .arr 36 (p.2.2.2.2.2.2))]⟩) (fun p => fair_Play_l1 k4 p.1 (p.2.1) (p.2.2.1) (p.2.2.2.1) (p.2.2.2.2.1) (p.2.2.2.2.2.1) (p.2.2.2.2.2.2) = some r) (fun p => p.1) (((a1.length : Int) - (0 : Int)).toNat + 1, a1, (a1.length : Int), (0 : Int), zMa, v1.1, ([] : List Int)) hφ (j6 rfl rfl rfl rfl rfl rfl) (j3 rfl rfl rfl) ?_
    rintro ⟨m5, x27_m5, x28_m5, x29_m5, y4_m5, y7_m5, y1009_m5⟩ (hφ : fair_Play_l1 k4 m5 x27_m5 x28_m5 x29_m5 y4_m5 y7_m5 y1009_m5 = some r)
    obtain _ | m5 := m5
    ·exact (none_no hφ).elim
    rw [fair_Play_l1.eq_2] at hφ
    refine Q0 (σ' := ⟨[(4, .ptr 4 (Lens.id (α := Mk.Machine))), (7, .ptr 7 (Lens.id (α := Mk.Machine))), (9, .sl 1009), (27, .val (x27_m5)), (28, .val (x28_m5)), (29, .val (x29_m5))], [(4, .var (y4_m5) []), (7, .var (y7_m5) []), (1009, .arr 36 (y1009_m5))]⟩) (j6 rfl rfl rfl rfl rfl rfl) (j3 rfl rfl rfl) ?_
    refine Q2 (Q1 ?_)
    refine O5 (ox_lss .tmp .tmp) (.app (.one rfl) (.one rfl)) .nil rfl <| O1 <| Q0 (σ' := ⟨[(4, _), (7, _), (9, _), (27, _), (28, _), (29, _), (30, .val (decide (x29_m5 < x28_m5)))], [(4, _), (7, _), (1009, _)]⟩) (j7 rfl rfl rfl rfl rfl rfl rfl) (j3 rfl rfl rfl) ?_
    refine Q2 ?_
    refine Q3 _ rfl (fun hc6 => ?_) (fun hc6 => ?_)
    ·replace hφ := if_then hφ hc6
     refine Q0 (σ' := ⟨[(4, _), (7, _), (9, _), (27, _), (28, _), (29, _)], [(4, _), (7, _), (1009, _)]⟩) (j6 rfl rfl rfl rfl rfl rfl) (j3 rfl rfl rfl) ?_
     refine Q4 ?_
     refine Q2 ?_
     refine PT.block ?_
     refine Q2 ?_
     obtain ⟨hb7, hφ⟩ := G_some hφ
     refine Q1 ?_
     refine O5 (ox_ix s22 .tmp .tmp hb7.1 hb7.2) (.app (.one rfl) (.one rfl)) .nil rfl <| O5 (ox_load_elem t77) (.one rfl) .nil rfl <| O3 rfl rfl (ox_alloc (id := 11) z77) .nil .nil rfl (by kernel_rfl) <| O2 rfl rfl (ox5 t77 .tmp) (.cons rfl (.one rfl)) (.one rfl) <| O1 <| Q0 (σ' := ⟨[(4, _), (7, _), (9, _), (11, _), (27, _), (28, _), (29, _)], [(4, _), (7, _), (11, .var (ix x27_m5 x29_m5) []), (1009, _)]⟩) (j7 rfl rfl rfl rfl rfl rfl rfl) (j4 rfl rfl rfl rfl) ?_
     refine Q2 ?_
     obtain ⟨v8, hv8, hφ⟩ := B_some hφ
     refine Q1 ?_
     refine O5 (ox4 t43) (.one rfl) (.one rfl) rfl <| O5 (ox4 t77) (.one rfl) (.one rfl) rfl <| O5 (ox_call (c_machine_Do hv8) (.cons .tmp (.cons .tmp .nil))) (.app (.one rfl) (.app (.one rfl) .nil)) .nil rfl <| O5 (ox0 .tmp) (.one rfl) .nil rfl <| O5 (ox7 rfl) (.one rfl) .nil rfl <| O5 (ox7 rfl) (.one rfl) .nil rfl ?_
     refine O3 rfl rfl (ox_alloc (id := 12) z43) .nil .nil rfl (by kernel_rfl) <| O2 rfl rfl (ox5 t43 .tmp) (.cons rfl (.one rfl)) (.one rfl) <| O5 (ox1 .tmp) (.one rfl) .nil rfl <| O1 <| Q0 (σ' := ⟨[(4, _), (7, _), (9, _), (12, _), (13, .val (v8.2)), (27, _), (28, _), (29, _)], [(4, _), (7, _), (12, .var (v8.1) []), (1009, _)]⟩) (j8 rfl rfl rfl rfl rfl rfl rfl rfl) (j4 rfl rfl rfl rfl) ?_
     refine Q2 (Q1 ?_)
     refine O5 (ox4 t43) (.one rfl) (.one rfl) rfl <| O2 rfl rfl (ox5 t43 .tmp) (.cons rfl (.one rfl)) (.one rfl) <| O1 <| Q0 (σ' := ⟨[(4, _), (7, _), (9, _), (13, _), (27, _), (28, _), (29, _)], [(4, _), (7, .var (v8.1) []), (1009, _)]⟩) (j7 rfl rfl rfl rfl rfl rfl rfl) (j3 rfl rfl rfl) ?_
     obtain ⟨hb9, hφ⟩ := G_some hφ
     refine Q1 ?_
     refine O5 (ox0 .tmp) (.one rfl) .nil rfl <| O5 (ox0 .tmp) (.one rfl) .nil rfl <| O5 (ox_buildSlice_val s61 z36 (.cons .tmp Parts.nil) rfl (by decide)) (.app (.one rfl) .nil) .nil rfl ?_
     refine Ops.putK [9, 40] rfl rfl (ox_append a61 .tmp .tmp hb9.1 hb9.2) (.app (.one rfl) (.one rfl)) (.one rfl) rfl (by kernel_rfl) ?_
     refine O5 (ox1 .tmp) (.one rfl) .nil rfl <| O1 <| Q0 (σ' := ⟨[(4, _), (7, _), (9, _), (27, _), (28, _), (29, _)], [(4, _), (7, _), (1009, .arr 36 (y1009_m5 ++ ([v8.2] : List Int)))]⟩) (j6 rfl rfl rfl rfl rfl rfl) (j3 rfl rfl rfl) ?_
     obtain ⟨hb10, hφ⟩ := G_some hφ
     refine Q1 ?_
     refine O5 (ox_add .tmp .int hb10) (.app (.one rfl) .nil) .nil rfl <| O5 (ox0 .tmp) (.one rfl) .nil rfl <| O1 <| Q0 (σ' := ⟨[(4, _), (7, _), (9, _), (27, _), (28, _), (29, .val (x29_m5 + (1 : Int)))], [(4, _), (7, _), (1009, _)]⟩) (j6 rfl rfl rfl rfl rfl rfl) (j3 rfl rfl rfl) ?_
     exact PT.next (m5, x27_m5, x28_m5, (x29_m5 + (1 : Int)), y4_m5, v8.1, (y1009_m5 ++ ([v8.2] : List Int))) hφ (Nat.lt_succ_self _) (j6 rfl rfl rfl rfl rfl rfl) (j3 rfl rfl rfl)
    ·replace hφ := if_else hφ hc6
     refine Q0 (σ' := ⟨[(4, _), (7, _), (9, _)], [(4, _), (7, _), (1009, _)]⟩) (j3 rfl rfl rfl) (j3 rfl rfl rfl) ?_
     refine PT.exit ?_
     exact PT.meet (y4_m5, y7_m5, y1009_m5) hφ (j3 rfl rfl rfl) (j3 rfl rfl rfl)
   ·rintro ⟨y4_k4, y7_k4, y1009_k4⟩ hφ
    subst hk4
    refine Q0 (σ' := ⟨[(4, .ptr 4 (Lens.id (α := Mk.Machine))), (7, .ptr 7 (Lens.id (α := Mk.Machine))), (9, .sl 1009)], [(4, .var (y4_k4) []), (7, .var (y7_k4) []), (1009, .arr 36 (y1009_k4))]⟩) (j3 rfl rfl rfl) (j3 rfl rfl rfl) ?_
    refine Q2 (Q1 ?_)
    refine O5 (ox4 t43) (.one rfl) (.one rfl) rfl <| O5 (ox0 .tmp) (.one rfl) .nil rfl <| O2 rfl rfl (ox5 t43 .tmp) (.cons rfl (.one rfl)) (.one rfl) <| O5 (ox1 .tmp) (.one rfl) .nil rfl <| O5 (ox1 .int) .nil .nil rfl <| O1 <| Q0 (σ' := ⟨[(4, _), (5, _), (6, .val (0 : Int))], [(4, .var (y7_k4) []), (1009, _)]⟩) (j3 rfl rfl rfl) (j2 rfl rfl) ?_
    refine Q5 ?_
    refine PT.freeze 1009 [5] rfl (j1 rfl) ?_
    obtain rfl := Option.some.inj hφ
    exact Q6 hw0 rfl (.cell t43 rfl rfl (.tmp rfl rfl (.tmp rfl rfl .nil))) rfl
theorem c_fair_Round {a0 : Mk.Machine} {r : Mk.Machine} (hφ : fair_Round a0 = some r) : Fn Go.Proofs.Tryz.prog 23 [.val a0] (.val r) := by
 unfold fair_Round at hφ
 refine Fn.mk' Go.Proofs.Tryz.func23 rfl (by decide) rfl rfl rfl (fun w0 hw0 => ?_)
 refine Q2 (Q1 ?_)
 refine O3 rfl rfl (ox_box (id := 1) .tmp) (.one rfl) .nil rfl (by kernel_rfl) <| O3 rfl rfl (ox_alloc (id := 2) z43) .nil .nil rfl (by kernel_rfl) <| O1 <| Q0 (σ' := ⟨[(1, _), (2, _)], [(1, .var (a0) []), (2, .var (zMa) [])]⟩) (j2 rfl rfl) (j2 rfl rfl) ?_
 refine Q2 ?_
 obtain ⟨v1, hv1, hφ⟩ := B_some hφ
 refine Q1 ?_
 refine O5 (ox4 t43) (.one rfl) (.one rfl) rfl <| O5 (oxa z77 u77 rfl (.cons Step_Kind f77_0 .int Bld.nil)) (.app .nil .nil) .nil rfl <| O5 (ox_call (c_machine_Do hv1) (.cons .tmp (.cons .tmp .nil))) (.app (.one rfl) (.app (.one rfl) .nil)) .nil rfl <| O5 (ox0 .tmp) (.one rfl) .nil rfl <| O5 (ox7 rfl) (.one rfl) .nil rfl <| O5 (ox7 rfl) (.one rfl) .nil rfl ?_
 refine O3 rfl rfl (ox_alloc (id := 3) z43) .nil .nil rfl (by kernel_rfl) <| O2 rfl rfl (ox5 t43 .tmp) (.cons rfl (.one rfl)) (.one rfl) <| O5 (ox1 .tmp) (.one rfl) .nil rfl <| O1 <| Q0 (σ' := ⟨[(2, _), (3, _)], [(2, _), (3, .var (v1.1) [])]⟩) (j2 rfl rfl) (j2 rfl rfl) ?_
 obtain ⟨k2, hk2, hφ⟩ := J_some hφ
 refine PT.cut (ι := Mk.Machine × Mk.Machine) (fun p => ⟨[(2, .ptr 2 (Lens.id (α := Mk.Machine))), (3, .ptr 3 (Lens.id (α := Mk.Machine)))], [(2, .var (p.1) []), (3, .var (p.2) [])]⟩) (fun p => k2 (p.1) (p.2) = some r) ?_ ?_
 ·skip
  refine Q2 (Q1 ?_)
  refine O5 (ox3 Machine_Clients f43_5) (.one rfl) .nil rfl <| O5 (ox2 t41) (.one rfl) (.one rfl) rfl <| O5 (ox_len s41 .tmp) (.one rfl) .nil rfl <| O5 (ox0 .int) .nil .nil rfl <| O1 <| Q0 (σ' := ⟨[(2, _), (3, _), (14, .val (v1.1.Clients.length : Int)), (15, .val (0 : Int))], [(2, _), (3, _)]⟩) (j4 rfl rfl rfl rfl) (j2 rfl rfl) ?_
  refine PT.block ?_
  refine PT.loop (ι := Nat × Int × Int × Mk.Machine × Mk.Machine) (fun p => ⟨[(2, .ptr 2 (Lens.id (α := Mk.Machine))), (3, .ptr 3 (Lens.id (α := Mk.Machine))), (14, .val (p.2.1)), (15, .val (p.2.2.1))], [(2, .var (p.2.2.2.1) []), (3, .var (p.2.2.2.2) [])]⟩) (fun p => fair_Round_l1 k2 p.1 (p.2.1) (p.2.2.1) (p.2.2.2.1) (p.2.2.2.2) = some r) (fun p => p.1) (((v1.1.Clients.length : Int) - (0 : Int)).toNat + 1, (v1.1.Clients.length : Int), (0 : Int), zMa, v1.1) hφ (j4 rfl rfl rfl rfl) (j2 rfl rfl) ?_
  rintro ⟨m3, x14_m3, x15_m3, y2_m3, y3_m3⟩ (hφ : fair_Round_l1 k2 m3 x14_m3 x15_m3 y2_m3 y3_m3 = some r)
  obtain _ | m3 := m3
  ·exact (none_no hφ).elim
  rw [fair_Round_l1.eq_2] at hφ
  refine Q0 (σ' := ⟨[(2, .ptr 2 (Lens.id (α := Mk.Machine))), (3, .ptr 3 (Lens.id (α := Mk.Machine))), (14, .val (x14_m3)), (15, .val (x15_m3))], [(2, .var (y2_m3) []), (3, .var (y3_m3) [])]⟩) (j4 rfl rfl rfl rfl) (j2 rfl rfl) ?_
  refine Q2 (Q1 ?_)
  refine O5 (ox_lss .tmp .tmp) (.app (.one rfl) (.one rfl)) .nil rfl <| O1 <| Q0 (σ' := ⟨[(2, _), (3, _), (14, _), (15, _), (16, .val (decide (x15_m3 < x14_m3)))], [(2, _), (3, _)]⟩) (j5 rfl rfl rfl rfl rfl) (j2 rfl rfl) ?_
  refine Q2 ?_
  refine Q3 _ rfl (fun hc4 => ?_) (fun hc4 => ?_)
  ·replace hφ := if_then hφ hc4
   refine Q0 (σ' := ⟨[(2, _), (3, _), (14, _), (15, _)], [(2, _), (3, _)]⟩) (j4 rfl rfl rfl rfl) (j2 rfl rfl) ?_
   refine Q4 ?_
   refine Q2 ?_
   refine PT.block ?_
   refine Q2 (Q1 ?_)
   refine O5 (ox0 .tmp) (.one rfl) .nil rfl <| O5 (ox1 .tmp) (.one rfl) .nil rfl <| O1 <| Q0 (σ' := ⟨[(2, _), (3, _), (5, .val (x15_m3)), (14, _), (15, _)], [(2, _), (3, _)]⟩) (j5 rfl rfl rfl rfl rfl) (j2 rfl rfl) ?_
   obtain ⟨v5, hv5, hφ⟩ := B_some hφ
   refine Q1 ?_
   refine O5 (ox4 t43) (.one rfl) (.one rfl) rfl <| O5 (ox0 .tmp) (.one rfl) .nil rfl <| O5 (oxa z77 u77 rfl (.cons Step_Kind f77_0 .int (.cons Step_N f77_1 .tmp Bld.nil))) (.app .nil (.app (.one rfl) .nil)) .nil rfl <| O5 (ox_call (c_machine_Do hv5) (.cons .tmp (.cons .tmp .nil))) (.app (.one rfl) (.app (.one rfl) .nil)) .nil rfl <| O5 (ox0 .tmp) (.one rfl) .nil rfl <| O5 (ox7 rfl) (.one rfl) .nil rfl ?_
   refine O5 (ox7 rfl) (.one rfl) .nil rfl <| O2 rfl rfl (ox5 t43 .tmp) (.cons rfl (.one rfl)) (.one rfl) <| O1 <| Q0 (σ' := ⟨[(2, _), (3, _), (14, _), (15, _)], [(2, _), (3, .var (v5.1) [])]⟩) (j4 rfl rfl rfl rfl) (j2 rfl rfl) ?_
   obtain ⟨hb6, hφ⟩ := G_some hφ
   refine Q1 ?_
   refine O5 (ox_add .tmp .int hb6) (.app (.one rfl) .nil) .nil rfl <| O5 (ox0 .tmp) (.one rfl) .nil rfl <| O1 <| Q0 (σ' := ⟨[(2, _), (3, _), (14, _), (15, .val (x15_m3 + (1 : Int)))], [(2, _), (3, _)]⟩) (j4 rfl rfl rfl rfl) (j2 rfl rfl) ?_
   exact PT.next (m3, x14_m3, (x15_m3 + (1 : Int)), y2_m3, v5.1) hφ (Nat.lt_succ_self _) (j4 rfl rfl rfl rfl) (j2 rfl rfl)
  ·replace hφ := if_else hφ hc4
   refine Q0 (σ' := ⟨[(2, _), (3, _)], [(2, _), (3, _)]⟩) (j2 rfl rfl) (j2 rfl rfl) ?_
   refine PT.exit ?_
   exact PT.meet (y2_m3, y3_m3) hφ (j2 rfl rfl) (j2 rfl rfl)
 ·rintro ⟨y2_k2, y3_k2⟩ hφ
  subst hk2
  refine Q0 (σ' := ⟨[(2, .ptr 2 (Lens.id (α := Mk.Machine))), (3, .ptr 3 (Lens.id (α := Mk.Machine)))], [(2, .var (y2_k2) []), (3, .var (y3_k2) [])]⟩) (j2 rfl rfl) (j2 rfl rfl) ?_
  refine Q2 ?_
  obtain ⟨v7, hv7, hφ⟩ := B_some hφ
  refine Q1 ?_
  refine O5 (ox4 t43) (.one rfl) (.one rfl) rfl <| O5 (oxa z77 u77 rfl (.cons Step_Kind f77_0 .int Bld.nil)) (.app .nil .nil) .nil rfl <| O5 (ox_call (c_machine_Do hv7) (.cons .tmp (.cons .tmp .nil))) (.app (.one rfl) (.app (.one rfl) .nil)) .nil rfl <| O5 (ox0 .tmp) (.one rfl) .nil rfl <| O5 (ox7 rfl) (.one rfl) .nil rfl <| O5 (ox7 rfl) (.one rfl) .nil rfl ?_
  refine O2 rfl rfl (ox5 t43 .tmp) (.cons rfl (.one rfl)) (.one rfl) <| O1 <| Q0 (σ' := ⟨[(2, _), (3, _)], [(2, _), (3, .var (v7.1) [])]⟩) (j2 rfl rfl) (j2 rfl rfl) ?_
  refine Q2 (Q1 ?_)
  refine O5 (ox4 t43) (.one rfl) (.one rfl) rfl <| O2 rfl rfl (ox5 t43 .tmp) (.cons rfl (.one rfl)) (.one rfl) <| O1 <| Q0 (σ' := ⟨[(2, _)], [(2, .var (v7.1) [])]⟩) (j1 rfl) (j1 rfl) ?_
  refine Q5 ?_
  obtain rfl := Option.some.inj hφ
  exact Q6 hw0 rfl (.cell t43 rfl rfl .nil) rfl
theorem c_fair_Settle {a0 : Mk.Machine} {r : (Mk.Machine × Int)} (hφ : fair_Settle a0 = some r) : Fn Go.Proofs.Tryz.prog 13 [.val a0] (.tup [.val r.1, .val r.2]) := by
 unfold fair_Settle at hφ
 refine Fn.mk' Go.Proofs.Tryz.func13 rfl (by decide) rfl rfl rfl (fun w0 hw0 => ?_)
 refine Q2 (Q1 ?_)
 refine O3 rfl rfl (ox_box (id := 1) .tmp) (.one rfl) .nil rfl (by kernel_rfl) <| O3 rfl rfl (ox_alloc (id := 2) z43) .nil .nil rfl (by kernel_rfl) <| O5 (ox1 .int) .nil .nil rfl <| O1 <| Q0 (σ' := ⟨[(1, _), (2, _)], [(1, .var (a0) []), (2, .var (zMa) [])]⟩) (j2 rfl rfl) (j2 rfl rfl) ?_
 refine Q2 ?_
 obtain ⟨v1, hv1, hφ⟩ := B_some hφ
 refine Q1 ?_
 refine O5 (ox4 t43) (.one rfl) (.one rfl) rfl <| O5 (ox_call (c_guard_Own hv1) (.cons .tmp .nil)) (.app (.one rfl) .nil) .nil rfl <| O3 rfl rfl (ox_alloc (id := 4) z43) .nil .nil rfl (by kernel_rfl) <| O2 rfl rfl (ox5 t43 .tmp) (.cons rfl (.one rfl)) (.one rfl) <| O1 <| Q0 (σ' := ⟨[(2, _), (4, _)], [(2, _), (4, .var (v1) [])]⟩) (j2 rfl rfl) (j2 rfl rfl) ?_
 refine Q2 (Q1 ?_)
 refine O5 (ox1 .int) .nil .nil rfl <| O1 <| Q0 (σ' := ⟨[(2, _), (4, _), (5, .val (0 : Int))], [(2, _), (4, _)]⟩) (j3 rfl rfl rfl) (j2 rfl rfl) ?_
 obtain ⟨k2, hk2, hφ⟩ := J_some hφ
 refine PT.cut (ι := Int × Mk.Machine × Mk.Machine) (fun p => ⟨[(2, .ptr 2 (Lens.id (α := Mk.Machine))), (4, .ptr 4 (Lens.id (α := Mk.Machine))), (5, .val (p.1))], [(2, .var (p.2.1) []), (4, .var (p.2.2) [])]⟩) (fun p => k2 (p.1) (p.2.1) (p.2.2) = some r) ?_ ?_
 ·skip
  refine PT.block ?_
  refine PT.loop (ι := Nat × Int × Mk.Machine × Mk.Machine) (fun p => ⟨[(2, .ptr 2 (Lens.id (α := Mk.Machine))), (4, .ptr 4 (Lens.id (α := Mk.Machine))), (5, .val (p.2.1))], [(2, .var (p.2.2.1) []), (4, .var (p.2.2.2) [])]⟩) (fun p => fair_Settle_l1 k2 p.1 (p.2.1) (p.2.2.1) (p.2.2.2) = some r) (fun p => p.1) (((300 : Int) - (0 : Int)).toNat + 1, (0 : Int), zMa, v1) hφ (j3 rfl rfl rfl) (j2 rfl rfl) ?_
  rintro ⟨m3, x5_m3, y2_m3, y4_m3⟩ (hφ : fair_Settle_l1 k2 m3 x5_m3 y2_m3 y4_m3 = some r)
  obtain _ | m3 := m3
  ·exact (none_no hφ).elim
  rw [fair_Settle_l1.eq_2] at hφ
  refine Q0 (σ' := ⟨[(2, .ptr 2 (Lens.id (α := Mk.Machine))), (4, .ptr 4 (Lens.id (α := Mk.Machine))), (5, .val (x5_m3))], [(2, .var (y2_m3) []), (4, .var (y4_m3) [])]⟩) (j3 rfl rfl rfl) (j2 rfl rfl) ?_
  refine Q2 (Q2 ?_)
  obtain ⟨v4, hv4, hφ⟩ := B_some hφ
  refine Q1 ?_
  refine O5 (ox0 .tmp) (.one rfl) .nil rfl <| O5 (ox_lss .tmp .int) (.app (.one rfl) .nil) .nil rfl <| O5 (ox0 .tmp) (.one rfl) .nil rfl <| O4 rfl rfl rfl rfl (.plain .nil) (fun hG => (ox4 t43)) (j1 rfl) (.one rfl) rfl <| O4 rfl rfl rfl rfl (.cond (fun h => h) .nil) (fun hG => (ox_call (c_look_Idle (Cn_on hv4 hG)) (.cons .tmp .nil))) (j1 rfl) .nil rfl <| O4 rfl rfl rfl rfl (.cond (fun h => h) .nil) (fun hG => (ox_not .tmp)) (j1 rfl) .nil rfl ?_
  refine O5 ox8 (j2 rfl rfl) .nil rfl <| O1 <| Q0 (σ' := ⟨[(2, _), (4, _), (5, _), (14, .val ((decide (x5_m3 < (300 : Int))) && (!v4)))], [(2, _), (4, _)]⟩) (j4 rfl rfl rfl rfl) (j2 rfl rfl) ?_
  refine Q3 _ rfl (fun hc5 => ?_) (fun hc5 => ?_)
  ·replace hφ := if_then hφ hc5
   refine Q0 (σ' := ⟨[(2, _), (4, _), (5, _)], [(2, _), (4, _)]⟩) (j3 rfl rfl rfl) (j2 rfl rfl) ?_
   refine Q4 ?_
   refine PT.block ?_
   refine Q2 ?_
   obtain ⟨v6, hv6, hφ⟩ := B_some hφ
   refine Q1 ?_
   refine O5 (ox4 t43) (.one rfl) (.one rfl) rfl <| O5 (ox_call (c_fair_Round hv6) (.cons .tmp .nil)) (.app (.one rfl) .nil) .nil rfl <| O2 rfl rfl (ox5 t43 .tmp) (.cons rfl (.one rfl)) (.one rfl) <| O1 <| Q0 (σ' := ⟨[(2, _), (4, _), (5, _)], [(2, _), (4, .var (v6) [])]⟩) (j3 rfl rfl rfl) (j2 rfl rfl) ?_
   obtain ⟨hb7, hφ⟩ := G_some hφ
   refine Q1 ?_
   refine O5 (ox0 .tmp) (.one rfl) .nil rfl <| O5 (ox_add .tmp .int hb7) (.app (.one rfl) .nil) .nil rfl <| O5 (ox1 .tmp) (.one rfl) .nil rfl <| O1 <| Q0 (σ' := ⟨[(2, _), (4, _), (5, .val (x5_m3 + (1 : Int)))], [(2, _), (4, _)]⟩) (j3 rfl rfl rfl) (j2 rfl rfl) ?_
   exact PT.next (m3, (x5_m3 + (1 : Int)), y2_m3, v6) hφ (Nat.lt_succ_self _) (j3 rfl rfl rfl) (j2 rfl rfl)
  ·replace hφ := if_else hφ hc5
   refine Q0 (σ' := ⟨[(2, _), (4, _), (5, _)], [(2, _), (4, _)]⟩) (j3 rfl rfl rfl) (j2 rfl rfl) ?_
   refine PT.exit ?_
   exact PT.meet (x5_m3, y2_m3, y4_m3) hφ (j3 rfl rfl rfl) (j2 rfl rfl)
 ·rintro ⟨x5_k2, y2_k2, y4_k2⟩ hφ
  subst hk2
  refine Q0 (σ' := ⟨[(2, .ptr 2 (Lens.id (α := Mk.Machine))), (4, .ptr 4 (Lens.id (α := Mk.Machine))), (5, .val (x5_k2))], [(2, .var (y2_k2) []), (4, .var (y4_k2) [])]⟩) (j3 rfl rfl rfl) (j2 rfl rfl) ?_
  refine Q2 (Q1 ?_)
  refine O5 (ox4 t43) (.one rfl) (.one rfl) rfl <| O5 (ox0 .tmp) (.one rfl) .nil rfl <| O2 rfl rfl (ox5 t43 .tmp) (.cons rfl (.one rfl)) (.one rfl) <| O5 (ox1 .tmp) (.one rfl) .nil rfl <| O1 <| Q0 (σ' := ⟨[(2, _), (3, .val (x5_k2))], [(2, .var (y4_k2) [])]⟩) (j2 rfl rfl) (j1 rfl) ?_
  refine Q5 ?_
  obtain rfl := Option.some.inj hφ
  exact Q6 hw0 rfl (.cell t43 rfl rfl (.tmp rfl rfl .nil)) rfl
end Go.Gx
end
section
namespace Go.Gx
open Sp
theorem c_mktop_settled {a0 : List ByteArray} {a1 : List Mk.Step} {r : (Mk.Machine × Bool)} (hφ : mktop_settled a0 a1 = some r) : FnG Go.Proofs.Tryz.prog GT 8 [.val a0, .val a1] (.tup [.val r.1, .val r.2]) := by
 unfold mktop_settled at hφ
 refine FnG.mk' Go.Proofs.Tryz.func8 rfl (by decide) rfl rfl rfl (fun w0 hw0 hG0 => ?_)
 refine Q2 (Q1 ?_)
 refine O3 rfl rfl (ox_alloc (id := 4) z43) .nil .nil rfl (by kernel_rfl) <| O5 (ox1 .bool) .nil .nil rfl <| O1 <| Q0 (σ' := ⟨[(0, .val (a0)), (1, .val (a1)), (4, _)], [(4, .var (zMa) [])]⟩) (j3 rfl rfl rfl) (j1 rfl) ?_
 refine Q2 (Q1 ?_)
 refine O5 (ox1 .nilS) .nil .nil rfl <| O1 <| Q0 (σ' := ⟨[(0, _), (1, _), (4, _), (6, .nilS)], [(4, _)]⟩) (j4 rfl rfl rfl rfl) (j1 rfl) ?_
 obtain ⟨k1, hk1, hφ⟩ := J_some hφ
 refine PT.cut (ι := (List ByteArray) × (List Mk.Step) × Mk.Machine × (List (List Mk.Call))) (fun p => ⟨[(0, .val (p.1)), (1, .val (p.2.1)), (4, .ptr 4 (Lens.id (α := Mk.Machine))), (6, .sl 1006)], [(4, .var (p.2.2.1) []), (1006, .arr 46 (p.2.2.2))]⟩) (fun p => k1 (p.1) (p.2.1) (p.2.2.1) (p.2.2.2) = some r) ?_ ?_
 ·skip
  refine Q2 (Q1 ?_)
  refine O5 (ox0 .tmp) (.one rfl) .nil rfl <| O5 (ox_len s24 .tmp) (.one rfl) .nil rfl <| O5 (ox0 .int) .nil .nil rfl <| O1 <| Q0 (σ' := ⟨[(0, _), (1, _), (4, _), (6, _), (16, .val (a0)), (17, .val (a0.length : Int)), (18, .val (0 : Int))], [(4, _)]⟩) (j7 rfl rfl rfl rfl rfl rfl rfl) (j1 rfl) ?_
  refine PT.block ?_
  refine PT.nilArr 1006 6 46 (List Mk.Call) rfl (by kernel_rfl) ?_
  refine PT.loop (ι := Nat × (List ByteArray) × (List Mk.Step) × (List ByteArray) × Int × Int × Mk.Machine × (List (List Mk.Call))) (fun p => ⟨[(0, .val (p.2.1)), (1, .val (p.2.2.1)), (4, .ptr 4 (Lens.id (α := Mk.Machine))), (6, .sl 1006), (16, .val (p.2.2.2.1)), (17, .val (p.2.2.2.2.1)), (18, .val (p.2.2.2.2.2.1))], [(4, .var (p.2.2.2.2.2.2.1) []), (1006, .arr 46 (p.2.2.2.2.2.2.2))]⟩) (fun p => mktop_settled_l1 k1 p.1 (p.2.1) (p.2.2.1) (p.2.2.2.1) (p.2.2.2.2.1) (p.2.2.2.2.2.1) (p.2.2.2.2.2.2.1) (p.2.2.2.2.2.2.2) = some r) (fun p => p.1) (((a0.length : Int) - (0 : Int)).toNat + 1, a0, a1, a0, (a0.length : Int), (0 : Int), zMa, ([] : List (List Mk.Call))) hφ (j7 rfl rfl rfl rfl rfl rfl rfl) (j2 rfl rfl) ?_
  rintro ⟨m2, x0_m2, x1_m2, x16_m2, x17_m2, x18_m2, y4_m2, y1006_m2⟩ (hφ : mktop_settled_l1 k1 m2 x0_m2 x1_m2 x16_m2 x17_m2 x18_m2 y4_m2 y1006_m2 = some r)
  obtain _ | m2 := m2
  ·exact (none_no hφ).elim
  rw [mktop_settled_l1.eq_2] at hφ
  refine Q0 (σ' := ⟨[(0, .val (x0_m2)), (1, .val (x1_m2)), (4, .ptr 4 (Lens.id (α := Mk.Machine))), (6, .sl 1006), (16, .val (x16_m2)), (17, .val (x17_m2)), (18, .val (x18_m2))], [(4, .var (y4_m2) []), (1006, .arr 46 (y1006_m2))]⟩) (j7 rfl rfl rfl rfl rfl rfl rfl) (j2 rfl rfl) ?_
  refine Q2 (Q1 ?_)
  refine O5 (ox_lss .tmp .tmp) (.app (.one rfl) (.one rfl)) .nil rfl <| O1 <| Q0 (σ' := ⟨[(0, _), (1, _), (4, _), (6, _), (16, _), (17, _), (18, _), (19, .val (decide (x18_m2 < x17_m2)))], [(4, _), (1006, _)]⟩) (j8 rfl rfl rfl rfl rfl rfl rfl rfl) (j2 rfl rfl) ?_
  refine Q2 ?_
  refine Q3 _ rfl (fun hc3 => ?_) (fun hc3 => ?_)
  ·replace hφ := if_then hφ hc3
   refine Q0 (σ' := ⟨[(0, _), (1, _), (4, _), (6, _), (16, _), (17, _), (18, _)], [(4, _), (1006, _)]⟩) (j7 rfl rfl rfl rfl rfl rfl rfl) (j2 rfl rfl) ?_
   refine Q4 ?_
   refine Q2 ?_
   refine PT.block ?_
   refine Q2 ?_
   obtain ⟨hb4, hφ⟩ := G_some hφ
   refine Q1 ?_
   refine O5 (ox_ix s24 .tmp .tmp hb4.1 hb4.2) (.app (.one rfl) (.one rfl)) .nil rfl <| O5 (ox_load_elem t9) (.one rfl) .nil rfl <| O5 (ox1 .tmp) (.one rfl) .nil rfl <| O1 <| Q0 (σ' := ⟨[(0, _), (1, _), (4, _), (6, _), (8, .val (ix x16_m2 x18_m2)), (16, _), (17, _), (18, _)], [(4, _), (1006, _)]⟩) (j8 rfl rfl rfl rfl rfl rfl rfl rfl) (j2 rfl rfl) ?_
   refine Q2 ?_
   obtain ⟨v5, hv5, hφ⟩ := B_some hφ
   refine Q1 ?_
   refine O5 (ox0 .tmp) (.one rfl) .nil rfl ?_
   refine Ops.putW rfl rfl (ox_callW keepG hw0 hG0 (c_text_Parse hv5) (.cons .tmp .nil)) (.app (.one rfl) .nil) .nil rfl ?_
   refine O5 (ox0 .tmp) (.one rfl) .nil rfl <| O5 (ox7 rfl) (.one rfl) .nil rfl <| O5 (ox7 rfl) (.one rfl) .nil rfl <| O5 (ox1 .tmp) (.one rfl) .nil rfl <| O5 (ox1 .tmp) (.one rfl) .nil rfl <| O1 <| Q0 (σ' := ⟨[(0, _), (1, _), (4, _), (6, _), (9, .val (v5.1)), (10, .val (v5.2)), (16, _), (17, _), (18, _)], [(4, _), (1006, _)]⟩) (j9 rfl rfl rfl rfl rfl rfl rfl rfl rfl) (j2 rfl rfl) ?_
   refine Q2 ?_
   refine Q2 (Q1 ?_)
   refine O5 (ox0 .tmp) (.one rfl) .nil rfl <| O5 (ox_neq .tmp .int) (.app (.one rfl) .nil) .nil rfl <| O1 <| Q0 (σ' := ⟨[(0, _), (1, _), (4, _), (6, _), (9, _), (16, _), (17, _), (18, _), (28, .val (!decide (v5.2 = (0 : Int))))], [(4, _), (1006, _)]⟩) (j9 rfl rfl rfl rfl rfl rfl rfl rfl rfl) (j2 rfl rfl) ?_
   refine Q3 _ rfl (fun hc6 => ?_) (fun hc6 => ?_)
   ·replace hφ := if_then hφ hc6
    refine Q0 (σ' := ⟨[(4, _)], [(4, _)]⟩) (j1 rfl) (j1 rfl) ?_
    refine Q2 (Q1 ?_)
    refine O5 (oxa z43 u43 rfl Bld.nil) .nil .nil rfl <| O2 rfl rfl (ox5 t43 .tmp) (.cons rfl (.one rfl)) (.one rfl) <| O5 (ox1 .bool) .nil .nil rfl <| O1 <| Q0 (σ' := ⟨[(4, _), (5, .val (false))], [(4, .var (zMa) [])]⟩) (j2 rfl rfl) (j1 rfl) ?_
    refine Q5 ?_
    obtain rfl := Option.some.inj hφ
    exact Q6 hw0 rfl (.cell t43 rfl rfl (.tmp rfl rfl .nil)) rfl
   ·replace hφ := if_else hφ hc6
    refine Q0 (σ' := ⟨[(0, _), (1, _), (4, _), (6, _), (9, _), (16, _), (17, _), (18, _)], [(4, _), (1006, _)]⟩) (j8 rfl rfl rfl rfl rfl rfl rfl rfl) (j2 rfl rfl) ?_
    refine Q4 ?_
    obtain ⟨hb7, hφ⟩ := G_some hφ
    refine Q1 ?_
    refine O5 (ox0 .tmp) (.one rfl) .nil rfl <| O5 (ox0 .tmp) (.one rfl) .nil rfl <| O5 (ox_buildSlice_val s55 z46 (.cons .tmp Parts.nil) rfl (by decide)) (.app (.one rfl) .nil) .nil rfl ?_
    refine Ops.putK [6, 30] rfl rfl (ox_append a55 .tmp .tmp hb7.1 hb7.2) (.app (.one rfl) (.one rfl)) (.one rfl) rfl (by kernel_rfl) ?_
    refine O5 (ox1 .tmp) (.one rfl) .nil rfl <| O1 <| Q0 (σ' := ⟨[(0, _), (1, _), (4, _), (6, _), (16, _), (17, _), (18, _)], [(4, _), (1006, .arr 46 (y1006_m2 ++ ([v5.1] : List (List Mk.Call))))]⟩) (j7 rfl rfl rfl rfl rfl rfl rfl) (j2 rfl rfl) ?_
    obtain ⟨hb8, hφ⟩ := G_some hφ
    refine Q1 ?_
    refine O5 (ox_add .tmp .int hb8) (.app (.one rfl) .nil) .nil rfl <| O5 (ox0 .tmp) (.one rfl) .nil rfl <| O1 <| Q0 (σ' := ⟨[(0, _), (1, _), (4, _), (6, _), (16, _), (17, _), (18, .val (x18_m2 + (1 : Int)))], [(4, _), (1006, _)]⟩) (j7 rfl rfl rfl rfl rfl rfl rfl) (j2 rfl rfl) ?_
    exact PT.next (m2, x0_m2, x1_m2, x16_m2, x17_m2, (x18_m2 + (1 : Int)), y4_m2, (y1006_m2 ++ ([v5.1] : List (List Mk.Call)))) hφ (Nat.lt_succ_self _) (j7 rfl rfl rfl rfl rfl rfl rfl) (j2 rfl rfl)
  ·replace hφ := if_else hφ hc3
   refine Q0 (σ' := ⟨[(0, _), (1, _), (4, _), (6, _)], [(4, _), (1006, _)]⟩) (j4 rfl rfl rfl rfl) (j2 rfl rfl) ?_
   refine PT.exit ?_
   exact PT.meet (x0_m2, x1_m2, y4_m2, y1006_m2) hφ (j4 rfl rfl rfl rfl) (j2 rfl rfl)
 ·rintro ⟨x0_k1, x1_k1, y4_k1, y1006_k1⟩ hφ
  subst hk1
  refine Q0 (σ' := ⟨[(0, .val (x0_k1)), (1, .val (x1_k1)), (4, .ptr 4 (Lens.id (α := Mk.Machine))), (6, .sl 1006)], [(4, .var (y4_k1) []), (1006, .arr 46 (y1006_k1))]⟩) (j4 rfl rfl rfl rfl) (j2 rfl rfl) ?_
  refine Q2 ?_
  refine PT.freeze 1006 [6] rfl (j1 rfl) ?_
  obtain ⟨v9, hv9, hφ⟩ := B_some hφ
  refine Q1 ?_
  refine O5 (ox0 .tmp) (.one rfl) .nil rfl <| O5 (ox0 .tmp) (.one rfl) .nil rfl <| O5 (ox_call (c_fair_Play hv9) (.cons .tmp (.cons .tmp .nil))) (.app (.one rfl) (.app (.one rfl) .nil)) .nil rfl <| O5 (ox0 .tmp) (.one rfl) .nil rfl <| O5 (ox7 rfl) (.one rfl) .nil rfl <| O5 (ox7 rfl) (.one rfl) .nil rfl ?_
  refine O5 (ox7 rfl) (.one rfl) .nil rfl <| O3 rfl rfl (ox_alloc (id := 11) z43) .nil .nil rfl (by kernel_rfl) <| O2 rfl rfl (ox5 t43 .tmp) (.cons rfl (.one rfl)) (.one rfl) <| O5 (ox1 .tmp) (.one rfl) .nil rfl <| O5 (ox1 .tmp) (.one rfl) .nil rfl <| O1 <| Q0 (σ' := ⟨[(0, _), (4, _), (11, _), (13, .val (v9.2.2))], [(4, _), (11, .var (v9.1) [])]⟩) (j4 rfl rfl rfl rfl) (j2 rfl rfl) ?_
  refine Q2 ?_
  refine Q2 (Q1 ?_)
  refine O5 (ox0 .tmp) (.one rfl) .nil rfl <| O5 (ox_neq .tmp .int) (.app (.one rfl) .nil) .nil rfl <| O1 <| Q0 (σ' := ⟨[(0, _), (4, _), (11, _), (43, .val (!decide (v9.2.2 = (0 : Int))))], [(4, _), (11, _)]⟩) (j4 rfl rfl rfl rfl) (j2 rfl rfl) ?_
  refine Q3 _ rfl (fun hc10 => ?_) (fun hc10 => ?_)
  ·replace hφ := if_then hφ hc10
   refine Q0 (σ' := ⟨[(4, _)], [(4, _)]⟩) (j1 rfl) (j1 rfl) ?_
   refine Q2 (Q1 ?_)
   refine O5 (oxa z43 u43 rfl Bld.nil) .nil .nil rfl <| O2 rfl rfl (ox5 t43 .tmp) (.cons rfl (.one rfl)) (.one rfl) <| O5 (ox1 .bool) .nil .nil rfl <| O1 <| Q0 (σ' := ⟨[(4, _), (5, .val (false))], [(4, .var (zMa) [])]⟩) (j2 rfl rfl) (j1 rfl) ?_
   refine Q5 ?_
   obtain rfl := Option.some.inj hφ
   exact Q6 hw0 rfl (.cell t43 rfl rfl (.tmp rfl rfl .nil)) rfl
  ·replace hφ := if_else hφ hc10
   refine Q0 (σ' := ⟨[(0, _), (4, _), (11, _)], [(4, _), (11, _)]⟩) (j3 rfl rfl rfl) (j2 rfl rfl) ?_
   refine Q4 ?_
   refine Q2 ?_
   obtain ⟨v11, hv11, hφ⟩ := B_some hφ
   refine Q1 ?_
   refine O5 (ox4 t43) (.one rfl) (.one rfl) rfl <| O5 (ox_call (c_fair_Settle hv11) (.cons .tmp .nil)) (.app (.one rfl) .nil) .nil rfl <| O5 (ox0 .tmp) (.one rfl) .nil rfl <| O5 (ox7 rfl) (.one rfl) .nil rfl <| O5 (ox7 rfl) (.one rfl) .nil rfl <| O3 rfl rfl (ox_alloc (id := 14) z43) .nil .nil rfl (by kernel_rfl) ?_
   refine O2 rfl rfl (ox5 t43 .tmp) (.cons rfl (.one rfl)) (.one rfl) <| O5 (ox1 .tmp) (.one rfl) .nil rfl <| O1 <| Q0 (σ' := ⟨[(0, _), (4, _), (14, _)], [(4, _), (14, .var (v11.1) [])]⟩) (j3 rfl rfl rfl) (j2 rfl rfl) ?_
   refine Q2 ?_
   obtain ⟨v12, hv12, hφ⟩ := B_some hφ
   refine Q8 hMixed (
     .cons (S5 (ox4 t43)) ⟨.one rfl, .one rfl⟩ (by kernel_rfl) rfl <|
     .cons (S5 (ox4 t43)) ⟨.one rfl, .one rfl⟩ (by kernel_rfl) rfl <|
     .cons (S5 (ox_call (c_look_Idle hv12) (.cons .tmp .nil))) ⟨(.app (.one rfl) .nil), .nil⟩ (by kernel_rfl) rfl <|
     .cons (S5 (ox0 .tmp)) ⟨.one rfl, .nil⟩ (by kernel_rfl) rfl <|
     .cons (S3 rfl rfl rfl Grd.plain _ (by first | exact Iff.rfl | (simp; done) | (simp; intros; exact Iff.rfl)) (.plain .nil) (fun hG => (ox3 Machine_Clients f43_5))) ⟨(.cons rfl (j1 rfl)), .nil⟩ (by kernel_rfl) rfl <|
     .cons (S3 rfl rfl rfl Grd.plain _ (by first | exact Iff.rfl | (simp; done) | (simp; intros; exact Iff.rfl)) (.cond (fun h => h) .nil) (fun hG => (ox2 t41))) ⟨(.cons rfl (j1 rfl)), .one rfl⟩ (by kernel_rfl) rfl <|
     .cons (S3 rfl rfl rfl Grd.plain _ (by first | exact Iff.rfl | (simp; done) | (simp; intros; exact Iff.rfl)) (.cond (fun h => h) .nil) (fun hG => (ox_len s41 .tmp))) ⟨(.cons rfl (j1 rfl)), .nil⟩ (by kernel_rfl) rfl <|
     .cons (S3 rfl rfl rfl Grd.plain _ (by first | exact Iff.rfl | (simp; done) | (simp; intros; exact Iff.rfl)) (.plain .nil) (fun hG => (ox0 .tmp))) ⟨(.cons rfl (j1 rfl)), .nil⟩ (by kernel_rfl) rfl <|
     .cons (S3 rfl rfl rfl Grd.plain _ (by first | exact Iff.rfl | (simp; done) | (simp; intros; exact Iff.rfl)) (.cond (fun h => h) .nil) (fun hG => (ox_len s24 .tmp))) ⟨(.cons rfl (j1 rfl)), .nil⟩ (by kernel_rfl) rfl <|
     .cons (S3 rfl rfl rfl Grd.plain _ (by first | exact Iff.rfl | (simp; done) | (simp; intros; exact Iff.rfl)) (.cond (fun h => h) (.cond (fun h => h) .nil)) (fun hG => (ox_eql .tmp .tmp))) ⟨(.cons rfl (j2 rfl rfl)), .nil⟩ (by kernel_rfl) rfl <|
     .cons (S5 ox8) ⟨(j2 rfl rfl), .nil⟩ (by kernel_rfl) rfl <|
     .cons (S4 rfl rfl (ox5 t43 .tmp)) ⟨(.cons rfl (.one rfl)), .one rfl⟩ (by kernel_rfl) rfl <|
     .cons (S5 (ox1 .tmp)) ⟨.one rfl, .nil⟩ (by kernel_rfl) rfl <|
     .nil) _ [[], [], [1], [1, 2], [1, 2, 3], [1, 2, 3, 4], [1, 2, 3, 4, 5], [1, 2, 3], [1, 2, 3, 7], [1, 2, 3, 4, 5, 6, 7, 8], [1, 2, 3, 4, 5, 6, 7, 8, 9], [0, 1, 2, 3], [0, 1, 2, 3, 4, 5, 6, 7, 8, 9, 10, 11]] rfl (by kernel_rfl) (by kernel_rfl) ?_
   refine Q0 (σ' := ⟨[(4, _), (5, .val (v12 && (decide ((v11.1.Clients.length : Int) = (x0_k1.length : Int)))))], [(4, .var (v11.1) [])]⟩) (j2 rfl rfl) (j1 rfl) ?_
   refine Q5 ?_
   obtain rfl := Option.some.inj hφ
   exact Q6 hw0 rfl (.cell t43 rfl rfl (.tmp rfl rfl .nil)) rfl
theorem c_mktop_alive  {r : Bool} (hφ : mktop_alive  = some r) : FnG Go.Proofs.Tryz.prog GT 7 [] (.val r) := by
 unfold mktop_alive at hφ
 refine FnG.mk' Go.Proofs.Tryz.func7 rfl (by decide) rfl rfl rfl (fun w0 hw0 hG0 => ?_)
 refine Q2 (Q1 ?_)
 refine O5 (ox1 .bool) .nil .nil rfl <| O1 <| Q0 (σ' := ⟨[], []⟩) trivial trivial ?_
 refine Q2 ?_
 obtain ⟨v1, hv1, hφ⟩ := B_some hφ
 refine Q1 ?_
 refine O5 (ox_buildSlice_val s24 z9 (.cons (.str (by decide)) Parts.nil) rfl (by decide)) (.app .nil .nil) .nil rfl ?_
 refine Ops.putW rfl rfl (ox_callW keepG hw0 hG0 (c_mktop_settled hv1) (.cons .tmp (.cons (.nilL (α := Mk.Step)) .nil))) (.app (.one rfl) (.app .nil .nil)) .nil rfl ?_
 refine O5 (ox0 .tmp) (.one rfl) .nil rfl <| O5 (ox7 rfl) (.one rfl) .nil rfl <| O5 (ox7 rfl) (.one rfl) .nil rfl <| O3 rfl rfl (ox_alloc (id := 1) z43) .nil .nil rfl (by kernel_rfl) <| O2 rfl rfl (ox5 t43 .tmp) (.cons rfl (.one rfl)) (.one rfl) <| O5 (ox1 .tmp) (.one rfl) .nil rfl <| O1 <| Q0 (σ' := ⟨[(1, _), (2, .val (v1.2))], [(1, .var (v1.1) [])]⟩) (j2 rfl rfl) (j1 rfl) ?_
 refine Q2 ?_
 obtain ⟨hb2, hφ⟩ := G_some hφ
 obtain ⟨hb3, hφ⟩ := G_some hφ
 obtain ⟨hb4, hφ⟩ := G_some hφ
 refine Q1 ?_
 refine O5 (ox0 .tmp) (.one rfl) .nil rfl <| O5 (ox0 .tmp) (.one rfl) .nil rfl <| O4 rfl rfl rfl rfl (.plain .nil) (fun hG => (ox3 Machine_Clients f43_5)) (j1 rfl) .nil rfl <| O4 rfl rfl rfl rfl (.cond (fun h => h) .nil) (fun hG => (ox2 t41)) (j1 rfl) (.one rfl) rfl <| O4 rfl rfl rfl rfl (.cond (fun h => h) .nil) (fun hG => (ox_ix s41 .tmp .int (hb2 hG).1 (hb2 hG).2)) (j1 rfl) .nil rfl <| O4 rfl rfl rfl rfl (.cond (fun h => h) .nil) (fun hG => (ox_fieldAddr_elem Client_Got f49_5)) (j1 rfl) .nil rfl ?_
 refine O4 rfl rfl rfl rfl (.cond (fun h => h) .nil) (fun hG => (ox_load_elem t47)) (j1 rfl) .nil rfl <| O4 rfl rfl rfl rfl (.cond (fun h => h) .nil) (fun hG => (ox_len s47 .tmp)) (j1 rfl) .nil rfl <| O4 rfl rfl rfl rfl (.cond (fun h => h) .nil) (fun hG => (ox_eql .tmp .int)) (j1 rfl) .nil rfl <| O5 ox8 (j2 rfl rfl) .nil rfl <| O5 (ox0 .tmp) (.one rfl) .nil rfl <| O4 rfl rfl rfl rfl (.plain .nil) (fun hG => (ox3 Machine_Clients f43_5)) (j1 rfl) .nil rfl ?_
 refine O4 rfl rfl rfl rfl (.cond (fun h => h) .nil) (fun hG => (ox2 t41)) (j1 rfl) (.one rfl) rfl <| O4 rfl rfl rfl rfl (.cond (fun h => h) .nil) (fun hG => (ox_ix s41 .tmp .int (hb3 hG).1 (hb3 hG).2)) (j1 rfl) .nil rfl <| O4 rfl rfl rfl rfl (.cond (fun h => h) .nil) (fun hG => (ox_fieldAddr_elem Client_Got f49_5)) (j1 rfl) .nil rfl <| O4 rfl rfl rfl rfl (.cond (fun h => h) .nil) (fun hG => (ox_load_elem t47)) (j1 rfl) .nil rfl <| O4 rfl rfl rfl rfl (.cond (fun h => h) .nil) (fun hG => (ox_ix s47 .tmp .int (hb4 hG).1 (hb4 hG).2)) (j1 rfl) .nil rfl <| O4 rfl rfl rfl rfl (.cond (fun h => h) .nil) (fun hG => (ox_fieldAddr_elem Reply_N f38_1)) (j1 rfl) .nil rfl ?_
 refine O4 rfl rfl rfl rfl (.cond (fun h => h) .nil) (fun hG => (ox_load_elem t3)) (j1 rfl) .nil rfl <| O4 rfl rfl rfl rfl (.cond (fun h => h) .nil) (fun hG => (ox_eql .tmp .int)) (j1 rfl) .nil rfl <| O5 ox8 (j2 rfl rfl) .nil rfl <| O5 (ox1 .tmp) (.one rfl) .nil rfl <| O1 <| Q0 (σ' := ⟨[(0, .val (((v1.2 && (decide (((ix v1.1.Clients (0 : Int)).Got.length : Int) = (2 : Int)))) && (decide ((ix (ix v1.1.Clients (0 : Int)).Got (1 : Int)).N = (5 : Int))))))], []⟩) (j1 rfl) trivial ?_
 refine Q5 ?_
 obtain rfl := Option.some.inj hφ
 exact Q6 hw0 rfl (.tmp rfl rfl .nil) rfl
theorem c_mktop_TopRoom {a0 : Int} {a1 : Int} {a2 : List Mk.Step} {r : Bool} (hφ : mktop_TopRoom a0 a1 a2 = some r) : FnG Go.Proofs.Tryz.prog GT 6 [.val a0, .val a1, .val a2] (.val r) := by
 unfold mktop_TopRoom at hφ
 refine FnG.mk' Go.Proofs.Tryz.func6 rfl (by decide) rfl rfl rfl (fun w0 hw0 hG0 => ?_)
 refine Q2 (Q1 ?_)
 refine O5 (ox1 .bool) .nil .nil rfl <| O1 <| Q0 (σ' := ⟨[(0, .val (a0)), (1, .val (a1)), (2, .val (a2))], []⟩) (j3 rfl rfl rfl) trivial ?_
 refine Q2 (Q2 ?_)
 obtain ⟨v1, hv1, hφ⟩ := B_some hφ
 refine Q1 ?_
 refine Ops.putW rfl rfl (ox_callW keepG hw0 hG0 (c_mktop_alive hv1) .nil) .nil .nil rfl ?_
 refine O5 (ox_not .tmp) (.one rfl) .nil rfl <| O1 <| Q0 (σ' := ⟨[(0, _), (1, _), (2, _), (21, .val (!v1))], []⟩) (j4 rfl rfl rfl rfl) trivial ?_
 refine Q3 _ rfl (fun hc2 => ?_) (fun hc2 => ?_)
 ·replace hφ := if_then hφ hc2
  refine Q0 (σ' := ⟨[], []⟩) trivial trivial ?_
  refine Q2 (Q1 ?_)
  refine O5 (ox1 .bool) .nil .nil rfl <| O1 <| Q0 (σ' := ⟨[(6, .val (false))], []⟩) (j1 rfl) trivial ?_
  refine Q5 ?_
  obtain rfl := Option.some.inj hφ
  exact Q6 hw0 rfl (.tmp rfl rfl .nil) rfl
 ·replace hφ := if_else hφ hc2
  refine Q0 (σ' := ⟨[(0, _), (1, _), (2, _)], []⟩) (j3 rfl rfl rfl) trivial ?_
  refine Q4 ?_
  refine Q2 ?_
  refine Q2 (Q1 ?_)
  refine O5 (ox0 .tmp) (.one rfl) .nil rfl <| O5 (ox_lss .tmp .int) (.app (.one rfl) .nil) .nil rfl <| O5 (ox0 .tmp) (.one rfl) .nil rfl <| O4 rfl rfl rfl rfl (.plain .nil) (fun hG => (ox0 .tmp)) (j1 rfl) .nil rfl <| O4 rfl rfl rfl rfl (.cond (fun h => h) .nil) (fun hG => (ox_gtr .tmp .int)) (j1 rfl) .nil rfl <| O5 ox9 (j2 rfl rfl) .nil rfl ?_
  refine O5 (ox0 .tmp) (.one rfl) .nil rfl <| O4 rfl rfl rfl rfl (.plain .nil) (fun hG => (ox0 .tmp)) (j1 rfl) .nil rfl <| O4 rfl rfl rfl rfl (.cond (fun h => h) .nil) (fun hG => (ox_lss .tmp .int)) (j1 rfl) .nil rfl <| O5 ox9 (j2 rfl rfl) .nil rfl <| O5 (ox0 .tmp) (.one rfl) .nil rfl <| O4 rfl rfl rfl rfl (.plain .nil) (fun hG => (ox0 .tmp)) (j1 rfl) .nil rfl ?_
  refine O4 rfl rfl rfl rfl (.cond (fun h => h) .nil) (fun hG => (ox_gtr .tmp .int)) (j1 rfl) .nil rfl <| O5 ox9 (j2 rfl rfl) .nil rfl <| O5 (ox0 .tmp) (.one rfl) .nil rfl <| O4 rfl rfl rfl rfl (.plain .nil) (fun hG => (ox0 .tmp)) (j1 rfl) .nil rfl <| O4 rfl rfl rfl rfl (.cond (fun h => h) .nil) (fun hG => (ox_len s22 .tmp)) (j1 rfl) .nil rfl <| O4 rfl rfl rfl rfl (.cond (fun h => h) .nil) (fun hG => (ox_gtr .tmp .int)) (j1 rfl) .nil rfl ?_
  refine O5 ox9 (j2 rfl rfl) .nil rfl <| O1 <| Q0 (σ' := ⟨[(0, _), (1, _), (2, _), (40, .val ((((((decide (a0 < (0 : Int))) || (decide ((8 : Int) < a0))) || (decide (a1 < (0 : Int)))) || (decide ((8 : Int) < a1))) || (decide ((400 : Int) < (a2.length : Int))))))], []⟩) (j4 rfl rfl rfl rfl) trivial ?_
  refine Q3 _ rfl (fun hc3 => ?_) (fun hc3 => ?_)
  ·replace hφ := if_then hφ hc3
   refine Q0 (σ' := ⟨[], []⟩) trivial trivial ?_
   refine Q2 (Q1 ?_)
   refine O5 (ox1 .bool) .nil .nil rfl <| O1 <| Q0 (σ' := ⟨[(6, .val (true))], []⟩) (j1 rfl) trivial ?_
   refine Q5 ?_
   obtain rfl := Option.some.inj hφ
   exact Q6 hw0 rfl (.tmp rfl rfl .nil) rfl
  ·replace hφ := if_else hφ hc3
   refine Q0 (σ' := ⟨[(0, _), (1, _), (2, _)], []⟩) (j3 rfl rfl rfl) trivial ?_
   refine Q4 ?_
   refine Q2 (Q1 ?_)
   refine O5 (ox1 .nilS) .nil .nil rfl <| O5 (ox1 .nilS) .nil .nil rfl <| O1 <| Q0 (σ' := ⟨[(0, _), (1, _), (2, _), (7, .nilS), (8, .nilS)], []⟩) (j5 rfl rfl rfl rfl rfl) trivial ?_
   obtain ⟨k4, hk4, hφ⟩ := J_some hφ
   refine PT.cut (ι := Int × Int × (List Mk.Step) × (List Mk.Call)) (fun p => ⟨[(0, .val (p.1)), (1, .val (p.2.1)), (2, .val (p.2.2.1)), (7, .sl 1007), (8, .nilS)], [(1007, .arr 33 (p.2.2.2))]⟩) (fun p => k4 (p.1) (p.2.1) (p.2.2.1) (p.2.2.2) = some r) ?_ ?_
   ·skip
    refine Q2 (Q1 ?_)
    refine O5 (ox0 .tmp) (.one rfl) .nil rfl <| O5 (ox0 .int) .nil .nil rfl <| O1 <| Q0 (σ' := ⟨[(0, _), (1, _), (2, _), (7, _), (8, _), (41, .val (a0)), (42, .val (0 : Int))], []⟩) (j7 rfl rfl rfl rfl rfl rfl rfl) trivial ?_
    refine PT.block ?_
    refine PT.nilArr 1007 7 33 (Mk.Call) rfl (by kernel_rfl) ?_
    refine PT.loop (ι := Nat × Int × Int × (List Mk.Step) × Int × Int × (List Mk.Call)) (fun p => ⟨[(0, .val (p.2.1)), (1, .val (p.2.2.1)), (2, .val (p.2.2.2.1)), (7, .sl 1007), (8, .nilS), (41, .val (p.2.2.2.2.1)), (42, .val (p.2.2.2.2.2.1))], [(1007, .arr 33 (p.2.2.2.2.2.2))]⟩) (fun p => mktop_TopRoom_l1 k4 p.1 (p.2.1) (p.2.2.1) (p.2.2.2.1) (p.2.2.2.2.1) (p.2.2.2.2.2.1) (p.2.2.2.2.2.2) = some r) (fun p => p.1) ((a0 - (0 : Int)).toNat + 1, a0, a1, a2, a0, (0 : Int), ([] : List Mk.Call)) hφ (j7 rfl rfl rfl rfl rfl rfl rfl) (j1 rfl) ?_
    rintro ⟨m5, x0_m5, x1_m5, x2_m5, x41_m5, x42_m5, y1007_m5⟩ (hφ : mktop_TopRoom_l1 k4 m5 x0_m5 x1_m5 x2_m5 x41_m5 x42_m5 y1007_m5 = some r)
    obtain _ | m5 := m5
    ·exact (none_no hφ).elim
    rw [mktop_TopRoom_l1.eq_2] at hφ
    refine Q0 (σ' := ⟨[(0, .val (x0_m5)), (1, .val (x1_m5)), (2, .val (x2_m5)), (7, .sl 1007), (8, _), (41, .val (x41_m5)), (42, .val (x42_m5))], [(1007, .arr 33 (y1007_m5))]⟩) (j7 rfl rfl rfl rfl rfl rfl rfl) (j1 rfl) ?_
    refine Q2 (Q1 ?_)
    refine O5 (ox_lss .tmp .tmp) (.app (.one rfl) (.one rfl)) .nil rfl <| O1 <| Q0 (σ' := ⟨[(0, _), (1, _), (2, _), (7, _), (8, _), (41, _), (42, _), (43, .val (decide (x42_m5 < x41_m5)))], [(1007, _)]⟩) (j8 rfl rfl rfl rfl rfl rfl rfl rfl) (j1 rfl) ?_
    refine Q2 ?_
    refine Q3 _ rfl (fun hc6 => ?_) (fun hc6 => ?_)
    ·replace hφ := if_then hφ hc6
     refine Q0 (σ' := ⟨[(0, _), (1, _), (2, _), (7, _), (8, _), (41, _), (42, _)], [(1007, _)]⟩) (j7 rfl rfl rfl rfl rfl rfl rfl) (j1 rfl) ?_
     refine Q4 ?_
     refine Q2 ?_
     refine PT.block ?_
     refine Q2 (Q1 ?_)
     refine O5 (ox0 .tmp) (.one rfl) .nil rfl <| O5 (ox1 .tmp) (.one rfl) .nil rfl <| O1 <| Q0 (σ' := ⟨[(0, _), (1, _), (2, _), (7, _), (8, _), (9, .val (x42_m5)), (41, _), (42, _)], [(1007, _)]⟩) (j8 rfl rfl rfl rfl rfl rfl rfl rfl) (j1 rfl) ?_
     obtain ⟨hb7, hφ⟩ := G_some hφ
     obtain ⟨hb8, hφ⟩ := G_some hφ
     refine Q1 ?_
     refine O5 (ox0 .tmp) (.one rfl) .nil rfl <| O5 (ox0 .tmp) (.one rfl) .nil rfl <| O5 (ox_add .int .tmp hb7) (.app .nil (.one rfl)) .nil rfl <| O5 (ox0 .tmp) (.one rfl) .nil rfl <| O5 (oxa z33 u33 rfl (.cons Call_Kind f33_0 .int (.cons Call_Name f33_1 .tmp (.cons Call_N f33_3 .tmp Bld.nil)))) (.app .nil (.app (.one rfl) (.app (.one rfl) .nil))) .nil rfl <| O5 (ox_buildSlice_val s46 z33 (.cons .tmp Parts.nil) rfl (by decide)) (.app (.one rfl) .nil) .nil rfl ?_
     refine Ops.putK [7, 45] rfl rfl (ox_append a46 .tmp .tmp hb8.1 hb8.2) (.app (.one rfl) (.one rfl)) (.one rfl) rfl (by kernel_rfl) ?_
     refine O5 (ox1 .tmp) (.one rfl) .nil rfl <| O1 <| Q0 (σ' := ⟨[(0, _), (1, _), (2, _), (7, _), (8, _), (41, _), (42, _)], [(1007, .arr 33 ((y1007_m5 ++ ([({ Kind := (1 : Int), Name := ((1 : Int) + x42_m5), Other := (0 : Int), N := x42_m5 } : Mk.Call)] : List Mk.Call))))]⟩) (j7 rfl rfl rfl rfl rfl rfl rfl) (j1 rfl) ?_
     obtain ⟨hb9, hφ⟩ := G_some hφ
     refine Q1 ?_
     refine O5 (ox_add .tmp .int hb9) (.app (.one rfl) .nil) .nil rfl <| O5 (ox0 .tmp) (.one rfl) .nil rfl <| O1 <| Q0 (σ' := ⟨[(0, _), (1, _), (2, _), (7, _), (8, _), (41, _), (42, .val (x42_m5 + (1 : Int)))], [(1007, _)]⟩) (j7 rfl rfl rfl rfl rfl rfl rfl) (j1 rfl) ?_
     exact PT.next (m5, x0_m5, x1_m5, x2_m5, x41_m5, (x42_m5 + (1 : Int)), (y1007_m5 ++ ([({ Kind := (1 : Int), Name := ((1 : Int) + x42_m5), Other := (0 : Int), N := x42_m5 } : Mk.Call)] : List Mk.Call))) hφ (Nat.lt_succ_self _) (j7 rfl rfl rfl rfl rfl rfl rfl) (j1 rfl)
    ·replace hφ := if_else hφ hc6
     refine Q0 (σ' := ⟨[(0, _), (1, _), (2, _), (7, _), (8, _)], [(1007, _)]⟩) (j5 rfl rfl rfl rfl rfl) (j1 rfl) ?_
     refine PT.exit ?_
     exact PT.meet (x0_m5, x1_m5, x2_m5, y1007_m5) hφ (j5 rfl rfl rfl rfl rfl) (j1 rfl)
   ·rintro ⟨x0_k4, x1_k4, x2_k4, y1007_k4⟩ hφ
    subst hk4
    refine Q0 (σ' := ⟨[(0, .val (x0_k4)), (1, .val (x1_k4)), (2, .val (x2_k4)), (7, .sl 1007), (8, _)], [(1007, .arr 33 (y1007_k4))]⟩) (j5 rfl rfl rfl rfl rfl) (j1 rfl) ?_
    obtain ⟨k10, hk10, hφ⟩ := J_some hφ
    refine PT.cut (ι := Int × Int × (List Mk.Step) × (List Mk.Call) × (List Mk.Call)) (fun p => ⟨[(0, .val (p.1)), (1, .val (p.2.1)), (2, .val (p.2.2.1)), (7, .sl 1007), (8, .sl 1008)], [(1007, .arr 33 (p.2.2.2.1)), (1008, .arr 33 (p.2.2.2.2))]⟩) (fun p => k10 (p.1) (p.2.1) (p.2.2.1) (p.2.2.2.1) (p.2.2.2.2) = some r) ?_ ?_
    ·skip
     refine Q2 (Q1 ?_)
     refine O5 (ox0 .tmp) (.one rfl) .nil rfl <| O5 (ox0 .int) .nil .nil rfl <| O1 <| Q0 (σ' := ⟨[(0, _), (1, _), (2, _), (7, _), (8, _), (53, .val (x1_k4)), (54, .val (0 : Int))], [(1007, _)]⟩) (j7 rfl rfl rfl rfl rfl rfl rfl) (j1 rfl) ?_
     refine PT.block ?_
     refine PT.nilArr 1008 8 33 (Mk.Call) rfl (by kernel_rfl) ?_
     refine PT.loop (ι := Nat × Int × Int × (List Mk.Step) × Int × Int × (List Mk.Call) × (List Mk.Call)) (fun p => ⟨[(0, .val (p.2.1)), (1, .val (p.2.2.1)), (2, .val (p.2.2.2.1)), (7, .sl 1007), (8, .sl 1008), (53, .val (p.2.2.2.2.1)), (54, .val (p.2.2.2.2.2.1))], [(1007, .arr 33 (p.2.2.2.2.2.2.1)), (1008, .arr 33 (p.2.2.2.2.2.2.2))]⟩) (fun p => mktop_TopRoom_l2 k10 p.1 (p.2.1) (p.2.2.1) (p.2.2.2.1) (p.2.2.2.2.1) (p.2.2.2.2.2.1) (p.2.2.2.2.2.2.1) (p.2.2.2.2.2.2.2) = some r) (fun p => p.1) ((x1_k4 - (0 : Int)).toNat + 1, x0_k4, x1_k4, x2_k4, x1_k4, (0 : Int), y1007_k4, ([] : List Mk.Call)) hφ (j7 rfl rfl rfl rfl rfl rfl rfl) (j2 rfl rfl) ?_
     rintro ⟨m11, x0_m11, x1_m11, x2_m11, x53_m11, x54_m11, y1007_m11, y1008_m11⟩ (hφ : mktop_TopRoom_l2 k10 m11 x0_m11 x1_m11 x2_m11 x53_m11 x54_m11 y1007_m11 y1008_m11 = some r)
     obtain _ | m11 := m11
     ·exact (none_no hφ).elim
     rw [mktop_TopRoom_l2.eq_2] at hφ
     refine Q0 (σ' := ⟨[(0, .val (x0_m11)), (1, .val (x1_m11)), (2, .val (x2_m11)), (7, _), (8, .sl 1008), (53, .val (x53_m11)), (54, .val (x54_m11))], [(1007, .arr 33 (y1007_m11)), (1008, .arr 33 (y1008_m11))]⟩) (j7 rfl rfl rfl rfl rfl rfl rfl) (j2 rfl rfl) ?_
     refine Q2 (Q1 ?_)
     refine O5 (ox_lss .tmp .tmp) (.app (.one rfl) (.one rfl)) .nil rfl <| O1 <| Q0 (σ' := ⟨[(0, _), (1, _), (2, _), (7, _), (8, _), (53, _), (54, _), (55, .val (decide (x54_m11 < x53_m11)))], [(1007, _), (1008, _)]⟩) (j8 rfl rfl rfl rfl rfl rfl rfl rfl) (j2 rfl rfl) ?_
     refine Q2 ?_
     refine Q3 _ rfl (fun hc12 => ?_) (fun hc12 => ?_)
     ·replace hφ := if_then hφ hc12
      refine Q0 (σ' := ⟨[(0, _), (1, _), (2, _), (7, _), (8, _), (53, _), (54, _)], [(1007, _), (1008, _)]⟩) (j7 rfl rfl rfl rfl rfl rfl rfl) (j2 rfl rfl) ?_
      refine Q4 ?_
      refine Q2 ?_
      refine PT.block ?_
      refine Q2 (Q1 ?_)
      refine O5 (ox0 .tmp) (.one rfl) .nil rfl <| O5 (ox1 .tmp) (.one rfl) .nil rfl <| O1 <| Q0 (σ' := ⟨[(0, _), (1, _), (2, _), (7, _), (8, _), (10, .val (x54_m11)), (53, _), (54, _)], [(1007, _), (1008, _)]⟩) (j8 rfl rfl rfl rfl rfl rfl rfl rfl) (j2 rfl rfl) ?_
      obtain ⟨hb13, hφ⟩ := G_some hφ
      obtain ⟨hb14, hφ⟩ := G_some hφ
      refine Q1 ?_
      refine O5 (ox0 .tmp) (.one rfl) .nil rfl <| O5 (ox0 .tmp) (.one rfl) .nil rfl <| O5 (ox_add .int .tmp hb13) (.app .nil (.one rfl)) .nil rfl <| O5 (ox0 .tmp) (.one rfl) .nil rfl <| O5 (oxa z33 u33 rfl (.cons Call_Kind f33_0 .int (.cons Call_Name f33_1 .tmp (.cons Call_N f33_3 .tmp Bld.nil)))) (.app .nil (.app (.one rfl) (.app (.one rfl) .nil))) .nil rfl <| O5 (ox_buildSlice_val s46 z33 (.cons .tmp Parts.nil) rfl (by decide)) (.app (.one rfl) .nil) .nil rfl ?_
      refine Ops.putK [8, 57] rfl rfl (ox_append a46 .tmp .tmp hb14.1 hb14.2) (.app (.one rfl) (.one rfl)) (.one rfl) rfl (by kernel_rfl) ?_
      refine O5 (ox1 .tmp) (.one rfl) .nil rfl <| O1 <| Q0 (σ' := ⟨[(0, _), (1, _), (2, _), (7, _), (8, _), (53, _), (54, _)], [(1007, _), (1008, .arr 33 ((y1008_m11 ++ ([({ Kind := (1 : Int), Name := ((101 : Int) + x54_m11), Other := (0 : Int), N := x54_m11 } : Mk.Call)] : List Mk.Call))))]⟩) (j7 rfl rfl rfl rfl rfl rfl rfl) (j2 rfl rfl) ?_
      obtain ⟨hb15, hφ⟩ := G_some hφ
      refine Q1 ?_
      refine O5 (ox_add .tmp .int hb15) (.app (.one rfl) .nil) .nil rfl <| O5 (ox0 .tmp) (.one rfl) .nil rfl <| O1 <| Q0 (σ' := ⟨[(0, _), (1, _), (2, _), (7, _), (8, _), (53, _), (54, .val (x54_m11 + (1 : Int)))], [(1007, _), (1008, _)]⟩) (j7 rfl rfl rfl rfl rfl rfl rfl) (j2 rfl rfl) ?_
      exact PT.next (m11, x0_m11, x1_m11, x2_m11, x53_m11, (x54_m11 + (1 : Int)), y1007_m11, (y1008_m11 ++ ([({ Kind := (1 : Int), Name := ((101 : Int) + x54_m11), Other := (0 : Int), N := x54_m11 } : Mk.Call)] : List Mk.Call))) hφ (Nat.lt_succ_self _) (j7 rfl rfl rfl rfl rfl rfl rfl) (j2 rfl rfl)
     ·replace hφ := if_else hφ hc12
      refine Q0 (σ' := ⟨[(0, _), (1, _), (2, _), (7, _), (8, _)], [(1007, _), (1008, _)]⟩) (j5 rfl rfl rfl rfl rfl) (j2 rfl rfl) ?_
      refine PT.exit ?_
      exact PT.meet (x0_m11, x1_m11, x2_m11, y1007_m11, y1008_m11) hφ (j5 rfl rfl rfl rfl rfl) (j2 rfl rfl)
    ·rintro ⟨x0_k10, x1_k10, x2_k10, y1007_k10, y1008_k10⟩ hφ
     subst hk10
     refine Q0 (σ' := ⟨[(0, .val (x0_k10)), (1, .val (x1_k10)), (2, .val (x2_k10)), (7, _), (8, .sl 1008)], [(1007, .arr 33 (y1007_k10)), (1008, .arr 33 (y1008_k10))]⟩) (j5 rfl rfl rfl rfl rfl) (j2 rfl rfl) ?_
     refine Q2 ?_
     refine PT.freeze 1007 [7] rfl (j1 rfl) ?_
     refine PT.freeze 1008 [8] rfl (j1 rfl) ?_
     obtain ⟨v16, hv16, hφ⟩ := B_some hφ
     obtain ⟨v17, hv17, hφ⟩ := B_some hφ
     obtain ⟨v18, hv18, hφ⟩ := B_some hφ
     refine Q1 ?_
     refine O5 (ox0 .tmp) (.one rfl) .nil rfl ?_
     refine Ops.putW rfl rfl (ox_callW keepG hw0 hG0 (c_text_Print hv16) (.cons .tmp .nil)) (.app (.one rfl) .nil) .nil rfl ?_
     refine O5 (ox0 .tmp) (.one rfl) .nil rfl ?_
     refine Ops.putW rfl rfl (ox_callW keepG hw0 hG0 (c_text_Print hv17) (.cons .tmp .nil)) (.app (.one rfl) .nil) .nil rfl ?_
     refine O5 (ox_buildSlice_val s24 z9 (.cons .tmp (.cons .tmp Parts.nil)) rfl (by decide)) (.app (.one rfl) (.app (.one rfl) .nil)) .nil rfl <| O5 (ox0 .tmp) (.one rfl) .nil rfl ?_
     refine Ops.putW rfl rfl (ox_callW keepG hw0 hG0 (c_mktop_settled hv18) (.cons .tmp (.cons .tmp .nil))) (.app (.one rfl) (.app (.one rfl) .nil)) .nil rfl ?_
     refine O5 (ox0 .tmp) (.one rfl) .nil rfl <| O5 (ox7 rfl) (.one rfl) .nil rfl <| O5 (ox7 rfl) (.one rfl) .nil rfl <| O3 rfl rfl (ox_alloc (id := 11) z43) .nil .nil rfl (by kernel_rfl) <| O2 rfl rfl (ox5 t43 .tmp) (.cons rfl (.one rfl)) (.one rfl) <| O5 (ox1 .tmp) (.one rfl) .nil rfl <| O1 <| Q0 (σ' := ⟨[(0, _), (1, _), (11, _), (12, .val (v18.2))], [(11, .var (v18.1) [])]⟩) (j4 rfl rfl rfl rfl) (j1 rfl) ?_
     refine Q2 ?_
     refine Q2 (Q1 ?_)
     refine O5 (ox0 .tmp) (.one rfl) .nil rfl <| O5 (ox_not .tmp) (.one rfl) .nil rfl <| O1 <| Q0 (σ' := ⟨[(0, _), (1, _), (11, _), (76, .val (!v18.2))], [(11, _)]⟩) (j4 rfl rfl rfl rfl) (j1 rfl) ?_
     refine Q3 _ rfl (fun hc19 => ?_) (fun hc19 => ?_)
     ·replace hφ := if_then hφ hc19
      refine Q0 (σ' := ⟨[], []⟩) trivial trivial ?_
      refine Q2 (Q1 ?_)
      refine O5 (ox1 .bool) .nil .nil rfl <| O1 <| Q0 (σ' := ⟨[(6, .val (false))], []⟩) (j1 rfl) trivial ?_
      refine Q5 ?_
      obtain rfl := Option.some.inj hφ
      exact Q6 hw0 rfl (.tmp rfl rfl .nil) rfl
     ·replace hφ := if_else hφ hc19
      refine Q0 (σ' := ⟨[(0, _), (1, _), (11, _)], [(11, _)]⟩) (j3 rfl rfl rfl) (j1 rfl) ?_
      refine Q4 ?_
      refine Q2 (Q1 ?_)
      refine O3 rfl rfl (ox_makeSet (T := 54) (id := 77)) .nil .nil rfl (by kernel_rfl) <| O5 (ox1 .tmp) (.one rfl) .nil rfl <| O1 <| Q0 (σ' := ⟨[(0, _), (1, _), (11, _), (13, _)], [(11, _), (77, .imap (bk ([] : List Int)))]⟩) (j4 rfl rfl rfl rfl) (j2 rfl rfl) ?_
      obtain ⟨k20, hk20, hφ⟩ := J_some hφ
      refine PT.cut (ι := Int × Int × Mk.Machine × (List Int)) (fun p => ⟨[(0, .val (p.1)), (1, .val (p.2.1)), (11, .ptr 11 (Lens.id (α := Mk.Machine))), (13, .mp 77)], [(11, .var (p.2.2.1) []), (77, .imap (bk p.2.2.2))]⟩) (fun p => k20 (p.1) (p.2.1) (p.2.2.1) (p.2.2.2) = some r) ?_ ?_
      ·skip
       refine Q2 ?_
       obtain ⟨v21, hv21, hφ⟩ := B_some hφ
       refine Q1 ?_
       refine O5 (ox4 t43) (.one rfl) (.one rfl) rfl <| O5 (ox_call (c_look_Now hv21) (.cons .tmp .nil)) (.app (.one rfl) .nil) .nil rfl <| O5 (ox_len s26 .tmp) (.one rfl) .nil rfl <| O5 (ox0 .int) .nil .nil rfl <| O1 <| Q0 (σ' := ⟨[(0, _), (1, _), (11, _), (13, _), (79, .val (v21)), (80, .val (v21.length : Int)), (81, .val (0 : Int))], [(11, _), (77, _)]⟩) (j7 rfl rfl rfl rfl rfl rfl rfl) (j2 rfl rfl) ?_
       refine PT.block ?_
       refine PT.loop (ι := Nat × Int × Int × (List Mk.Write) × Int × Int × Mk.Machine × (List Int)) (fun p => ⟨[(0, .val (p.2.1)), (1, .val (p.2.2.1)), (11, .ptr 11 (Lens.id (α := Mk.Machine))), (13, .mp 77), (79, .val (p.2.2.2.1)), (80, .val (p.2.2.2.2.1)), (81, .val (p.2.2.2.2.2.1))], [(11, .var (p.2.2.2.2.2.2.1) []), (77, .imap (bk p.2.2.2.2.2.2.2))]⟩) (fun p => mktop_TopRoom_l3 k20 p.1 (p.2.1) (p.2.2.1) (p.2.2.2.1) (p.2.2.2.2.1) (p.2.2.2.2.2.1) (p.2.2.2.2.2.2.1) (p.2.2.2.2.2.2.2) = some r) (fun p => p.1) (((v21.length : Int) - (0 : Int)).toNat + 1, x0_k10, x1_k10, v21, (v21.length : Int), (0 : Int), v18.1, ([] : List Int)) hφ (j7 rfl rfl rfl rfl rfl rfl rfl) (j2 rfl rfl) ?_
       rintro ⟨m22, x0_m22, x1_m22, x79_m22, x80_m22, x81_m22, y11_m22, y77_m22⟩ (hφ : mktop_TopRoom_l3 k20 m22 x0_m22 x1_m22 x79_m22 x80_m22 x81_m22 y11_m22 y77_m22 = some r)
       obtain _ | m22 := m22
       ·exact (none_no hφ).elim
       rw [mktop_TopRoom_l3.eq_2] at hφ
       refine Q0 (σ' := ⟨[(0, .val (x0_m22)), (1, .val (x1_m22)), (11, .ptr 11 (Lens.id (α := Mk.Machine))), (13, .mp 77), (79, .val (x79_m22)), (80, .val (x80_m22)), (81, .val (x81_m22))], [(11, .var (y11_m22) []), (77, .imap (bk y77_m22))]⟩) (j7 rfl rfl rfl rfl rfl rfl rfl) (j2 rfl rfl) ?_
       refine Q2 (Q1 ?_)
       refine O5 (ox_lss .tmp .tmp) (.app (.one rfl) (.one rfl)) .nil rfl <| O1 <| Q0 (σ' := ⟨[(0, _), (1, _), (11, _), (13, _), (79, _), (80, _), (81, _), (82, .val (decide (x81_m22 < x80_m22)))], [(11, _), (77, _)]⟩) (j8 rfl rfl rfl rfl rfl rfl rfl rfl) (j2 rfl rfl) ?_
       refine Q2 ?_
       refine Q3 _ rfl (fun hc23 => ?_) (fun hc23 => ?_)
       ·replace hφ := if_then hφ hc23
        refine Q0 (σ' := ⟨[(0, _), (1, _), (11, _), (13, _), (79, _), (80, _), (81, _)], [(11, _), (77, _)]⟩) (j7 rfl rfl rfl rfl rfl rfl rfl) (j2 rfl rfl) ?_
        refine Q4 ?_
        refine Q2 ?_
        refine PT.block ?_
        refine Q2 ?_
        obtain ⟨hb24, hφ⟩ := G_some hφ
        refine Q1 ?_
        refine O5 (ox_ix s26 .tmp .tmp hb24.1 hb24.2) (.app (.one rfl) (.one rfl)) .nil rfl <| O5 (ox_load_elem t52) (.one rfl) .nil rfl <| O3 rfl rfl (ox_alloc (id := 15) z52) .nil .nil rfl (by kernel_rfl) <| O2 rfl rfl (ox5 t52 .tmp) (.cons rfl (.one rfl)) (.one rfl) <| O1 <| Q0 (σ' := ⟨[(0, _), (1, _), (11, _), (13, _), (15, _), (79, _), (80, _), (81, _)], [(11, _), (15, .var (ix x79_m22 x81_m22) []), (77, _)]⟩) (j8 rfl rfl rfl rfl rfl rfl rfl rfl) (j3 rfl rfl rfl) ?_
        refine Q1 ?_
        refine O5 (ox0 .tmp) (.one rfl) .nil rfl <| O5 (ox3 Write_At f52_0) (.one rfl) .nil rfl <| O5 (ox2 t3) (.one rfl) (.one rfl) rfl <| O2 rfl rfl (ox_updB (x := .const (.bool true)) (by kernel_rfl) .tmp) (.cons rfl (.app (.one rfl) .nil)) (.one rfl) <| O1 <| Q0 (σ' := ⟨[(0, _), (1, _), (11, _), (13, _), (79, _), (80, _), (81, _)], [(11, _), (77, .imap (bk (if (ix x79_m22 x81_m22).At ∈ y77_m22 then y77_m22 else y77_m22 ++ [(ix x79_m22 x81_m22).At])))]⟩) (j7 rfl rfl rfl rfl rfl rfl rfl) (j2 rfl rfl) ?_
        obtain ⟨hb25, hφ⟩ := G_some hφ
        refine Q1 ?_
        refine O5 (ox_add .tmp .int hb25) (.app (.one rfl) .nil) .nil rfl <| O5 (ox0 .tmp) (.one rfl) .nil rfl <| O1 <| Q0 (σ' := ⟨[(0, _), (1, _), (11, _), (13, _), (79, _), (80, _), (81, .val (x81_m22 + (1 : Int)))], [(11, _), (77, _)]⟩) (j7 rfl rfl rfl rfl rfl rfl rfl) (j2 rfl rfl) ?_
        exact PT.next (m22, x0_m22, x1_m22, x79_m22, x80_m22, (x81_m22 + (1 : Int)), y11_m22, (if (ix x79_m22 x81_m22).At ∈ y77_m22 then y77_m22 else y77_m22 ++ [(ix x79_m22 x81_m22).At])) hφ (Nat.lt_succ_self _) (j7 rfl rfl rfl rfl rfl rfl rfl) (j2 rfl rfl)
       ·replace hφ := if_else hφ hc23
        refine Q0 (σ' := ⟨[(0, _), (1, _), (11, _), (13, _)], [(11, _), (77, _)]⟩) (j4 rfl rfl rfl rfl) (j2 rfl rfl) ?_
        refine PT.exit ?_
        exact PT.meet (x0_m22, x1_m22, y11_m22, y77_m22) hφ (j4 rfl rfl rfl rfl) (j2 rfl rfl)
      ·rintro ⟨x0_k20, x1_k20, y11_k20, y77_k20⟩ hφ
       subst hk20
       refine Q0 (σ' := ⟨[(0, .val (x0_k20)), (1, .val (x1_k20)), (11, .ptr 11 (Lens.id (α := Mk.Machine))), (13, .mp 77)], [(11, .var (y11_k20) []), (77, .imap (bk y77_k20))]⟩) (j4 rfl rfl rfl rfl) (j2 rfl rfl) ?_
       refine Q2 (Q2 ?_)
       obtain ⟨hb26, hφ⟩ := G_some hφ
       obtain ⟨hb27, hφ⟩ := G_some hφ
       refine Q1 ?_
       refine O5 (ox0 .tmp) (.one rfl) .nil rfl <| O5 (ox_lenSet (by kernel_rfl) hb26) (.one rfl) (.one rfl) rfl <| O5 (ox0 .tmp) (.one rfl) .nil rfl <| O5 (ox0 .tmp) (.one rfl) .nil rfl <| O5 (ox_add .tmp .tmp hb27) (.app (.one rfl) (.one rfl)) .nil rfl <| O5 (ox_min .tmp .int) (.app (.one rfl) .nil) .nil rfl ?_
       refine O5 (ox_neq .tmp .tmp) (.app (.one rfl) (.one rfl)) .nil rfl <| O1 <| Q0 (σ' := ⟨[(11, _), (13, _), (95, .val (!decide ((y77_k20.length : Int) = (if (5 : Int) < (x0_k20 + x1_k20) then (5 : Int) else (x0_k20 + x1_k20)))))], [(11, _), (77, _)]⟩) (j3 rfl rfl rfl) (j2 rfl rfl) ?_
       refine Q3 _ rfl (fun hc28 => ?_) (fun hc28 => ?_)
       ·replace hφ := if_then hφ hc28
        refine Q0 (σ' := ⟨[], []⟩) trivial trivial ?_
        refine Q2 (Q1 ?_)
        refine O5 (ox1 .bool) .nil .nil rfl <| O1 <| Q0 (σ' := ⟨[(6, .val (false))], []⟩) (j1 rfl) trivial ?_
        refine Q5 ?_
        obtain rfl := Option.some.inj hφ
        exact Q6 hw0 rfl (.tmp rfl rfl .nil) rfl
       ·replace hφ := if_else hφ hc28
        refine Q0 (σ' := ⟨[(11, _), (13, _)], [(11, _), (77, _)]⟩) (j2 rfl rfl) (j2 rfl rfl) ?_
        refine Q4 ?_
        obtain ⟨k29, hk29, hφ⟩ := J_some hφ
        refine PT.cut (ι := Unit) (fun p => ⟨[], []⟩) (fun p => k29 () = some r) ?_ ?_
        ·skip
         refine Q2 (Q1 ?_)
         refine O5 (ox3 Machine_Clients f43_5) (.one rfl) .nil rfl <| O5 (ox2 t41) (.one rfl) (.one rfl) rfl <| O5 (ox_len s41 .tmp) (.one rfl) .nil rfl <| O5 (ox0 .int) .nil .nil rfl <| O1 <| Q0 (σ' := ⟨[(13, _), (97, .val (y11_k20.Clients)), (98, .val (y11_k20.Clients.length : Int)), (99, .val (0 : Int))], [(77, _)]⟩) (j4 rfl rfl rfl rfl) (j1 rfl) ?_
         refine PT.block ?_
         refine PT.loop (ι := Nat × (List Mk.Client) × Int × Int × (List Int)) (fun p => ⟨[(13, .mp 77), (97, .val (p.2.1)), (98, .val (p.2.2.1)), (99, .val (p.2.2.2.1))], [(77, .imap (bk p.2.2.2.2))]⟩) (fun p => mktop_TopRoom_l4 k29 p.1 (p.2.1) (p.2.2.1) (p.2.2.2.1) (p.2.2.2.2) = some r) (fun p => p.1) (((y11_k20.Clients.length : Int) - (0 : Int)).toNat + 1, y11_k20.Clients, (y11_k20.Clients.length : Int), (0 : Int), y77_k20) hφ (j4 rfl rfl rfl rfl) (j1 rfl) ?_
         rintro ⟨m30, x97_m30, x98_m30, x99_m30, y77_m30⟩ (hφ : mktop_TopRoom_l4 k29 m30 x97_m30 x98_m30 x99_m30 y77_m30 = some r)
         obtain _ | m30 := m30
         ·exact (none_no hφ).elim
         rw [mktop_TopRoom_l4.eq_2] at hφ
         refine Q0 (σ' := ⟨[(13, _), (97, .val (x97_m30)), (98, .val (x98_m30)), (99, .val (x99_m30))], [(77, .imap (bk y77_m30))]⟩) (j4 rfl rfl rfl rfl) (j1 rfl) ?_
         refine Q2 (Q1 ?_)
         refine O5 (ox_lss .tmp .tmp) (.app (.one rfl) (.one rfl)) .nil rfl <| O1 <| Q0 (σ' := ⟨[(13, _), (97, _), (98, _), (99, _), (100, .val (decide (x99_m30 < x98_m30)))], [(77, _)]⟩) (j5 rfl rfl rfl rfl rfl) (j1 rfl) ?_
         refine Q2 ?_
         refine Q3 _ rfl (fun hc31 => ?_) (fun hc31 => ?_)
         ·replace hφ := if_then hφ hc31
          refine Q0 (σ' := ⟨[(13, _), (97, _), (98, _), (99, _)], [(77, _)]⟩) (j4 rfl rfl rfl rfl) (j1 rfl) ?_
          refine Q4 ?_
          obtain ⟨k32, hk32, hφ⟩ := J_some hφ
          refine PT.cut (ι := (List Mk.Client) × Int × Int × (List Int)) (fun p => ⟨[(13, .mp 77), (97, .val (p.1)), (98, .val (p.2.1)), (99, .val (p.2.2.1))], [(77, .imap (bk p.2.2.2))]⟩) (fun p => k32 (p.1) (p.2.1) (p.2.2.1) (p.2.2.2) = some r) ?_ ?_
          ·skip
           refine PT.block ?_
           refine Q2 ?_
           obtain ⟨hb33, hφ⟩ := G_some hφ
           refine Q1 ?_
           refine O5 (ox0 .tmp) (.one rfl) .nil rfl <| O5 (ox_ix s41 .tmp .tmp hb33.1 hb33.2) (.app (.one rfl) (.one rfl)) .nil rfl <| O5 (ox_load_elem t49) (.one rfl) .nil rfl <| O3 rfl rfl (ox_alloc (id := 17) z49) .nil .nil rfl (by kernel_rfl) <| O5 (ox1 .tmp) (.one rfl) .nil rfl <| O2 rfl rfl (ox5 t49 .tmp) (.cons rfl (.one rfl)) (.one rfl) <| O1 <| Q0 (σ' := ⟨[(13, _), (16, .val (x99_m30)), (17, _), (97, _), (98, _), (99, _)], [(17, .var (ix x97_m30 x99_m30) []), (77, _)]⟩) (j6 rfl rfl rfl rfl rfl rfl) (j2 rfl rfl) ?_
           refine Q2 (Q1 ?_)
           refine O5 (ox3 Client_Got f49_5) (.one rfl) .nil rfl <| O5 (ox2 t47) (.one rfl) (.one rfl) rfl <| O5 (ox_len s47 .tmp) (.one rfl) .nil rfl <| O5 (ox0 .int) .nil .nil rfl <| O1 <| Q0 (σ' := ⟨[(13, _), (16, _), (97, _), (98, _), (99, _), (105, .val ((ix x97_m30 x99_m30).Got)), (106, .val ((ix x97_m30 x99_m30).Got.length : Int)), (107, .val (0 : Int))], [(77, _)]⟩) (j8 rfl rfl rfl rfl rfl rfl rfl rfl) (j1 rfl) ?_
           refine PT.block ?_
           refine PT.loop (ι := Nat × Int × (List Mk.Client) × Int × Int × (List Mk.Reply) × Int × Int × (List Int)) (fun p => ⟨[(13, .mp 77), (16, .val (p.2.1)), (97, .val (p.2.2.1)), (98, .val (p.2.2.2.1)), (99, .val (p.2.2.2.2.1)), (105, .val (p.2.2.2.2.2.1)), (106, .val (p.2.2.2.2.2.2.1)), (107, .val (p.2.2.2.2.2.2.2.1))], [(77, .imap (bk p.2.2.2.2.2.2.2.2))]⟩) (fun p => mktop_TopRoom_l5 k32 p.1 (p.2.1) (p.2.2.1) (p.2.2.2.1) (p.2.2.2.2.1) (p.2.2.2.2.2.1) (p.2.2.2.2.2.2.1) (p.2.2.2.2.2.2.2.1) (p.2.2.2.2.2.2.2.2) = some r) (fun p => p.1) ((((ix x97_m30 x99_m30).Got.length : Int) - (0 : Int)).toNat + 1, x99_m30, x97_m30, x98_m30, x99_m30, (ix x97_m30 x99_m30).Got, ((ix x97_m30 x99_m30).Got.length : Int), (0 : Int), y77_m30) hφ (j8 rfl rfl rfl rfl rfl rfl rfl rfl) (j1 rfl) ?_
           rintro ⟨m34, x16_m34, x97_m34, x98_m34, x99_m34, x105_m34, x106_m34, x107_m34, y77_m34⟩ (hφ : mktop_TopRoom_l5 k32 m34 x16_m34 x97_m34 x98_m34 x99_m34 x105_m34 x106_m34 x107_m34 y77_m34 = some r)
           obtain _ | m34 := m34
           ·exact (none_no hφ).elim
           rw [mktop_TopRoom_l5.eq_2] at hφ
           refine Q0 (σ' := ⟨[(13, _), (16, .val (x16_m34)), (97, .val (x97_m34)), (98, .val (x98_m34)), (99, .val (x99_m34)), (105, .val (x105_m34)), (106, .val (x106_m34)), (107, .val (x107_m34))], [(77, .imap (bk y77_m34))]⟩) (j8 rfl rfl rfl rfl rfl rfl rfl rfl) (j1 rfl) ?_
           refine Q2 (Q1 ?_)
           refine O5 (ox_lss .tmp .tmp) (.app (.one rfl) (.one rfl)) .nil rfl <| O1 <| Q0 (σ' := ⟨[(13, _), (16, _), (97, _), (98, _), (99, _), (105, _), (106, _), (107, _), (108, .val (decide (x107_m34 < x106_m34)))], [(77, _)]⟩) (j9 rfl rfl rfl rfl rfl rfl rfl rfl rfl) (j1 rfl) ?_
           refine Q2 ?_
           refine Q3 _ rfl (fun hc35 => ?_) (fun hc35 => ?_)
           ·replace hφ := if_then hφ hc35
            refine Q0 (σ' := ⟨[(13, _), (16, _), (97, _), (98, _), (99, _), (105, _), (106, _), (107, _)], [(77, _)]⟩) (j8 rfl rfl rfl rfl rfl rfl rfl rfl) (j1 rfl) ?_
            refine Q4 ?_
            refine Q2 ?_
            refine PT.block ?_
            refine Q2 ?_
            obtain ⟨hb36, hφ⟩ := G_some hφ
            refine Q1 ?_
            refine O5 (ox0 .tmp) (.one rfl) .nil rfl <| O5 (ox_ix s47 .tmp .tmp hb36.1 hb36.2) (.app (.one rfl) (.one rfl)) .nil rfl <| O5 (ox_load_elem t38) (.one rfl) .nil rfl <| O3 rfl rfl (ox_alloc (id := 19) z38) .nil .nil rfl (by kernel_rfl) <| O5 (ox1 .tmp) (.one rfl) .nil rfl <| O2 rfl rfl (ox5 t38 .tmp) (.cons rfl (.one rfl)) (.one rfl) <| O1 <| Q0 (σ' := ⟨[(13, _), (16, _), (18, .val (x107_m34)), (19, _), (97, _), (98, _), (99, _), (105, _), (106, _), (107, _)], [(19, .var (ix x105_m34 x107_m34) []), (77, _)]⟩) (j10 rfl rfl rfl rfl rfl rfl rfl rfl rfl rfl) (j2 rfl rfl) ?_
            refine Q2 ?_
            obtain ⟨hb37, hφ⟩ := G_some hφ
            obtain ⟨hb38, hφ⟩ := G_some hφ
            obtain ⟨hb39, hφ⟩ := G_some hφ
            refine Q1 ?_
            refine O5 (ox0 .tmp) (.one rfl) .nil rfl <| O5 (ox0 .tmp) (.one rfl) .nil rfl <| O5 (ox_mul .int .tmp hb37) (.app .nil (.one rfl)) .nil rfl <| O5 (ox_add .int .tmp hb38) (.app .nil (.one rfl)) .nil rfl <| O5 (ox0 .tmp) (.one rfl) .nil rfl <| O5 (ox_add .tmp .tmp hb39) (.app (.one rfl) (.one rfl)) .nil rfl ?_
            refine O5 (ox_lookupB (by kernel_rfl) .tmp) (.cons rfl (.one rfl)) (.one rfl) rfl <| O5 (ox3 Reply_Err f38_0) (.one rfl) .nil rfl <| O5 (ox2 t36) (.one rfl) (.one rfl) rfl <| O5 (ox_eql .tmp .int) (.app (.one rfl) .nil) .nil rfl <| O5 (ox_neqB e4 .tmp .tmp) (.app (.one rfl) (.one rfl)) .nil rfl <| O5 (ox0 .tmp) (.one rfl) .nil rfl ?_
            refine O4 rfl rfl rfl rfl (.plain .nil) (fun hG => (ox3 Reply_Err f38_0)) (j1 rfl) .nil rfl <| O4 rfl rfl rfl rfl (.cond (fun h => h) .nil) (fun hG => (ox2 t36)) (j1 rfl) (.one rfl) rfl <| O4 rfl rfl rfl rfl (.cond (fun h => h) .nil) (fun hG => (ox_neq .tmp .int)) (j1 rfl) .nil rfl <| O4 rfl rfl rfl rfl (.cond (fun h => h) .nil) (fun hG => (ox0 .tmp)) (j1 rfl) .nil rfl ?_
            refine Ops.guard2 rfl rfl rfl rfl (.plain .nil) (fun hG => (ox3 Reply_Err f38_0)) (j1 rfl) .nil rfl ?_
            refine Ops.guard2 rfl rfl rfl rfl (.cond (fun h => h) .nil) (fun hG => (ox2 t36)) (j1 rfl) (.one rfl) rfl ?_
            refine Ops.guard2 rfl rfl rfl rfl (.cond (fun h => h) .nil) (fun hG => (ox_neq .tmp .int)) (j1 rfl) .nil rfl ?_
            refine O4 rfl rfl rfl rfl (.cond (fun h => h) (.part (fun h => h) .nil)) (fun hG => ox8) (j2 rfl rfl) .nil rfl <| O5 ox9 (j2 rfl rfl) .nil rfl <| O1 <| Q0 (σ' := ⟨[(13, _), (16, _), (97, _), (98, _), (99, _), (105, _), (106, _), (107, _), (132, .val (((!decide ((decide ((((1 : Int) + ((100 : Int) * x16_m34)) + x107_m34) ∈ y77_m34)) = (decide ((ix x105_m34 x107_m34).Err = (0 : Int))))) || ((!decide ((ix x105_m34 x107_m34).Err = (0 : Int))) && (!decide ((ix x105_m34 x107_m34).Err = (9 : Int)))))))], [(77, _)]⟩) (j9 rfl rfl rfl rfl rfl rfl rfl rfl rfl) (j1 rfl) ?_
            refine Q3 _ rfl (fun hc40 => ?_) (fun hc40 => ?_)
            ·replace hφ := if_then hφ hc40
             refine Q0 (σ' := ⟨[], []⟩) trivial trivial ?_
             refine Q2 (Q1 ?_)
             refine O5 (ox1 .bool) .nil .nil rfl <| O1 <| Q0 (σ' := ⟨[(6, .val (false))], []⟩) (j1 rfl) trivial ?_
             refine Q5 ?_
             obtain rfl := Option.some.inj hφ
             exact Q6 hw0 rfl (.tmp rfl rfl .nil) rfl
            ·replace hφ := if_else hφ hc40
             refine Q0 (σ' := ⟨[(13, _), (16, _), (97, _), (98, _), (99, _), (105, _), (106, _), (107, _)], [(77, _)]⟩) (j8 rfl rfl rfl rfl rfl rfl rfl rfl) (j1 rfl) ?_
             refine Q4 ?_
             obtain ⟨hb41, hφ⟩ := G_some hφ
             refine Q1 ?_
             refine O5 (ox_add .tmp .int hb41) (.app (.one rfl) .nil) .nil rfl <| O5 (ox0 .tmp) (.one rfl) .nil rfl <| O1 <| Q0 (σ' := ⟨[(13, _), (16, _), (97, _), (98, _), (99, _), (105, _), (106, _), (107, .val (x107_m34 + (1 : Int)))], [(77, _)]⟩) (j8 rfl rfl rfl rfl rfl rfl rfl rfl) (j1 rfl) ?_
             exact PT.next (m34, x16_m34, x97_m34, x98_m34, x99_m34, x105_m34, x106_m34, (x107_m34 + (1 : Int)), y77_m34) hφ (Nat.lt_succ_self _) (j8 rfl rfl rfl rfl rfl rfl rfl rfl) (j1 rfl)
           ·replace hφ := if_else hφ hc35
            refine Q0 (σ' := ⟨[(13, _), (97, _), (98, _), (99, _)], [(77, _)]⟩) (j4 rfl rfl rfl rfl) (j1 rfl) ?_
            refine PT.exit ?_
            exact PT.meet (x97_m34, x98_m34, x99_m34, y77_m34) hφ (j4 rfl rfl rfl rfl) (j1 rfl)
          ·rintro ⟨x97_k32, x98_k32, x99_k32, y77_k32⟩ hφ
           subst hk32
           refine Q0 (σ' := ⟨[(13, _), (97, .val (x97_k32)), (98, .val (x98_k32)), (99, .val (x99_k32))], [(77, .imap (bk y77_k32))]⟩) (j4 rfl rfl rfl rfl) (j1 rfl) ?_
           obtain ⟨hb42, hφ⟩ := G_some hφ
           refine Q1 ?_
           refine O5 (ox_add .tmp .int hb42) (.app (.one rfl) .nil) .nil rfl <| O5 (ox0 .tmp) (.one rfl) .nil rfl <| O1 <| Q0 (σ' := ⟨[(13, _), (97, _), (98, _), (99, .val (x99_k32 + (1 : Int)))], [(77, _)]⟩) (j4 rfl rfl rfl rfl) (j1 rfl) ?_
           exact PT.next (m30, x97_k32, x98_k32, (x99_k32 + (1 : Int)), y77_k32) hφ (Nat.lt_succ_self _) (j4 rfl rfl rfl rfl) (j1 rfl)
         ·replace hφ := if_else hφ hc31
          refine Q0 (σ' := ⟨[], []⟩) trivial trivial ?_
          refine PT.exit ?_
          exact PT.meet () hφ trivial trivial
        ·rintro ⟨⟩ hφ
         subst hk29
         refine Q0 (σ' := ⟨[], []⟩) trivial trivial ?_
         refine Q2 (Q1 ?_)
         refine O5 (ox1 .bool) .nil .nil rfl <| O1 <| Q0 (σ' := ⟨[(6, .val (true))], []⟩) (j1 rfl) trivial ?_
         refine Q5 ?_
         obtain rfl := Option.some.inj hφ
         exact Q6 hw0 rfl (.tmp rfl rfl .nil) rfl
theorem c_mktop_TopApart {a0 : List Mk.Call} {a1 : List Mk.Call} {a2 : List Mk.Step} {r : Bool} (hφ : mktop_TopApart a0 a1 a2 = some r) : FnG Go.Proofs.Tryz.prog GT 4 [.val a0, .val a1, .val a2] (.val r) := by
 unfold mktop_TopApart at hφ
 refine FnG.mk' Go.Proofs.Tryz.func4 rfl (by decide) rfl rfl rfl (fun w0 hw0 hG0 => ?_)
 refine Q2 (Q1 ?_)
 refine O5 (ox1 .bool) .nil .nil rfl <| O1 <| Q0 (σ' := ⟨[(0, .val (a0)), (1, .val (a1)), (2, .val (a2))], []⟩) (j3 rfl rfl rfl) trivial ?_
 refine Q2 (Q2 ?_)
 obtain ⟨v1, hv1, hφ⟩ := B_some hφ
 refine Q1 ?_
 refine Ops.putW rfl rfl (ox_callW keepG hw0 hG0 (c_mktop_alive hv1) .nil) .nil .nil rfl ?_
 refine O5 (ox_not .tmp) (.one rfl) .nil rfl <| O1 <| Q0 (σ' := ⟨[(0, _), (1, _), (2, _), (21, .val (!v1))], []⟩) (j4 rfl rfl rfl rfl) trivial ?_
 refine Q3 _ rfl (fun hc2 => ?_) (fun hc2 => ?_)
 ·replace hφ := if_then hφ hc2
  refine Q0 (σ' := ⟨[], []⟩) trivial trivial ?_
  refine Q2 (Q1 ?_)
  refine O5 (ox1 .bool) .nil .nil rfl <| O1 <| Q0 (σ' := ⟨[(6, .val (false))], []⟩) (j1 rfl) trivial ?_
  refine Q5 ?_
  obtain rfl := Option.some.inj hφ
  exact Q6 hw0 rfl (.tmp rfl rfl .nil) rfl
 ·replace hφ := if_else hφ hc2
  refine Q0 (σ' := ⟨[(0, _), (1, _), (2, _)], []⟩) (j3 rfl rfl rfl) trivial ?_
  refine Q4 ?_
  refine Q2 ?_
  refine Q2 (Q1 ?_)
  refine O5 (ox0 .tmp) (.one rfl) .nil rfl <| O5 (ox_len s46 .tmp) (.one rfl) .nil rfl <| O5 (ox_gtr .tmp .int) (.app (.one rfl) .nil) .nil rfl <| O5 (ox0 .tmp) (.one rfl) .nil rfl <| O4 rfl rfl rfl rfl (.plain .nil) (fun hG => (ox0 .tmp)) (j1 rfl) .nil rfl <| O4 rfl rfl rfl rfl (.cond (fun h => h) .nil) (fun hG => (ox_len s46 .tmp)) (j1 rfl) .nil rfl ?_
  refine O4 rfl rfl rfl rfl (.cond (fun h => h) .nil) (fun hG => (ox_gtr .tmp .int)) (j1 rfl) .nil rfl <| O5 ox9 (j2 rfl rfl) .nil rfl <| O5 (ox0 .tmp) (.one rfl) .nil rfl <| O4 rfl rfl rfl rfl (.plain .nil) (fun hG => (ox0 .tmp)) (j1 rfl) .nil rfl <| O4 rfl rfl rfl rfl (.cond (fun h => h) .nil) (fun hG => (ox_len s22 .tmp)) (j1 rfl) .nil rfl <| O4 rfl rfl rfl rfl (.cond (fun h => h) .nil) (fun hG => (ox_gtr .tmp .int)) (j1 rfl) .nil rfl ?_
  refine O5 ox9 (j2 rfl rfl) .nil rfl <| O1 <| Q0 (σ' := ⟨[(0, _), (1, _), (2, _), (34, .val ((((decide ((8 : Int) < (a0.length : Int))) || (decide ((8 : Int) < (a1.length : Int)))) || (decide ((400 : Int) < (a2.length : Int))))))], []⟩) (j4 rfl rfl rfl rfl) trivial ?_
  refine Q3 _ rfl (fun hc3 => ?_) (fun hc3 => ?_)
  ·replace hφ := if_then hφ hc3
   refine Q0 (σ' := ⟨[], []⟩) trivial trivial ?_
   refine Q2 (Q1 ?_)
   refine O5 (ox1 .bool) .nil .nil rfl <| O1 <| Q0 (σ' := ⟨[(6, .val (true))], []⟩) (j1 rfl) trivial ?_
   refine Q5 ?_
   obtain rfl := Option.some.inj hφ
   exact Q6 hw0 rfl (.tmp rfl rfl .nil) rfl
  ·replace hφ := if_else hφ hc3
   refine Q0 (σ' := ⟨[(0, _), (1, _), (2, _)], []⟩) (j3 rfl rfl rfl) trivial ?_
   refine Q4 ?_
   refine Q2 (Q1 ?_)
   refine O3 rfl rfl (ox_makeSet (T := 54) (id := 35)) .nil .nil rfl (by kernel_rfl) <| O5 (ox1 .tmp) (.one rfl) .nil rfl <| O1 <| Q0 (σ' := ⟨[(0, _), (1, _), (2, _), (7, _)], [(35, .imap (bk ([] : List Int)))]⟩) (j4 rfl rfl rfl rfl) (j1 rfl) ?_
   obtain ⟨k4, hk4, hφ⟩ := J_some hφ
   refine PT.cut (ι := (List Mk.Call) × (List Mk.Call) × (List Mk.Step) × (List Int)) (fun p => ⟨[(0, .val (p.1)), (1, .val (p.2.1)), (2, .val (p.2.2.1)), (7, .mp 35)], [(35, .imap (bk p.2.2.2))]⟩) (fun p => k4 (p.1) (p.2.1) (p.2.2.1) (p.2.2.2) = some r) ?_ ?_
   ·skip
    refine Q2 (Q1 ?_)
    refine O5 (ox0 .tmp) (.one rfl) .nil rfl <| O5 (ox0 .tmp) (.one rfl) .nil rfl <| O5 (ox_buildSlice_val s55 z46 (.cons .tmp (.cons .tmp Parts.nil)) rfl (by decide)) (.app (.one rfl) (.app (.one rfl) .nil)) .nil rfl <| O5 (ox_len s55 .tmp) (.one rfl) .nil rfl <| O5 (ox0 .int) .nil .nil rfl <| O1 <| Q0 (σ' := ⟨[(0, _), (1, _), (2, _), (7, _), (38, .val ([a0, a1] : List (List Mk.Call))), (39, .val (([a0, a1] : List (List Mk.Call)).length : Int)), (40, .val (0 : Int))], [(35, _)]⟩) (j7 rfl rfl rfl rfl rfl rfl rfl) (j1 rfl) ?_
    refine PT.block ?_
    refine PT.loop (ι := Nat × (List Mk.Call) × (List Mk.Call) × (List Mk.Step) × (List (List Mk.Call)) × Int × Int × (List Int)) (fun p => ⟨[(0, .val (p.2.1)), (1, .val (p.2.2.1)), (2, .val (p.2.2.2.1)), (7, .mp 35), (38, .val (p.2.2.2.2.1)), (39, .val (p.2.2.2.2.2.1)), (40, .val (p.2.2.2.2.2.2.1))], [(35, .imap (bk p.2.2.2.2.2.2.2))]⟩) (fun p => mktop_TopApart_l1 k4 p.1 (p.2.1) (p.2.2.1) (p.2.2.2.1) (p.2.2.2.2.1) (p.2.2.2.2.2.1) (p.2.2.2.2.2.2.1) (p.2.2.2.2.2.2.2) = some r) (fun p => p.1) (((([a0, a1] : List (List Mk.Call)).length : Int) - (0 : Int)).toNat + 1, a0, a1, a2, ([a0, a1] : List (List Mk.Call)), (([a0, a1] : List (List Mk.Call)).length : Int), (0 : Int), ([] : List Int)) hφ (j7 rfl rfl rfl rfl rfl rfl rfl) (j1 rfl) ?_
    rintro ⟨m5, x0_m5, x1_m5, x2_m5, x38_m5, x39_m5, x40_m5, y35_m5⟩ (hφ : mktop_TopApart_l1 k4 m5 x0_m5 x1_m5 x2_m5 x38_m5 x39_m5 x40_m5 y35_m5 = some r)
    obtain _ | m5 := m5
    ·exact (none_no hφ).elim
    rw [mktop_TopApart_l1.eq_2] at hφ
    refine Q0 (σ' := ⟨[(0, .val (x0_m5)), (1, .val (x1_m5)), (2, .val (x2_m5)), (7, .mp 35), (38, .val (x38_m5)), (39, .val (x39_m5)), (40, .val (x40_m5))], [(35, .imap (bk y35_m5))]⟩) (j7 rfl rfl rfl rfl rfl rfl rfl) (j1 rfl) ?_
    refine Q2 (Q1 ?_)
    refine O5 (ox_lss .tmp .tmp) (.app (.one rfl) (.one rfl)) .nil rfl <| O1 <| Q0 (σ' := ⟨[(0, _), (1, _), (2, _), (7, _), (38, _), (39, _), (40, _), (41, .val (decide (x40_m5 < x39_m5)))], [(35, _)]⟩) (j8 rfl rfl rfl rfl rfl rfl rfl rfl) (j1 rfl) ?_
    refine Q2 ?_
    refine Q3 _ rfl (fun hc6 => ?_) (fun hc6 => ?_)
    ·replace hφ := if_then hφ hc6
     refine Q0 (σ' := ⟨[(0, _), (1, _), (2, _), (7, _), (38, _), (39, _), (40, _)], [(35, _)]⟩) (j7 rfl rfl rfl rfl rfl rfl rfl) (j1 rfl) ?_
     refine Q4 ?_
     obtain ⟨k7, hk7, hφ⟩ := J_some hφ
     refine PT.cut (ι := (List Mk.Call) × (List Mk.Call) × (List Mk.Step) × (List (List Mk.Call)) × Int × Int × (List Int)) (fun p => ⟨[(0, .val (p.1)), (1, .val (p.2.1)), (2, .val (p.2.2.1)), (7, .mp 35), (38, .val (p.2.2.2.1)), (39, .val (p.2.2.2.2.1)), (40, .val (p.2.2.2.2.2.1))], [(35, .imap (bk p.2.2.2.2.2.2))]⟩) (fun p => k7 (p.1) (p.2.1) (p.2.2.1) (p.2.2.2.1) (p.2.2.2.2.1) (p.2.2.2.2.2.1) (p.2.2.2.2.2.2) = some r) ?_ ?_
     ·skip
      refine PT.block ?_
      refine Q2 ?_
      obtain ⟨hb8, hφ⟩ := G_some hφ
      refine Q1 ?_
      refine O5 (ox0 .tmp) (.one rfl) .nil rfl <| O5 (ox_ix s55 .tmp .tmp hb8.1 hb8.2) (.app (.one rfl) (.one rfl)) .nil rfl <| O5 (ox_load_elem t46) (.one rfl) .nil rfl <| O5 (ox1 .tmp) (.one rfl) .nil rfl <| O5 (ox1 .tmp) (.one rfl) .nil rfl <| O1 <| Q0 (σ' := ⟨[(0, _), (1, _), (2, _), (7, _), (8, .val (x40_m5)), (9, .val (ix x38_m5 x40_m5)), (38, _), (39, _), (40, _)], [(35, _)]⟩) (j9 rfl rfl rfl rfl rfl rfl rfl rfl rfl) (j1 rfl) ?_
      refine Q2 (Q1 ?_)
      refine O5 (ox0 .tmp) (.one rfl) .nil rfl <| O5 (ox_len s46 .tmp) (.one rfl) .nil rfl <| O5 (ox0 .int) .nil .nil rfl <| O1 <| Q0 (σ' := ⟨[(0, _), (1, _), (2, _), (7, _), (8, _), (38, _), (39, _), (40, _), (45, .val (ix x38_m5 x40_m5)), (46, .val ((ix x38_m5 x40_m5).length : Int)), (47, .val (0 : Int))], [(35, _)]⟩) (j11 rfl rfl rfl rfl rfl rfl rfl rfl rfl rfl rfl) (j1 rfl) ?_
      refine PT.block ?_
      refine PT.loop (ι := Nat × (List Mk.Call) × (List Mk.Call) × (List Mk.Step) × Int × (List (List Mk.Call)) × Int × Int × (List Mk.Call) × Int × Int × (List Int)) (fun p => ⟨[(0, .val (p.2.1)), (1, .val (p.2.2.1)), (2, .val (p.2.2.2.1)), (7, .mp 35), (8, .val (p.2.2.2.2.1)), (38, .val (p.2.2.2.2.2.1)), (39, .val (p.2.2.2.2.2.2.1)), (40, .val (p.2.2.2.2.2.2.2.1)), (45, .val (p.2.2.2.2.2.2.2.2.1)), (46, .val (p.2.2.2.2.2.2.2.2.2.1)), (47, .val (p.2.2.2.2.2.2.2.2.2.2.1))], [(35, .imap (bk p.2.2.2.2.2.2.2.2.2.2.2))]⟩) (fun p => mktop_TopApart_l2 k7 p.1 (p.2.1) (p.2.2.1) (p.2.2.2.1) (p.2.2.2.2.1) (p.2.2.2.2.2.1) (p.2.2.2.2.2.2.1) (p.2.2.2.2.2.2.2.1) (p.2.2.2.2.2.2.2.2.1) (p.2.2.2.2.2.2.2.2.2.1) (p.2.2.2.2.2.2.2.2.2.2.1) (p.2.2.2.2.2.2.2.2.2.2.2) = some r) (fun p => p.1) ((((ix x38_m5 x40_m5).length : Int) - (0 : Int)).toNat + 1, x0_m5, x1_m5, x2_m5, x40_m5, x38_m5, x39_m5, x40_m5, (ix x38_m5 x40_m5), ((ix x38_m5 x40_m5).length : Int), (0 : Int), y35_m5) hφ (j11 rfl rfl rfl rfl rfl rfl rfl rfl rfl rfl rfl) (j1 rfl) ?_
      rintro ⟨m9, x0_m9, x1_m9, x2_m9, x8_m9, x38_m9, x39_m9, x40_m9, x45_m9, x46_m9, x47_m9, y35_m9⟩ (hφ : mktop_TopApart_l2 k7 m9 x0_m9 x1_m9 x2_m9 x8_m9 x38_m9 x39_m9 x40_m9 x45_m9 x46_m9 x47_m9 y35_m9 = some r)
      obtain _ | m9 := m9
      ·exact (none_no hφ).elim
      rw [mktop_TopApart_l2.eq_2] at hφ
      refine Q0 (σ' := ⟨[(0, .val (x0_m9)), (1, .val (x1_m9)), (2, .val (x2_m9)), (7, _), (8, .val (x8_m9)), (38, .val (x38_m9)), (39, .val (x39_m9)), (40, .val (x40_m9)), (45, .val (x45_m9)), (46, .val (x46_m9)), (47, .val (x47_m9))], [(35, .imap (bk y35_m9))]⟩) (j11 rfl rfl rfl rfl rfl rfl rfl rfl rfl rfl rfl) (j1 rfl) ?_
      refine Q2 (Q1 ?_)
      refine O5 (ox_lss .tmp .tmp) (.app (.one rfl) (.one rfl)) .nil rfl <| O1 <| Q0 (σ' := ⟨[(0, _), (1, _), (2, _), (7, _), (8, _), (38, _), (39, _), (40, _), (45, _), (46, _), (47, _), (48, .val (decide (x47_m9 < x46_m9)))], [(35, _)]⟩) (j12 rfl rfl rfl rfl rfl rfl rfl rfl rfl rfl rfl rfl) (j1 rfl) ?_
      refine Q2 ?_
      refine Q3 _ rfl (fun hc10 => ?_) (fun hc10 => ?_)
      ·replace hφ := if_then hφ hc10
       refine Q0 (σ' := ⟨[(0, _), (1, _), (2, _), (7, _), (8, _), (38, _), (39, _), (40, _), (45, _), (46, _), (47, _)], [(35, _)]⟩) (j11 rfl rfl rfl rfl rfl rfl rfl rfl rfl rfl rfl) (j1 rfl) ?_
       refine Q4 ?_
       refine Q2 ?_
       refine PT.block ?_
       refine Q2 ?_
       obtain ⟨hb11, hφ⟩ := G_some hφ
       refine Q1 ?_
       refine O5 (ox_ix s46 .tmp .tmp hb11.1 hb11.2) (.app (.one rfl) (.one rfl)) .nil rfl <| O5 (ox_load_elem t33) (.one rfl) .nil rfl <| O3 rfl rfl (ox_alloc (id := 11) z33) .nil .nil rfl (by kernel_rfl) <| O2 rfl rfl (ox5 t33 .tmp) (.cons rfl (.one rfl)) (.one rfl) <| O1 <| Q0 (σ' := ⟨[(0, _), (1, _), (2, _), (7, _), (8, _), (11, _), (38, _), (39, _), (40, _), (45, _), (46, _), (47, _)], [(11, .var (ix x45_m9 x47_m9) []), (35, _)]⟩) (j12 rfl rfl rfl rfl rfl rfl rfl rfl rfl rfl rfl rfl) (j2 rfl rfl) ?_
       refine Q2 (Q2 ?_)
       obtain ⟨hb12, hφ⟩ := G_some hφ
       obtain ⟨hb13, hφ⟩ := G_some hφ
       obtain ⟨hb14, hφ⟩ := G_some hφ
       obtain ⟨hb15, hφ⟩ := G_some hφ
       refine Q1 ?_
       refine O5 (ox3 Call_Kind f33_0) (.one rfl) .nil rfl <| O5 (ox2 t3) (.one rfl) (.one rfl) rfl <| O5 (ox_lss .tmp .int) (.app (.one rfl) .nil) .nil rfl <| O5 (ox0 .tmp) (.one rfl) .nil rfl <| O4 rfl rfl rfl rfl (.plain .nil) (fun hG => (ox3 Call_Kind f33_0)) (j1 rfl) .nil rfl <| O4 rfl rfl rfl rfl (.cond (fun h => h) .nil) (fun hG => (ox2 t3)) (j1 rfl) (.one rfl) rfl ?_
       refine O4 rfl rfl rfl rfl (.cond (fun h => h) .nil) (fun hG => (ox_gtr .tmp .int)) (j1 rfl) .nil rfl <| O5 ox9 (j2 rfl rfl) .nil rfl <| O5 (ox0 .tmp) (.one rfl) .nil rfl <| O4 rfl rfl rfl rfl (.plain .nil) (fun hG => (ox3 Call_Name f33_1)) (j1 rfl) .nil rfl <| O4 rfl rfl rfl rfl (.cond (fun h => h) .nil) (fun hG => (ox2 t3)) (j1 rfl) (.one rfl) rfl <| O4 rfl rfl rfl rfl (.plain .nil) (fun hG => (ox0 .tmp)) (j1 rfl) .nil rfl ?_
       refine O4 rfl rfl rfl rfl (.cond (fun h => h) .nil) (fun hG => (ox_mul .int .tmp (hb12 hG))) (j1 rfl) .nil rfl <| O4 rfl rfl rfl rfl (.cond (fun h => h) .nil) (fun hG => (ox_add .int .tmp (hb13 hG))) (j1 rfl) .nil rfl <| O4 rfl rfl rfl rfl (.cond (fun h => h) (.cond (fun h => h) .nil)) (fun hG => (ox_lss .tmp .tmp)) (j2 rfl rfl) .nil rfl <| O5 ox9 (j2 rfl rfl) .nil rfl <| O5 (ox0 .tmp) (.one rfl) .nil rfl <| O4 rfl rfl rfl rfl (.plain .nil) (fun hG => (ox3 Call_Name f33_1)) (j1 rfl) .nil rfl ?_
       refine O4 rfl rfl rfl rfl (.cond (fun h => h) .nil) (fun hG => (ox2 t3)) (j1 rfl) (.one rfl) rfl <| O4 rfl rfl rfl rfl (.plain .nil) (fun hG => (ox0 .tmp)) (j1 rfl) .nil rfl <| O4 rfl rfl rfl rfl (.cond (fun h => h) .nil) (fun hG => (ox_mul .int .tmp (hb14 hG))) (j1 rfl) .nil rfl <| O4 rfl rfl rfl rfl (.cond (fun h => h) .nil) (fun hG => (ox_add .int .tmp (hb15 hG))) (j1 rfl) .nil rfl <| O4 rfl rfl rfl rfl (.cond (fun h => h) (.cond (fun h => h) .nil)) (fun hG => (ox_gtr .tmp .tmp)) (j2 rfl rfl) .nil rfl <| O5 ox9 (j2 rfl rfl) .nil rfl ?_
       refine O5 (ox0 .tmp) (.one rfl) .nil rfl <| O4 rfl rfl rfl rfl (.plain .nil) (fun hG => (ox3 Call_Other f33_2)) (j1 rfl) .nil rfl <| O4 rfl rfl rfl rfl (.cond (fun h => h) .nil) (fun hG => (ox2 t3)) (j1 rfl) (.one rfl) rfl <| O4 rfl rfl rfl rfl (.cond (fun h => h) .nil) (fun hG => (ox_neq .tmp .int)) (j1 rfl) .nil rfl <| O5 ox9 (j2 rfl rfl) .nil rfl <| O5 (ox0 .tmp) (.one rfl) .nil rfl ?_
       refine O4 rfl rfl rfl rfl (.plain .nil) (fun hG => (ox3 Call_N f33_3)) (j1 rfl) .nil rfl <| O4 rfl rfl rfl rfl (.cond (fun h => h) .nil) (fun hG => (ox2 t3)) (j1 rfl) (.one rfl) rfl <| O4 rfl rfl rfl rfl (.cond (fun h => h) .nil) (fun hG => (ox_lss .tmp .int)) (j1 rfl) .nil rfl <| O5 ox9 (j2 rfl rfl) .nil rfl <| O5 (ox0 .tmp) (.one rfl) .nil rfl <| O4 rfl rfl rfl rfl (.plain .nil) (fun hG => (ox3 Call_N f33_3)) (j1 rfl) .nil rfl ?_
       refine O4 rfl rfl rfl rfl (.cond (fun h => h) .nil) (fun hG => (ox2 t3)) (j1 rfl) (.one rfl) rfl <| O4 rfl rfl rfl rfl (.cond (fun h => h) .nil) (fun hG => (ox_gtr .tmp .int)) (j1 rfl) .nil rfl <| O5 ox9 (j2 rfl rfl) .nil rfl <| O5 (ox0 .tmp) (.one rfl) .nil rfl <| O4 rfl rfl rfl rfl (.plain .nil) (fun hG => (ox3 Call_Kind f33_0)) (j1 rfl) .nil rfl <| O4 rfl rfl rfl rfl (.cond (fun h => h) .nil) (fun hG => (ox2 t3)) (j1 rfl) (.one rfl) rfl ?_
       refine O4 rfl rfl rfl rfl (.cond (fun h => h) .nil) (fun hG => (ox_neq .tmp .int)) (j1 rfl) .nil rfl <| O4 rfl rfl rfl rfl (.cond (fun h => h) .nil) (fun hG => (ox0 .tmp)) (j1 rfl) .nil rfl ?_
       refine Ops.guard2 rfl rfl rfl rfl (.plain .nil) (fun hG => (ox3 Call_Kind f33_0)) (j1 rfl) .nil rfl ?_
       refine Ops.guard2 rfl rfl rfl rfl (.cond (fun h => h) .nil) (fun hG => (ox2 t3)) (j1 rfl) (.one rfl) rfl ?_
       refine Ops.guard2 rfl rfl rfl rfl (.cond (fun h => h) .nil) (fun hG => (ox_neq .tmp .int)) (j1 rfl) .nil rfl ?_
       refine O4 rfl rfl rfl rfl (.cond (fun h => h) (.part (fun h => h) .nil)) (fun hG => ox8) (j2 rfl rfl) .nil rfl <| O4 rfl rfl rfl rfl (.cond (fun h => h) .nil) (fun hG => (ox0 .tmp)) (j1 rfl) .nil rfl ?_
       refine Ops.guard2 rfl rfl rfl rfl (.plain .nil) (fun hG => (ox3 Call_N f33_3)) (j1 rfl) .nil rfl ?_
       refine Ops.guard2 rfl rfl rfl rfl (.cond (fun h => h) .nil) (fun hG => (ox2 t3)) (j1 rfl) (.one rfl) rfl ?_
       refine Ops.guard2 rfl rfl rfl rfl (.cond (fun h => h) .nil) (fun hG => (ox_neq .tmp .int)) (j1 rfl) .nil rfl ?_
       refine O4 rfl rfl rfl rfl (.cond (fun h => h) (.part (fun h => h) .nil)) (fun hG => ox8) (j2 rfl rfl) .nil rfl <| O5 ox9 (j2 rfl rfl) .nil rfl <| O1 <| Q0 (σ' := ⟨[(0, _), (1, _), (2, _), (7, _), (8, _), (11, _), (38, _), (39, _), (40, _), (45, _), (46, _), (47, _), (104, .val (((((((((decide ((ix x45_m9 x47_m9).Kind < (1 : Int))) || (decide ((4 : Int) < (ix x45_m9 x47_m9).Kind))) || (decide ((ix x45_m9 x47_m9).Name < ((1 : Int) + ((100 : Int) * x8_m9))))) || (decide (((99 : Int) + ((100 : Int) * x8_m9)) < (ix x45_m9 x47_m9).Name))) || (!decide ((ix x45_m9 x47_m9).Other = (0 : Int)))) || (decide ((ix x45_m9 x47_m9).N < (-1000 : Int)))) || (decide ((1000 : Int) < (ix x45_m9 x47_m9).N))) || (((!decide ((ix x45_m9 x47_m9).Kind = (1 : Int))) && (!decide ((ix x45_m9 x47_m9).Kind = (4 : Int)))) && (!decide ((ix x45_m9 x47_m9).N = (0 : Int)))))))], [(11, _), (35, _)]⟩) ⟨rfl, rfl, rfl, rfl, rfl, rfl, rfl, rfl, rfl, rfl, rfl, rfl, rfl, trivial⟩ (j2 rfl rfl) ?_
       refine Q3 _ rfl (fun hc16 => ?_) (fun hc16 => ?_)
       ·replace hφ := if_then hφ hc16
        refine Q0 (σ' := ⟨[], []⟩) trivial trivial ?_
        refine Q2 (Q1 ?_)
        refine O5 (ox1 .bool) .nil .nil rfl <| O1 <| Q0 (σ' := ⟨[(6, .val (true))], []⟩) (j1 rfl) trivial ?_
        refine Q5 ?_
        obtain rfl := Option.some.inj hφ
        exact Q6 hw0 rfl (.tmp rfl rfl .nil) rfl
       ·replace hφ := if_else hφ hc16
        refine Q0 (σ' := ⟨[(0, _), (1, _), (2, _), (7, _), (8, _), (11, _), (38, _), (39, _), (40, _), (45, _), (46, _), (47, _)], [(11, _), (35, _)]⟩) (j12 rfl rfl rfl rfl rfl rfl rfl rfl rfl rfl rfl rfl) (j2 rfl rfl) ?_
        refine Q4 ?_
        refine Q1 ?_
        refine O5 (ox0 .tmp) (.one rfl) .nil rfl <| O5 (ox3 Call_Name f33_1) (.one rfl) .nil rfl <| O5 (ox2 t3) (.one rfl) (.one rfl) rfl <| O2 rfl rfl (ox_updB (x := .const (.bool true)) (by kernel_rfl) .tmp) (.cons rfl (.app (.one rfl) .nil)) (.one rfl) <| O1 <| Q0 (σ' := ⟨[(0, _), (1, _), (2, _), (7, _), (8, _), (38, _), (39, _), (40, _), (45, _), (46, _), (47, _)], [(35, .imap (bk (if (ix x45_m9 x47_m9).Name ∈ y35_m9 then y35_m9 else y35_m9 ++ [(ix x45_m9 x47_m9).Name])))]⟩) (j11 rfl rfl rfl rfl rfl rfl rfl rfl rfl rfl rfl) (j1 rfl) ?_
        obtain ⟨hb17, hφ⟩ := G_some hφ
        refine Q1 ?_
        refine O5 (ox_add .tmp .int hb17) (.app (.one rfl) .nil) .nil rfl <| O5 (ox0 .tmp) (.one rfl) .nil rfl <| O1 <| Q0 (σ' := ⟨[(0, _), (1, _), (2, _), (7, _), (8, _), (38, _), (39, _), (40, _), (45, _), (46, _), (47, .val (x47_m9 + (1 : Int)))], [(35, _)]⟩) (j11 rfl rfl rfl rfl rfl rfl rfl rfl rfl rfl rfl) (j1 rfl) ?_
        exact PT.next (m9, x0_m9, x1_m9, x2_m9, x8_m9, x38_m9, x39_m9, x40_m9, x45_m9, x46_m9, (x47_m9 + (1 : Int)), (if (ix x45_m9 x47_m9).Name ∈ y35_m9 then y35_m9 else y35_m9 ++ [(ix x45_m9 x47_m9).Name])) hφ (Nat.lt_succ_self _) (j11 rfl rfl rfl rfl rfl rfl rfl rfl rfl rfl rfl) (j1 rfl)
      ·replace hφ := if_else hφ hc10
       refine Q0 (σ' := ⟨[(0, _), (1, _), (2, _), (7, _), (38, _), (39, _), (40, _)], [(35, _)]⟩) (j7 rfl rfl rfl rfl rfl rfl rfl) (j1 rfl) ?_
       refine PT.exit ?_
       exact PT.meet (x0_m9, x1_m9, x2_m9, x38_m9, x39_m9, x40_m9, y35_m9) hφ (j7 rfl rfl rfl rfl rfl rfl rfl) (j1 rfl)
     ·rintro ⟨x0_k7, x1_k7, x2_k7, x38_k7, x39_k7, x40_k7, y35_k7⟩ hφ
      subst hk7
      refine Q0 (σ' := ⟨[(0, .val (x0_k7)), (1, .val (x1_k7)), (2, .val (x2_k7)), (7, _), (38, .val (x38_k7)), (39, .val (x39_k7)), (40, .val (x40_k7))], [(35, .imap (bk y35_k7))]⟩) (j7 rfl rfl rfl rfl rfl rfl rfl) (j1 rfl) ?_
      obtain ⟨hb18, hφ⟩ := G_some hφ
      refine Q1 ?_
      refine O5 (ox_add .tmp .int hb18) (.app (.one rfl) .nil) .nil rfl <| O5 (ox0 .tmp) (.one rfl) .nil rfl <| O1 <| Q0 (σ' := ⟨[(0, _), (1, _), (2, _), (7, _), (38, _), (39, _), (40, .val (x40_k7 + (1 : Int)))], [(35, _)]⟩) (j7 rfl rfl rfl rfl rfl rfl rfl) (j1 rfl) ?_
      exact PT.next (m5, x0_k7, x1_k7, x2_k7, x38_k7, x39_k7, (x40_k7 + (1 : Int)), y35_k7) hφ (Nat.lt_succ_self _) (j7 rfl rfl rfl rfl rfl rfl rfl) (j1 rfl)
    ·replace hφ := if_else hφ hc6
     refine Q0 (σ' := ⟨[(0, _), (1, _), (2, _), (7, _)], [(35, _)]⟩) (j4 rfl rfl rfl rfl) (j1 rfl) ?_
     refine PT.exit ?_
     exact PT.meet (x0_m5, x1_m5, x2_m5, y35_m5) hφ (j4 rfl rfl rfl rfl) (j1 rfl)
   ·rintro ⟨x0_k4, x1_k4, x2_k4, y35_k4⟩ hφ
    subst hk4
    refine Q0 (σ' := ⟨[(0, .val (x0_k4)), (1, .val (x1_k4)), (2, .val (x2_k4)), (7, .mp 35)], [(35, .imap (bk y35_k4))]⟩) (j4 rfl rfl rfl rfl) (j1 rfl) ?_
    refine Q2 (Q2 ?_)
    obtain ⟨hb19, hφ⟩ := G_some hφ
    refine Q1 ?_
    refine O5 (ox0 .tmp) (.one rfl) .nil rfl <| O5 (ox_lenSet (by kernel_rfl) hb19) (.one rfl) (.one rfl) rfl <| O5 (ox_gtr .tmp .int) (.app (.one rfl) .nil) .nil rfl <| O1 <| Q0 (σ' := ⟨[(0, _), (1, _), (2, _), (112, .val (decide ((5 : Int) < (y35_k4.length : Int))))], []⟩) (j4 rfl rfl rfl rfl) trivial ?_
    refine Q3 _ rfl (fun hc20 => ?_) (fun hc20 => ?_)
    ·replace hφ := if_then hφ hc20
     refine Q0 (σ' := ⟨[], []⟩) trivial trivial ?_
     refine Q2 (Q1 ?_)
     refine O5 (ox1 .bool) .nil .nil rfl <| O1 <| Q0 (σ' := ⟨[(6, .val (true))], []⟩) (j1 rfl) trivial ?_
     refine Q5 ?_
     obtain rfl := Option.some.inj hφ
     exact Q6 hw0 rfl (.tmp rfl rfl .nil) rfl
    ·replace hφ := if_else hφ hc20
     refine Q0 (σ' := ⟨[(0, _), (1, _), (2, _)], []⟩) (j3 rfl rfl rfl) trivial ?_
     refine Q4 ?_
     refine Q2 ?_
     obtain ⟨v21, hv21, hφ⟩ := B_some hφ
     obtain ⟨v22, hv22, hφ⟩ := B_some hφ
     obtain ⟨v23, hv23, hφ⟩ := B_some hφ
     refine Q1 ?_
     refine O5 (ox0 .tmp) (.one rfl) .nil rfl ?_
     refine Ops.putW rfl rfl (ox_callW keepG hw0 hG0 (c_text_Print hv21) (.cons .tmp .nil)) (.app (.one rfl) .nil) .nil rfl ?_
     refine O5 (ox0 .tmp) (.one rfl) .nil rfl ?_
     refine Ops.putW rfl rfl (ox_callW keepG hw0 hG0 (c_text_Print hv22) (.cons .tmp .nil)) (.app (.one rfl) .nil) .nil rfl ?_
     refine O5 (ox_buildSlice_val s24 z9 (.cons .tmp (.cons .tmp Parts.nil)) rfl (by decide)) (.app (.one rfl) (.app (.one rfl) .nil)) .nil rfl <| O5 (ox0 .tmp) (.one rfl) .nil rfl ?_
     refine Ops.putW rfl rfl (ox_callW keepG hw0 hG0 (c_mktop_settled hv23) (.cons .tmp (.cons .tmp .nil))) (.app (.one rfl) (.app (.one rfl) .nil)) .nil rfl ?_
     refine O5 (ox0 .tmp) (.one rfl) .nil rfl <| O5 (ox7 rfl) (.one rfl) .nil rfl <| O5 (ox7 rfl) (.one rfl) .nil rfl <| O3 rfl rfl (ox_alloc (id := 12) z43) .nil .nil rfl (by kernel_rfl) <| O2 rfl rfl (ox5 t43 .tmp) (.cons rfl (.one rfl)) (.one rfl) <| O5 (ox1 .tmp) (.one rfl) .nil rfl <| O1 <| Q0 (σ' := ⟨[(0, _), (1, _), (12, _), (13, .val (v23.2))], [(12, .var (v23.1) [])]⟩) (j4 rfl rfl rfl rfl) (j1 rfl) ?_
     refine Q2 ?_
     refine Q2 (Q1 ?_)
     refine O5 (ox0 .tmp) (.one rfl) .nil rfl <| O5 (ox_not .tmp) (.one rfl) .nil rfl <| O1 <| Q0 (σ' := ⟨[(0, _), (1, _), (12, _), (124, .val (!v23.2))], [(12, _)]⟩) (j4 rfl rfl rfl rfl) (j1 rfl) ?_
     refine Q3 _ rfl (fun hc24 => ?_) (fun hc24 => ?_)
     ·replace hφ := if_then hφ hc24
      refine Q0 (σ' := ⟨[], []⟩) trivial trivial ?_
      refine Q2 (Q1 ?_)
      refine O5 (ox1 .bool) .nil .nil rfl <| O1 <| Q0 (σ' := ⟨[(6, .val (false))], []⟩) (j1 rfl) trivial ?_
      refine Q5 ?_
      obtain rfl := Option.some.inj hφ
      exact Q6 hw0 rfl (.tmp rfl rfl .nil) rfl
     ·replace hφ := if_else hφ hc24
      refine Q0 (σ' := ⟨[(0, _), (1, _), (12, _)], [(12, _)]⟩) (j3 rfl rfl rfl) (j1 rfl) ?_
      refine Q4 ?_
      obtain ⟨k25, hk25, hφ⟩ := J_some hφ
      refine PT.cut (ι := Unit) (fun p => ⟨[], []⟩) (fun p => k25 () = some r) ?_ ?_
      ·skip
       refine Q2 (Q1 ?_)
       refine O5 (ox0 .tmp) (.one rfl) .nil rfl <| O5 (ox0 .tmp) (.one rfl) .nil rfl <| O5 (ox_buildSlice_val s55 z46 (.cons .tmp (.cons .tmp Parts.nil)) rfl (by decide)) (.app (.one rfl) (.app (.one rfl) .nil)) .nil rfl <| O5 (ox_len s55 .tmp) (.one rfl) .nil rfl <| O5 (ox0 .int) .nil .nil rfl <| O1 <| Q0 (σ' := ⟨[(12, _), (127, .val ([x0_k4, x1_k4] : List (List Mk.Call))), (128, .val (([x0_k4, x1_k4] : List (List Mk.Call)).length : Int)), (129, .val (0 : Int))], [(12, _)]⟩) (j4 rfl rfl rfl rfl) (j1 rfl) ?_
       refine PT.block ?_
       refine PT.loop (ι := Nat × (List (List Mk.Call)) × Int × Int × Mk.Machine) (fun p => ⟨[(12, .ptr 12 (Lens.id (α := Mk.Machine))), (127, .val (p.2.1)), (128, .val (p.2.2.1)), (129, .val (p.2.2.2.1))], [(12, .var (p.2.2.2.2) [])]⟩) (fun p => mktop_TopApart_l3 k25 p.1 (p.2.1) (p.2.2.1) (p.2.2.2.1) (p.2.2.2.2) = some r) (fun p => p.1) (((([x0_k4, x1_k4] : List (List Mk.Call)).length : Int) - (0 : Int)).toNat + 1, ([x0_k4, x1_k4] : List (List Mk.Call)), (([x0_k4, x1_k4] : List (List Mk.Call)).length : Int), (0 : Int), v23.1) hφ (j4 rfl rfl rfl rfl) (j1 rfl) ?_
       rintro ⟨m26, x127_m26, x128_m26, x129_m26, y12_m26⟩ (hφ : mktop_TopApart_l3 k25 m26 x127_m26 x128_m26 x129_m26 y12_m26 = some r)
       obtain _ | m26 := m26
       ·exact (none_no hφ).elim
       rw [mktop_TopApart_l3.eq_2] at hφ
       refine Q0 (σ' := ⟨[(12, .ptr 12 (Lens.id (α := Mk.Machine))), (127, .val (x127_m26)), (128, .val (x128_m26)), (129, .val (x129_m26))], [(12, .var (y12_m26) [])]⟩) (j4 rfl rfl rfl rfl) (j1 rfl) ?_
       refine Q2 (Q1 ?_)
       refine O5 (ox_lss .tmp .tmp) (.app (.one rfl) (.one rfl)) .nil rfl <| O1 <| Q0 (σ' := ⟨[(12, _), (127, _), (128, _), (129, _), (130, .val (decide (x129_m26 < x128_m26)))], [(12, _)]⟩) (j5 rfl rfl rfl rfl rfl) (j1 rfl) ?_
       refine Q2 ?_
       refine Q3 _ rfl (fun hc27 => ?_) (fun hc27 => ?_)
       ·replace hφ := if_then hφ hc27
        refine Q0 (σ' := ⟨[(12, _), (127, _), (128, _), (129, _)], [(12, _)]⟩) (j4 rfl rfl rfl rfl) (j1 rfl) ?_
        refine Q4 ?_
        obtain ⟨k28, hk28, hφ⟩ := J_some hφ
        refine PT.cut (ι := (List (List Mk.Call)) × Int × Int × Mk.Machine) (fun p => ⟨[(12, .ptr 12 (Lens.id (α := Mk.Machine))), (127, .val (p.1)), (128, .val (p.2.1)), (129, .val (p.2.2.1))], [(12, .var (p.2.2.2) [])]⟩) (fun p => k28 (p.1) (p.2.1) (p.2.2.1) (p.2.2.2) = some r) ?_ ?_
        ·skip
         refine PT.block ?_
         refine Q2 ?_
         obtain ⟨hb29, hφ⟩ := G_some hφ
         refine Q1 ?_
         refine O5 (ox0 .tmp) (.one rfl) .nil rfl <| O5 (ox_ix s55 .tmp .tmp hb29.1 hb29.2) (.app (.one rfl) (.one rfl)) .nil rfl <| O5 (ox_load_elem t46) (.one rfl) .nil rfl <| O5 (ox1 .tmp) (.one rfl) .nil rfl <| O5 (ox1 .tmp) (.one rfl) .nil rfl <| O1 <| Q0 (σ' := ⟨[(12, _), (14, .val (x129_m26)), (15, .val (ix x127_m26 x129_m26)), (127, _), (128, _), (129, _)], [(12, _)]⟩) (j6 rfl rfl rfl rfl rfl rfl) (j1 rfl) ?_
         refine Q2 ?_
         obtain ⟨v30, hv30, hφ⟩ := B_some hφ
         obtain ⟨v31, hv31, hφ⟩ := B_some hφ
         refine Q1 ?_
         refine O5 (ox0 .tmp) (.one rfl) .nil rfl ?_
         refine Ops.putW rfl rfl (ox_callW keepG hw0 hG0 (c_text_Print hv30) (.cons .tmp .nil)) (.app (.one rfl) .nil) .nil rfl ?_
         refine O5 (ox_buildSlice_val s24 z9 (.cons .tmp Parts.nil) rfl (by decide)) (.app (.one rfl) .nil) .nil rfl ?_
         refine Ops.putW rfl rfl (ox_callW keepG hw0 hG0 (c_mktop_settled hv31) (.cons .tmp (.cons (.nilL (α := Mk.Step)) .nil))) (.app (.one rfl) (.app .nil .nil)) .nil rfl ?_
         refine O5 (ox0 .tmp) (.one rfl) .nil rfl <| O5 (ox7 rfl) (.one rfl) .nil rfl <| O5 (ox7 rfl) (.one rfl) .nil rfl <| O3 rfl rfl (ox_alloc (id := 16) z43) .nil .nil rfl (by kernel_rfl) <| O2 rfl rfl (ox5 t43 .tmp) (.cons rfl (.one rfl)) (.one rfl) <| O5 (ox1 .tmp) (.one rfl) .nil rfl <| O1 <| Q0 (σ' := ⟨[(12, _), (14, _), (16, _), (17, .val (v31.2)), (127, _), (128, _), (129, _)], [(12, _), (16, .var (v31.1) [])]⟩) (j7 rfl rfl rfl rfl rfl rfl rfl) (j2 rfl rfl) ?_
         refine Q2 (Q2 ?_)
         obtain ⟨hb32, hφ⟩ := G_some hφ
         obtain ⟨hb33, hφ⟩ := G_some hφ
         refine Q8 hMixed (
           .cons (S5 (ox0 .tmp)) ⟨.one rfl, .nil⟩ (by kernel_rfl) rfl <|
           .cons (S5 (ox_not .tmp)) ⟨.one rfl, .nil⟩ (by kernel_rfl) rfl <|
           .cons (S5 (ox0 .tmp)) ⟨.one rfl, .nil⟩ (by kernel_rfl) rfl <|
           .cons (S3 rfl rfl rfl Grd.plain _ (by first | exact Iff.rfl | (simp; done) | (simp; intros; exact Iff.rfl)) (.plain .nil) (fun hG => (ox3 Machine_Clients f43_5))) ⟨(.cons rfl (j1 rfl)), .nil⟩ (by kernel_rfl) rfl <|
           .cons (S3 rfl rfl rfl Grd.plain _ (by first | exact Iff.rfl | (simp; done) | (simp; intros; exact Iff.rfl)) (.cond (fun h => h) .nil) (fun hG => (ox2 t41))) ⟨(.cons rfl (j1 rfl)), .one rfl⟩ (by kernel_rfl) rfl <|
           .cons (S3 rfl rfl rfl Grd.plain _ (by first | exact Iff.rfl | (simp; done) | (simp; intros; exact Iff.rfl)) (.cond (fun h => h) .nil) (fun hG => (ox_ix s41 .tmp .int (hb32 hG).1 (hb32 hG).2))) ⟨(.cons rfl (j1 rfl)), .nil⟩ (by kernel_rfl) rfl <|
           .cons (S3 rfl rfl rfl Grd.plain _ (by first | exact Iff.rfl | (simp; done) | (simp; intros; exact Iff.rfl)) (.cond (fun h => h) .nil) (fun hG => (ox_fieldAddr_elem Client_Got f49_5))) ⟨(.cons rfl (j1 rfl)), .nil⟩ (by kernel_rfl) rfl <|
           .cons (S3 rfl rfl rfl Grd.plain _ (by first | exact Iff.rfl | (simp; done) | (simp; intros; exact Iff.rfl)) (.cond (fun h => h) .nil) (fun hG => (ox_load_elem t47))) ⟨(.cons rfl (j1 rfl)), .nil⟩ (by kernel_rfl) rfl <|
           .cons (S3 rfl rfl rfl Grd.plain _ (by first | exact Iff.rfl | (simp; done) | (simp; intros; exact Iff.rfl)) (.cond (fun h => h) .nil) (fun hG => (ox_len s47 .tmp))) ⟨(.cons rfl (j1 rfl)), .nil⟩ (by kernel_rfl) rfl <|
           .cons (S3 rfl rfl rfl Grd.plain _ (by first | exact Iff.rfl | (simp; done) | (simp; intros; exact Iff.rfl)) (.plain .nil) (fun hG => (ox3 Machine_Clients f43_5))) ⟨(.cons rfl (j1 rfl)), .nil⟩ (by kernel_rfl) rfl <|
           .cons (S3 rfl rfl rfl Grd.plain _ (by first | exact Iff.rfl | (simp; done) | (simp; intros; exact Iff.rfl)) (.cond (fun h => h) .nil) (fun hG => (ox2 t41))) ⟨(.cons rfl (j1 rfl)), .one rfl⟩ (by kernel_rfl) rfl <|
           .cons (S3 rfl rfl rfl Grd.plain _ (by first | exact Iff.rfl | (simp; done) | (simp; intros; exact Iff.rfl)) (.plain .nil) (fun hG => (ox0 .tmp))) ⟨(.cons rfl (j1 rfl)), .nil⟩ (by kernel_rfl) rfl <|
           .cons (S3 rfl rfl rfl Grd.plain _ (by first | exact Iff.rfl | (simp; done) | (simp; intros; exact Iff.rfl)) (.cond (fun h => h) (.cond (fun h => h) .nil)) (fun hG => (ox_ix s41 .tmp .tmp (hb33 hG).1 (hb33 hG).2))) ⟨(.cons rfl (j2 rfl rfl)), .nil⟩ (by kernel_rfl) rfl <|
           .cons (S3 rfl rfl rfl Grd.plain _ (by first | exact Iff.rfl | (simp; done) | (simp; intros; exact Iff.rfl)) (.cond (fun h => h) .nil) (fun hG => (ox_fieldAddr_elem Client_Got f49_5))) ⟨(.cons rfl (j1 rfl)), .nil⟩ (by kernel_rfl) rfl <|
           .cons (S3 rfl rfl rfl Grd.plain _ (by first | exact Iff.rfl | (simp; done) | (simp; intros; exact Iff.rfl)) (.cond (fun h => h) .nil) (fun hG => (ox_load_elem t47))) ⟨(.cons rfl (j1 rfl)), .nil⟩ (by kernel_rfl) rfl <|
           .cons (S3 rfl rfl rfl Grd.plain _ (by first | exact Iff.rfl | (simp; done) | (simp; intros; exact Iff.rfl)) (.cond (fun h => h) .nil) (fun hG => (ox_len s47 .tmp))) ⟨(.cons rfl (j1 rfl)), .nil⟩ (by kernel_rfl) rfl <|
           .cons (S3 rfl rfl rfl Grd.plain _ (by first | exact Iff.rfl | (simp; done) | (simp; intros; exact Iff.rfl)) (.cond (fun h => h) (.cond (fun h => h) .nil)) (fun hG => (ox_neq .tmp .tmp))) ⟨(.cons rfl (j2 rfl rfl)), .nil⟩ (by kernel_rfl) rfl <|
           .cons (S5 ox9) ⟨(j2 rfl rfl), .nil⟩ (by kernel_rfl) rfl <|
           .nil) _ [[], [0], [0, 1], [0, 1, 2], [0, 1, 2, 3], [0, 1, 2, 3, 4], [0, 1, 2, 3, 4, 5], [0, 1, 2, 3, 4, 5, 6], [0, 1, 2, 3, 4, 5, 6, 7], [0, 1, 2], [0, 1, 2, 9], [0, 1, 2], [0, 1, 2, 9, 10, 11], [0, 1, 2, 9, 10, 11, 12], [0, 1, 2, 9, 10, 11, 12, 13], [0, 1, 2, 9, 10, 11, 12, 13, 14], [0, 1, 2, 3, 4, 5, 6, 7, 8, 9, 10, 11, 12, 13, 14, 15], [0, 1, 2, 3, 4, 5, 6, 7, 8, 9, 10, 11, 12, 13, 14, 15, 16]] rfl (by kernel_rfl) (by kernel_rfl) ?_
         refine Q0 (σ' := ⟨[(12, _), (14, _), (16, _), (127, _), (128, _), (129, _), (158, .val (((!v31.2) || (!decide (((ix v31.1.Clients (0 : Int)).Got.length : Int) = ((ix y12_m26.Clients x129_m26).Got.length : Int))))))], [(12, _), (16, _)]⟩) (j7 rfl rfl rfl rfl rfl rfl rfl) (j2 rfl rfl) ?_
         refine Q3 _ rfl (fun hc34 => ?_) (fun hc34 => ?_)
         ·replace hφ := if_then hφ hc34
          refine Q0 (σ' := ⟨[], []⟩) trivial trivial ?_
          refine Q2 (Q1 ?_)
          refine O5 (ox1 .bool) .nil .nil rfl <| O1 <| Q0 (σ' := ⟨[(6, .val (false))], []⟩) (j1 rfl) trivial ?_
          refine Q5 ?_
          obtain rfl := Option.some.inj hφ
          exact Q6 hw0 rfl (.tmp rfl rfl .nil) rfl
         ·replace hφ := if_else hφ hc34
          refine Q0 (σ' := ⟨[(12, _), (14, _), (16, _), (127, _), (128, _), (129, _)], [(12, _), (16, _)]⟩) (j6 rfl rfl rfl rfl rfl rfl) (j2 rfl rfl) ?_
          refine Q4 ?_
          refine Q2 ?_
          obtain ⟨hb35, hφ⟩ := G_some hφ
          refine Q1 ?_
          refine O5 (ox3 Machine_Clients f43_5) (.one rfl) .nil rfl <| O5 (ox2 t41) (.one rfl) (.one rfl) rfl <| O5 (ox_ix s41 .tmp .int hb35.1 hb35.2) (.app (.one rfl) .nil) .nil rfl <| O5 (ox_fieldAddr_elem Client_Got f49_5) (.one rfl) .nil rfl <| O5 (ox_load_elem t47) (.one rfl) .nil rfl <| O5 (ox_len s47 .tmp) (.one rfl) .nil rfl ?_
          refine O5 (ox0 .int) .nil .nil rfl <| O1 <| Q0 (σ' := ⟨[(12, _), (14, _), (127, _), (128, _), (129, _), (163, .val ((ix v31.1.Clients (0 : Int)).Got)), (164, .val ((ix v31.1.Clients (0 : Int)).Got.length : Int)), (165, .val (0 : Int))], [(12, _)]⟩) (j8 rfl rfl rfl rfl rfl rfl rfl rfl) (j1 rfl) ?_
          refine PT.block ?_
          refine PT.loop (ι := Nat × Int × (List (List Mk.Call)) × Int × Int × (List Mk.Reply) × Int × Int × Mk.Machine) (fun p => ⟨[(12, .ptr 12 (Lens.id (α := Mk.Machine))), (14, .val (p.2.1)), (127, .val (p.2.2.1)), (128, .val (p.2.2.2.1)), (129, .val (p.2.2.2.2.1)), (163, .val (p.2.2.2.2.2.1)), (164, .val (p.2.2.2.2.2.2.1)), (165, .val (p.2.2.2.2.2.2.2.1))], [(12, .var (p.2.2.2.2.2.2.2.2) [])]⟩) (fun p => mktop_TopApart_l4 k28 p.1 (p.2.1) (p.2.2.1) (p.2.2.2.1) (p.2.2.2.2.1) (p.2.2.2.2.2.1) (p.2.2.2.2.2.2.1) (p.2.2.2.2.2.2.2.1) (p.2.2.2.2.2.2.2.2) = some r) (fun p => p.1) ((((ix v31.1.Clients (0 : Int)).Got.length : Int) - (0 : Int)).toNat + 1, x129_m26, x127_m26, x128_m26, x129_m26, (ix v31.1.Clients (0 : Int)).Got, ((ix v31.1.Clients (0 : Int)).Got.length : Int), (0 : Int), y12_m26) hφ (j8 rfl rfl rfl rfl rfl rfl rfl rfl) (j1 rfl) ?_
          rintro ⟨m36, x14_m36, x127_m36, x128_m36, x129_m36, x163_m36, x164_m36, x165_m36, y12_m36⟩ (hφ : mktop_TopApart_l4 k28 m36 x14_m36 x127_m36 x128_m36 x129_m36 x163_m36 x164_m36 x165_m36 y12_m36 = some r)
          obtain _ | m36 := m36
          ·exact (none_no hφ).elim
          rw [mktop_TopApart_l4.eq_2] at hφ
          refine Q0 (σ' := ⟨[(12, _), (14, .val (x14_m36)), (127, .val (x127_m36)), (128, .val (x128_m36)), (129, .val (x129_m36)), (163, .val (x163_m36)), (164, .val (x164_m36)), (165, .val (x165_m36))], [(12, .var (y12_m36) [])]⟩) (j8 rfl rfl rfl rfl rfl rfl rfl rfl) (j1 rfl) ?_
          refine Q2 (Q1 ?_)
          refine O5 (ox_lss .tmp .tmp) (.app (.one rfl) (.one rfl)) .nil rfl <| O1 <| Q0 (σ' := ⟨[(12, _), (14, _), (127, _), (128, _), (129, _), (163, _), (164, _), (165, _), (166, .val (decide (x165_m36 < x164_m36)))], [(12, _)]⟩) (j9 rfl rfl rfl rfl rfl rfl rfl rfl rfl) (j1 rfl) ?_
          refine Q2 ?_
          refine Q3 _ rfl (fun hc37 => ?_) (fun hc37 => ?_)
          ·replace hφ := if_then hφ hc37
           refine Q0 (σ' := ⟨[(12, _), (14, _), (127, _), (128, _), (129, _), (163, _), (164, _), (165, _)], [(12, _)]⟩) (j8 rfl rfl rfl rfl rfl rfl rfl rfl) (j1 rfl) ?_
           refine Q4 ?_
           refine Q2 ?_
           refine PT.block ?_
           refine Q2 ?_
           obtain ⟨hb38, hφ⟩ := G_some hφ
           refine Q1 ?_
           refine O5 (ox0 .tmp) (.one rfl) .nil rfl <| O5 (ox_ix s47 .tmp .tmp hb38.1 hb38.2) (.app (.one rfl) (.one rfl)) .nil rfl <| O5 (ox_load_elem t38) (.one rfl) .nil rfl <| O3 rfl rfl (ox_alloc (id := 19) z38) .nil .nil rfl (by kernel_rfl) <| O5 (ox1 .tmp) (.one rfl) .nil rfl <| O2 rfl rfl (ox5 t38 .tmp) (.cons rfl (.one rfl)) (.one rfl) <| O1 <| Q0 (σ' := ⟨[(12, _), (14, _), (18, .val (x165_m36)), (19, _), (127, _), (128, _), (129, _), (163, _), (164, _), (165, _)], [(12, _), (19, .var (ix x163_m36 x165_m36) [])]⟩) (j10 rfl rfl rfl rfl rfl rfl rfl rfl rfl rfl) (j2 rfl rfl) ?_
           refine Q2 ?_
           obtain ⟨hb39, hφ⟩ := G_some hφ
           obtain ⟨hb40, hφ⟩ := G_some hφ
           refine Q8 hMixed (
             .cons (S5 (ox3 Machine_Clients f43_5)) ⟨.one rfl, .nil⟩ (by kernel_rfl) rfl <|
             .cons (S5 (ox2 t41)) ⟨.one rfl, .one rfl⟩ (by kernel_rfl) rfl <|
             .cons (S5 (ox0 .tmp)) ⟨.one rfl, .nil⟩ (by kernel_rfl) rfl <|
             .cons (S5 (ox_ix s41 .tmp .tmp hb39.1 hb39.2)) ⟨(.app (.one rfl) (.one rfl)), .nil⟩ (by kernel_rfl) rfl <|
             .cons (S5 (ox_fieldAddr_elem Client_Got f49_5)) ⟨.one rfl, .nil⟩ (by kernel_rfl) rfl <|
             .cons (S5 (ox_load_elem t47)) ⟨.one rfl, .nil⟩ (by kernel_rfl) rfl <|
             .cons (S5 (ox0 .tmp)) ⟨.one rfl, .nil⟩ (by kernel_rfl) rfl <|
             .cons (S5 (ox_ix s47 .tmp .tmp hb40.1 hb40.2)) ⟨(.app (.one rfl) (.one rfl)), .nil⟩ (by kernel_rfl) rfl <|
             .cons (S5 (ox_load_elem t38)) ⟨.one rfl, .nil⟩ (by kernel_rfl) rfl <|
             .cons (S5 (ox4 t38)) ⟨.one rfl, .one rfl⟩ (by kernel_rfl) rfl <|
             .cons (S5 (ox_neqT e38 .tmp .tmp)) ⟨(.app (.one rfl) (.one rfl)), .nil⟩ (by kernel_rfl) rfl <|
             .nil) _ [[], [0], [], [0, 1, 2], [0, 1, 2, 3], [0, 1, 2, 3, 4], [], [0, 1, 2, 3, 4, 5, 6], [0, 1, 2, 3, 4, 5, 6, 7], [], [0, 1, 2, 3, 4, 5, 6, 7, 8, 9]] rfl (by kernel_rfl) (by kernel_rfl) ?_
           refine Q0 (σ' := ⟨[(12, _), (14, _), (127, _), (128, _), (129, _), (163, _), (164, _), (165, _), (180, .val (!decide ((ix (ix y12_m36.Clients x14_m36).Got x165_m36) = (ix x163_m36 x165_m36))))], [(12, _)]⟩) (j9 rfl rfl rfl rfl rfl rfl rfl rfl rfl) (j1 rfl) ?_
           refine Q3 _ rfl (fun hc41 => ?_) (fun hc41 => ?_)
           ·replace hφ := if_then hφ hc41
            refine Q0 (σ' := ⟨[], []⟩) trivial trivial ?_
            refine Q2 (Q1 ?_)
            refine O5 (ox1 .bool) .nil .nil rfl <| O1 <| Q0 (σ' := ⟨[(6, .val (false))], []⟩) (j1 rfl) trivial ?_
            refine Q5 ?_
            obtain rfl := Option.some.inj hφ
            exact Q6 hw0 rfl (.tmp rfl rfl .nil) rfl
           ·replace hφ := if_else hφ hc41
            refine Q0 (σ' := ⟨[(12, _), (14, _), (127, _), (128, _), (129, _), (163, _), (164, _), (165, _)], [(12, _)]⟩) (j8 rfl rfl rfl rfl rfl rfl rfl rfl) (j1 rfl) ?_
            refine Q4 ?_
            obtain ⟨hb42, hφ⟩ := G_some hφ
            refine Q1 ?_
            refine O5 (ox_add .tmp .int hb42) (.app (.one rfl) .nil) .nil rfl <| O5 (ox0 .tmp) (.one rfl) .nil rfl <| O1 <| Q0 (σ' := ⟨[(12, _), (14, _), (127, _), (128, _), (129, _), (163, _), (164, _), (165, .val (x165_m36 + (1 : Int)))], [(12, _)]⟩) (j8 rfl rfl rfl rfl rfl rfl rfl rfl) (j1 rfl) ?_
            exact PT.next (m36, x14_m36, x127_m36, x128_m36, x129_m36, x163_m36, x164_m36, (x165_m36 + (1 : Int)), y12_m36) hφ (Nat.lt_succ_self _) (j8 rfl rfl rfl rfl rfl rfl rfl rfl) (j1 rfl)
          ·replace hφ := if_else hφ hc37
           refine Q0 (σ' := ⟨[(12, _), (127, _), (128, _), (129, _)], [(12, _)]⟩) (j4 rfl rfl rfl rfl) (j1 rfl) ?_
           refine PT.exit ?_
           exact PT.meet (x127_m36, x128_m36, x129_m36, y12_m36) hφ (j4 rfl rfl rfl rfl) (j1 rfl)
        ·rintro ⟨x127_k28, x128_k28, x129_k28, y12_k28⟩ hφ
         subst hk28
         refine Q0 (σ' := ⟨[(12, _), (127, .val (x127_k28)), (128, .val (x128_k28)), (129, .val (x129_k28))], [(12, .var (y12_k28) [])]⟩) (j4 rfl rfl rfl rfl) (j1 rfl) ?_
         obtain ⟨hb43, hφ⟩ := G_some hφ
         refine Q1 ?_
         refine O5 (ox_add .tmp .int hb43) (.app (.one rfl) .nil) .nil rfl <| O5 (ox0 .tmp) (.one rfl) .nil rfl <| O1 <| Q0 (σ' := ⟨[(12, _), (127, _), (128, _), (129, .val (x129_k28 + (1 : Int)))], [(12, _)]⟩) (j4 rfl rfl rfl rfl) (j1 rfl) ?_
         exact PT.next (m26, x127_k28, x128_k28, (x129_k28 + (1 : Int)), y12_k28) hφ (Nat.lt_succ_self _) (j4 rfl rfl rfl rfl) (j1 rfl)
       ·replace hφ := if_else hφ hc27
        refine Q0 (σ' := ⟨[], []⟩) trivial trivial ?_
        refine PT.exit ?_
        exact PT.meet () hφ trivial trivial
      ·rintro ⟨⟩ hφ
       subst hk25
       refine Q0 (σ' := ⟨[], []⟩) trivial trivial ?_
       refine Q2 (Q1 ?_)
       refine O5 (ox1 .bool) .nil .nil rfl <| O1 <| Q0 (σ' := ⟨[(6, .val (true))], []⟩) (j1 rfl) trivial ?_
       refine Q5 ?_
       obtain rfl := Option.some.inj hφ
       exact Q6 hw0 rfl (.tmp rfl rfl .nil) rfl
end Go.Gx
end
section
namespace Go.Gx
open Go.RowKit Go.ChangeShapes Go.WideShapes Sp
def full (w : World) : PH := fun b o => w.cell? ⟨b, o, none⟩
theorem full_on (w : World) : (full w).on w := fun b o v h => h
structure Opn (P : Program) (T : TypeId) (α : Type) [GoTy α] : Prop where
 sz : P.cellsOf T = GoTy.sz α
 run : ∀ {H : Type} (enc : TypeId × Value → H) (w : World) (spare : Nat → Bool) (fuel : Nat) (cs : List Value) (d : DataW H × List MemPlace),
  DataW.trod enc P w 0 spare true fuel T cs = some d → ∃ y : α, GoTy.rep (full w) y cs
section
variable {P : Program}
theorem Opn.int {T : TypeId} (hu : P.underlying T = some (.int .i64)) (hs : P.cellsOf T = 1) : Opn P T Int :=
 ⟨hs, fun enc w spare fuel cs d h => by
  obtain ⟨n, rfl, _, hw⟩ := DataW.trod_int hu h
  refine ⟨n, rfl, ?_⟩
  simpa [Lit.wf, IntKind.min, IntKind.max, IntKind.signed, IntKind.bits, I64] using hw⟩
theorem Opn.u8 {T : TypeId} (hu : P.underlying T = some (.int .u8)) (hs : P.cellsOf T = 1) : Opn P T UInt8 :=
 ⟨hs, fun enc w spare fuel cs d h => by
  obtain ⟨n, rfl, _, hw⟩ := DataW.trod_int hu h
  have h2 : 0 ≤ n ∧ n ≤ 255 := by simpa [Lit.wf, IntKind.min, IntKind.max, IntKind.signed, IntKind.bits] using hw
  refine ⟨UInt8.ofNat n.toNat, ?_⟩
  show [Value.int .u8 n] = [Value.int .u8 ((UInt8.ofNat n.toNat).toNat : Int)]
  have e : (UInt8.ofNat n.toNat).toNat = n.toNat := Nat.mod_eq_of_lt (by omega)
  rw [e, Int.toNat_of_nonneg h2.1]⟩
theorem Opn.bool {T : TypeId} (hu : P.underlying T = some .bool) (hs : P.cellsOf T = 1) : Opn P T Bool :=
 ⟨hs, fun enc w spare fuel cs d h => by
  obtain ⟨b, rfl, _⟩ := DataW.trod_bool hu h
  exact ⟨b, rfl⟩⟩
def OpnRow (P : Program) (fs : List Field) (off : Nat) (α : Type) [GoTy α] : Prop :=
 ∀ {H : Type} (enc : TypeId × Value → H) (w : World) (spare : Nat → Bool) (n : Nat) (cs : List Value),
  (∀ f ∈ fs, ∃ d, DataW.trod enc P w 0 spare true n f.type ((cs.drop f.offset).take (P.cellsOf f.type)) = some d) → ∃ y : α, GoTy.rep (full w) y ((cs.drop off).take (GoTy.sz α))
theorem OpnRow.one {off : Nat} {f : Field} {α : Type} [GoTy α] (ho : f.offset = off) (h : Opn P f.type α) : OpnRow P [f] off α := fun enc w spare n cs hd => by
 obtain ⟨d, hd⟩ := hd f (by simp)
 rw [ho, h.sz] at hd
 exact h.run enc w spare n _ d hd
theorem OpnRow.cons {off : Nat} {f : Field} {fs : List Field} {α β : Type} [GoTy α] [GoTy β] (ho : f.offset = off) (h : Opn P f.type α) (hr : OpnRow P fs (off + GoTy.sz α) β) : OpnRow P (f :: fs) off (α × β) := fun enc w spare n cs hd => by
 obtain ⟨d, h1⟩ := hd f (by simp)
 rw [ho, h.sz] at h1
 obtain ⟨y, hy⟩ := h.run enc w spare n _ d h1
 obtain ⟨z, hz⟩ := hr enc w spare n cs (fun g hg => hd g (by simp [hg]))
 refine ⟨(y, z), _, _, ?_, hy, hz⟩
 show (cs.drop off).take (GoTy.sz α + GoTy.sz β) = _
 rw [List.take_add, List.drop_drop]
theorem Opn.struct {T : TypeId} {α β : Type} [GoTy α] [GoTy β] {fs : Array Field} (g : β → α) (hrep : ∀ ph y vs, GoTy.rep (α := β) ph y vs → GoTy.rep ph (g y) vs) (hsz : P.cellsOf T = GoTy.sz α) (hszb : GoTy.sz α = GoTy.sz β)
  (hu : P.underlying T = some (.struct fs)) (hr : OpnRow P fs.toList 0 β) : Opn P T α :=
 ⟨hsz, fun enc w spare fuel cs d h => by
  obtain ⟨xs, n, rfl, _, hl, hx, hi⟩ := DataW.trod_struct hu h
  obtain ⟨y, hy⟩ := hr enc w spare n cs (fun f hf => by
   obtain ⟨i, hi', hfi⟩ := List.getElem_of_mem hf
   have h2 := hi i f (by simpa using List.getElem?_eq_some_iff.2 ⟨hi', hfi⟩)
   have hlt : i < xs.length := by rw [hx]; simpa using hi'
   exact ⟨xs[i], by rw [h2]; simp [hlt]⟩)
  refine ⟨g y, hrep _ _ _ ?_⟩
  have : (cs.drop 0).take (GoTy.sz β) = cs := by rw [List.drop_zero, List.take_of_length_le (by omega)]
  rwa [this] at hy⟩
theorem cell_spot {w : World} {a : Addr} {u : Value} (h : w.cell? a = some u) : a.spot = none := by
 unfold World.cell? at h
 split at h
 ·split at h
  ·cases h
  ·rename_i hs; simpa using hs
 ·cases h
theorem add_add_cell {w : World} {a : Addr} {k j : Nat} {u : Value} (h : w.cell? ((a.add k).add j) = some u) : full w a.block (a.off + k + j) = some u := by
 have hs := cell_spot h
 have e : (a.add k).add j = ⟨a.block, a.off + k + j, none⟩ := by
  revert hs
  unfold Addr.add
  by_cases hk : k = 0 <;> by_cases hj : j = 0 <;> simp [hk, hj] <;> (try (cases a; simp))
 rw [e] at h; exact h
theorem cells_get {w : World} {a : Addr} {k n : Nat} {cs : List Value} (h : w.cells? 0 (a.add k) n = some cs) : ∀ j u, cs[j]? = some u → full w a.block (a.off + k + j) = some u := fun j u hu => by
 unfold World.cells? at h
 rw [if_pos (Nat.zero_le _)] at h
 have hl := mapM_some_length h
 have hj : j < n := by
  have := (List.getElem?_eq_some_iff.1 hu).1
  rw [hl] at this; simpa using this
 have := mapM_some_get h j j (by simp [hj])
 rw [hu] at this
 exact add_add_cell this
theorem spot_of_cells {w : World} {a : Addr} {n : Nat} {cs : List Value} (hn : 0 < n) (h : w.cells? 0 (a.add 0) n = some cs) : a.spot = none := by
 unfold World.cells? at h
 rw [if_pos (Nat.zero_le _)] at h
 have hl := mapM_some_length h
 have := mapM_some_get h 0 0 (by simp [hn])
 have hc : (cs[0]?) = some (cs[0]'(by rw [hl]; simpa using hn)) := by simp
 rw [hc] at this
 have := cell_spot this
 simpa [Addr.add] using this
theorem Opn.slice_run {T E : TypeId} {α : Type} [GoTy α] (hE : Opn P E α) (hu : P.underlying T = some (.slice E)) {H : Type} (enc : TypeId × Value → H) (w : World) (spare : Nat → Bool) (fuel : Nat) (cs : List Value) (d : DataW H × List MemPlace)
  (h : DataW.trod enc P w 0 spare true fuel T cs = some d) : ∃ y : List α, GoTy.rep (full w) y cs ∧ ∀ n, (∀ m ∈ d.1.weights P T, m ≤ n) → y.length * P.bytesOf E ≤ n := by
  rcases DataW.trod_slice hu h with ⟨rfl, _⟩ | ⟨a, len, cap, elems, rest, n, rfl, rfl, hdx, _, h1, h2, h3, h4, _, _⟩
  ·exact ⟨[], ⟨_, rfl, repS_nil _⟩, fun n _ => by rw [List.length_nil, Nat.zero_mul]; exact Nat.zero_le _⟩
  ·have hpos := GoTy.pos (α := α)
   rw [hE.sz] at h4
   have one : ∀ i, i < len → ∃ c d, w.cells? 0 (a.add (i * GoTy.sz α)) (GoTy.sz α) = some c ∧ DataW.trod enc P w 0 spare true n E c = some d := by
    intro i hi
    have := h4 i hi
    rw [show elems[i]? = some (elems[i]'(by omega)) from by simp [h3, hi]] at this
    simp only [Option.bind_eq_some_iff] at this
    obtain ⟨c, e1, e2⟩ := this
    exact ⟨c, _, e1, e2⟩
   have all : ∀ m i, i + m = len → ∃ (ys : List α) (r : List Value), ys.length = m ∧ RepL (full w) ys r ∧ ∀ j u, r[j]? = some u → full w a.block (a.off + i * GoTy.sz α + j) = some u := by
    intro m
    induction m with
    | zero => intro i _; exact ⟨[], [], rfl, rfl, fun j u hu => by simp at hu⟩
    | succ m ih =>
     intro i hi
     obtain ⟨c, d, e1, e2⟩ := one i (by omega)
     obtain ⟨y, hy⟩ := hE.run enc w spare n c d e2
     obtain ⟨ys, r, f1, f2, f3⟩ := ih (i + 1) (by omega)
     have hcl := GoTy.len hy
     refine ⟨y :: ys, c ++ r, by simp [f1], ⟨c, r, rfl, hy, f2⟩, fun j u hu => ?_⟩
     by_cases hj : j < c.length
     ·rw [List.getElem?_append_left hj] at hu
      exact cells_get e1 j u hu
     ·rw [List.getElem?_append_right (by omega)] at hu
      have := f3 _ u hu
      rw [hcl, Nat.add_mul, Nat.one_mul] at this
      rw [show a.off + i * GoTy.sz α + j = a.off + (i * GoTy.sz α + GoTy.sz α) + (j - GoTy.sz α) from by omega]
      exact this
   obtain ⟨ys, r, f1, f2, f3⟩ := all len 0 (by omega)
   refine ⟨ys, ?_, fun n hn => ?_⟩
   rotate_left
   ·have := hn ((elems.length + rest.length) * P.bytesOf E) (by
     rw [hdx]
     show _ ∈ DataW.weights P T (DataW.slice (elems.map (·.1)) (rest.map (·.1)))
     rw [DataW.weights, hu]
     simp)
    rw [f1, ← h3]
    exact Nat.le_trans (Nat.mul_le_mul_right _ (by omega)) this
   refine ⟨_, rfl, some a, cap, r, by rw [f1], by omega, by unfold maxLen at h2; omega, f2, fun e => (by cases e), ?_⟩
   by_cases h0 : len = 0
   ·left
    have := f2.len
    rw [f1, h0, Nat.zero_mul] at this
    exact List.eq_nil_of_length_eq_zero this
   ·right
    obtain ⟨c, d, e1, e2⟩ := one 0 (by omega)
    rw [Nat.zero_mul] at e1
    have hsp := spot_of_cells hpos e1
    refine ⟨a.block, a.off, by cases a; simp_all, fun j u hu => ?_⟩
    have := f3 j u hu
    simpa using this
theorem Opn.slice {T E : TypeId} {α : Type} [GoTy α] (hE : Opn P E α) (hu : P.underlying T = some (.slice E)) (hs : P.cellsOf T = 1) : Opn P T (List α) :=
 ⟨hs, fun {H} enc w spare fuel cs d h => by
  obtain ⟨y, hy, _⟩ := hE.slice_run hu enc w spare fuel cs d h
  exact ⟨y, hy⟩⟩
theorem Opn.top_cell {T : TypeId} {α : Type} [GoTy α] (h : Opn P T α) (hagg : GoTy.agg α = false) (hu : (∃ k, P.underlying T = some (.int k)) ∨ P.underlying T = some .bool ∨ (∃ e, P.underlying T = some (.slice e)) ∨ P.underlying T = some .string) {W : World} {b : Nat} {v : Value}
  (hok : Value.okWide P W .any b T v) {H : Type} {enc : TypeId × Value → H} {d : DataW H} {p : List MemPlace} (ht : DataW.Trod enc P W 0 (fun _ => true) true T v d p) : ∃ y : α, (Desc.val y).holds (base (full W)) v := by
 obtain ⟨fuel, ht⟩ := ht
 obtain ⟨y, hy⟩ := h.run enc W _ fuel _ _ ht
 have hv : v.cells = #[v] := by
  cases v with
  | agg cs =>
   exfalso
   rcases hu with ⟨k, hu⟩ | hu | ⟨e, hu⟩ | hu <;> simp [Value.okWide, Cell.okWide, Cell.ok, hu] at hok
  | _ => rfl
 rw [hv] at hy
 exact ⟨y, _, hy, by simp [mkVal, hagg]⟩
end
end Go.Gx
end
section
namespace Go.Gx
theorem o3 : Opn Go.Proofs.Tryz.prog 3 Int := Opn.int (by kernel_rfl) (by kernel_rfl)
theorem o77 : Opn Go.Proofs.Tryz.prog 77 Mk.Step := Opn.struct (β := Int × Int) (fun y : Int × Int => (⟨y.1, y.2⟩ : Mk.Step)) (fun _ _ _ h => h) (by kernel_rfl) rfl Go.Proofs.Tryz.underlying77 (OpnRow.cons rfl o3 (OpnRow.one rfl o3))
theorem o22 : Opn Go.Proofs.Tryz.prog 22 (List Mk.Step) := Opn.slice o77 (by kernel_rfl) (by kernel_rfl)
theorem o33 : Opn Go.Proofs.Tryz.prog 33 Mk.Call := Opn.struct (β := Int × Int × Int × Int) (fun y : Int × Int × Int × Int => (⟨y.1, y.2.1, y.2.2.1, y.2.2.2⟩ : Mk.Call)) (fun _ _ _ h => h) (by kernel_rfl) rfl Go.Proofs.Tryz.underlying33 (OpnRow.cons rfl o3 (OpnRow.cons rfl o3 (OpnRow.cons rfl o3 (OpnRow.one rfl o3))))
theorem o46 : Opn Go.Proofs.Tryz.prog 46 (List Mk.Call) := Opn.slice o33 (by kernel_rfl) (by kernel_rfl)
end Go.Gx
end
section
namespace Sp
theorem G_on {α : Type} {p : Prop} [Decidable p] {k : Option α} (h : p) : G p k = k := by unfold G; rw [if_pos h]
theorem Cn_yes {α : Type} [Inhabited α] {p : Prop} [Decidable p] {k : Option α} (h : p) : Cn p k = k := by unfold Cn; rw [if_pos h]
theorem Cn_no {α : Type} [Inhabited α] {p : Prop} [Decidable p] {k : Option α} (h : ¬ p) : Cn p k = some default := by unfold Cn; rw [if_neg h]
def pos : List Mk.Write → Int → Int
 | [], _ => -1
 | w :: l, x => if w.At = x then 0 else (if pos l x < 0 then -1 else pos l x + 1)
theorem pos_range (l : List Mk.Write) (x : Int) : -1 ≤ pos l x ∧ pos l x < l.length := by
 induction l with
 | nil => simp [pos]
 | cons w l ih =>
  simp only [pos, List.length_cons]
  split
  ·omega
  ·split <;> omega
structure Rt (c : List Int) (l : List Mk.Write) : Prop where
 len : c.length = 11
 n : ix c 0 = l.length
 le : l.length ≤ 5
 ats : ∀ i : Nat, i < l.length → ix c (1 + 2 * (i : Int)) = (ix l i).At ∧ ix c (2 + 2 * (i : Int)) = (ix l i).N
 at1 : ∀ w ∈ l, 1 ≤ w.At ∧ w.At ≤ 255 ∧ -1073741824 ≤ w.N ∧ w.N ≤ 1073741824
 nodup : (l.map (·.At)).Nodup
theorem ix_drop {α : Type} [Inhabited α] (l : List α) (i : Nat) (h : i < l.length) : l.drop i = ix l i :: l.drop (i + 1) := by
 rw [List.drop_eq_getElem_cons h]
 simp [ix, h]
theorem rfind_loop {c : List Int} {l : List Mk.Write} (h : Rt c l) (k : Unit → Option Int) (hk : k () = some (-1)) (x : Int) : ∀ (m i : Nat), i + m = l.length → ∀ f : Nat, m < f →
  mkref1_Find_l1 k f c x (1 + 2 * (i : Int)) = some (if pos (l.drop i) x < 0 then -1 else pos (l.drop i) x + i) := by
 intro m
 induction m with
 | zero =>
  intro i hi f hf
  have hle := h.le
  have hlen := h.len
  have hn := h.n
  obtain ⟨f, rfl⟩ : ∃ g, f = g + 1 := ⟨f - 1, by omega⟩
  rw [mkref1_Find_l1, G_on (by omega), G_on (by unfold I; omega), G_on (by unfold I; omega), dF (by omega), cF, hk, List.drop_of_length_le (by omega)]
  simp [pos]
 | succ m ih =>
  intro i hi f hf
  have hle := h.le
  have hlen := h.len
  have hn := h.n
  have hat := (h.ats i (by omega)).1
  obtain ⟨f, rfl⟩ : ∃ g, f = g + 1 := ⟨f - 1, by omega⟩
  rw [mkref1_Find_l1, G_on (by omega), G_on (by unfold I; omega), G_on (by unfold I; omega), dT (by omega), cT, G_on (by omega), hat, ix_drop l i (by omega)]
  have ht : Int.tdiv (1 + 2 * (i : Int)) 2 = i := by
   rw [Int.tdiv_eq_ediv_of_nonneg (by omega)]; omega
  by_cases e : (ix l i).At = x
  ·rw [dT e, cT, ht, G_on (by unfold I; omega)]
   simp [e, pos]
  ·rw [dF e, cF, G_on (by unfold I; omega)]
   have := ih (i + 1) (by omega) f (by omega)
   rw [show (1 + 2 * (i : Int) + 2) = 1 + 2 * ((i + 1 : Nat) : Int) from by omega, this]
   simp only [pos, e, if_false]
   by_cases h2 : pos (l.drop (i + 1)) x < 0
   ·simp [h2]
   ·have := (pos_range (l.drop (i + 1)) x)
    rw [if_neg h2, if_neg h2, if_neg (by omega)]
    congr 1; omega
theorem rfind_eq {c : List Int} {l : List Mk.Write} (h : Rt c l) (x : Int) : mkref1_Find c x = some (pos l x) := by
 unfold mkref1_Find
 simp only [J]
 have hn := h.n
 have hp := pos_range l x
 have := rfind_loop h (fun _ => some (-1)) rfl x l.length 0 (by omega) ((1 + 2 * ix c 0 - 1).toNat + 1) (by omega)
 rw [show (1 + 2 * ((0 : Nat) : Int)) = 1 from rfl, List.drop_zero] at this
 rw [this]
 congr 1
 split <;> omega
theorem of_loop {c : List Int} {l : List Mk.Write} (h : Rt c l) (k : List Mk.Write → Option (List Mk.Write)) : ∀ (m i : Nat), i + m = l.length → ∀ (f : Nat), m < f → ∀ acc : List Mk.Write, acc.length = i →
  mkref1_Of_l1 k f c (1 + 2 * (i : Int)) acc = k (acc ++ l.drop i) := by
 intro m
 induction m with
 | zero =>
  intro i hi f hf acc ha
  have hle := h.le
  have hlen := h.len
  have hn := h.n
  obtain ⟨f, rfl⟩ : ∃ g, f = g + 1 := ⟨f - 1, by omega⟩
  rw [mkref1_Of_l1, G_on (by omega), G_on (by unfold I; omega), G_on (by unfold I; omega), dF (by omega), cF, List.drop_of_length_le (by omega), List.append_nil]
 | succ m ih =>
  intro i hi f hf acc ha
  have hle := h.le
  have hlen := h.len
  have hn := h.n
  obtain ⟨hat, hnn⟩ := h.ats i (by omega)
  obtain ⟨f, rfl⟩ : ∃ g, f = g + 1 := ⟨f - 1, by omega⟩
  have e2 : (1 + 2 * (i : Int) + 1) = 2 + 2 * (i : Int) := by omega
  rw [mkref1_Of_l1, G_on (by omega), G_on (by unfold I; omega), G_on (by unfold I; omega), dT (by omega), cT, G_on (by omega), G_on (by unfold I; omega), G_on (by omega), G_on (by simp; omega), G_on (by unfold I; omega), e2, hat, hnn,
   show (1 + 2 * (i : Int) + 2) = 1 + 2 * ((i + 1 : Nat) : Int) from by omega, ih (i + 1) (by omega) f (by omega) _ (by simp [ha]), ix_drop l i (by omega)]
  simp
theorem of_eq {c : List Int} {l : List Mk.Write} (h : Rt c l) : mkref1_Of c = some l := by
 unfold mkref1_Of
 simp only [J]
 have hn := h.n
 have := of_loop h (fun y => some y) l.length 0 (by omega) ((1 + 2 * ix c 0 - 1).toNat + 1) (by omega) [] rfl
 rw [show (1 + 2 * ((0 : Nat) : Int)) = 1 from rfl] at this
 rw [this]; simp
end Sp
end
section
namespace Sp
def gt : List Mk.Write → Int → Int × Bool
 | [], _ => (0, false)
 | w :: l, x => if w.At = x then (w.N, true) else gt l x
def put (l : List Mk.Write) (x n : Int) : List Mk.Write := l.map fun w => if w.At = x then { w with N := n } else w
def has (l : List Mk.Write) (x : Int) : Bool := l.any fun w => decide (w.At = x)
def st (l : List Mk.Write) (x n : Int) : List Mk.Write := if has l x then put l x n else put l x n ++ [⟨x, n⟩]
def dp (l : List Mk.Write) (x : Int) : List Mk.Write := (l.map fun w => if w.At = x then ix l ((l.length : Int) - 1) else w).take (l.length - 1)
theorem get_loop (l : List Mk.Write) (x : Int) (hl : l.length ≤ 1000000000) (k : Unit → Option (Int × Bool)) (hk : k () = some (0, false)) : ∀ (m i : Nat), i + m = l.length → ∀ f : Nat, m < f →
  mkref1_get_l1 k f x l (l.length : Int) (i : Int) = some (gt (l.drop i) x) := by
 intro m
 induction m with
 | zero =>
  intro i hi f hf
  obtain ⟨f, rfl⟩ : ∃ g, f = g + 1 := ⟨f - 1, by omega⟩
  rw [mkref1_get_l1, dF (by omega), cF, hk, List.drop_of_length_le (by omega)]
  rfl
 | succ m ih =>
  intro i hi f hf
  obtain ⟨f, rfl⟩ : ∃ g, f = g + 1 := ⟨f - 1, by omega⟩
  have e : ix l (i : Int) = ix l i := rfl
  rw [mkref1_get_l1, dT (by omega), cT, G_on (by omega), ix_drop l i (by omega)]
  by_cases h : (ix l (i : Int)).At = x
  ·rw [dT h, cT]; simp only [gt, h, if_true]
  ·rw [dF h, cF, G_on (by unfold I; omega), show ((i : Int) + 1) = ((i + 1 : Nat) : Int) from by omega, ih (i + 1) (by omega) f (by omega)]
   simp only [gt, h, if_false]
theorem get_eq (l : List Mk.Write) (x : Int) (hl : l.length ≤ 1000000000) : mkref1_get l x = some (gt l x) := by
 unfold mkref1_get
 simp only [J]
 have := get_loop l x hl (fun _ => some (0, false)) rfl l.length 0 (by omega) (((l.length : Int) - 0).toNat + 1) (by omega)
 rw [show ((0 : Nat) : Int) = 0 from rfl, List.drop_zero] at this
 exact this
theorem set_loop (l : List Mk.Write) (x n : Int) (hl : l.length ≤ 1000000000) (k : Int → Int → Bool → List Mk.Write → Option (List Mk.Write)) : ∀ (m i : Nat), i + m = l.length → ∀ f : Nat, m < f → ∀ (done : Bool) (acc : List Mk.Write), acc.length = i →
  mkref1_set_l1 k f x n done l (l.length : Int) (i : Int) acc = k x n (done || has (l.drop i) x) (acc ++ put (l.drop i) x n) := by
 intro m
 induction m with
 | zero =>
  intro i hi f hf done acc ha
  obtain ⟨f, rfl⟩ : ∃ g, f = g + 1 := ⟨f - 1, by omega⟩
  rw [mkref1_set_l1, dF (by omega), cF, List.drop_of_length_le (by omega)]
  simp [has, put]
 | succ m ih =>
  intro i hi f hf done acc ha
  obtain ⟨f, rfl⟩ : ∃ g, f = g + 1 := ⟨f - 1, by omega⟩
  rw [mkref1_set_l1, dT (by omega), cT, G_on (by omega), ix_drop l i (by omega)]
  simp only [J]
  by_cases h : (ix l (i : Int)).At = x
  ·rw [dT h, cT, G_on (by simp; omega), G_on (by unfold I; omega), show ((i : Int) + 1) = ((i + 1 : Nat) : Int) from by omega, ih (i + 1) (by omega) f (by omega) _ _ (by simp [ha])]
   simp [has, put, h]
  ·rw [dF h, cF, G_on (by simp; omega), G_on (by unfold I; omega), show ((i : Int) + 1) = ((i + 1 : Nat) : Int) from by omega, ih (i + 1) (by omega) f (by omega) _ _ (by simp [ha])]
   simp [has, put, h]
theorem set_eq (l : List Mk.Write) (x n : Int) (hl : l.length ≤ 1000000000) : mkref1_set l x n = some (st l x n) := by
 unfold mkref1_set
 simp only [J]
 have := set_loop l x n hl (fun (x1_k1 : Int) (x2_k1 : Int) (x8_k1 : Bool) (y1007_k1 : List Mk.Write) => (bif (!x8_k1) then (
      G (((y1007_k1.length + ([({ At := x1_k1, N := x2_k1 } : Mk.Write)] : List Mk.Write).length) * 16 ≤ 140737488355328 ∧ y1007_k1.length + ([({ At := x1_k1, N := x2_k1 } : Mk.Write)] : List Mk.Write).length ≤ 9223372036854775807)) (
       some ((y1007_k1 ++ ([({ At := x1_k1, N := x2_k1 } : Mk.Write)] : List Mk.Write))))) else (
      some (y1007_k1)))) l.length 0 (by omega) (((l.length : Int) - 0).toNat + 1) (by omega) false [] rfl
 rw [show ((0 : Nat) : Int) = 0 from rfl, List.drop_zero] at this
 rw [this]
 unfold st
 cases h : has l x with
 | true => simp
 | false => simp [put]; rw [G_on (by omega)]
theorem drop_loop (l : List Mk.Write) (c : Mk.Call) (hl : l.length ≤ 1000000000) (k : Int → Mk.Reply → List Mk.Write → Option (List Mk.Write × Mk.Reply)) (n : Int) (r : Mk.Reply) : ∀ (m i : Nat), i + m = l.length → ∀ f : Nat, m < f → ∀ acc : List Mk.Write, acc.length ≤ i →
  mkref1_Do_l1 k f l n l (l.length : Int) (i : Int) c r acc = k n r (acc ++ ((l.drop i).map fun w => if w.At = c.Name then ix l ((l.length : Int) - 1) else w).take (l.length - 1 - i)) := by
 intro m
 induction m with
 | zero =>
  intro i hi f hf acc ha
  obtain ⟨f, rfl⟩ : ∃ g, f = g + 1 := ⟨f - 1, by omega⟩
  rw [mkref1_Do_l1, dF (by omega), cF, List.drop_of_length_le (by omega)]
  simp
 | succ m ih =>
  intro i hi f hf acc ha
  obtain ⟨f, rfl⟩ : ∃ g, f = g + 1 := ⟨f - 1, by omega⟩
  rw [mkref1_Do_l1, dT (by omega), cT]
  simp only [J]
  rw [G_on (by omega), ix_drop l i (by omega)]
  have step : ∀ (w : Mk.Write) (hw : w = if (ix l (i : Int)).At = c.Name then ix l ((l.length : Int) - 1) else ix l (i : Int)),
    (G (I ((l.length : Int) - 1)) (bif decide ((i : Int) < (l.length : Int) - 1) then G (((acc.length + [w].length) * 16 ≤ 140737488355328 ∧ acc.length + [w].length ≤ 9223372036854775807)) (G (I ((i : Int) + 1)) (mkref1_Do_l1 k f l n l (l.length : Int) ((i : Int) + 1) c r (acc ++ [w]))) else (G (I ((i : Int) + 1)) (mkref1_Do_l1 k f l n l (l.length : Int) ((i : Int) + 1) c r acc)))) =
     k n r (acc ++ ((ix l (i : Int) :: l.drop (i + 1)).map fun w => if w.At = c.Name then ix l ((l.length : Int) - 1) else w).take (l.length - 1 - i)) := by
   intro w hw
   rw [G_on (by unfold I; omega)]
   by_cases hlast : (i : Int) < (l.length : Int) - 1
   ·rw [dT hlast, cT, G_on (by simp; omega), G_on (by unfold I; omega), show ((i : Int) + 1) = ((i + 1 : Nat) : Int) from by omega, ih (i + 1) (by omega) f (by omega) _ (by simp; omega)]
    rw [show l.length - 1 - i = (l.length - 1 - (i + 1)) + 1 from by omega, List.map_cons, List.take_succ_cons, ← hw]
    simp
   ·rw [dF hlast, cF, G_on (by unfold I; omega), show ((i : Int) + 1) = ((i + 1 : Nat) : Int) from by omega, ih (i + 1) (by omega) f (by omega) _ (by omega)]
    rw [show l.length - 1 - i = 0 from by omega, show l.length - 1 - (i + 1) = 0 from by omega]
    simp
  by_cases h : (ix l (i : Int)).At = c.Name
  ·rw [dT h, cT, G_on (by unfold I; omega), G_on (by omega)]
   exact step _ (by rw [if_pos h])
  ·rw [dF h, cF]
   exact step _ (by rw [if_neg h])
theorem st_len (l : List Mk.Write) (x n : Int) : (st l x n).length ≤ l.length + 1 := by
 unfold st put
 split <;> simp
def doR (l : List Mk.Write) (c : Mk.Call) : List Mk.Write × Mk.Reply :=
 if c.Kind = 5 then (l, ⟨0, l.length⟩)
 else if c.Kind = 1 then (if (gt l c.Name).2 = false ∧ 5 ≤ (l.length : Int) then (l, ⟨9, 0⟩) else (st l c.Name c.N, ⟨0, (gt l c.Name).1⟩))
 else if (gt l c.Name).2 = false then (l, ⟨6, 0⟩)
 else if c.Kind = 2 then (l, ⟨0, (gt l c.Name).1⟩)
 else if c.Kind = 3 then (dp l c.Name, ⟨0, (gt l c.Name).1⟩)
 else if c.Kind = 4 then (if 1073741824 < (gt l c.Name).1 + c.N ∨ (gt l c.Name).1 + c.N < -1073741824 then (l, ⟨3, 0⟩) else (st l c.Name ((gt l c.Name).1 + c.N), ⟨0, (gt l c.Name).1 + c.N⟩))
 else if (gt l c.Other).2 = false then (l, ⟨6, 0⟩)
 else (st (st l c.Name (gt l c.Other).1) c.Other (gt l c.Name).1, ⟨0, (gt l c.Other).1⟩)
theorem do_eq (l : List Mk.Write) (c : Mk.Call) (hl : l.length ≤ 100000000) (hI : c.Kind = 4 → I ((gt l c.Name).1 + c.N)) : mkref1_Do l c = some (doR l c) := by
 have hs := fun x n => st_len l x n
 unfold mkref1_Do doR
 rw [get_eq l c.Name (by omega)]
 simp only [obs, mkref1_Do_1]
 by_cases k5 : c.Kind = 5
 ·simp [k5]
 rw [dF k5, cF, if_neg k5]
 by_cases k1 : c.Kind = 1
 ·rw [if_pos k1, dT k1]
  simp only [Bool.true_and, cT, set_eq l c.Name c.N (by omega), obs]
  by_cases h : (gt l c.Name).2 = false ∧ 5 ≤ (l.length : Int)
  ·rw [if_pos h, h.1, dT h.2]; rfl
  ·rw [if_neg h]
   have : (!(gt l c.Name).2 && decide (5 ≤ (l.length : Int))) = false := by
    cases h1 : (gt l c.Name).2 with
    | true => rfl
    | false =>
     rw [dF (fun h2 => h ⟨h1, h2⟩)]; rfl
   rw [this, cF]
 rw [if_neg k1, dF k1]
 simp only [Bool.false_and, cF]
 by_cases h : (gt l c.Name).2 = false
 ·rw [if_pos h, h]; rfl
 rw [if_neg h]
 have h' : (gt l c.Name).2 = true := by simpa using h
 rw [h']
 simp only [nT, cF]
 by_cases k2 : c.Kind = 2
 ·rw [if_pos k2, dT k2, cT]
 rw [if_neg k2, dF k2, cF]
 by_cases k3 : c.Kind = 3
 ·rw [if_pos k3, dT k3, cT]
  simp only [J]
  have := drop_loop l c (by omega) (fun (x6 : Int) (y5 : Mk.Reply) (y : List Mk.Write) => some (y, ({ Err := 0, N := x6 } : Mk.Reply))) (gt l c.Name).1 ⟨0, 0⟩ l.length 0 (by omega) (((l.length : Int) - 0).toNat + 1) (by omega) [] (Nat.le_refl _)
  rw [show ((0 : Nat) : Int) = 0 from rfl] at this
  rw [this]
  simp [dp]
 rw [if_neg k3, dF k3, cF]
 by_cases k4 : c.Kind = 4
 ·rw [if_pos k4, dT k4, cT, G_on (hI k4), G_on (fun _ => hI k4)]
  by_cases hb : 1073741824 < (gt l c.Name).1 + c.N ∨ (gt l c.Name).1 + c.N < -1073741824
  ·rw [if_pos hb]
   have : (decide (1073741824 < (gt l c.Name).1 + c.N) || decide ((gt l c.Name).1 + c.N < -1073741824)) = true := by simpa using hb
   rw [this]; rfl
  ·rw [if_neg hb]
   have : (decide (1073741824 < (gt l c.Name).1 + c.N) || decide ((gt l c.Name).1 + c.N < -1073741824)) = false := by
    rw [Bool.or_eq_false_iff]
    exact ⟨dF fun h => hb (.inl h), dF fun h => hb (.inr h)⟩
   rw [this, cF, G_on (hI k4), set_eq _ _ _ (by omega), obs, G_on (hI k4)]
 rw [if_neg k4, dF k4, cF, get_eq l c.Other (by omega), obs]
 by_cases ho : (gt l c.Other).2 = false
 ·rw [if_pos ho, ho]; rfl
 have ho' : (gt l c.Other).2 = true := by simpa using ho
 rw [if_neg ho, ho', nT, cF, set_eq _ _ _ (by omega), obs, set_eq _ _ _ (by have := hs c.Name (gt l c.Other).1; omega), obs]
end Sp
end
section
namespace Sp
def cat (c : List Int) (i : Nat) : Int := ix c (1 + 2 * (i : Int))
def cnum (c : List Int) (i : Nat) : Int := ix c (2 + 2 * (i : Int))
def entries (c : List Int) : List Mk.Write := (List.range (ix c 0).toNat).map fun i => ⟨cat c i, cnum c i⟩
end Sp
end
section
namespace Sp
structure Nm (l : List Mk.Write) : Prop where
 le : l.length ≤ 5
 at1 : ∀ w ∈ l, 1 ≤ w.At ∧ w.At ≤ 255 ∧ -1073741824 ≤ w.N ∧ w.N ≤ 1073741824
 nodup : (l.map (·.At)).Nodup
theorem Rt.nm {c : List Int} {l : List Mk.Write} (h : Rt c l) : Nm l := ⟨h.le, h.at1, h.nodup⟩
structure CallOk (c : Mk.Call) : Prop where
 kind : 1 ≤ c.Kind ∧ c.Kind ≤ 6
 name : (c.Kind = 5 → c.Name = 0) ∧ (c.Kind ≠ 5 → 1 ≤ c.Name ∧ c.Name ≤ 255)
 other : (c.Kind = 6 → 1 ≤ c.Other ∧ c.Other ≤ 255) ∧ (c.Kind ≠ 6 → c.Other = 0)
 num : -1073741824 ≤ c.N ∧ c.N ≤ 1073741824 ∧ (c.Kind ≠ 1 → c.Kind ≠ 4 → c.N = 0)
theorem ix_mem {α : Type} [Inhabited α] (l : List α) (i : Int) (h : 0 ≤ i ∧ i < l.length) : ix l i ∈ l := by
 have : i.toNat < l.length := by omega
 simp [ix, this]
theorem ix_nat {α : Type} [Inhabited α] (l : List α) (i : Nat) (h : i < l.length) : ix l (i : Int) = l[i] := by simp [ix, h]
theorem ix_app {α : Type} [Inhabited α] (l m : List α) (i : Int) (h : 0 ≤ i ∧ i < l.length) : ix (l ++ m) i = ix l i := by
 have : i.toNat < l.length := by omega
 simp [ix, List.getElem?_append_left this]
theorem pos_spec (l : List Mk.Write) (x : Int) (h : 0 ≤ pos l x) : (ix l (pos l x)).At = x ∧ ∀ j : Nat, (j : Int) < pos l x → (ix l (j : Int)).At ≠ x := by
 induction l with
 | nil => simp [pos] at h
 | cons w l ih =>
  by_cases e : w.At = x
  ·have e0 : pos (w :: l) x = 0 := by simp [pos, e]
   rw [e0]
   refine ⟨by simpa [ix] using e, fun j hj => by omega⟩
  ·by_cases h2 : pos l x < 0
   ·simp [pos, e, h2] at h
   ·have h3 : pos (w :: l) x = pos l x + 1 := by simp [pos, e, h2]
    obtain ⟨h4, h5⟩ := ih (by omega)
    rw [h3]
    have h6 : (pos l x + 1).toNat = (pos l x).toNat + 1 := by omega
    refine ⟨?_, fun j hj => ?_⟩
    ·simpa [ix, h6] using h4
    ·cases j with
     | zero => simpa [ix] using e
     | succ j =>
      have := h5 j (by omega)
      simpa [ix] using this
theorem pos_neg (l : List Mk.Write) (x : Int) (h : pos l x < 0) : ∀ w ∈ l, w.At ≠ x := by
 induction l with
 | nil => simp
 | cons w l ih =>
  by_cases e : w.At = x
  ·simp [pos, e] at h
  ·by_cases h2 : pos l x < 0
   ·intro v hv
    rcases List.mem_cons.1 hv with rfl | hv
    ·exact e
    ·exact ih h2 v hv
   ·simp [pos, e, h2] at h; omega
theorem gt_eq (l : List Mk.Write) (x : Int) : gt l x = if pos l x < 0 then (0, false) else ((ix l (pos l x)).N, true) := by
 induction l with
 | nil => simp [gt, pos]
 | cons w l ih =>
  by_cases e : w.At = x
  ·simp [gt, pos, e, ix]
  ·by_cases h2 : pos l x < 0
   ·simp [gt, pos, e, ih, h2]
   ·have h6 : (pos l x + 1).toNat = (pos l x).toNat + 1 := by omega
    have h7 : ¬ (pos l x + 1 < 0) := by omega
    simp [gt, pos, e, ih, h2, ix, h6, h7]
theorem has_eq (l : List Mk.Write) (x : Int) : has l x = decide (0 ≤ pos l x) := by
 induction l with
 | nil => simp [has, pos]
 | cons w l ih =>
  by_cases e : w.At = x
  ·simp [has, pos, e]
  ·have : has (w :: l) x = has l x := by simp [has, e]
   rw [this, ih]
   by_cases h2 : pos l x < 0
   ·simp [pos, e, h2]
   ·have h7 : 0 ≤ pos l x + 1 := by omega
    have h8 : 0 ≤ pos l x := by omega
    simp [pos, e, h2, h7, h8]
theorem nodup_at {l : List Mk.Write} (h : (l.map (·.At)).Nodup) {i j : Nat} (hi : i < l.length) (hj : j < l.length) (e : l[i].At = l[j].At) : i = j := by
 have := List.nodup_iff_pairwise_ne.1 h
 rw [List.pairwise_map, List.pairwise_iff_getElem] at this
 rcases Nat.lt_trichotomy i j with h1 | h1 | h1
 ·exact absurd e (this i j hi hj h1)
 ·exact h1
 ·exact absurd e.symm (this j i hj hi h1)
theorem map_at {l : List Mk.Write} (h : (l.map (·.At)).Nodup) (x : Int) (f : Mk.Write → Mk.Write) (hk : 0 ≤ pos l x) : (l.map fun w => if w.At = x then f w else w) = l.set (pos l x).toNat (f (ix l (pos l x))) := by
 have hr := pos_range l x
 have hs := (pos_spec l x hk).1
 have hp : (pos l x).toNat < l.length := by omega
 have hix : ix l (pos l x) = l[(pos l x).toNat] := by simp [ix, hp]
 rw [hix] at hs ⊢
 apply List.ext_getElem
 ·simp
 ·intro i h1 h2
  simp only [List.length_map] at h1
  rw [List.getElem_map, List.getElem_set]
  by_cases e : (pos l x).toNat = i
  ·subst e; simp [hs]
  ·rw [if_neg e, if_neg]
   intro e2
   exact e (nodup_at h hp h1 (hs.trans e2.symm))
theorem st_eq {l : List Mk.Write} (h : (l.map (·.At)).Nodup) (x n : Int) : st l x n = if pos l x < 0 then l ++ [⟨x, n⟩] else l.set (pos l x).toNat ⟨x, n⟩ := by
 unfold st
 rw [has_eq]
 by_cases hk : pos l x < 0
 ·have h0 : ¬ (0 ≤ pos l x) := by omega
  have : put l x n = l := by
   unfold put
   conv => rhs; rw [← List.map_id l]
   apply List.map_congr_left
   intro w hw
   rw [if_neg (pos_neg l x hk w hw)]; rfl
  simp [hk, h0, this]
 ·have h0 : 0 ≤ pos l x := by omega
  have hs := (pos_spec l x h0).1
  simp only [h0, hk, decide_true, if_true, if_false]
  unfold put
  rw [map_at h x (fun w => { w with N := n }) h0, hs]
theorem dp_eq {l : List Mk.Write} (h : (l.map (·.At)).Nodup) (x : Int) (hk : 0 ≤ pos l x) : dp l x = (l.set (pos l x).toNat (ix l ((l.length : Int) - 1))).take (l.length - 1) := by
 unfold dp
 rw [map_at h x (fun _ => ix l ((l.length : Int) - 1)) hk]
def doP (l : List Mk.Write) (c : Mk.Call) : List Mk.Write × Mk.Reply :=
 if c.Kind = 5 then (l, ⟨0, l.length⟩)
 else if c.Kind = 1 then
  (if pos l c.Name < 0 then (if 5 ≤ l.length then (l, ⟨9, 0⟩) else (l ++ [⟨c.Name, c.N⟩], ⟨0, 0⟩))
   else (l.set (pos l c.Name).toNat ⟨c.Name, c.N⟩, ⟨0, (ix l (pos l c.Name)).N⟩))
 else if pos l c.Name < 0 then (l, ⟨6, 0⟩)
 else if c.Kind = 2 then (l, ⟨0, (ix l (pos l c.Name)).N⟩)
 else if c.Kind = 3 then ((l.set (pos l c.Name).toNat (ix l ((l.length : Int) - 1))).take (l.length - 1), ⟨0, (ix l (pos l c.Name)).N⟩)
 else if c.Kind = 4 then
  (if 1073741824 < (ix l (pos l c.Name)).N + c.N ∨ (ix l (pos l c.Name)).N + c.N < -1073741824 then (l, ⟨3, 0⟩)
   else (l.set (pos l c.Name).toNat ⟨c.Name, (ix l (pos l c.Name)).N + c.N⟩, ⟨0, (ix l (pos l c.Name)).N + c.N⟩))
 else if pos l c.Other < 0 then (l, ⟨6, 0⟩)
 else ((l.set (pos l c.Name).toNat ⟨c.Name, (ix l (pos l c.Other)).N⟩).set (pos l c.Other).toNat ⟨c.Other, (ix l (pos l c.Name)).N⟩, ⟨0, (ix l (pos l c.Other)).N⟩)
theorem pos_map {l m : List Mk.Write} (h : l.map (·.At) = m.map (·.At)) (x : Int) : pos l x = pos m x := by
 induction l generalizing m with
 | nil => cases m with
  | nil => rfl
  | cons w m => simp at h
 | cons w l ih =>
  cases m with
  | nil => simp at h
  | cons v m =>
   simp only [List.map_cons, List.cons.injEq] at h
   simp only [pos, h.1, ih h.2]
theorem set_names {l : List Mk.Write} {k : Int} {w : Mk.Write} (hk : 0 ≤ k ∧ k < l.length) (h : (ix l k).At = w.At) : (l.set k.toNat w).map (·.At) = l.map (·.At) := by
 have hp : k.toNat < l.length := by omega
 have hix : ix l k = l[k.toNat] := by simp [ix, hp]
 rw [hix] at h
 rw [List.map_set, ← h]
 apply List.ext_getElem
 ·simp
 ·intro i h1 h2
  rw [List.getElem_set]
  by_cases e : k.toNat = i
  ·subst e; simp
  ·rw [if_neg e]
theorem Nm.call {l : List Mk.Write} (h : Nm l) {x : Int} (hk : 0 ≤ pos l x) : -1073741824 ≤ (ix l (pos l x)).N ∧ (ix l (pos l x)).N ≤ 1073741824 := by
 have hr := pos_range l x
 have := h.at1 _ (ix_mem l (pos l x) ⟨hk, hr.2⟩)
 omega
theorem do_eqP {l : List Mk.Write} {c : Mk.Call} (h : Nm l) (hc : CallOk c) : mkref1_Do l c = some (doP l c) := by
 have hle := h.le
 have hnum := hc.num
 rw [do_eq l c (by omega)]
 ·unfold doR doP
  simp only [gt_eq]
  by_cases k5 : c.Kind = 5
  ·simp [k5]
  simp only [if_neg k5]
  by_cases hp : pos l c.Name < 0
  ·simp only [hp, if_true, true_and, st_eq h.nodup]
   by_cases k1 : c.Kind = 1
   ·by_cases h5 : 5 ≤ l.length
    ·have : (5 : Int) ≤ l.length := by omega
     simp [k1, h5, this]
    ·have : ¬ (5 : Int) ≤ l.length := by omega
     simp [k1, h5, this]
   ·simp [k1]
  ·have hr := pos_range l c.Name
   have hp0 : 0 ≤ pos l c.Name := by omega
   simp only [hp, if_false, Bool.true_eq_false, false_and, dp_eq h.nodup c.Name hp0, st_eq h.nodup c.Name]
   by_cases k1 : c.Kind = 1
   ·simp [k1]
   by_cases k2 : c.Kind = 2
   ·simp [k1, k2]
   by_cases k3 : c.Kind = 3
   ·simp [k1, k2, k3]
   by_cases k4 : c.Kind = 4
   ·simp [k1, k2, k3, k4]
   simp only [k1, k2, k3, k4, if_false]
   by_cases ho : pos l c.Other < 0
   ·simp [ho]
   ·have hs := (pos_spec l c.Name hp0).1
    have hnames := set_names (l := l) (k := pos l c.Name) (w := ⟨c.Name, (ix l (pos l c.Other)).N⟩) ⟨hp0, hr.2⟩ hs
    simp only [ho, if_false, Bool.true_eq_false]
    rw [st_eq (by rw [hnames]; exact h.nodup), pos_map hnames, if_neg ho]
 ·intro k4
  rw [gt_eq]
  by_cases hp : pos l c.Name < 0
  ·simp only [hp, if_true]; unfold I; omega
  ·have := h.call (x := c.Name) (by omega)
   simp only [hp, if_false]; unfold I; omega
def wcall (c : Mk.Call) : Int :=
 if c.Kind < 1 ∨ 6 < c.Kind then 1
 else if (c.Kind = 5 ∧ c.Name ≠ 0) ∨ (c.Kind ≠ 5 ∧ (c.Name < 1 ∨ 255 < c.Name)) ∨ (c.Kind = 6 ∧ (c.Other < 1 ∨ 255 < c.Other)) ∨ (c.Kind ≠ 6 ∧ c.Other ≠ 0) then 7
 else if c.N < -1073741824 ∨ 1073741824 < c.N ∨ (c.Kind ≠ 1 ∧ c.Kind ≠ 4 ∧ c.N ≠ 0) then 3 else 0
theorem wrongCall_eq (c : Mk.Call) : mkref1_WrongCall c = some (wcall c) := by
 unfold mkref1_WrongCall wcall
 simp only [J, G, I, Bool.cond_eq_ite, Bool.or_eq_true, decide_eq_true_eq]
 repeat' split
 all_goals first | rfl | omega
theorem wcall_ok (c : Mk.Call) : wcall c = 0 ↔ CallOk c := by
 unfold wcall
 constructor
 ·intro h
  repeat' split at h
  all_goals first | (exfalso; omega) | (constructor <;> omega)
 ·intro h
  have h1 := h.kind
  have h2 := h.name
  have h3 := h.other
  have h4 := h.num
  repeat' split
  all_goals first | rfl | omega
theorem G_true {α : Type} (k : Option α) : G True k = k := G_on trivial
end Sp
end
section
namespace Sp
def planR (l : List Mk.Write) (c : Mk.Call) : List Mk.Write × Mk.Reply :=
 if c.Kind = 5 then ([], ⟨0, l.length⟩)
 else if pos l c.Name < 0 then
  (if c.Kind = 1 then (if 5 ≤ (l.length : Int) then ([], ⟨9, 0⟩) else ([⟨1 + 2 * (l.length : Int), c.Name⟩, ⟨2 + 2 * (l.length : Int), c.N⟩, ⟨0, (l.length : Int) + 1⟩], ⟨0, 0⟩)) else ([], ⟨6, 0⟩))
 else if c.Kind = 1 then ([⟨2 + 2 * pos l c.Name, c.N⟩], ⟨0, (ix l (pos l c.Name)).N⟩)
 else if c.Kind = 3 then
  (if pos l c.Name < (l.length : Int) - 1 then [⟨1 + 2 * pos l c.Name, (ix l ((l.length : Int) - 1)).At⟩, ⟨2 + 2 * pos l c.Name, (ix l ((l.length : Int) - 1)).N⟩, ⟨0, (l.length : Int) - 1⟩] else [⟨0, (l.length : Int) - 1⟩], ⟨0, (ix l (pos l c.Name)).N⟩)
 else if c.Kind = 4 then
  (if 1073741824 < (ix l (pos l c.Name)).N + c.N ∨ (ix l (pos l c.Name)).N + c.N < -1073741824 then ([], ⟨3, 0⟩) else ([⟨2 + 2 * pos l c.Name, (ix l (pos l c.Name)).N + c.N⟩], ⟨0, (ix l (pos l c.Name)).N + c.N⟩))
 else if c.Kind = 6 then
  (if pos l c.Other < 0 then ([], ⟨6, 0⟩) else ([⟨2 + 2 * pos l c.Name, (ix l (pos l c.Other)).N⟩, ⟨2 + 2 * pos l c.Other, (ix l (pos l c.Name)).N⟩], ⟨0, (ix l (pos l c.Other)).N⟩))
 else ([], ⟨0, (ix l (pos l c.Name)).N⟩)
theorem Rt.at (c : List Int) (l : List Mk.Write) (h : Rt c l) (k : Int) (hk : 0 ≤ k ∧ k < l.length) : ix c (1 + 2 * k) = (ix l k).At ∧ ix c (2 + 2 * k) = (ix l k).N := by
 have := h.ats k.toNat (by omega)
 rwa [show ((k.toNat : Nat) : Int) = k from by omega] at this
end Sp
end
section
namespace Sp
theorem ix_set_same {l : List Mk.Write} (k : Int) (w : Mk.Write) (hk : 0 ≤ k ∧ k < l.length) : ix (l.set k.toNat w) k = w := by
 have : k.toNat < l.length := by omega
 simp [ix, this]
theorem ix_set_other {l : List Mk.Write} (k j : Int) (w : Mk.Write) (hk : 0 ≤ k ∧ k < l.length) (hj : 0 ≤ j) (hkj : k ≠ j) : ix (l.set k.toNat w) j = ix l j := by
 have : k.toNat ≠ j.toNat := by omega
 simp [ix, List.getElem?_set, this]
theorem ix_take {l : List Mk.Write} (n : Nat) (j : Int) (hj : 0 ≤ j ∧ j < n) : ix (l.take n) j = ix l j := by
 have : j.toNat < n := by omega
 simp [ix, List.getElem?_take, this]
theorem rplan_eq {c : List Int} {l : List Mk.Write} {call : Mk.Call} (h : Rt c l) (hc : CallOk call) : mkref1_Plan c call = some (planR l call) := by
 have hle := h.le
 have hlen := h.len
 have hn := h.n
 have hr := pos_range l call.Name
 have ho := pos_range l call.Other
 have hnum := hc.num
 have hk := hc.kind
 unfold mkref1_Plan planR
 rw [of_eq h, obs, do_eqP h.nm hc, obs]
 have kk : call.Kind = 1 ∨ call.Kind = 2 ∨ call.Kind = 3 ∨ call.Kind = 4 ∨ call.Kind = 5 ∨ call.Kind = 6 := by omega
 by_cases hp : pos l call.Name < 0
 ·by_cases h5 : 5 ≤ l.length
  ·have h5' : 5 ≤ (l.length : Int) := by omega
   rcases kk with k | k | k | k | k | k
   all_goals simp (disch := first | omega | (unfold I; omega)) [doP, k, hp, h5, h5', ↓G_on, ↓Bool.cond_eq_ite, ↓reduceIte, J, rfind_eq h]
  ·have h5' : ¬ 5 ≤ (l.length : Int) := by omega
   rcases kk with k | k | k | k | k | k
   ·have e1 : 2 * ((l.length : Int) + 1) - 1 = 1 + 2 * (l.length : Int) := by omega
    have e2 : 2 * ((l.length : Int) + 1) = 2 + 2 * (l.length : Int) := by omega
    have e3 : 2 + 2 * (l.length : Int) - 1 = 1 + 2 * (l.length : Int) := by omega
    have e4 : ¬ ((l.length : Int) + 1 = l.length) := by omega
    simp (disch := first | omega | (simp; omega) | (unfold I; omega) | (unfold I; simp; omega)) [doP, k, hp, h5, h5', ↓G_on, ↓Bool.cond_eq_ite, ↓reduceIte, J, rfind_eq h, e1, e2, e3, e4, G_true]
   all_goals simp (disch := first | omega | (unfold I; omega)) [doP, k, hp, h5, h5', ↓G_on, ↓Bool.cond_eq_ite, ↓reduceIte, J, rfind_eq h]
 ·have hp0 : 0 ≤ pos l call.Name := by omega
  have hs := (pos_spec l call.Name hp0).1
  have hlt : l.length - 1 + 1 = l.length := by omega
  rcases kk with k | k | k | k | k | k
  ·have hx := ix_set_same (l := l) (pos l call.Name) ⟨call.Name, call.N⟩ ⟨hp0, hr.2⟩
   simp (disch := first | omega | (simp; omega) | (unfold I; omega)) [doP, k, hp, ↓G_on, ↓Bool.cond_eq_ite, ↓reduceIte, J, rfind_eq h, hx]
  ·simp (disch := first | omega | (simp; omega) | (unfold I; omega)) [doP, k, hp, ↓G_on, ↓Bool.cond_eq_ite, ↓reduceIte, J, rfind_eq h]
  ·have hx : pos l call.Name < (l.length : Int) - 1 → ix ((l.set (pos l call.Name).toNat (ix l ((l.length : Int) - 1))).take (l.length - 1)) (pos l call.Name) = ix l ((l.length : Int) - 1) := by
    intro hl
    rw [ix_take _ _ (by omega), ix_set_same _ _ ⟨hp0, hr.2⟩]
   have hd : doP l call = ((l.set (pos l call.Name).toNat (ix l ((l.length : Int) - 1))).take (l.length - 1), ⟨0, (ix l (pos l call.Name)).N⟩) := by simp [doP, k, hp]
   have ht : (((l.set (pos l call.Name).toNat (ix l ((l.length : Int) - 1))).take (l.length - 1)).length : Int) = (l.length : Int) - 1 := by simp; omega
   rw [hd]
   revert ht hx
   generalize (l.set (pos l call.Name).toNat (ix l ((l.length : Int) - 1))).take (l.length - 1) = t
   intro hx ht
   have e4 : ¬ ((l.length : Int) - 1 = l.length) := by omega
   by_cases hl : pos l call.Name < (l.length : Int) - 1
   ·simp (disch := first | omega | (simp; omega) | (unfold I; omega)) [k, hp, ↓G_on, ↓Bool.cond_eq_ite, ↓reduceIte, J, rfind_eq h, hx hl, hl, ht, e4, G_true]
   ·simp (disch := first | omega | (simp; omega) | (unfold I; omega)) [k, hp, ↓G_on, ↓Bool.cond_eq_ite, ↓reduceIte, J, rfind_eq h, hl, ht, e4, G_true]
  ·generalize hx : (ix l (pos l call.Name)).N + call.N = x
   have hy := ix_set_same (l := l) (pos l call.Name) ⟨call.Name, x⟩ ⟨hp0, hr.2⟩
   by_cases l1 : x < -1073741824
   ·simp (disch := first | omega | (simp; omega) | (unfold I; omega)) [doP, k, hp, ↓G_on, ↓Bool.cond_eq_ite, ↓reduceIte, J, rfind_eq h, hx, l1]
   ·by_cases l2 : 1073741824 < x
    ·simp (disch := first | omega | (simp; omega) | (unfold I; omega)) [doP, k, hp, ↓G_on, ↓Bool.cond_eq_ite, ↓reduceIte, J, rfind_eq h, hx, l1, l2]
    ·simp (disch := first | omega | (simp; omega) | (unfold I; omega)) [doP, k, hp, ↓G_on, ↓Bool.cond_eq_ite, ↓reduceIte, J, rfind_eq h, hx, l1, l2, hy]
  ·simp (disch := first | omega | (simp; omega) | (unfold I; omega)) [doP, k, hp, ↓G_on, ↓Bool.cond_eq_ite, ↓reduceIte, J, rfind_eq h]
  ·by_cases hl : pos l call.Other < 0
   ·simp (disch := first | omega | (simp; omega) | (unfold I; omega)) [doP, k, hp, ↓G_on, ↓Bool.cond_eq_ite, ↓reduceIte, J, rfind_eq h, hl]
   ·have ho0 : 0 ≤ pos l call.Other := by omega
    have hso := (pos_spec l call.Other ho0).1
    have hy := ix_set_same (l := l.set (pos l call.Name).toNat ⟨call.Name, (ix l (pos l call.Other)).N⟩) (pos l call.Other) ⟨call.Other, (ix l (pos l call.Name)).N⟩ ⟨ho0, by simp; omega⟩
    have hz : (ix ((l.set (pos l call.Name).toNat ⟨call.Name, (ix l (pos l call.Other)).N⟩).set (pos l call.Other).toNat ⟨call.Other, (ix l (pos l call.Name)).N⟩) (pos l call.Name)).N = (ix l (pos l call.Other)).N := by
     by_cases e : pos l call.Other = pos l call.Name
     ·simp only [e] at hy ⊢; rw [hy]
     ·rw [ix_set_other _ _ _ ⟨ho0, by simp; omega⟩ hp0 e, ix_set_same _ _ ⟨hp0, hr.2⟩]
    simp (disch := first | omega | (simp; omega) | (unfold I; omega)) [doP, k, hp, ↓G_on, ↓Bool.cond_eq_ite, ↓reduceIte, J, rfind_eq h, hl, hy, hz]
theorem planR_len (l : List Mk.Write) (c : Mk.Call) : (planR l c).1.length ≤ 3 := by
 unfold planR
 repeat' split
 all_goals simp
end Sp
end
section
namespace Sp
def wr (c : List Int) (w : Mk.Write) : List Int := if 0 ≤ w.At ∧ w.At < c.length then c.set w.At.toNat w.N else c
def wrs (c : List Int) (l : List Mk.Write) : List Int := l.foldl wr c
theorem wr_len (c : List Int) (w : Mk.Write) : (wr c w).length = c.length := by unfold wr; split <;> simp
theorem wrs_len (c : List Int) (l : List Mk.Write) : (wrs c l).length = c.length := by
 induction l generalizing c with
 | nil => rfl
 | cons w l ih => rw [wrs, List.foldl_cons, ← wrs, ih, wr_len]
theorem wrs_cons (c : List Int) (w : Mk.Write) (l : List Mk.Write) : wrs c (w :: l) = wrs (wr c w) l := rfl
theorem wrs_append (c : List Int) (l m : List Mk.Write) : wrs c (l ++ m) = wrs (wrs c l) m := by simp [wrs]
theorem ix_wr (c : List Int) (w : Mk.Write) (i : Int) (hi : 0 ≤ i ∧ i < c.length) : ix (wr c w) i = if w.At = i then w.N else ix c i := by
 unfold wr
 by_cases h : w.At = i
 ·subst h
  have : w.At.toNat < c.length := by omega
  simp [hi, ix, this]
 ·rw [if_neg h]
  split
  ·have : w.At.toNat ≠ i.toNat := by omega
   simp [ix, List.getElem?_set, this]
  ·rfl
def cellBehind (i : Int) (n : Int) (l : List Mk.Write) : Int := l.foldl (fun n w => if w.At = i then w.N else n) n
theorem ix_wrs (c : List Int) (l : List Mk.Write) (i : Int) (hi : 0 ≤ i ∧ i < c.length) : ix (wrs c l) i = cellBehind i (ix c i) l := by
 induction l generalizing c with
 | nil => rfl
 | cons w l ih =>
  rw [wrs_cons, ih _ (by rw [wr_len]; exact hi), ix_wr _ _ _ hi]
  rfl
theorem ix_ext {c d : List Int} (hl : c.length = d.length) (h : ∀ i : Nat, i < c.length → ix c (i : Int) = ix d (i : Int)) : c = d := by
 apply List.ext_getElem hl
 intro i h1 h2
 have := h i h1
 rwa [ix_nat c i h1, ix_nat d i h2] at this
theorem rset_loop2 (l : List Mk.Write) (hl : l.length ≤ 9223372036854775807) (cs : List Int) (k : List Mk.Write → Int → List Int → Int → Int → List Int → Option (List Int)) (i cn ci : Int) (acc : List Int) : ∀ (m j : Nat), j + m = l.length → ∀ f : Nat, m < f → ∀ n : Int,
  mkref1_Set_l2 k f l i n cs cn ci l (l.length : Int) (j : Int) acc = k l (cellBehind i n (l.drop j)) cs cn ci acc := by
 intro m
 induction m with
 | zero =>
  intro j hj f hf n
  obtain ⟨f, rfl⟩ : ∃ g, f = g + 1 := ⟨f - 1, by omega⟩
  rw [mkref1_Set_l2, dF (by omega), cF, List.drop_of_length_le (by omega)]
  rfl
 | succ m ih =>
  intro j hj f hf n
  obtain ⟨f, rfl⟩ : ∃ g, f = g + 1 := ⟨f - 1, by omega⟩
  rw [mkref1_Set_l2, dT (by omega), cT]
  simp only [J]
  rw [G_on (by omega), ix_drop l j (by omega)]
  by_cases h : (ix l (j : Int)).At = i
  ·rw [dT h, cT, G_on (by unfold I; omega), show ((j : Int) + 1) = ((j + 1 : Nat) : Int) from by omega, ih (j + 1) (by omega) f (by omega)]
   simp [cellBehind, h]
  ·rw [dF h, cF, G_on (by unfold I; omega), show ((j : Int) + 1) = ((j + 1 : Nat) : Int) from by omega, ih (j + 1) (by omega) f (by omega)]
   simp [cellBehind, h]
theorem rset_loop1 (c : List Int) (hc : c.length * 8 ≤ 140737488355328) (l : List Mk.Write) (hl : l.length ≤ 9223372036854775807) (k : List Int → Option (List Int)) : ∀ (m i : Nat), i + m = c.length → ∀ f : Nat, m < f → ∀ acc : List Int, acc.length = i →
  mkref1_Set_l1 k f l c (c.length : Int) (i : Int) acc = k (acc ++ (wrs c l).drop i) := by
 intro m
 induction m with
 | zero =>
  intro i hi f hf acc ha
  obtain ⟨f, rfl⟩ : ∃ g, f = g + 1 := ⟨f - 1, by omega⟩
  rw [mkref1_Set_l1, dF (by omega), cF, List.drop_of_length_le (by rw [wrs_len]; omega), List.append_nil]
 | succ m ih =>
  intro i hi f hf acc ha
  obtain ⟨f, rfl⟩ : ∃ g, f = g + 1 := ⟨f - 1, by omega⟩
  rw [mkref1_Set_l1, dT (by omega), cT]
  simp only [J]
  rw [G_on (by omega)]
  have h2 := rset_loop2 l hl c (fun x1 x7 x10 x11 x12 y => G (((y.length + ([x7] : List Int).length) * 8 ≤ 140737488355328 ∧ y.length + ([x7] : List Int).length ≤ 9223372036854775807)) (G (I (x12 + 1)) (mkref1_Set_l1 k f x1 x10 x11 (x12 + 1) (y ++ [x7])))) (i : Int) (c.length : Int) (i : Int) acc l.length 0 (by omega) (((l.length : Int) - 0).toNat + 1) (by omega) (ix c (i : Int))
  rw [show ((0 : Nat) : Int) = 0 from rfl] at h2
  rw [h2, G_on (by simp; omega), G_on (by unfold I; omega), show ((i : Int) + 1) = ((i + 1 : Nat) : Int) from by omega, ih (i + 1) (by omega) f (by omega) _ (by simp [ha]), ix_drop (wrs c l) i (by rw [wrs_len]; omega), ix_wrs c l i (by omega)]
  simp
theorem rset_eq (c : List Int) (hc : c.length * 8 ≤ 140737488355328) (l : List Mk.Write) (hl : l.length ≤ 9223372036854775807) : mkref1_Set c l = some (wrs c l) := by
 unfold mkref1_Set
 simp only [J]
 have := rset_loop1 c hc l hl (fun y => some y) c.length 0 (by omega) (((c.length : Int) - 0).toNat + 1) (by omega) [] rfl
 rw [show ((0 : Nat) : Int) = 0 from rfl] at this
 rw [this]; simp
theorem rset2_loop (l : List Mk.Write) (hl : l.length ≤ 9223372036854775807) (k : List Int → Option (List Int)) : ∀ (m i : Nat), i + m = l.length → ∀ f : Nat, m < f → ∀ c : List Int, c.length * 8 ≤ 140737488355328 →
  mkref1_Set2_l1 k f c l (l.length : Int) (i : Int) = k (wrs c (l.drop i)) := by
 intro m
 induction m with
 | zero =>
  intro i hi f hf c hc
  obtain ⟨f, rfl⟩ : ∃ g, f = g + 1 := ⟨f - 1, by omega⟩
  rw [mkref1_Set2_l1, dF (by omega), cF, List.drop_of_length_le (by omega)]; rfl
 | succ m ih =>
  intro i hi f hf c hc
  obtain ⟨f, rfl⟩ : ∃ g, f = g + 1 := ⟨f - 1, by omega⟩
  rw [mkref1_Set2_l1, dT (by omega), cT, G_on (by omega), rset_eq c hc _ (by simp), obs, G_on (by unfold I; omega), show ((i : Int) + 1) = ((i + 1 : Nat) : Int) from by omega, ih (i + 1) (by omega) f (by omega) _ (by rw [wrs_len]; exact hc), ix_drop l i (by omega)]
  rfl
theorem rset2_eq (c : List Int) (hc : c.length * 8 ≤ 140737488355328) (l : List Mk.Write) (hl : l.length ≤ 9223372036854775807) : mkref1_Set2 c l = some (wrs c l) := by
 unfold mkref1_Set2
 simp only [J]
 have := rset2_loop l hl (fun y => some y) l.length 0 (by omega) (((l.length : Int) - 0).toNat + 1) (by omega) c hc
 rw [show ((0 : Nat) : Int) = 0 from rfl] at this
 rw [this]; simp
theorem entries_of {c : List Int} {l : List Mk.Write} (h : Rt c l) : entries c = l := by
 unfold entries
 rw [h.n]
 apply List.ext_getElem
 ·simp
 ·intro i h1 h2
  simp only [Int.toNat_natCast, List.length_map, List.length_range] at h1
  have := h.ats i h1
  simp only [Int.toNat_natCast, List.getElem_map, List.getElem_range, cat, cnum, this, ix_nat l i h1]
end Sp
end
section
namespace Sp
theorem ix_set {l : List Mk.Write} (k j : Int) (w : Mk.Write) (hk : 0 ≤ k ∧ k < l.length) (hj : 0 ≤ j) : ix (l.set k.toNat w) j = if k = j then w else ix l j := by
 by_cases e : k = j
 ·subst e; rw [if_pos rfl, ix_set_same k w hk]
 ·rw [if_neg e, ix_set_other k j w hk hj e]
theorem ix_snoc {l : List Mk.Write} (w : Mk.Write) (j : Int) (hj : 0 ≤ j ∧ j ≤ l.length) : ix (l ++ [w]) j = if j = l.length then w else ix l j := by
 by_cases e : j = l.length
 ·subst e; simp [ix]
 ·rw [if_neg e, ix_app l _ j (by omega)]
theorem mem_ix {l : List Mk.Write} {w : Mk.Write} (h : w ∈ l) : ∃ i : Nat, i < l.length ∧ ix l (i : Int) = w := by
 obtain ⟨i, hi, rfl⟩ := List.mem_iff_getElem.1 h
 exact ⟨i, hi, ix_nat l i hi⟩
theorem Nm.ix {l : List Mk.Write} (h : Nm l) (i : Int) (hi : 0 ≤ i ∧ i < l.length) : 1 ≤ (ix l i).At ∧ (ix l i).At ≤ 255 ∧ -1073741824 ≤ (ix l i).N ∧ (ix l i).N ≤ 1073741824 := h.at1 _ (ix_mem l i hi)
theorem nm_of {l : List Mk.Write} (hle : l.length ≤ 5) (h1 : ∀ i : Nat, i < l.length → 1 ≤ (ix l (i : Int)).At ∧ (ix l (i : Int)).At ≤ 255 ∧ -1073741824 ≤ (ix l (i : Int)).N ∧ (ix l (i : Int)).N ≤ 1073741824)
  (h2 : ∀ i j : Nat, i < j → j < l.length → (ix l (i : Int)).At ≠ (ix l (j : Int)).At) : Nm l := by
 refine ⟨hle, fun w hw => ?_, ?_⟩
 ·obtain ⟨i, hi, rfl⟩ := mem_ix hw
  exact h1 i hi
 ·rw [List.nodup_iff_pairwise_ne, List.pairwise_map, List.pairwise_iff_getElem]
  intro i j hi hj hij
  have := h2 i j hij hj
  rwa [ix_nat l i hi, ix_nat l j hj] at this
theorem Nm.ne {l : List Mk.Write} (h : Nm l) {i j : Nat} (hi : i < l.length) (hj : j < l.length) (hij : i ≠ j) : (Sp.ix l (i : Int)).At ≠ (Sp.ix l (j : Int)).At := by
 rw [ix_nat l i hi, ix_nat l j hj]
 exact fun e => hij (nodup_at h.nodup hi hj e)
theorem nm_set {l : List Mk.Write} (h : Nm l) {k : Int} (hk : 0 ≤ k ∧ k < l.length) {w : Mk.Write} (hw : (Sp.ix l k).At = w.At) (hn : -1073741824 ≤ w.N ∧ w.N ≤ 1073741824) : Nm (l.set k.toNat w) := by
 refine ⟨by simpa using h.le, fun v hv => ?_, by rw [set_names hk hw]; exact h.nodup⟩
 rcases List.mem_or_eq_of_mem_set hv with hv | rfl
 ·exact h.at1 v hv
 ·have := h.ix k hk
  rw [hw] at this
  exact ⟨this.1, this.2.1, hn⟩
theorem nm_drop {l : List Mk.Write} (h : Nm l) {k : Int} (hk : 0 ≤ k ∧ k < l.length) : Nm ((l.set k.toNat (Sp.ix l ((l.length : Int) - 1))).take (l.length - 1)) := by
 have hle := h.le
 have hl : ((l.set k.toNat (Sp.ix l ((l.length : Int) - 1))).take (l.length - 1)).length = l.length - 1 := by simp
 have hix : ∀ i : Nat, i < l.length - 1 → Sp.ix ((l.set k.toNat (Sp.ix l ((l.length : Int) - 1))).take (l.length - 1)) (i : Int) = if k = i then Sp.ix l ((l.length - 1 : Nat) : Int) else Sp.ix l (i : Int) := by
  intro i hi
  rw [ix_take _ _ (by omega), ix_set _ _ _ hk (by omega), show ((l.length : Int) - 1) = ((l.length - 1 : Nat) : Int) from by omega]
 refine nm_of (by omega) (fun i hi => ?_) (fun i j hij hj => ?_)
 ·rw [hl] at hi
  rw [hix i hi]
  split
  ·exact h.ix _ (by omega)
  ·exact h.ix _ (by omega)
 ·rw [hl] at hj
  rw [hix i (by omega), hix j (by omega)]
  split
  ·split
   ·omega
   ·exact h.ne (by omega) (by omega) (by omega)
  ·split
   ·exact h.ne (by omega) (by omega) (by omega)
   ·exact h.ne (by omega) (by omega) (by omega)
theorem nm_snoc {l : List Mk.Write} (h : Nm l) {x n : Int} (hl : l.length < 5) (hp : pos l x < 0) (hx : 1 ≤ x ∧ x ≤ 255) (hn : -1073741824 ≤ n ∧ n ≤ 1073741824) : Nm (l ++ [⟨x, n⟩]) := by
 refine ⟨by simp; omega, fun w hw => ?_, ?_⟩
 ·rcases List.mem_append.1 hw with hw | hw
  ·exact h.at1 w hw
  ·simp at hw; subst hw; exact ⟨hx.1, hx.2, hn⟩
 ·rw [List.map_append, List.nodup_append]
  refine ⟨h.nodup, by simp, fun a ha b hb => ?_⟩
  simp only [List.map_cons, List.map_nil, List.mem_singleton] at hb
  simp only [List.mem_map] at ha
  obtain ⟨w, hw, rfl⟩ := ha
  rw [hb]
  exact pos_neg l x hp w hw
theorem nm_doP {l : List Mk.Write} (h : Nm l) {c : Mk.Call} (hc : CallOk c) : Nm (doP l c).1 := by
 have hr := pos_range l c.Name
 have ho := pos_range l c.Other
 have hnum := hc.num
 have hnm := hc.name
 unfold doP
 repeat' split
 all_goals first | exact h | skip
 ·exact nm_snoc h (by omega) (by assumption) (by omega) (by omega)
 ·exact nm_set h (by omega) (pos_spec l c.Name (by omega)).1 ⟨hnum.1, hnum.2.1⟩
 ·exact nm_drop h (by omega)
 ·exact nm_set h (by omega) (pos_spec l c.Name (by omega)).1 (by simp only; omega)
 ·have h1 := (pos_spec l c.Name (by omega)).1
  have h2 := (pos_spec l c.Other (by omega)).1
  have h3 : Nm (l.set (pos l c.Name).toNat ⟨c.Name, (Sp.ix l (pos l c.Other)).N⟩) := nm_set h (by omega) h1 (h.call (by omega))
  refine nm_set h3 (by simp; omega) ?_ (h.call (by omega))
  rw [ix_set _ _ _ (by omega) (by omega)]
  split
  ·rename_i e; rw [← h1, e, h2]
  ·exact h2
theorem rt_of {c : List Int} {l : List Mk.Write} (hlen : c.length = 11) (h : Nm l) (hn : Sp.ix c 0 = l.length) (hat : ∀ i : Nat, i < l.length → Sp.ix c (1 + 2 * (i : Int)) = (Sp.ix l i).At ∧ Sp.ix c (2 + 2 * (i : Int)) = (Sp.ix l i).N) : Rt c l :=
 ⟨hlen, hn, h.le, hat, h.at1, h.nodup⟩
theorem plan_rt {c : List Int} {l : List Mk.Write} {call : Mk.Call} (h : Rt c l) (hc : CallOk call) : Rt (wrs c (planR l call).1) (doP l call).1 ∧ (planR l call).2 = (doP l call).2 := by
 have hle := h.le
 have hlen := h.len
 have hn := h.n
 have hr := pos_range l call.Name
 have ho := pos_range l call.Other
 have hk := hc.kind
 have hnm := nm_doP h.nm hc
 have kk : call.Kind = 1 ∨ call.Kind = 2 ∨ call.Kind = 3 ∨ call.Kind = 4 ∨ call.Kind = 5 ∨ call.Kind = 6 := by omega
 have hsame : Rt (wrs c []) l := h
 by_cases hp : pos l call.Name < 0
 ·by_cases h5 : 5 ≤ l.length
  ·have h5' : 5 ≤ (l.length : Int) := by omega
   rcases kk with k | k | k | k | k | k
   all_goals simp [planR, doP, k, hp, h5, h5', h, wrs]
  ·have h5' : ¬ 5 ≤ (l.length : Int) := by omega
   rcases kk with k | k | k | k | k | k
   ·have e : (doP l call) = (l ++ [⟨call.Name, call.N⟩], ⟨0, 0⟩) := by simp [doP, k, hp, h5]
    have e2 : planR l call = ([⟨1 + 2 * (l.length : Int), call.Name⟩, ⟨2 + 2 * (l.length : Int), call.N⟩, ⟨0, (l.length : Int) + 1⟩], ⟨0, 0⟩) := by simp [planR, k, hp, h5']
    rw [e] at hnm ⊢
    rw [e2]
    refine ⟨rt_of (by rw [wrs_len]; omega) hnm ?_ fun i hi => ?_, rfl⟩
    ·rw [ix_wrs _ _ _ (by omega)]
     simp [cellBehind]
    ·simp only [List.length_append, List.length_cons, List.length_nil] at hi
     rw [ix_wrs _ _ _ (by omega), ix_wrs _ _ _ (by omega), ix_snoc _ _ (by omega)]
     simp only [cellBehind, List.foldl_cons, List.foldl_nil]
     by_cases hi2 : (i : Int) = l.length
     ·constructor
      ·rw [if_neg (by omega), if_neg (by omega), if_pos (by omega), if_pos hi2]
      ·rw [if_neg (by omega), if_pos (by omega), if_pos hi2]
     ·have := h.ats i (by omega)
      constructor
      ·rw [if_neg (by omega), if_neg (by omega), if_neg (by omega), if_neg hi2, this.1]
      ·rw [if_neg (by omega), if_neg (by omega), if_neg (by omega), if_neg hi2, this.2]
   all_goals simp [planR, doP, k, hp, h5, h5', h, wrs]
 ·have hp0 : 0 ≤ pos l call.Name := by omega
  have hs := (pos_spec l call.Name hp0).1
  have one : ∀ x : Int, Nm (l.set (pos l call.Name).toNat ⟨call.Name, x⟩) → Rt (wrs c [⟨2 + 2 * pos l call.Name, x⟩]) (l.set (pos l call.Name).toNat ⟨call.Name, x⟩) := by
   intro x hm
   refine rt_of (by rw [wrs_len]; omega) hm ?_ fun i hi => ?_
   ·rw [ix_wrs _ _ _ (by omega)]
    simp only [cellBehind, List.foldl_cons, List.foldl_nil, List.length_set]
    rw [if_neg (by omega), hn]
   ·simp only [List.length_set] at hi
    have := h.ats i hi
    rw [ix_wrs _ _ _ (by omega), ix_wrs _ _ _ (by omega), ix_set _ _ _ (by omega) (by omega)]
    simp only [cellBehind, List.foldl_cons, List.foldl_nil]
    by_cases hi2 : pos l call.Name = i
    ·rw [if_pos hi2, if_neg (by omega : ¬ (2 + 2 * pos l call.Name = 1 + 2 * (i : Int))), if_pos (by omega : 2 + 2 * pos l call.Name = 2 + 2 * (i : Int)), this.1, ← hi2, hs]
     exact ⟨rfl, rfl⟩
    ·rw [if_neg hi2, if_neg (by omega), if_neg (by omega), this.1, this.2]
     exact ⟨rfl, rfl⟩
  rcases kk with k | k | k | k | k | k
  ·have e : doP l call = (l.set (pos l call.Name).toNat ⟨call.Name, call.N⟩, ⟨0, (ix l (pos l call.Name)).N⟩) := by simp [doP, k, hp]
   have e2 : planR l call = ([⟨2 + 2 * pos l call.Name, call.N⟩], ⟨0, (ix l (pos l call.Name)).N⟩) := by simp [planR, k, hp]
   rw [e] at hnm ⊢
   rw [e2]
   exact ⟨one _ hnm, rfl⟩
  ·simp [planR, doP, k, hp, h, wrs]
  ·have e : doP l call = ((l.set (pos l call.Name).toNat (ix l ((l.length : Int) - 1))).take (l.length - 1), ⟨0, (ix l (pos l call.Name)).N⟩) := by simp [doP, k, hp]
   have hl := h.ats (l.length - 1) (by omega)
   have hcast : ((l.length - 1 : Nat) : Int) = (l.length : Int) - 1 := by omega
   rw [hcast] at hl
   rw [e] at hnm ⊢
   have hl2 : ((l.set (pos l call.Name).toNat (ix l ((l.length : Int) - 1))).take (l.length - 1)).length = l.length - 1 := by simp
   have hix : ∀ i : Nat, i < l.length - 1 → ix ((l.set (pos l call.Name).toNat (ix l ((l.length : Int) - 1))).take (l.length - 1)) (i : Int) = if pos l call.Name = i then ix l ((l.length : Int) - 1) else ix l (i : Int) := by
    intro i hi
    rw [ix_take _ _ (by omega), ix_set _ _ _ (by omega) (by omega)]
   by_cases hlast : pos l call.Name < (l.length : Int) - 1
   ·have e2 : planR l call = ([⟨1 + 2 * pos l call.Name, (ix l ((l.length : Int) - 1)).At⟩, ⟨2 + 2 * pos l call.Name, (ix l ((l.length : Int) - 1)).N⟩, ⟨0, (l.length : Int) - 1⟩], ⟨0, (ix l (pos l call.Name)).N⟩) := by simp [planR, k, hp, hlast]
    rw [e2]
    refine ⟨rt_of (by rw [wrs_len]; omega) hnm ?_ fun i hi => ?_, rfl⟩
    ·rw [ix_wrs _ _ _ (by omega), hl2, hcast]
     simp [cellBehind]
    ·rw [hl2] at hi
     have := h.ats i (by omega)
     rw [ix_wrs _ _ _ (by omega), ix_wrs _ _ _ (by omega), hix i hi]
     simp only [cellBehind, List.foldl_cons, List.foldl_nil]
     by_cases hi2 : pos l call.Name = i
     ·rw [if_pos hi2]
      constructor
      ·rw [if_neg (by omega), if_neg (by omega), if_pos (by omega)]
      ·rw [if_neg (by omega), if_pos (by omega)]
     ·rw [if_neg hi2]
      constructor
      ·rw [if_neg (by omega), if_neg (by omega), if_neg (by omega), this.1]
      ·rw [if_neg (by omega), if_neg (by omega), if_neg (by omega), this.2]
   ·have e2 : planR l call = ([⟨0, (l.length : Int) - 1⟩], ⟨0, (ix l (pos l call.Name)).N⟩) := by simp [planR, k, hp, hlast]
    rw [e2]
    refine ⟨rt_of (by rw [wrs_len]; omega) hnm ?_ fun i hi => ?_, rfl⟩
    ·rw [ix_wrs _ _ _ (by omega), hl2, hcast]
     simp [cellBehind]
    ·rw [hl2] at hi
     have := h.ats i (by omega)
     rw [ix_wrs _ _ _ (by omega), ix_wrs _ _ _ (by omega), hix i hi]
     simp only [cellBehind, List.foldl_cons, List.foldl_nil]
     rw [if_neg (by omega), if_neg (by omega), if_neg (by omega), this.1, this.2]
     exact ⟨rfl, rfl⟩
  ·by_cases hb : 1073741824 < (ix l (pos l call.Name)).N + call.N ∨ (ix l (pos l call.Name)).N + call.N < -1073741824
   ·have e : doP l call = (l, ⟨3, 0⟩) := by simp [doP, k, hp, hb]
    have e2 : planR l call = ([], ⟨3, 0⟩) := by simp [planR, k, hp, hb]
    rw [e, e2]
    exact ⟨hsame, rfl⟩
   ·have e : doP l call = (l.set (pos l call.Name).toNat ⟨call.Name, (ix l (pos l call.Name)).N + call.N⟩, ⟨0, (ix l (pos l call.Name)).N + call.N⟩) := by simp [doP, k, hp, hb]
    have e2 : planR l call = ([⟨2 + 2 * pos l call.Name, (ix l (pos l call.Name)).N + call.N⟩], ⟨0, (ix l (pos l call.Name)).N + call.N⟩) := by simp [planR, k, hp, hb]
    rw [e] at hnm ⊢
    rw [e2]
    exact ⟨one _ hnm, rfl⟩
  ·simp [planR, doP, k, hp, h, wrs]
  ·by_cases hb : pos l call.Other < 0
   ·have e : doP l call = (l, ⟨6, 0⟩) := by simp [doP, k, hp, hb]
    have e2 : planR l call = ([], ⟨6, 0⟩) := by simp [planR, k, hp, hb]
    rw [e, e2]
    exact ⟨hsame, rfl⟩
   ·have hso := (pos_spec l call.Other (by omega)).1
    have e : doP l call = ((l.set (pos l call.Name).toNat ⟨call.Name, (ix l (pos l call.Other)).N⟩).set (pos l call.Other).toNat ⟨call.Other, (ix l (pos l call.Name)).N⟩, ⟨0, (ix l (pos l call.Other)).N⟩) := by simp [doP, k, hp, hb]
    have e2 : planR l call = ([⟨2 + 2 * pos l call.Name, (ix l (pos l call.Other)).N⟩, ⟨2 + 2 * pos l call.Other, (ix l (pos l call.Name)).N⟩], ⟨0, (ix l (pos l call.Other)).N⟩) := by simp [planR, k, hp, hb]
    rw [e] at hnm ⊢
    rw [e2]
    refine ⟨rt_of (by rw [wrs_len]; omega) hnm ?_ fun i hi => ?_, rfl⟩
    ·rw [ix_wrs _ _ _ (by omega)]
     simp only [cellBehind, List.foldl_cons, List.foldl_nil, List.length_set]
     rw [if_neg (by omega), if_neg (by omega), hn]
    ·simp only [List.length_set] at hi
     have := h.ats i (by omega)
     rw [ix_wrs _ _ _ (by omega), ix_wrs _ _ _ (by omega), ix_set _ _ _ (by simp; omega) (by omega), ix_set _ _ _ (by omega) (by omega)]
     simp only [cellBehind, List.foldl_cons, List.foldl_nil]
     by_cases hi3 : pos l call.Other = i
     ·rw [if_pos hi3, if_neg (by omega : ¬ (2 + 2 * pos l call.Other = 1 + 2 * (i : Int))), if_neg (by omega : ¬ (2 + 2 * pos l call.Name = 1 + 2 * (i : Int))), if_pos (by omega : 2 + 2 * pos l call.Other = 2 + 2 * (i : Int)), this.1, ← hi3, hso]
      exact ⟨rfl, rfl⟩
     ·rw [if_neg hi3, if_neg (by omega : ¬ (2 + 2 * pos l call.Other = 1 + 2 * (i : Int))), if_neg (by omega : ¬ (2 + 2 * pos l call.Name = 1 + 2 * (i : Int))), if_neg (by omega : ¬ (2 + 2 * pos l call.Other = 2 + 2 * (i : Int)))]
      by_cases hi2 : pos l call.Name = i
      ·rw [if_pos hi2, if_pos (by omega), this.1, ← hi2, hs]
       exact ⟨rfl, rfl⟩
      ·rw [if_neg hi2, if_neg (by omega), this.1, this.2]
       exact ⟨rfl, rfl⟩
end Sp
end
section
namespace Sp
def allN : List Mk.Write → List Mk.Request → List Mk.Write
 | l, [] => l
 | l, r :: rs => allN (doP l r.Call).1 rs
def allR : List Mk.Write → List Mk.Request → List Mk.Reply
 | _, [] => []
 | l, r :: rs => (doP l r.Call).2 :: allR (doP l r.Call).1 rs
theorem allR_len (l : List Mk.Write) (rs : List Mk.Request) : (allR l rs).length = rs.length := by
 induction rs generalizing l with
 | nil => rfl
 | cons r rs ih => simp [allR, ih]
theorem nm_allN {l : List Mk.Write} (h : Nm l) {rs : List Mk.Request} (hr : ∀ r ∈ rs, CallOk r.Call) : Nm (allN l rs) := by
 induction rs generalizing l with
 | nil => exact h
 | cons r rs ih => exact ih (nm_doP h (hr r (by simp))) fun x hx => hr x (by simp [hx])
theorem nm_nil : Nm [] := ⟨by simp, by simp, by simp⟩
end Sp
end
