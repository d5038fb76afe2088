/-
  'mktop.TopRoom' ANSWERS TRUE, and turns nothing of what there was: the row, and its card. No condition on the arguments; the listed package-level variables start as the program's text lays them.
-/
import Derived.Test.YtjclefplnjicgaaGreatDoorRows
import Derived.ProofKit
import Derived.Test.YtjclefplnjicgaaGreatDoorZTpB5
namespace Go.Proofs.YtjclefplnjicgaaGreatDoor
open Go.ChangeShapes Go.WideShapes Go.ChangeAt Go.RowKit Go.Gx
set_option linter.unusedVariables false
set_option linter.unusedSimpArgs false
set_option maxRecDepth 20000

theorem topRoom_own : ownKnob Tryz.prog.godebug = none := by kernel_rfl
theorem topRoom_laid : laidOutB Tryz.prog = true := by kernel_rfl
theorem topRoom_f1 : mapsRowed Tryz.prog = true := by kernel_rfl
theorem topRoom_f2 : (Rows.topRoomRow.inPlace == Tryz.prog.inPlace 6) = true := by kernel_rfl
theorem topRoom_f3 : (Rows.topRoomRow.unfollowed == Tryz.prog.unfollowed 6) = true := by kernel_rfl
theorem topRoom_f4 : (Rows.topRoomRow.recurses == Tryz.prog.recurses 6) = true := by kernel_rfl
theorem topRoom_f5 : (Rows.topRoomRow.named == Tryz.prog.varsNamed 6) = true := by kernel_rfl
theorem topRoom_f6 : (Rows.topRoomRow.plainKeys == Tryz.prog.plainKeys) = true := by kernel_rfl
theorem topRoom_f7 : Tryz.prog.stopsHeard = true := by kernel_rfl
theorem topRoom_f8 : (Rows.topRoomRow.lifted == Tryz.prog.liftsFinal) = true := by rw [head_final]; kernel_rfl
theorem topRoom_f9 : (Tryz.prog.make == some Rows.topRoomRow.make) = true := by rw [head_make]; kernel_rfl
theorem topRoom_named : Tryz.prog.funcNamed Rows.topRoomRow.func = some 6 := by kernel_rfl
theorem topRoom_instance : Tryz.f6.isInstance Tryz.prog Rows.topRoomRow.origin Rows.topRoomRow.targs := of_decide_eq_true (by kernel_rfl)
theorem topRoom_wrapper : Tryz.f6.isWrapper Tryz.prog Rows.topRoomRow.wrapper Rows.topRoomRow.mainSum := by
  unfold Func.isWrapper
  first | (rw [if_pos (by decide +kernel)]; kernel_rfl) | (rw [if_neg (by decide +kernel)]; exact ⟨rfl, rfl⟩)
theorem topRoom_joined : joinedFacts Tryz.prog 6 Tryz.f6 (OpenSpec.ofChange Rows.topRoomSpec).bare Rows.topRoomRow = true :=
  joined_of (by kernel_rfl) topRoom_laid topRoom_f1 (by kernel_rfl) (by kernel_rfl) (by kernel_rfl) (by kernel_rfl) (by kernel_rfl) (by kernel_rfl) topRoom_f2 topRoom_f3 topRoom_f4 topRoom_f5
    (by kernel_rfl) (by kernel_rfl) (by kernel_rfl) (by kernel_rfl) (by kernel_rfl) (by kernel_rfl) (by kernel_rfl) (by kernel_rfl) (by kernel_rfl) topRoom_f6 (by kernel_rfl) topRoom_f7 head_enter topRoom_f8 topRoom_f9
    (by kernel_rfl) (by kernel_rfl) (by kernel_rfl) (by kernel_rfl)
theorem topRoom_noInit : Tryz.prog.inits.idxOf? 6 = none := by kernel_rfl
theorem topRoom_params : (Tryz.f6.params.toList.all fun t => Tryz.prog.readableRec t && decide (t < Tryz.prog.types.size)) = true := by kernel_rfl
theorem topRoom_reads (os : Os) {H : Type} (enc : TypeId × Value → H) : ∃ places, DataW.whole enc Tryz.prog ((lwWorld os).forCall (fun _ _ => 0) ⟨#[], #[.int .i64 0, .int .i64 0, .slice none 0 0], []⟩).memory Tryz.f6.params.toList Rows.topRoomSpec.vars false (#[.int .i64 0, .int .i64 0, .slice none 0 0] : Array Value).toList 8 = some ([.lit (.int .i64 0), .lit (.int .i64 0), .nil], [], places) :=
  ⟨[], by kernel_rfl⟩

theorem topRoom_lifted (os : Os) (started : os.Started) (H : Type) (enc : TypeId × Value → H) (F : Stop.Interp) :
    ReturnsInHanded {} Tryz.checked os 6 .any ((OpenSpec.ofChange Rows.topRoomSpec).preRow enc Tryz.prog Tryz.f6 Rows.topRoomRow.domain false Rows.topRoomRow.laid) (((OpenSpec.ofChange Rows.topRoomSpec).at F).post enc Tryz.prog Tryz.f6 false true false false) := by
  obtain ⟨places, hx⟩ := topRoom_reads os enc
  refine returnsInHanded_of_row (C := Tryz.checked) (s := (OpenSpec.ofChange Rows.topRoomSpec)) topRoom_own started topRoom_noInit Tryz.func6
    (witness_row_at (enc := enc) (C := Tryz.checked) false (lwWorld os) #[.int .i64 0, .int .i64 0, .slice none 0 0] rfl (by kernel_rfl) (by kernel_rfl) (by kernel_rfl)
      (OpenSpec.preRow_of_cond 8 hx (by kernel_rfl) (fun k hk => by cases hk) (by kernel_rfl) (lw_met os _))) ?_
  intro W base args ds gs before hval hW _ hcond hsz hL hsh _
  have hW0 := hW
  obtain ⟨p, q, hA0, hV, rfl, hfz, hnd⟩ := hW0
  have hA : DataW.TrodAll enc Tryz.prog W 0 (fun _ => true) true Tryz.f6.params.toList args.toList ds p := hA0
  rw [Tryz.params6] at hA
  obtain ⟨v1, vs1, d1, ds1, p1, q1, e1, rfl, rfl, ht1, hA1⟩ := trodAll_cons hA
  obtain ⟨v2, vs2, d2, ds2, p2, q2, e2, rfl, rfl, ht2, hA2⟩ := trodAll_cons hA1
  obtain ⟨v3, vs3, d3, ds3, p3, q3, e3, rfl, rfl, ht3, hA3⟩ := trodAll_cons hA2
  obtain ⟨en, rfl, rfl⟩ := trodAll_nil hA3
  obtain rfl : args = #[v1, v2, v3] := by
    apply Array.ext'
    rw [e1, e2, e3, en]
  obtain ⟨rfl, rfl⟩ := trodVars_none hV
  have k1 := hval 0 3 v1 (by rw [Tryz.params6]; rfl) rfl
  obtain ⟨a1, h1⟩ := Opn.top_cell o3 rfl (.inl ⟨.i64, by kernel_rfl⟩) k1 ht1
  have k2 := hval 1 3 v2 (by rw [Tryz.params6]; rfl) rfl
  obtain ⟨a2, h2⟩ := Opn.top_cell o3 rfl (.inl ⟨.i64, by kernel_rfl⟩) k2 ht2
  have k3 := hval 2 22 v3 (by rw [Tryz.params6]; rfl) rfl
  obtain ⟨a3, h3⟩ := Opn.top_cell o22 rfl (.inr (.inr (.inl ⟨77, by kernel_rfl⟩))) k3 ht3
  have hs1 : (Rows.topRoomSpec.fn H ([d1, d2, d3] ++ [])).results = [.lit (.bool true)] := rfl
  have hs2 : (Rows.topRoomSpec.fn H ([d1, d2, d3] ++ [])).args = [d1, d2, d3] := rfl
  have hs3 : (Rows.topRoomSpec.fn H ([d1, d2, d3] ++ [])).vars = [] := rfl
  refine ((Go.Gx.c_mktop_TopRoom (Sp.topRoom a1 a2 a3)).run (full W) W [v1, v2, v3] (full_on W) (gt_of W hL hsh) ⟨_, _, rfl, h1, ⟨_, _, rfl, h2, ⟨_, _, rfl, h3, rfl⟩⟩⟩).mono fun e W' he => ?_
  obtain ⟨v, rfl, hb, hr⟩ := he
  obtain ⟨vs, h1, rfl⟩ := hr
  obtain rfl : vs = [.bool true] := h1
  exact ⟨.bool true, rfl, law_post (s := Rows.topRoomSpec) (t := 4) topRoom_laid rfl rfl Tryz.underlying4 topRoom_params hW hs1 hs2 hs3 hb⟩
theorem topRoom_row : Rows.TopRoomSaid :=
  OpenClaim.holds_of_cond 6 Tryz.f6 rfl rfl rfl rfl rfl rfl rfl ⟨rfl, rfl, rfl, rfl, rfl⟩ rfl rfl rfl rfl rfl topRoom_named Tryz.func6 topRoom_joined
    topRoom_instance topRoom_wrapper (fun os started H enc _ F => by rw [OpenClaim.pre_eq_preRow]; exact topRoom_lifted os started H enc F)
theorem topRoom_plain (f : FuncId) (fn : Func) (hf : Tryz.pinned.checked.prog.funcNamed Rows.topRoomRow.func = some f) (hfn : Tryz.pinned.checked.prog.funcs[f]? = some fn) :
    true = Tryz.pinned.checked.prog.looks [] ∧ ∀ (j : Nat) t, fn.params[j]? = some t → Tryz.pinned.checked.prog.wantsStandIn t = false := by
  obtain rfl : f = 6 := Option.some.inj (topRoom_named.symm.trans hf) |>.symm
  obtain rfl : fn = Tryz.f6 := (Option.some.inj (Tryz.func6.symm.trans hfn)).symm
  refine ⟨by kernel_rfl, fun j t ht => ?_⟩
  rw [Tryz.params6] at ht
  have hm := Array.mem_of_getElem? ht
  simp only [List.mem_toArray, List.mem_cons, List.mem_nil_iff, or_false] at hm
  rcases hm with rfl | rfl | rfl
  · exact (show Tryz.prog.wantsStandIn 3 = false by kernel_rfl)
  · exact (show Tryz.prog.wantsStandIn 3 = false by kernel_rfl)
  · exact (show Tryz.prog.wantsStandIn 22 = false by kernel_rfl)
theorem topRoom_card : Rows.TopRoomCardSaid :=
  Claim7.holds_tied_plain_at .later [] _ _ _ _ topRoom_row (fun _ h => by cases h) (by kernel_rfl) (fun _ h => by cases h) topRoom_row_tie rfl ⟨rfl, rfl⟩ (by kernel_rfl) rfl topRoom_plain (by kernel_rfl)
end Go.Proofs.YtjclefplnjicgaaGreatDoor
