/-
  'mktop.TopSwap' ANSWERS TRUE, and turns nothing of what there was: the row, and its card. No condition on the arguments; the listed package-level variables start as the program's text lays them.
-/
import Derived.Test.YtjclefplnjicgaaGreatDoorRows
import Derived.ProofKit
import Derived.Test.YtjclefplnjicgaaGreatDoorZTpA5
namespace Go.Proofs.YtjclefplnjicgaaGreatDoor
open Go.ChangeShapes Go.WideShapes Go.ChangeAt Go.RowKit Go.Gx
set_option linter.unusedVariables false
set_option linter.unusedSimpArgs false
set_option maxRecDepth 20000

theorem topSwap_own : ownKnob Tryz.prog.godebug = none := by kernel_rfl
theorem topSwap_laid : laidOutB Tryz.prog = true := by kernel_rfl
theorem topSwap_f1 : mapsRowed Tryz.prog = true := by kernel_rfl
theorem topSwap_f2 : (Rows.topSwapRow.inPlace == Tryz.prog.inPlace 5) = true := by kernel_rfl
theorem topSwap_f3 : (Rows.topSwapRow.unfollowed == Tryz.prog.unfollowed 5) = true := by kernel_rfl
theorem topSwap_f4 : (Rows.topSwapRow.recurses == Tryz.prog.recurses 5) = true := by kernel_rfl
theorem topSwap_f5 : (Rows.topSwapRow.named == Tryz.prog.varsNamed 5) = true := by kernel_rfl
theorem topSwap_f6 : (Rows.topSwapRow.plainKeys == Tryz.prog.plainKeys) = true := by kernel_rfl
theorem topSwap_f7 : Tryz.prog.stopsHeard = true := by kernel_rfl
theorem topSwap_f8 : (Rows.topSwapRow.lifted == Tryz.prog.liftsFinal) = true := by rw [head_final]; kernel_rfl
theorem topSwap_f9 : (Tryz.prog.make == some Rows.topSwapRow.make) = true := by rw [head_make]; kernel_rfl
theorem topSwap_named : Tryz.prog.funcNamed Rows.topSwapRow.func = some 5 := by kernel_rfl
theorem topSwap_instance : Tryz.f5.isInstance Tryz.prog Rows.topSwapRow.origin Rows.topSwapRow.targs := of_decide_eq_true (by kernel_rfl)
theorem topSwap_wrapper : Tryz.f5.isWrapper Tryz.prog Rows.topSwapRow.wrapper Rows.topSwapRow.mainSum := by
  unfold Func.isWrapper
  first | (rw [if_pos (by decide +kernel)]; kernel_rfl) | (rw [if_neg (by decide +kernel)]; exact ⟨rfl, rfl⟩)
theorem topSwap_joined : joinedFacts Tryz.prog 5 Tryz.f5 (OpenSpec.ofChange Rows.topSwapSpec).bare Rows.topSwapRow = true :=
  joined_of (by kernel_rfl) topSwap_laid topSwap_f1 (by kernel_rfl) (by kernel_rfl) (by kernel_rfl) (by kernel_rfl) (by kernel_rfl) (by kernel_rfl) topSwap_f2 topSwap_f3 topSwap_f4 topSwap_f5
    (by kernel_rfl) (by kernel_rfl) (by kernel_rfl) (by kernel_rfl) (by kernel_rfl) (by kernel_rfl) (by kernel_rfl) (by kernel_rfl) (by kernel_rfl) topSwap_f6 (by kernel_rfl) topSwap_f7 head_enter topSwap_f8 topSwap_f9
    (by kernel_rfl) (by kernel_rfl) (by kernel_rfl) (by kernel_rfl)
theorem topSwap_noInit : Tryz.prog.inits.idxOf? 5 = none := by kernel_rfl
theorem topSwap_params : (Tryz.f5.params.toList.all fun t => Tryz.prog.readableRec t && decide (t < Tryz.prog.types.size)) = true := by kernel_rfl
theorem topSwap_reads (os : Os) {H : Type} (enc : TypeId × Value → H) : ∃ places, DataW.whole enc Tryz.prog ((lwWorld os).forCall (fun _ _ => 0) ⟨#[], #[.int .i64 0, .int .i64 0, .int .i64 0, .slice none 0 0], []⟩).memory Tryz.f5.params.toList Rows.topSwapSpec.vars false (#[.int .i64 0, .int .i64 0, .int .i64 0, .slice none 0 0] : Array Value).toList 8 = some ([.lit (.int .i64 0), .lit (.int .i64 0), .lit (.int .i64 0), .nil], [], places) :=
  ⟨[], by kernel_rfl⟩

theorem topSwap_lifted (os : Os) (started : os.Started) (H : Type) (enc : TypeId × Value → H) (F : Stop.Interp) :
    ReturnsInHanded {} Tryz.checked os 5 .any ((OpenSpec.ofChange Rows.topSwapSpec).preRow enc Tryz.prog Tryz.f5 Rows.topSwapRow.domain false Rows.topSwapRow.laid) (((OpenSpec.ofChange Rows.topSwapSpec).at F).post enc Tryz.prog Tryz.f5 false true false false) := by
  obtain ⟨places, hx⟩ := topSwap_reads os enc
  refine returnsInHanded_of_row (C := Tryz.checked) (s := (OpenSpec.ofChange Rows.topSwapSpec)) topSwap_own started topSwap_noInit Tryz.func5
    (witness_row_at (enc := enc) (C := Tryz.checked) false (lwWorld os) #[.int .i64 0, .int .i64 0, .int .i64 0, .slice none 0 0] rfl (by kernel_rfl) (by kernel_rfl) (by kernel_rfl)
      (OpenSpec.preRow_of_cond 8 hx (by kernel_rfl) (fun k hk => by cases hk) (by kernel_rfl) (lw_met os _))) ?_
  intro W base args ds gs before hval hW _ hcond hsz hL hsh _
  have hW0 := hW
  obtain ⟨p, q, hA0, hV, rfl, hfz, hnd⟩ := hW0
  have hA : DataW.TrodAll enc Tryz.prog W 0 (fun _ => true) true Tryz.f5.params.toList args.toList ds p := hA0
  rw [Tryz.params5] at hA
  obtain ⟨v1, vs1, d1, ds1, p1, q1, e1, rfl, rfl, ht1, hA1⟩ := trodAll_cons hA
  obtain ⟨v2, vs2, d2, ds2, p2, q2, e2, rfl, rfl, ht2, hA2⟩ := trodAll_cons hA1
  obtain ⟨v3, vs3, d3, ds3, p3, q3, e3, rfl, rfl, ht3, hA3⟩ := trodAll_cons hA2
  obtain ⟨v4, vs4, d4, ds4, p4, q4, e4, rfl, rfl, ht4, hA4⟩ := trodAll_cons hA3
  obtain ⟨en, rfl, rfl⟩ := trodAll_nil hA4
  obtain rfl : args = #[v1, v2, v3, v4] := by
    apply Array.ext'
    rw [e1, e2, e3, e4, en]
  obtain ⟨rfl, rfl⟩ := trodVars_none hV
  have k1 := hval 0 3 v1 (by rw [Tryz.params5]; rfl) rfl
  obtain ⟨a1, h1⟩ := Opn.top_cell o3 rfl (.inl ⟨.i64, by kernel_rfl⟩) k1 ht1
  have k2 := hval 1 3 v2 (by rw [Tryz.params5]; rfl) rfl
  obtain ⟨a2, h2⟩ := Opn.top_cell o3 rfl (.inl ⟨.i64, by kernel_rfl⟩) k2 ht2
  have k3 := hval 2 3 v3 (by rw [Tryz.params5]; rfl) rfl
  obtain ⟨a3, h3⟩ := Opn.top_cell o3 rfl (.inl ⟨.i64, by kernel_rfl⟩) k3 ht3
  have k4 := hval 3 22 v4 (by rw [Tryz.params5]; rfl) rfl
  obtain ⟨a4, h4⟩ := Opn.top_cell o22 rfl (.inr (.inr (.inl ⟨77, by kernel_rfl⟩))) k4 ht4
  have hs1 : (Rows.topSwapSpec.fn H ([d1, d2, d3, d4] ++ [])).results = [.lit (.bool true)] := rfl
  have hs2 : (Rows.topSwapSpec.fn H ([d1, d2, d3, d4] ++ [])).args = [d1, d2, d3, d4] := rfl
  have hs3 : (Rows.topSwapSpec.fn H ([d1, d2, d3, d4] ++ [])).vars = [] := rfl
  refine ((Go.Gx.c_mktop_TopSwap (Sp.topSwap a1 a2 a3 a4)).run (full W) W [v1, v2, v3, v4] (full_on W) (gt_of W hL hsh) ⟨_, _, rfl, h1, ⟨_, _, rfl, h2, ⟨_, _, rfl, h3, ⟨_, _, rfl, h4, rfl⟩⟩⟩⟩).mono fun e W' he => ?_
  obtain ⟨v, rfl, hb, hr⟩ := he
  obtain ⟨vs, h1, rfl⟩ := hr
  obtain rfl : vs = [.bool true] := h1
  exact ⟨.bool true, rfl, law_post (s := Rows.topSwapSpec) (t := 4) topSwap_laid rfl rfl Tryz.underlying4 topSwap_params hW hs1 hs2 hs3 hb⟩
theorem topSwap_row : Rows.TopSwapSaid :=
  OpenClaim.holds_of_cond 5 Tryz.f5 rfl rfl rfl rfl rfl rfl rfl ⟨rfl, rfl, rfl, rfl, rfl⟩ rfl rfl rfl rfl rfl topSwap_named Tryz.func5 topSwap_joined
    topSwap_instance topSwap_wrapper (fun os started H enc _ F => by rw [OpenClaim.pre_eq_preRow]; exact topSwap_lifted os started H enc F)
theorem topSwap_plain (f : FuncId) (fn : Func) (hf : Tryz.pinned.checked.prog.funcNamed Rows.topSwapRow.func = some f) (hfn : Tryz.pinned.checked.prog.funcs[f]? = some fn) :
    true = Tryz.pinned.checked.prog.looks [] ∧ ∀ (j : Nat) t, fn.params[j]? = some t → Tryz.pinned.checked.prog.wantsStandIn t = false := by
  obtain rfl : f = 5 := Option.some.inj (topSwap_named.symm.trans hf) |>.symm
  obtain rfl : fn = Tryz.f5 := (Option.some.inj (Tryz.func5.symm.trans hfn)).symm
  refine ⟨by kernel_rfl, fun j t ht => ?_⟩
  rw [Tryz.params5] at ht
  have hm := Array.mem_of_getElem? ht
  simp only [List.mem_toArray, List.mem_cons, List.mem_nil_iff, or_false] at hm
  rcases hm with rfl | rfl | rfl | rfl
  · exact (show Tryz.prog.wantsStandIn 3 = false by kernel_rfl)
  · exact (show Tryz.prog.wantsStandIn 3 = false by kernel_rfl)
  · exact (show Tryz.prog.wantsStandIn 3 = false by kernel_rfl)
  · exact (show Tryz.prog.wantsStandIn 22 = false by kernel_rfl)
theorem topSwap_card : Rows.TopSwapCardSaid :=
  Claim7.holds_tied_plain_at .later [] _ _ _ _ topSwap_row (fun _ h => by cases h) (by kernel_rfl) (fun _ h => by cases h) topSwap_row_tie rfl ⟨rfl, rfl⟩ (by kernel_rfl) rfl topSwap_plain (by kernel_rfl)
end Go.Proofs.YtjclefplnjicgaaGreatDoor
