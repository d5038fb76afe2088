/-
  'mktop.TopCount' ANSWERS TRUE, and turns nothing of what there was: the row, and its card. No condition on the arguments; the listed package-level variables start as the program's text lays them.
-/
import Derived.Test.YtjclefplnjicgaaGreatDoorRows
import Derived.ProofKit
import Derived.Test.YtjclefplnjicgaaGreatDoorZTpA5
namespace Go.Proofs.YtjclefplnjicgaaGreatDoor
open Go.ChangeShapes Go.WideShapes Go.ChangeAt Go.RowKit Go.Gx
set_option linter.unusedVariables false
set_option linter.unusedSimpArgs false
set_option maxRecDepth 20000

theorem topCount_own : ownKnob Tryz.prog.godebug = none := by kernel_rfl
theorem topCount_laid : laidOutB Tryz.prog = true := by kernel_rfl
theorem topCount_f1 : mapsRowed Tryz.prog = true := by kernel_rfl
theorem topCount_f2 : (Rows.topCountRow.inPlace == Tryz.prog.inPlace 3) = true := by kernel_rfl
theorem topCount_f3 : (Rows.topCountRow.unfollowed == Tryz.prog.unfollowed 3) = true := by kernel_rfl
theorem topCount_f4 : (Rows.topCountRow.recurses == Tryz.prog.recurses 3) = true := by kernel_rfl
theorem topCount_f5 : (Rows.topCountRow.named == Tryz.prog.varsNamed 3) = true := by kernel_rfl
theorem topCount_f6 : (Rows.topCountRow.plainKeys == Tryz.prog.plainKeys) = true := by kernel_rfl
theorem topCount_f7 : Tryz.prog.stopsHeard = true := by kernel_rfl
theorem topCount_f8 : (Rows.topCountRow.lifted == Tryz.prog.liftsFinal) = true := by rw [head_final]; kernel_rfl
theorem topCount_f9 : (Tryz.prog.make == some Rows.topCountRow.make) = true := by rw [head_make]; kernel_rfl
theorem topCount_named : Tryz.prog.funcNamed Rows.topCountRow.func = some 3 := by kernel_rfl
theorem topCount_instance : Tryz.f3.isInstance Tryz.prog Rows.topCountRow.origin Rows.topCountRow.targs := of_decide_eq_true (by kernel_rfl)
theorem topCount_wrapper : Tryz.f3.isWrapper Tryz.prog Rows.topCountRow.wrapper Rows.topCountRow.mainSum := by
  unfold Func.isWrapper
  first | (rw [if_pos (by decide +kernel)]; kernel_rfl) | (rw [if_neg (by decide +kernel)]; exact ⟨rfl, rfl⟩)
theorem topCount_joined : joinedFacts Tryz.prog 3 Tryz.f3 (OpenSpec.ofChange Rows.topCountSpec).bare Rows.topCountRow = true :=
  joined_of (by kernel_rfl) topCount_laid topCount_f1 (by kernel_rfl) (by kernel_rfl) (by kernel_rfl) (by kernel_rfl) (by kernel_rfl) (by kernel_rfl) topCount_f2 topCount_f3 topCount_f4 topCount_f5
    (by kernel_rfl) (by kernel_rfl) (by kernel_rfl) (by kernel_rfl) (by kernel_rfl) (by kernel_rfl) (by kernel_rfl) (by kernel_rfl) (by kernel_rfl) topCount_f6 (by kernel_rfl) topCount_f7 head_enter topCount_f8 topCount_f9
    (by kernel_rfl) (by kernel_rfl) (by kernel_rfl) (by kernel_rfl)
theorem topCount_noInit : Tryz.prog.inits.idxOf? 3 = none := by kernel_rfl
theorem topCount_params : (Tryz.f3.params.toList.all fun t => Tryz.prog.readableRec t && decide (t < Tryz.prog.types.size)) = true := by kernel_rfl
theorem topCount_reads (os : Os) {H : Type} (enc : TypeId × Value → H) : ∃ places, DataW.whole enc Tryz.prog ((lwWorld os).forCall (fun _ _ => 0) ⟨#[], #[.int .i64 0, .int .i64 0, .slice none 0 0], []⟩).memory Tryz.f3.params.toList Rows.topCountSpec.vars false (#[.int .i64 0, .int .i64 0, .slice none 0 0] : Array Value).toList 8 = some ([.lit (.int .i64 0), .lit (.int .i64 0), .nil], [], places) :=
  ⟨[], by kernel_rfl⟩

theorem topCount_lifted (os : Os) (started : os.Started) (H : Type) (enc : TypeId × Value → H) (F : Stop.Interp) :
    ReturnsInHanded {} Tryz.checked os 3 .any ((OpenSpec.ofChange Rows.topCountSpec).preRow enc Tryz.prog Tryz.f3 Rows.topCountRow.domain false Rows.topCountRow.laid) (((OpenSpec.ofChange Rows.topCountSpec).at F).post enc Tryz.prog Tryz.f3 false true false false) := by
  obtain ⟨places, hx⟩ := topCount_reads os enc
  refine returnsInHanded_of_row (C := Tryz.checked) (s := (OpenSpec.ofChange Rows.topCountSpec)) topCount_own started topCount_noInit Tryz.func3
    (witness_row_at (enc := enc) (C := Tryz.checked) false (lwWorld os) #[.int .i64 0, .int .i64 0, .slice none 0 0] rfl (by kernel_rfl) (by kernel_rfl) (by kernel_rfl)
      (OpenSpec.preRow_of_cond 8 hx (by kernel_rfl) (fun k hk => by cases hk) (by kernel_rfl) (lw_met os _))) ?_
  intro W base args ds gs before hval hW _ hcond hsz hL hsh _
  have hW0 := hW
  obtain ⟨p, q, hA0, hV, rfl, hfz, hnd⟩ := hW0
  have hA : DataW.TrodAll enc Tryz.prog W 0 (fun _ => true) true Tryz.f3.params.toList args.toList ds p := hA0
  rw [Tryz.params3] at hA
  obtain ⟨v1, vs1, d1, ds1, p1, q1, e1, rfl, rfl, ht1, hA1⟩ := trodAll_cons hA
  obtain ⟨v2, vs2, d2, ds2, p2, q2, e2, rfl, rfl, ht2, hA2⟩ := trodAll_cons hA1
  obtain ⟨v3, vs3, d3, ds3, p3, q3, e3, rfl, rfl, ht3, hA3⟩ := trodAll_cons hA2
  obtain ⟨en, rfl, rfl⟩ := trodAll_nil hA3
  obtain rfl : args = #[v1, v2, v3] := by
    apply Array.ext'
    rw [e1, e2, e3, en]
  obtain ⟨rfl, rfl⟩ := trodVars_none hV
  have k1 := hval 0 3 v1 (by rw [Tryz.params3]; rfl) rfl
  obtain ⟨a1, h1⟩ := Opn.top_cell o3 rfl (.inl ⟨.i64, by kernel_rfl⟩) k1 ht1
  have k2 := hval 1 3 v2 (by rw [Tryz.params3]; rfl) rfl
  obtain ⟨a2, h2⟩ := Opn.top_cell o3 rfl (.inl ⟨.i64, by kernel_rfl⟩) k2 ht2
  have k3 := hval 2 22 v3 (by rw [Tryz.params3]; rfl) rfl
  obtain ⟨a3, h3⟩ := Opn.top_cell o22 rfl (.inr (.inr (.inl ⟨77, by kernel_rfl⟩))) k3 ht3
  have hs1 : (Rows.topCountSpec.fn H ([d1, d2, d3] ++ [])).results = [.lit (.bool true)] := rfl
  have hs2 : (Rows.topCountSpec.fn H ([d1, d2, d3] ++ [])).args = [d1, d2, d3] := rfl
  have hs3 : (Rows.topCountSpec.fn H ([d1, d2, d3] ++ [])).vars = [] := rfl
  refine ((Go.Gx.c_mktop_TopCount (Sp.topCount a1 a2 a3)).run (full W) W [v1, v2, v3] (full_on W) (gt_of W hL hsh) ⟨_, _, rfl, h1, ⟨_, _, rfl, h2, ⟨_, _, rfl, h3, rfl⟩⟩⟩).mono fun e W' he => ?_
  obtain ⟨v, rfl, hb, hr⟩ := he
  obtain ⟨vs, h1, rfl⟩ := hr
  obtain rfl : vs = [.bool true] := h1
  exact ⟨.bool true, rfl, law_post (s := Rows.topCountSpec) (t := 4) topCount_laid rfl rfl Tryz.underlying4 topCount_params hW hs1 hs2 hs3 hb⟩
theorem topCount_row : Rows.TopCountSaid :=
  OpenClaim.holds_of_cond 3 Tryz.f3 rfl rfl rfl rfl rfl rfl rfl ⟨rfl, rfl, rfl, rfl, rfl⟩ rfl rfl rfl rfl rfl topCount_named Tryz.func3 topCount_joined
    topCount_instance topCount_wrapper (fun os started H enc _ F => by rw [OpenClaim.pre_eq_preRow]; exact topCount_lifted os started H enc F)
theorem topCount_plain (f : FuncId) (fn : Func) (hf : Tryz.pinned.checked.prog.funcNamed Rows.topCountRow.func = some f) (hfn : Tryz.pinned.checked.prog.funcs[f]? = some fn) :
    true = Tryz.pinned.checked.prog.looks [] ∧ ∀ (j : Nat) t, fn.params[j]? = some t → Tryz.pinned.checked.prog.wantsStandIn t = false := by
  obtain rfl : f = 3 := Option.some.inj (topCount_named.symm.trans hf) |>.symm
  obtain rfl : fn = Tryz.f3 := (Option.some.inj (Tryz.func3.symm.trans hfn)).symm
  refine ⟨by kernel_rfl, fun j t ht => ?_⟩
  rw [Tryz.params3] at ht
  have hm := Array.mem_of_getElem? ht
  simp only [List.mem_toArray, List.mem_cons, List.mem_nil_iff, or_false] at hm
  rcases hm with rfl | rfl | rfl
  · exact (show Tryz.prog.wantsStandIn 3 = false by kernel_rfl)
  · exact (show Tryz.prog.wantsStandIn 3 = false by kernel_rfl)
  · exact (show Tryz.prog.wantsStandIn 22 = false by kernel_rfl)
theorem topCount_card : Rows.TopCountCardSaid :=
  Claim7.holds_tied_plain_at .later [] _ _ _ _ topCount_row (fun _ h => by cases h) (by kernel_rfl) (fun _ h => by cases h) topCount_row_tie rfl ⟨rfl, rfl⟩ (by kernel_rfl) rfl topCount_plain (by kernel_rfl)
end Go.Proofs.YtjclefplnjicgaaGreatDoor
