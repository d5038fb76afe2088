/-
  'mktop.TopApart' ANSWERS TRUE, and turns nothing of what there was: the row, and its card. No condition on the arguments; the listed package-level variables start as the program's text lays them.
-/
import Derived.Test.YtjclefplnjicgaaGreatDoorRows
import Derived.ProofKit
import Derived.Test.YtjclefplnjicgaaGreatDoorZTpB5
namespace Go.Proofs.YtjclefplnjicgaaGreatDoor
open Go.ChangeShapes Go.WideShapes Go.ChangeAt Go.RowKit Go.Gx
set_option linter.unusedVariables false
set_option linter.unusedSimpArgs false
set_option maxRecDepth 20000

theorem topApart_own : ownKnob Tryz.prog.godebug = none := by kernel_rfl
theorem topApart_laid : laidOutB Tryz.prog = true := by kernel_rfl
theorem topApart_f1 : mapsRowed Tryz.prog = true := by kernel_rfl
theorem topApart_f2 : (Rows.topApartRow.inPlace == Tryz.prog.inPlace 4) = true := by kernel_rfl
theorem topApart_f3 : (Rows.topApartRow.unfollowed == Tryz.prog.unfollowed 4) = true := by kernel_rfl
theorem topApart_f4 : (Rows.topApartRow.recurses == Tryz.prog.recurses 4) = true := by kernel_rfl
theorem topApart_f5 : (Rows.topApartRow.named == Tryz.prog.varsNamed 4) = true := by kernel_rfl
theorem topApart_f6 : (Rows.topApartRow.plainKeys == Tryz.prog.plainKeys) = true := by kernel_rfl
theorem topApart_f7 : Tryz.prog.stopsHeard = true := by kernel_rfl
theorem topApart_f8 : (Rows.topApartRow.lifted == Tryz.prog.liftsFinal) = true := by rw [head_final]; kernel_rfl
theorem topApart_f9 : (Tryz.prog.make == some Rows.topApartRow.make) = true := by rw [head_make]; kernel_rfl
theorem topApart_named : Tryz.prog.funcNamed Rows.topApartRow.func = some 4 := by kernel_rfl
theorem topApart_instance : Tryz.f4.isInstance Tryz.prog Rows.topApartRow.origin Rows.topApartRow.targs := of_decide_eq_true (by kernel_rfl)
theorem topApart_wrapper : Tryz.f4.isWrapper Tryz.prog Rows.topApartRow.wrapper Rows.topApartRow.mainSum := by
  unfold Func.isWrapper
  first | (rw [if_pos (by decide +kernel)]; kernel_rfl) | (rw [if_neg (by decide +kernel)]; exact ⟨rfl, rfl⟩)
theorem topApart_joined : joinedFacts Tryz.prog 4 Tryz.f4 (OpenSpec.ofChange Rows.topApartSpec).bare Rows.topApartRow = true :=
  joined_of (by kernel_rfl) topApart_laid topApart_f1 (by kernel_rfl) (by kernel_rfl) (by kernel_rfl) (by kernel_rfl) (by kernel_rfl) (by kernel_rfl) topApart_f2 topApart_f3 topApart_f4 topApart_f5
    (by kernel_rfl) (by kernel_rfl) (by kernel_rfl) (by kernel_rfl) (by kernel_rfl) (by kernel_rfl) (by kernel_rfl) (by kernel_rfl) (by kernel_rfl) topApart_f6 (by kernel_rfl) topApart_f7 head_enter topApart_f8 topApart_f9
    (by kernel_rfl) (by kernel_rfl) (by kernel_rfl) (by kernel_rfl)
theorem topApart_noInit : Tryz.prog.inits.idxOf? 4 = none := by kernel_rfl
theorem topApart_params : (Tryz.f4.params.toList.all fun t => Tryz.prog.readableRec t && decide (t < Tryz.prog.types.size)) = true := by kernel_rfl
theorem topApart_reads (os : Os) {H : Type} (enc : TypeId × Value → H) : ∃ places, DataW.whole enc Tryz.prog ((lwWorld os).forCall (fun _ _ => 0) ⟨#[], #[.slice none 0 0, .slice none 0 0, .slice none 0 0], []⟩).memory Tryz.f4.params.toList Rows.topApartSpec.vars false (#[.slice none 0 0, .slice none 0 0, .slice none 0 0] : Array Value).toList 8 = some ([.nil, .nil, .nil], [], places) :=
  ⟨[], by kernel_rfl⟩

theorem topApart_lifted (os : Os) (started : os.Started) (H : Type) (enc : TypeId × Value → H) (F : Stop.Interp) :
    ReturnsInHanded {} Tryz.checked os 4 .any ((OpenSpec.ofChange Rows.topApartSpec).preRow enc Tryz.prog Tryz.f4 Rows.topApartRow.domain false Rows.topApartRow.laid) (((OpenSpec.ofChange Rows.topApartSpec).at F).post enc Tryz.prog Tryz.f4 false true false false) := by
  obtain ⟨places, hx⟩ := topApart_reads os enc
  refine returnsInHanded_of_row (C := Tryz.checked) (s := (OpenSpec.ofChange Rows.topApartSpec)) topApart_own started topApart_noInit Tryz.func4
    (witness_row_at (enc := enc) (C := Tryz.checked) false (lwWorld os) #[.slice none 0 0, .slice none 0 0, .slice none 0 0] rfl (by kernel_rfl) (by kernel_rfl) (by kernel_rfl)
      (OpenSpec.preRow_of_cond 8 hx (by kernel_rfl) (fun k hk => by cases hk) (by kernel_rfl) (lw_met os _))) ?_
  intro W base args ds gs before hval hW _ hcond hsz hL hsh _
  have hW0 := hW
  obtain ⟨p, q, hA0, hV, rfl, hfz, hnd⟩ := hW0
  have hA : DataW.TrodAll enc Tryz.prog W 0 (fun _ => true) true Tryz.f4.params.toList args.toList ds p := hA0
  rw [Tryz.params4] at hA
  obtain ⟨v1, vs1, d1, ds1, p1, q1, e1, rfl, rfl, ht1, hA1⟩ := trodAll_cons hA
  obtain ⟨v2, vs2, d2, ds2, p2, q2, e2, rfl, rfl, ht2, hA2⟩ := trodAll_cons hA1
  obtain ⟨v3, vs3, d3, ds3, p3, q3, e3, rfl, rfl, ht3, hA3⟩ := trodAll_cons hA2
  obtain ⟨en, rfl, rfl⟩ := trodAll_nil hA3
  obtain rfl : args = #[v1, v2, v3] := by
    apply Array.ext'
    rw [e1, e2, e3, en]
  obtain ⟨rfl, rfl⟩ := trodVars_none hV
  have k1 := hval 0 46 v1 (by rw [Tryz.params4]; rfl) rfl
  obtain ⟨a1, h1⟩ := Opn.top_cell o46 rfl (.inr (.inr (.inl ⟨33, by kernel_rfl⟩))) k1 ht1
  have k2 := hval 1 46 v2 (by rw [Tryz.params4]; rfl) rfl
  obtain ⟨a2, h2⟩ := Opn.top_cell o46 rfl (.inr (.inr (.inl ⟨33, by kernel_rfl⟩))) k2 ht2
  have k3 := hval 2 22 v3 (by rw [Tryz.params4]; rfl) rfl
  obtain ⟨a3, h3⟩ := Opn.top_cell o22 rfl (.inr (.inr (.inl ⟨77, by kernel_rfl⟩))) k3 ht3
  have hs1 : (Rows.topApartSpec.fn H ([d1, d2, d3] ++ [])).results = [.lit (.bool true)] := rfl
  have hs2 : (Rows.topApartSpec.fn H ([d1, d2, d3] ++ [])).args = [d1, d2, d3] := rfl
  have hs3 : (Rows.topApartSpec.fn H ([d1, d2, d3] ++ [])).vars = [] := rfl
  refine ((Go.Gx.c_mktop_TopApart (Sp.topApart a1 a2 a3)).run (full W) W [v1, v2, v3] (full_on W) (gt_of W hL hsh) ⟨_, _, rfl, h1, ⟨_, _, rfl, h2, ⟨_, _, rfl, h3, rfl⟩⟩⟩).mono fun e W' he => ?_
  obtain ⟨v, rfl, hb, hr⟩ := he
  obtain ⟨vs, h1, rfl⟩ := hr
  obtain rfl : vs = [.bool true] := h1
  exact ⟨.bool true, rfl, law_post (s := Rows.topApartSpec) (t := 4) topApart_laid rfl rfl Tryz.underlying4 topApart_params hW hs1 hs2 hs3 hb⟩
theorem topApart_row : Rows.TopApartSaid :=
  OpenClaim.holds_of_cond 4 Tryz.f4 rfl rfl rfl rfl rfl rfl rfl ⟨rfl, rfl, rfl, rfl, rfl⟩ rfl rfl rfl rfl rfl topApart_named Tryz.func4 topApart_joined
    topApart_instance topApart_wrapper (fun os started H enc _ F => by rw [OpenClaim.pre_eq_preRow]; exact topApart_lifted os started H enc F)
theorem topApart_plain (f : FuncId) (fn : Func) (hf : Tryz.pinned.checked.prog.funcNamed Rows.topApartRow.func = some f) (hfn : Tryz.pinned.checked.prog.funcs[f]? = some fn) :
    true = Tryz.pinned.checked.prog.looks [] ∧ ∀ (j : Nat) t, fn.params[j]? = some t → Tryz.pinned.checked.prog.wantsStandIn t = false := by
  obtain rfl : f = 4 := Option.some.inj (topApart_named.symm.trans hf) |>.symm
  obtain rfl : fn = Tryz.f4 := (Option.some.inj (Tryz.func4.symm.trans hfn)).symm
  refine ⟨by kernel_rfl, fun j t ht => ?_⟩
  rw [Tryz.params4] at ht
  have hm := Array.mem_of_getElem? ht
  simp only [List.mem_toArray, List.mem_cons, List.mem_nil_iff, or_false] at hm
  rcases hm with rfl | rfl | rfl
  · exact (show Tryz.prog.wantsStandIn 46 = false by kernel_rfl)
  · exact (show Tryz.prog.wantsStandIn 46 = false by kernel_rfl)
  · exact (show Tryz.prog.wantsStandIn 22 = false by kernel_rfl)
theorem topApart_card : Rows.TopApartCardSaid :=
  Claim7.holds_tied_plain_at .later [] _ _ _ _ topApart_row (fun _ h => by cases h) (by kernel_rfl) (fun _ h => by cases h) topApart_row_tie rfl ⟨rfl, rfl⟩ (by kernel_rfl) rfl topApart_plain (by kernel_rfl)
end Go.Proofs.YtjclefplnjicgaaGreatDoor
