/-
  'mklaw3.TextBehind' ANSWERS TRUE, and turns nothing of what there was: the row, and its card. Where the arguments hold at most 1048576 values and letters; the listed package-level variables start as the program's text lays them.
-/
import Derived.Test.YtjclefplnjicgaaDoorRows
import Derived.ProofKit
import Derived.Test.YtjclefplnjicgaaDoorZTx3
namespace Go.Proofs.YtjclefplnjicgaaDoor
open Go.ChangeShapes Go.WideShapes Go.ChangeAt Go.RowKit Go.Gx
set_option linter.unusedVariables false
set_option linter.unusedSimpArgs false
set_option maxRecDepth 20000

theorem textBehind_own : ownKnob Tryd.prog.godebug = none := by kernel_rfl
theorem textBehind_laid : laidOutB Tryd.prog = true := by kernel_rfl
theorem textBehind_f1 : mapsRowed Tryd.prog = true := by kernel_rfl
theorem textBehind_f2 : (Rows.textBehindUptoRow.inPlace == Tryd.prog.inPlace 4) = true := by kernel_rfl
theorem textBehind_f3 : (Rows.textBehindUptoRow.unfollowed == Tryd.prog.unfollowed 4) = true := by kernel_rfl
theorem textBehind_f4 : (Rows.textBehindUptoRow.recurses == Tryd.prog.recurses 4) = true := by kernel_rfl
theorem textBehind_f5 : (Rows.textBehindUptoRow.named == Tryd.prog.varsNamed 4) = true := by kernel_rfl
theorem textBehind_f6 : (Rows.textBehindUptoRow.plainKeys == Tryd.prog.plainKeys) = true := by kernel_rfl
theorem textBehind_f7 : Tryd.prog.stopsHeard = true := by kernel_rfl
theorem textBehind_f8 : (Rows.textBehindUptoRow.lifted == Tryd.prog.liftsFinal) = true := by rw [head_final]; kernel_rfl
theorem textBehind_f9 : (Tryd.prog.make == some Rows.textBehindUptoRow.make) = true := by rw [head_make]; kernel_rfl
theorem textBehind_named : Tryd.prog.funcNamed Rows.textBehindUptoRow.func = some 4 := by kernel_rfl
theorem textBehind_instance : Tryd.f4.isInstance Tryd.prog Rows.textBehindUptoRow.origin Rows.textBehindUptoRow.targs := of_decide_eq_true (by kernel_rfl)
theorem textBehind_wrapper : Tryd.f4.isWrapper Tryd.prog Rows.textBehindUptoRow.wrapper Rows.textBehindUptoRow.mainSum := by
  unfold Func.isWrapper
  first | (rw [if_pos (by decide +kernel)]; kernel_rfl) | (rw [if_neg (by decide +kernel)]; exact ⟨rfl, rfl⟩)
theorem textBehind_joined : joinedFacts Tryd.prog 4 Tryd.f4 (Rows.OpenSpec.upto Rows.textBehindSpec).bare Rows.textBehindUptoRow = true :=
  joined_of (by kernel_rfl) textBehind_laid textBehind_f1 (by kernel_rfl) (by kernel_rfl) (by kernel_rfl) (by kernel_rfl) (by kernel_rfl) (by kernel_rfl) textBehind_f2 textBehind_f3 textBehind_f4 textBehind_f5
    (by kernel_rfl) (by kernel_rfl) (by kernel_rfl) (by kernel_rfl) (by kernel_rfl) (by kernel_rfl) (by kernel_rfl) (by kernel_rfl) (by kernel_rfl) textBehind_f6 (by kernel_rfl) textBehind_f7 head_enter textBehind_f8 textBehind_f9
    (by kernel_rfl) (by kernel_rfl) (by kernel_rfl) (by kernel_rfl)
theorem textBehind_noInit : Tryd.prog.inits.idxOf? 4 = none := by kernel_rfl
theorem textBehind_params : (Tryd.f4.params.toList.all fun t => Tryd.prog.readableRec t && decide (t < Tryd.prog.types.size)) = true := by kernel_rfl
theorem textBehind_reads (os : Os) {H : Type} (enc : TypeId × Value → H) : ∃ places, DataW.whole enc Tryd.prog ((lwWorld os).forCall (fun _ _ => 0) ⟨#[], #[.string ByteArray.empty, .string ByteArray.empty], []⟩).memory Tryd.f4.params.toList Rows.textBehindSpec.vars false (#[.string ByteArray.empty, .string ByteArray.empty] : Array Value).toList 8 = some ([.lit (.string []), .lit (.string [])], [], places) :=
  ⟨[], by kernel_rfl⟩

theorem textBehind_lifted (os : Os) (started : os.Started) (H : Type) (enc : TypeId × Value → H) (F : Stop.Interp) :
    ReturnsInHanded {} Tryd.checked os 4 .any ((Rows.OpenSpec.upto Rows.textBehindSpec).preRow enc Tryd.prog Tryd.f4 Rows.textBehindUptoRow.domain false Rows.textBehindUptoRow.laid) (((Rows.OpenSpec.upto Rows.textBehindSpec).at F).post enc Tryd.prog Tryd.f4 false true false false) := by
  obtain ⟨places, hx⟩ := textBehind_reads os enc
  refine returnsInHanded_of_row (C := Tryd.checked) (s := (Rows.OpenSpec.upto Rows.textBehindSpec)) textBehind_own started textBehind_noInit Tryd.func4
    (witness_row_at (enc := enc) (C := Tryd.checked) false (lwWorld os) #[.string ByteArray.empty, .string ByteArray.empty] rfl (by kernel_rfl) (by kernel_rfl) (by kernel_rfl)
      (OpenSpec.preRow_of_cond 8 hx (by kernel_rfl) (fun k hk => by cases hk; kernel_rfl) (by kernel_rfl) (lw_met os _))) ?_
  intro W base args ds gs before hval hW _ hcond hsz hL hsh _
  have hW0 := hW
  obtain ⟨p, q, hA0, hV, rfl, hfz, hnd⟩ := hW0
  have hA : DataW.TrodAll enc Tryd.prog W 0 (fun _ => true) true Tryd.f4.params.toList args.toList ds p := hA0
  rw [Tryd.params4] at hA
  obtain ⟨v1, vs1, d1, ds1, p1, q1, e1, rfl, rfl, ht1, hA1⟩ := trodAll_cons hA
  obtain ⟨v2, vs2, d2, ds2, p2, q2, e2, rfl, rfl, ht2, hA2⟩ := trodAll_cons hA1
  obtain ⟨en, rfl, rfl⟩ := trodAll_nil hA2
  obtain rfl : args = #[v1, v2] := by
    apply Array.ext'
    rw [e1, e2, en]
  obtain ⟨rfl, rfl⟩ := trodVars_none hV
  have hb0 : Rows.uptoBulkAll ([d1, d2] ++ []) ≤ 1048576 := of_decide_eq_true (hcond _ rfl)
  have k1 := hval 0 9 v1 (by rw [Tryd.params4]; rfl) rfl
  obtain ⟨a1, u1, w1, -, z1⟩ := Go.ChangeMaps.open_string Tryd.underlying9 k1 ht1
  have h1 : (Desc.val a1).holds (Go.Gx.base (full W)) v1 := by rw [u1]; exact str_holds _ (by unfold maxLen at z1; omega)
  have k2 := hval 1 9 v2 (by rw [Tryd.params4]; rfl) rfl
  obtain ⟨a2, u2, w2, -, z2⟩ := Go.ChangeMaps.open_string Tryd.underlying9 k2 ht2
  have h2 : (Desc.val a2).holds (Go.Gx.base (full W)) v2 := by rw [u2]; exact str_holds _ (by unfold maxLen at z2; omega)
  simp only [List.append_nil, Rows.uptoBulkAll, w1, w2, Rows.uptoBulk] at hb0
  have n1 : a1.data.toList.length = a1.size := Array.length_toList
  have n2 : a2.data.toList.length = a2.size := Array.length_toList
  have hs1 : (Rows.textBehindSpec.fn H ([d1, d2] ++ [])).results = [.lit (.bool true)] := rfl
  have hs2 : (Rows.textBehindSpec.fn H ([d1, d2] ++ [])).args = [d1, d2] := rfl
  have hs3 : (Rows.textBehindSpec.fn H ([d1, d2] ++ [])).vars = [] := rfl
  refine ((Go.Gx.c_mklaw3_TextBehind (Sp.textBehind a1 a2 (by omega))).run (full W) W [v1, v2] (full_on W) (gt_of W hL hsh) ⟨_, _, rfl, h1, ⟨_, _, rfl, h2, rfl⟩⟩).mono fun e W' he => ?_
  obtain ⟨v, rfl, hb, hr⟩ := he
  obtain ⟨vs, h1, rfl⟩ := hr
  obtain rfl : vs = [.bool true] := h1
  exact ⟨.bool true, rfl, law_post (s := Rows.textBehindSpec) (t := 4) textBehind_laid rfl rfl Tryd.underlying4 textBehind_params hW hs1 hs2 hs3 hb⟩
theorem textBehind_row : Rows.TextBehindUptoSaid :=
  OpenClaim.holds_of_cond 4 Tryd.f4 rfl rfl rfl rfl rfl rfl rfl ⟨rfl, rfl, rfl, rfl, rfl⟩ rfl rfl rfl rfl rfl textBehind_named Tryd.func4 textBehind_joined
    textBehind_instance textBehind_wrapper (fun os started H enc _ F => by rw [OpenClaim.pre_eq_preRow]; exact textBehind_lifted os started H enc F)
theorem textBehind_plain (f : FuncId) (fn : Func) (hf : Tryd.pinned.checked.prog.funcNamed Rows.textBehindUptoRow.func = some f) (hfn : Tryd.pinned.checked.prog.funcs[f]? = some fn) :
    true = Tryd.pinned.checked.prog.looks [] ∧ ∀ (j : Nat) t, fn.params[j]? = some t → Tryd.pinned.checked.prog.wantsStandIn t = false := by
  obtain rfl : f = 4 := Option.some.inj (textBehind_named.symm.trans hf) |>.symm
  obtain rfl : fn = Tryd.f4 := (Option.some.inj (Tryd.func4.symm.trans hfn)).symm
  refine ⟨by kernel_rfl, fun j t ht => ?_⟩
  rw [Tryd.params4] at ht
  have hm := Array.mem_of_getElem? ht
  simp only [List.mem_toArray, List.mem_cons, List.mem_nil_iff, or_false] at hm
  rcases hm with rfl | rfl
  · exact (show Tryd.prog.wantsStandIn 9 = false by kernel_rfl)
  · exact (show Tryd.prog.wantsStandIn 9 = false by kernel_rfl)
theorem textBehind_card : Rows.TextBehindUptoCardSaid :=
  Claim7.holds_tied_plain_at .later [] _ _ _ _ textBehind_row (fun _ h => by cases h) (by kernel_rfl) (fun _ h => by cases h) textBehindUpto_row_tie rfl ⟨rfl, rfl⟩ (by kernel_rfl) rfl textBehind_plain (by kernel_rfl)
end Go.Proofs.YtjclefplnjicgaaDoor
