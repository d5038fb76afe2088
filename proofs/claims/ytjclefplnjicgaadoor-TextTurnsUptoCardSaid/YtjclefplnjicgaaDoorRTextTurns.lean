/-
  'mklaw3.TextTurns' ANSWERS TRUE, and turns nothing of what there was: the row, and its card. Where the arguments hold at most 1048576 values and letters; the listed package-level variables start as the program's text lays them.
-/
import Derived.Test.YtjclefplnjicgaaDoorRows
import Derived.ProofKit
import Derived.Test.YtjclefplnjicgaaDoorZTx3
namespace Go.Proofs.YtjclefplnjicgaaDoor
open Go.ChangeShapes Go.WideShapes Go.ChangeAt Go.RowKit Go.Gx
set_option linter.unusedVariables false
set_option linter.unusedSimpArgs false
set_option maxRecDepth 20000

theorem textTurns_own : ownKnob Tryd.prog.godebug = none := by kernel_rfl
theorem textTurns_laid : laidOutB Tryd.prog = true := by kernel_rfl
theorem textTurns_f1 : mapsRowed Tryd.prog = true := by kernel_rfl
theorem textTurns_f2 : (Rows.textTurnsUptoRow.inPlace == Tryd.prog.inPlace 5) = true := by kernel_rfl
theorem textTurns_f3 : (Rows.textTurnsUptoRow.unfollowed == Tryd.prog.unfollowed 5) = true := by kernel_rfl
theorem textTurns_f4 : (Rows.textTurnsUptoRow.recurses == Tryd.prog.recurses 5) = true := by kernel_rfl
theorem textTurns_f5 : (Rows.textTurnsUptoRow.named == Tryd.prog.varsNamed 5) = true := by kernel_rfl
theorem textTurns_f6 : (Rows.textTurnsUptoRow.plainKeys == Tryd.prog.plainKeys) = true := by kernel_rfl
theorem textTurns_f7 : Tryd.prog.stopsHeard = true := by kernel_rfl
theorem textTurns_f8 : (Rows.textTurnsUptoRow.lifted == Tryd.prog.liftsFinal) = true := by rw [head_final]; kernel_rfl
theorem textTurns_f9 : (Tryd.prog.make == some Rows.textTurnsUptoRow.make) = true := by rw [head_make]; kernel_rfl
theorem textTurns_named : Tryd.prog.funcNamed Rows.textTurnsUptoRow.func = some 5 := by kernel_rfl
theorem textTurns_instance : Tryd.f5.isInstance Tryd.prog Rows.textTurnsUptoRow.origin Rows.textTurnsUptoRow.targs := of_decide_eq_true (by kernel_rfl)
theorem textTurns_wrapper : Tryd.f5.isWrapper Tryd.prog Rows.textTurnsUptoRow.wrapper Rows.textTurnsUptoRow.mainSum := by
  unfold Func.isWrapper
  first | (rw [if_pos (by decide +kernel)]; kernel_rfl) | (rw [if_neg (by decide +kernel)]; exact ⟨rfl, rfl⟩)
theorem textTurns_joined : joinedFacts Tryd.prog 5 Tryd.f5 (Rows.OpenSpec.upto Rows.textTurnsSpec).bare Rows.textTurnsUptoRow = true :=
  joined_of (by kernel_rfl) textTurns_laid textTurns_f1 (by kernel_rfl) (by kernel_rfl) (by kernel_rfl) (by kernel_rfl) (by kernel_rfl) (by kernel_rfl) textTurns_f2 textTurns_f3 textTurns_f4 textTurns_f5
    (by kernel_rfl) (by kernel_rfl) (by kernel_rfl) (by kernel_rfl) (by kernel_rfl) (by kernel_rfl) (by kernel_rfl) (by kernel_rfl) (by kernel_rfl) textTurns_f6 (by kernel_rfl) textTurns_f7 head_enter textTurns_f8 textTurns_f9
    (by kernel_rfl) (by kernel_rfl) (by kernel_rfl) (by kernel_rfl)
theorem textTurns_noInit : Tryd.prog.inits.idxOf? 5 = none := by kernel_rfl
theorem textTurns_params : (Tryd.f5.params.toList.all fun t => Tryd.prog.readableRec t && decide (t < Tryd.prog.types.size)) = true := by kernel_rfl
theorem textTurns_reads (os : Os) {H : Type} (enc : TypeId × Value → H) : ∃ places, DataW.whole enc Tryd.prog ((lwWorld os).forCall (fun _ _ => 0) ⟨#[], #[.string ByteArray.empty, .slice none 0 0], []⟩).memory Tryd.f5.params.toList Rows.textTurnsSpec.vars false (#[.string ByteArray.empty, .slice none 0 0] : Array Value).toList 8 = some ([.lit (.string []), .nil], [], places) :=
  ⟨[], by kernel_rfl⟩

theorem textTurns_lifted (os : Os) (started : os.Started) (H : Type) (enc : TypeId × Value → H) (F : Stop.Interp) :
    ReturnsInHanded {} Tryd.checked os 5 .any ((Rows.OpenSpec.upto Rows.textTurnsSpec).preRow enc Tryd.prog Tryd.f5 Rows.textTurnsUptoRow.domain false Rows.textTurnsUptoRow.laid) (((Rows.OpenSpec.upto Rows.textTurnsSpec).at F).post enc Tryd.prog Tryd.f5 false true false false) := by
  obtain ⟨places, hx⟩ := textTurns_reads os enc
  refine returnsInHanded_of_row (C := Tryd.checked) (s := (Rows.OpenSpec.upto Rows.textTurnsSpec)) textTurns_own started textTurns_noInit Tryd.func5
    (witness_row_at (enc := enc) (C := Tryd.checked) false (lwWorld os) #[.string ByteArray.empty, .slice none 0 0] rfl (by kernel_rfl) (by kernel_rfl) (by kernel_rfl)
      (OpenSpec.preRow_of_cond 8 hx (by kernel_rfl) (fun k hk => by cases hk; kernel_rfl) (by kernel_rfl) (lw_met os _))) ?_
  intro W base args ds gs before hval hW _ hcond hsz hL hsh _
  have hW0 := hW
  obtain ⟨p, q, hA0, hV, rfl, hfz, hnd⟩ := hW0
  have hA : DataW.TrodAll enc Tryd.prog W 0 (fun _ => true) true Tryd.f5.params.toList args.toList ds p := hA0
  rw [Tryd.params5] at hA
  obtain ⟨v1, vs1, d1, ds1, p1, q1, e1, rfl, rfl, ht1, hA1⟩ := trodAll_cons hA
  obtain ⟨v2, vs2, d2, ds2, p2, q2, e2, rfl, rfl, ht2, hA2⟩ := trodAll_cons hA1
  obtain ⟨en, rfl, rfl⟩ := trodAll_nil hA2
  obtain rfl : args = #[v1, v2] := by
    apply Array.ext'
    rw [e1, e2, en]
  obtain ⟨rfl, rfl⟩ := trodVars_none hV
  have hb0 : Rows.uptoBulkAll ([d1, d2] ++ []) ≤ 1048576 := of_decide_eq_true (hcond _ rfl)
  have k1 := hval 0 9 v1 (by rw [Tryd.params5]; rfl) rfl
  obtain ⟨a1, u1, w1, -, z1⟩ := Go.ChangeMaps.open_string Tryd.underlying9 k1 ht1
  have h1 : (Desc.val a1).holds (Go.Gx.base (full W)) v1 := by rw [u1]; exact str_holds _ (by unfold maxLen at z1; omega)
  have k2 := hval 1 27 v2 (by rw [Tryd.params5]; rfl) rfl
  obtain ⟨a2, h2, z2⟩ := Opn.top_slice o23 (by kernel_rfl) k2 ht2 hsz (j := 1) (by rw [Tryd.params5]; rfl) rfl
  have y2 : a2.length * 32 ≤ 140737488355328 := Nat.le_trans (by rw [show Tryd.prog.bytesOf 23 = 32 from by kernel_rfl] at z2; exact z2) (by decide)
  simp only [List.append_nil, Rows.uptoBulkAll, w1, Rows.uptoBulk] at hb0
  have n1 : a1.data.toList.length = a1.size := Array.length_toList
  have hs1 : (Rows.textTurnsSpec.fn H ([d1, d2] ++ [])).results = [.lit (.bool true)] := rfl
  have hs2 : (Rows.textTurnsSpec.fn H ([d1, d2] ++ [])).args = [d1, d2] := rfl
  have hs3 : (Rows.textTurnsSpec.fn H ([d1, d2] ++ [])).vars = [] := rfl
  refine ((Go.Gx.c_mklaw3_TextTurns (Sp.textTurns a1 a2 (by omega) (by omega))).run (full W) W [v1, v2] (full_on W) (gt_of W hL hsh) ⟨_, _, rfl, h1, ⟨_, _, rfl, h2, rfl⟩⟩).mono fun e W' he => ?_
  obtain ⟨v, rfl, hb, hr⟩ := he
  obtain ⟨vs, h1, rfl⟩ := hr
  obtain rfl : vs = [.bool true] := h1
  exact ⟨.bool true, rfl, law_post (s := Rows.textTurnsSpec) (t := 4) textTurns_laid rfl rfl Tryd.underlying4 textTurns_params hW hs1 hs2 hs3 hb⟩
theorem textTurns_row : Rows.TextTurnsUptoSaid :=
  OpenClaim.holds_of_cond 5 Tryd.f5 rfl rfl rfl rfl rfl rfl rfl ⟨rfl, rfl, rfl, rfl, rfl⟩ rfl rfl rfl rfl rfl textTurns_named Tryd.func5 textTurns_joined
    textTurns_instance textTurns_wrapper (fun os started H enc _ F => by rw [OpenClaim.pre_eq_preRow]; exact textTurns_lifted os started H enc F)
theorem textTurns_plain (f : FuncId) (fn : Func) (hf : Tryd.pinned.checked.prog.funcNamed Rows.textTurnsUptoRow.func = some f) (hfn : Tryd.pinned.checked.prog.funcs[f]? = some fn) :
    true = Tryd.pinned.checked.prog.looks [] ∧ ∀ (j : Nat) t, fn.params[j]? = some t → Tryd.pinned.checked.prog.wantsStandIn t = false := by
  obtain rfl : f = 5 := Option.some.inj (textTurns_named.symm.trans hf) |>.symm
  obtain rfl : fn = Tryd.f5 := (Option.some.inj (Tryd.func5.symm.trans hfn)).symm
  refine ⟨by kernel_rfl, fun j t ht => ?_⟩
  rw [Tryd.params5] at ht
  have hm := Array.mem_of_getElem? ht
  simp only [List.mem_toArray, List.mem_cons, List.mem_nil_iff, or_false] at hm
  rcases hm with rfl | rfl
  · exact (show Tryd.prog.wantsStandIn 9 = false by kernel_rfl)
  · exact (show Tryd.prog.wantsStandIn 27 = false by kernel_rfl)
theorem textTurns_card : Rows.TextTurnsUptoCardSaid :=
  Claim7.holds_tied_plain_at .later [] _ _ _ _ textTurns_row (fun _ h => by cases h) (by kernel_rfl) (fun _ h => by cases h) textTurnsUpto_row_tie rfl ⟨rfl, rfl⟩ (by kernel_rfl) rfl textTurns_plain (by kernel_rfl)
end Go.Proofs.YtjclefplnjicgaaDoor
