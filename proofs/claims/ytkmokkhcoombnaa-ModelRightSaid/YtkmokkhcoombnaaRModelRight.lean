/-
  'mklaw2.ModelRight' ANSWERS TRUE for every input, and turns nothing of what there was. No condition.
-/
import Derived.Test.YtkmokkhcoombnaaRows
import Derived.ProofKit
import Derived.Test.YtkmokkhcoombnaaZMo3
namespace Go.Proofs.Ytkmokkhcoombnaa
open Go.ChangeShapes Go.WideShapes Go.ChangeAt Go.RowKit Go.Gx
set_option linter.unusedVariables false
set_option maxRecDepth 20000

theorem modelRight_own : ownKnob Try.prog.godebug = none := by kernel_rfl
theorem modelRight_laid : laidOutB Try.prog = true := by kernel_rfl
theorem modelRight_f1 : mapsRowed Try.prog = true := by kernel_rfl
theorem modelRight_f2 : (Rows.modelRightRow.inPlace == Try.prog.inPlace 19) = true := by kernel_rfl
theorem modelRight_f3 : (Rows.modelRightRow.unfollowed == Try.prog.unfollowed 19) = true := by kernel_rfl
theorem modelRight_f4 : (Rows.modelRightRow.recurses == Try.prog.recurses 19) = true := by kernel_rfl
theorem modelRight_f5 : (Rows.modelRightRow.named == Try.prog.varsNamed 19) = true := by kernel_rfl
theorem modelRight_f6 : (Rows.modelRightRow.plainKeys == Try.prog.plainKeys) = true := by kernel_rfl
theorem modelRight_f7 : Try.prog.stopsHeard = true := by kernel_rfl
theorem modelRight_f8 : (Rows.modelRightRow.lifted == Try.prog.liftsFinal) = true := by rw [head_final]; kernel_rfl
theorem modelRight_f9 : (Try.prog.make == some Rows.modelRightRow.make) = true := by rw [head_make]; kernel_rfl
theorem modelRight_named : Try.prog.funcNamed Rows.modelRightRow.func = some 19 := by kernel_rfl
theorem modelRight_instance : Try.f19.isInstance Try.prog Rows.modelRightRow.origin Rows.modelRightRow.targs := of_decide_eq_true (by kernel_rfl)
theorem modelRight_wrapper : Try.f19.isWrapper Try.prog Rows.modelRightRow.wrapper Rows.modelRightRow.mainSum := by
  unfold Func.isWrapper
  first | (rw [if_pos (by decide +kernel)]; kernel_rfl) | (rw [if_neg (by decide +kernel)]; exact ⟨rfl, rfl⟩)
theorem modelRight_joined : joinedFacts Try.prog 19 Try.f19 Rows.modelRightSpec Rows.modelRightRow = true :=
  joined_of (by kernel_rfl) modelRight_laid modelRight_f1 (by kernel_rfl) (by kernel_rfl) (by kernel_rfl) (by kernel_rfl) (by kernel_rfl) (by kernel_rfl) modelRight_f2 modelRight_f3 modelRight_f4 modelRight_f5
    (by kernel_rfl) (by kernel_rfl) (by kernel_rfl) (by kernel_rfl) (by kernel_rfl) (by kernel_rfl) (by kernel_rfl) (by kernel_rfl) (by kernel_rfl) modelRight_f6 (by kernel_rfl) modelRight_f7 head_enter modelRight_f8 modelRight_f9
    (by kernel_rfl) (by kernel_rfl) (by kernel_rfl) (by kernel_rfl)
theorem modelRight_noInit : Try.prog.inits.idxOf? 19 = none := by kernel_rfl
theorem modelRight_params : (Try.f19.params.toList.all fun t => Try.prog.readableRec t && decide (t < Try.prog.types.size)) = true := by kernel_rfl

theorem modelRight_lifted (os : Os) (started : os.Started) (H : Type) (enc : TypeId × Value → H) :
    ReturnsInHanded {} Try.checked os 19 .any (Rows.modelRightSpec.pre6 enc Try.prog Try.f19 Rows.modelRightRow.domain false) (Rows.modelRightSpec.post enc Try.prog Try.f19 false true false false) := by
  refine returnsInHanded_of_change (C := Try.checked) modelRight_own started modelRight_noInit Try.func19
    (ChangeSpec.witness6 (enc := enc) (C := Try.checked) false ⟨#[], #[.slice none 0 0, .agg #[.int .i64 0, .int .i64 0, .int .i64 0, .int .i64 0]], []⟩ 8 (by kernel_rfl) (by kernel_rfl) (by kernel_rfl) (by kernel_rfl)) ?_
  intro W base args ds gs before hval hW _ _
  have hW0 := hW
  obtain ⟨p, q, hA0, hV, rfl, hfz, hnd⟩ := hW0
  have hA : DataW.TrodAll enc Try.prog W 0 (fun _ => true) true Try.f19.params.toList args.toList ds p := hA0
  rw [Try.params19] at hA
  obtain ⟨v1, vs1, d1, ds1, p1, q1, e1, rfl, rfl, ht1, hA1⟩ := trodAll_cons hA
  obtain ⟨v2, vs2, d2, ds2, p2, q2, e2, rfl, rfl, ht2, hA2⟩ := trodAll_cons hA1
  obtain ⟨en, rfl, rfl⟩ := trodAll_nil hA2
  obtain rfl : args = #[v1, v2] := by
    apply Array.ext'
    rw [e1, e2, en]
  obtain ⟨rfl, rfl⟩ := trodVars_none hV
  have k1 := hval 0 44 v1 (by rw [Try.params19]; rfl) rfl
  obtain ⟨a1, h1⟩ := Opn.top_cell o44 rfl (.inr (.inr (.inl ⟨50, by kernel_rfl⟩))) k1 ht1
  have k2 := hval 1 23 v2 (by rw [Try.params19]; rfl) rfl
  obtain ⟨a2, h2⟩ := Opn.top_struct o23 rfl Try.underlying23 k2 ht2
  have hs1 : (Rows.modelRightSpec.fn H ([d1, d2] ++ [])).results = [.lit (.bool true)] := rfl
  have hs2 : (Rows.modelRightSpec.fn H ([d1, d2] ++ [])).args = [d1, d2] := rfl
  have hs3 : (Rows.modelRightSpec.fn H ([d1, d2] ++ [])).vars = [] := rfl
  refine ((Go.Gx.c_mklaw2_ModelRight (Sp.modelRight a1 a2)).run (full W) W [v1, v2] (full_on W) ⟨_, _, rfl, h1, ⟨_, _, rfl, h2, rfl⟩⟩).mono fun e W' he => ?_
  obtain ⟨v, rfl, hb, hr⟩ := he
  obtain ⟨vs, h1, rfl⟩ := hr
  obtain rfl : vs = [.bool true] := h1
  exact ⟨.bool true, rfl, law_post (t := 4) modelRight_laid rfl rfl Try.underlying4 modelRight_params hW hs1 hs2 hs3 hb⟩
theorem modelRight_holds : Rows.ModelRightSaid :=
  OpenClaim.holds_of_wide 19 Try.f19 rfl rfl rfl rfl rfl rfl rfl ⟨rfl, rfl, rfl, rfl, rfl⟩ rfl rfl rfl rfl rfl modelRight_named Try.func19 modelRight_joined
    modelRight_instance modelRight_wrapper (fun os started H enc _ => modelRight_lifted os started H enc)
end Go.Proofs.Ytkmokkhcoombnaa
