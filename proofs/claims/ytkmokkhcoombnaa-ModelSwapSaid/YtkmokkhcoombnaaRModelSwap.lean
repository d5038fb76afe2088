/-
  'mklaw2.ModelSwap' ANSWERS TRUE for every input, and turns nothing of what there was. No condition.
-/
import Derived.Test.YtkmokkhcoombnaaRows
import Derived.ProofKit
import Derived.Test.YtkmokkhcoombnaaZMo3
namespace Go.Proofs.Ytkmokkhcoombnaa
open Go.ChangeShapes Go.WideShapes Go.ChangeAt Go.RowKit Go.Gx
set_option linter.unusedVariables false
set_option maxRecDepth 20000

theorem modelSwap_own : ownKnob Try.prog.godebug = none := by kernel_rfl
theorem modelSwap_laid : laidOutB Try.prog = true := by kernel_rfl
theorem modelSwap_f1 : mapsRowed Try.prog = true := by kernel_rfl
theorem modelSwap_f2 : (Rows.modelSwapRow.inPlace == Try.prog.inPlace 20) = true := by kernel_rfl
theorem modelSwap_f3 : (Rows.modelSwapRow.unfollowed == Try.prog.unfollowed 20) = true := by kernel_rfl
theorem modelSwap_f4 : (Rows.modelSwapRow.recurses == Try.prog.recurses 20) = true := by kernel_rfl
theorem modelSwap_f5 : (Rows.modelSwapRow.named == Try.prog.varsNamed 20) = true := by kernel_rfl
theorem modelSwap_f6 : (Rows.modelSwapRow.plainKeys == Try.prog.plainKeys) = true := by kernel_rfl
theorem modelSwap_f7 : Try.prog.stopsHeard = true := by kernel_rfl
theorem modelSwap_f8 : (Rows.modelSwapRow.lifted == Try.prog.liftsFinal) = true := by rw [head_final]; kernel_rfl
theorem modelSwap_f9 : (Try.prog.make == some Rows.modelSwapRow.make) = true := by rw [head_make]; kernel_rfl
theorem modelSwap_named : Try.prog.funcNamed Rows.modelSwapRow.func = some 20 := by kernel_rfl
theorem modelSwap_instance : Try.f20.isInstance Try.prog Rows.modelSwapRow.origin Rows.modelSwapRow.targs := of_decide_eq_true (by kernel_rfl)
theorem modelSwap_wrapper : Try.f20.isWrapper Try.prog Rows.modelSwapRow.wrapper Rows.modelSwapRow.mainSum := by
  unfold Func.isWrapper
  first | (rw [if_pos (by decide +kernel)]; kernel_rfl) | (rw [if_neg (by decide +kernel)]; exact ⟨rfl, rfl⟩)
theorem modelSwap_joined : joinedFacts Try.prog 20 Try.f20 Rows.modelSwapSpec Rows.modelSwapRow = true :=
  joined_of (by kernel_rfl) modelSwap_laid modelSwap_f1 (by kernel_rfl) (by kernel_rfl) (by kernel_rfl) (by kernel_rfl) (by kernel_rfl) (by kernel_rfl) modelSwap_f2 modelSwap_f3 modelSwap_f4 modelSwap_f5
    (by kernel_rfl) (by kernel_rfl) (by kernel_rfl) (by kernel_rfl) (by kernel_rfl) (by kernel_rfl) (by kernel_rfl) (by kernel_rfl) (by kernel_rfl) modelSwap_f6 (by kernel_rfl) modelSwap_f7 head_enter modelSwap_f8 modelSwap_f9
    (by kernel_rfl) (by kernel_rfl) (by kernel_rfl) (by kernel_rfl)
theorem modelSwap_noInit : Try.prog.inits.idxOf? 20 = none := by kernel_rfl
theorem modelSwap_params : (Try.f20.params.toList.all fun t => Try.prog.readableRec t && decide (t < Try.prog.types.size)) = true := by kernel_rfl

theorem modelSwap_lifted (os : Os) (started : os.Started) (H : Type) (enc : TypeId × Value → H) :
    ReturnsInHanded {} Try.checked os 20 .any (Rows.modelSwapSpec.pre6 enc Try.prog Try.f20 Rows.modelSwapRow.domain false) (Rows.modelSwapSpec.post enc Try.prog Try.f20 false true false false) := by
  refine returnsInHanded_of_change (C := Try.checked) modelSwap_own started modelSwap_noInit Try.func20
    (ChangeSpec.witness6 (enc := enc) (C := Try.checked) false ⟨#[], #[.slice none 0 0, .int .i64 0, .int .i64 0], []⟩ 8 (by kernel_rfl) (by kernel_rfl) (by kernel_rfl) (by kernel_rfl)) ?_
  intro W base args ds gs before hval hW _ _
  have hW0 := hW
  obtain ⟨p, q, hA0, hV, rfl, hfz, hnd⟩ := hW0
  have hA : DataW.TrodAll enc Try.prog W 0 (fun _ => true) true Try.f20.params.toList args.toList ds p := hA0
  rw [Try.params20] at hA
  obtain ⟨v1, vs1, d1, ds1, p1, q1, e1, rfl, rfl, ht1, hA1⟩ := trodAll_cons hA
  obtain ⟨v2, vs2, d2, ds2, p2, q2, e2, rfl, rfl, ht2, hA2⟩ := trodAll_cons hA1
  obtain ⟨v3, vs3, d3, ds3, p3, q3, e3, rfl, rfl, ht3, hA3⟩ := trodAll_cons hA2
  obtain ⟨en, rfl, rfl⟩ := trodAll_nil hA3
  obtain rfl : args = #[v1, v2, v3] := by
    apply Array.ext'
    rw [e1, e2, e3, en]
  obtain ⟨rfl, rfl⟩ := trodVars_none hV
  have k1 := hval 0 44 v1 (by rw [Try.params20]; rfl) rfl
  obtain ⟨a1, h1⟩ := Opn.top_cell o44 rfl (.inr (.inr (.inl ⟨50, by kernel_rfl⟩))) k1 ht1
  have k2 := hval 1 3 v2 (by rw [Try.params20]; rfl) rfl
  obtain ⟨a2, h2⟩ := Opn.top_cell o3 rfl (.inl ⟨.i64, by kernel_rfl⟩) k2 ht2
  have k3 := hval 2 3 v3 (by rw [Try.params20]; rfl) rfl
  obtain ⟨a3, h3⟩ := Opn.top_cell o3 rfl (.inl ⟨.i64, by kernel_rfl⟩) k3 ht3
  have hs1 : (Rows.modelSwapSpec.fn H ([d1, d2, d3] ++ [])).results = [.lit (.bool true)] := rfl
  have hs2 : (Rows.modelSwapSpec.fn H ([d1, d2, d3] ++ [])).args = [d1, d2, d3] := rfl
  have hs3 : (Rows.modelSwapSpec.fn H ([d1, d2, d3] ++ [])).vars = [] := rfl
  refine ((Go.Gx.c_mklaw2_ModelSwap (Sp.modelSwap a1 a2 a3)).run (full W) W [v1, v2, v3] (full_on W) ⟨_, _, rfl, h1, ⟨_, _, rfl, h2, ⟨_, _, rfl, h3, rfl⟩⟩⟩).mono fun e W' he => ?_
  obtain ⟨v, rfl, hb, hr⟩ := he
  obtain ⟨vs, h1, rfl⟩ := hr
  obtain rfl : vs = [.bool true] := h1
  exact ⟨.bool true, rfl, law_post (t := 4) modelSwap_laid rfl rfl Try.underlying4 modelSwap_params hW hs1 hs2 hs3 hb⟩
theorem modelSwap_holds : Rows.ModelSwapSaid :=
  OpenClaim.holds_of_wide 20 Try.f20 rfl rfl rfl rfl rfl rfl rfl ⟨rfl, rfl, rfl, rfl, rfl⟩ rfl rfl rfl rfl rfl modelSwap_named Try.func20 modelSwap_joined
    modelSwap_instance modelSwap_wrapper (fun os started H enc _ => modelSwap_lifted os started H enc)
end Go.Proofs.Ytkmokkhcoombnaa
