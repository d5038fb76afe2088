/-
  'mklaw4.PlanModel' ANSWERS TRUE for every input, and turns nothing of what there was. No condition.
-/
import Derived.Test.YtpicjflhhgildaaRows
import Derived.Test.YtpicjflhhgildaaHd
import Derived.Test.YtpicjflhhgildaaCtPlan
import Derived.Test.YtpicjflhhgildaaOt
import Derived.Test.YtpicjflhhgildaaP9
import Derived.ProofKit
namespace Go.Proofs.Ytpicjflhhgildaa
open Go.ChangeShapes Go.WideShapes Go.ChangeAt Go.RowKit Go.Gx
set_option linter.unusedVariables false
set_option maxRecDepth 20000

theorem planModel_own : ownKnob Try.prog.godebug = none := by kernel_rfl
theorem planModel_laid : laidOutB Try.prog = true := by kernel_rfl
theorem planModel_f1 : mapsRowed Try.prog = true := by kernel_rfl
theorem planModel_f2 : (Rows.planModelRow.inPlace == Try.prog.inPlace 4) = true := by kernel_rfl
theorem planModel_f3 : (Rows.planModelRow.unfollowed == Try.prog.unfollowed 4) = true := by kernel_rfl
theorem planModel_f4 : (Rows.planModelRow.recurses == Try.prog.recurses 4) = true := by kernel_rfl
theorem planModel_f5 : (Rows.planModelRow.named == Try.prog.varsNamed 4) = true := by kernel_rfl
theorem planModel_f6 : (Rows.planModelRow.plainKeys == Try.prog.plainKeys) = true := by kernel_rfl
theorem planModel_f7 : Try.prog.stopsHeard = true := by kernel_rfl
theorem planModel_f8 : (Rows.planModelRow.lifted == Try.prog.liftsFinal) = true := by rw [head_final]; kernel_rfl
theorem planModel_f9 : (Try.prog.make == some Rows.planModelRow.make) = true := by rw [head_make]; kernel_rfl
theorem planModel_named : Try.prog.funcNamed Rows.planModelRow.func = some 4 := by kernel_rfl
theorem planModel_instance : Try.f4.isInstance Try.prog Rows.planModelRow.origin Rows.planModelRow.targs := of_decide_eq_true (by kernel_rfl)
theorem planModel_wrapper : Try.f4.isWrapper Try.prog Rows.planModelRow.wrapper Rows.planModelRow.mainSum := by
  unfold Func.isWrapper
  first | (rw [if_pos (by decide +kernel)]; kernel_rfl) | (rw [if_neg (by decide +kernel)]; exact ⟨rfl, rfl⟩)
theorem planModel_joined : joinedFacts Try.prog 4 Try.f4 Rows.planModelSpec Rows.planModelRow = true :=
  joined_of (by kernel_rfl) planModel_laid planModel_f1 (by kernel_rfl) (by kernel_rfl) (by kernel_rfl) (by kernel_rfl) (by kernel_rfl) (by kernel_rfl) planModel_f2 planModel_f3 planModel_f4 planModel_f5
    (by kernel_rfl) (by kernel_rfl) (by kernel_rfl) (by kernel_rfl) (by kernel_rfl) (by kernel_rfl) (by kernel_rfl) (by kernel_rfl) (by kernel_rfl) planModel_f6 (by kernel_rfl) planModel_f7 head_enter planModel_f8 planModel_f9
    (by kernel_rfl) (by kernel_rfl) (by kernel_rfl) (by kernel_rfl)
theorem planModel_noInit : Try.prog.inits.idxOf? 4 = none := by kernel_rfl
theorem planModel_params : (Try.f4.params.toList.all fun t => Try.prog.readableRec t && decide (t < Try.prog.types.size)) = true := by kernel_rfl

theorem planModel_lifted (os : Os) (started : os.Started) (H : Type) (enc : TypeId × Value → H) :
    ReturnsInHanded {} Try.checked os 4 .any (Rows.planModelSpec.pre6 enc Try.prog Try.f4 Rows.planModelRow.domain false) (Rows.planModelSpec.post enc Try.prog Try.f4 false true false false) := by
  refine returnsInHanded_of_change (C := Try.checked) planModel_own started planModel_noInit Try.func4
    (ChangeSpec.witness6 (enc := enc) (C := Try.checked) false ⟨#[], #[.slice none 0 0, .agg #[.int .i64 0, .int .i64 0, .int .i64 0, .int .i64 0]], []⟩ 8 (by kernel_rfl) (by kernel_rfl) (by kernel_rfl) (by kernel_rfl)) ?_
  intro W base args ds gs before hval hW _ _
  have hW0 := hW
  obtain ⟨p, q, hA0, hV, rfl, hfz, hnd⟩ := hW0
  have hA : DataW.TrodAll enc Try.prog W 0 (fun _ => true) true Try.f4.params.toList args.toList ds p := hA0
  rw [Try.params4] at hA
  obtain ⟨v1, vs1, d1, ds1, p1, q1, e1, rfl, rfl, ht1, hA1⟩ := trodAll_cons hA
  obtain ⟨v2, vs2, d2, ds2, p2, q2, e2, rfl, rfl, ht2, hA2⟩ := trodAll_cons hA1
  obtain ⟨en, rfl, rfl⟩ := trodAll_nil hA2
  obtain rfl : args = #[v1, v2] := by
    apply Array.ext'
    rw [e1, e2, en]
  obtain ⟨rfl, rfl⟩ := trodVars_none hV
  have k1 := hval 0 22 v1 (by rw [Try.params4]; rfl) rfl
  obtain ⟨a1, h1⟩ := Opn.top_cell o22 rfl (.inr (.inr (.inl ⟨3, by kernel_rfl⟩))) k1 ht1
  have k2 := hval 1 24 v2 (by rw [Try.params4]; rfl) rfl
  obtain ⟨a2, h2⟩ := Opn.top_struct o24 rfl Try.underlying24 k2 ht2
  have hs1 : (Rows.planModelSpec.fn H ([d1, d2] ++ [])).results = [.lit (.bool true)] := rfl
  have hs2 : (Rows.planModelSpec.fn H ([d1, d2] ++ [])).args = [d1, d2] := rfl
  have hs3 : (Rows.planModelSpec.fn H ([d1, d2] ++ [])).vars = [] := rfl
  refine ((Go.Gx.c_mklaw4_PlanModel (Sp.planModel a1 a2)).run (full W) W [v1, v2] (full_on W) ⟨_, _, rfl, h1, ⟨_, _, rfl, h2, rfl⟩⟩).mono fun e W' he => ?_
  obtain ⟨v, rfl, hb, hr⟩ := he
  obtain ⟨vs, h1, rfl⟩ := hr
  obtain rfl : vs = [.bool true] := h1
  exact ⟨.bool true, rfl, law_post (t := 4) planModel_laid rfl rfl Try.underlying4 planModel_params hW hs1 hs2 hs3 hb⟩
theorem planModel_holds : Rows.PlanModelSaid :=
  OpenClaim.holds_of_wide 4 Try.f4 rfl rfl rfl rfl rfl rfl rfl ⟨rfl, rfl, rfl, rfl, rfl⟩ rfl rfl rfl rfl rfl planModel_named Try.func4 planModel_joined
    planModel_instance planModel_wrapper (fun os started H enc _ => planModel_lifted os started H enc)
end Go.Proofs.Ytpicjflhhgildaa
