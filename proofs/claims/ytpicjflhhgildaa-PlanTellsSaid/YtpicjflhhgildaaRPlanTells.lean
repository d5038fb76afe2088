/-
  'mklaw4.PlanTells' ANSWERS TRUE for every input, and turns nothing of what there was. No condition.
-/
import Derived.Test.YtpicjflhhgildaaRows
import Derived.Test.YtpicjflhhgildaaHd
import Derived.Test.YtpicjflhhgildaaCtPlan
import Derived.Test.YtpicjflhhgildaaOt
import Derived.Test.YtpicjflhhgildaaP9
import Derived.ProofKit
namespace Go.Proofs.Ytpicjflhhgildaa
open Go.ChangeShapes Go.WideShapes Go.ChangeAt Go.RowKit Go.Gx
set_option linter.unusedVariables false
set_option maxRecDepth 20000

theorem planTells_own : ownKnob Try.prog.godebug = none := by kernel_rfl
theorem planTells_laid : laidOutB Try.prog = true := by kernel_rfl
theorem planTells_f1 : mapsRowed Try.prog = true := by kernel_rfl
theorem planTells_f2 : (Rows.planTellsRow.inPlace == Try.prog.inPlace 3) = true := by kernel_rfl
theorem planTells_f3 : (Rows.planTellsRow.unfollowed == Try.prog.unfollowed 3) = true := by kernel_rfl
theorem planTells_f4 : (Rows.planTellsRow.recurses == Try.prog.recurses 3) = true := by kernel_rfl
theorem planTells_f5 : (Rows.planTellsRow.named == Try.prog.varsNamed 3) = true := by kernel_rfl
theorem planTells_f6 : (Rows.planTellsRow.plainKeys == Try.prog.plainKeys) = true := by kernel_rfl
theorem planTells_f7 : Try.prog.stopsHeard = true := by kernel_rfl
theorem planTells_f8 : (Rows.planTellsRow.lifted == Try.prog.liftsFinal) = true := by rw [head_final]; kernel_rfl
theorem planTells_f9 : (Try.prog.make == some Rows.planTellsRow.make) = true := by rw [head_make]; kernel_rfl
theorem planTells_named : Try.prog.funcNamed Rows.planTellsRow.func = some 3 := by kernel_rfl
theorem planTells_instance : Try.f3.isInstance Try.prog Rows.planTellsRow.origin Rows.planTellsRow.targs := of_decide_eq_true (by kernel_rfl)
theorem planTells_wrapper : Try.f3.isWrapper Try.prog Rows.planTellsRow.wrapper Rows.planTellsRow.mainSum := by
  unfold Func.isWrapper
  first | (rw [if_pos (by decide +kernel)]; kernel_rfl) | (rw [if_neg (by decide +kernel)]; exact ⟨rfl, rfl⟩)
theorem planTells_joined : joinedFacts Try.prog 3 Try.f3 Rows.planTellsSpec Rows.planTellsRow = true :=
  joined_of (by kernel_rfl) planTells_laid planTells_f1 (by kernel_rfl) (by kernel_rfl) (by kernel_rfl) (by kernel_rfl) (by kernel_rfl) (by kernel_rfl) planTells_f2 planTells_f3 planTells_f4 planTells_f5
    (by kernel_rfl) (by kernel_rfl) (by kernel_rfl) (by kernel_rfl) (by kernel_rfl) (by kernel_rfl) (by kernel_rfl) (by kernel_rfl) (by kernel_rfl) planTells_f6 (by kernel_rfl) planTells_f7 head_enter planTells_f8 planTells_f9
    (by kernel_rfl) (by kernel_rfl) (by kernel_rfl) (by kernel_rfl)
theorem planTells_noInit : Try.prog.inits.idxOf? 3 = none := by kernel_rfl
theorem planTells_params : (Try.f3.params.toList.all fun t => Try.prog.readableRec t && decide (t < Try.prog.types.size)) = true := by kernel_rfl

theorem planTells_lifted (os : Os) (started : os.Started) (H : Type) (enc : TypeId × Value → H) :
    ReturnsInHanded {} Try.checked os 3 .any (Rows.planTellsSpec.pre6 enc Try.prog Try.f3 Rows.planTellsRow.domain false) (Rows.planTellsSpec.post enc Try.prog Try.f3 false true false false) := by
  refine returnsInHanded_of_change (C := Try.checked) planTells_own started planTells_noInit Try.func3
    (ChangeSpec.witness6 (enc := enc) (C := Try.checked) false ⟨#[], #[.slice none 0 0, .agg #[.int .i64 0, .int .i64 0, .int .i64 0, .int .i64 0]], []⟩ 8 (by kernel_rfl) (by kernel_rfl) (by kernel_rfl) (by kernel_rfl)) ?_
  intro W base args ds gs before hval hW _ _
  have hW0 := hW
  obtain ⟨p, q, hA0, hV, rfl, hfz, hnd⟩ := hW0
  have hA : DataW.TrodAll enc Try.prog W 0 (fun _ => true) true Try.f3.params.toList args.toList ds p := hA0
  rw [Try.params3] at hA
  obtain ⟨v1, vs1, d1, ds1, p1, q1, e1, rfl, rfl, ht1, hA1⟩ := trodAll_cons hA
  obtain ⟨v2, vs2, d2, ds2, p2, q2, e2, rfl, rfl, ht2, hA2⟩ := trodAll_cons hA1
  obtain ⟨en, rfl, rfl⟩ := trodAll_nil hA2
  obtain rfl : args = #[v1, v2] := by
    apply Array.ext'
    rw [e1, e2, en]
  obtain ⟨rfl, rfl⟩ := trodVars_none hV
  have k1 := hval 0 22 v1 (by rw [Try.params3]; rfl) rfl
  obtain ⟨a1, h1⟩ := Opn.top_cell o22 rfl (.inr (.inr (.inl ⟨3, by kernel_rfl⟩))) k1 ht1
  have k2 := hval 1 24 v2 (by rw [Try.params3]; rfl) rfl
  obtain ⟨a2, h2⟩ := Opn.top_struct o24 rfl Try.underlying24 k2 ht2
  have hs1 : (Rows.planTellsSpec.fn H ([d1, d2] ++ [])).results = [.lit (.bool true)] := rfl
  have hs2 : (Rows.planTellsSpec.fn H ([d1, d2] ++ [])).args = [d1, d2] := rfl
  have hs3 : (Rows.planTellsSpec.fn H ([d1, d2] ++ [])).vars = [] := rfl
  refine ((Go.Gx.c_mklaw4_PlanTells (Sp.planTells a1 a2)).run (full W) W [v1, v2] (full_on W) ⟨_, _, rfl, h1, ⟨_, _, rfl, h2, rfl⟩⟩).mono fun e W' he => ?_
  obtain ⟨v, rfl, hb, hr⟩ := he
  obtain ⟨vs, h1, rfl⟩ := hr
  obtain rfl : vs = [.bool true] := h1
  exact ⟨.bool true, rfl, law_post (t := 4) planTells_laid rfl rfl Try.underlying4 planTells_params hW hs1 hs2 hs3 hb⟩
theorem planTells_holds : Rows.PlanTellsSaid :=
  OpenClaim.holds_of_wide 3 Try.f3 rfl rfl rfl rfl rfl rfl rfl ⟨rfl, rfl, rfl, rfl, rfl⟩ rfl rfl rfl rfl rfl planTells_named Try.func3 planTells_joined
    planTells_instance planTells_wrapper (fun os started H enc _ => planTells_lifted os started H enc)
end Go.Proofs.Ytpicjflhhgildaa
