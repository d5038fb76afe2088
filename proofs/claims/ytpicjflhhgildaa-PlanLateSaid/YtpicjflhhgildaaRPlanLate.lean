/-
  'mklaw4.PlanLate' ANSWERS TRUE for every input, and turns nothing of what there was. No condition.
-/
import Derived.Test.YtpicjflhhgildaaRows
import Derived.Test.YtpicjflhhgildaaHd
import Derived.Test.YtpicjflhhgildaaCtPlan
import Derived.Test.YtpicjflhhgildaaOt
import Derived.Test.YtpicjflhhgildaaP9
import Derived.ProofKit
namespace Go.Proofs.Ytpicjflhhgildaa
open Go.ChangeShapes Go.WideShapes Go.ChangeAt Go.RowKit Go.Gx
set_option linter.unusedVariables false
set_option maxRecDepth 20000

theorem planLate_own : ownKnob Try.prog.godebug = none := by kernel_rfl
theorem planLate_laid : laidOutB Try.prog = true := by kernel_rfl
theorem planLate_f1 : mapsRowed Try.prog = true := by kernel_rfl
theorem planLate_f2 : (Rows.planLateRow.inPlace == Try.prog.inPlace 5) = true := by kernel_rfl
theorem planLate_f3 : (Rows.planLateRow.unfollowed == Try.prog.unfollowed 5) = true := by kernel_rfl
theorem planLate_f4 : (Rows.planLateRow.recurses == Try.prog.recurses 5) = true := by kernel_rfl
theorem planLate_f5 : (Rows.planLateRow.named == Try.prog.varsNamed 5) = true := by kernel_rfl
theorem planLate_f6 : (Rows.planLateRow.plainKeys == Try.prog.plainKeys) = true := by kernel_rfl
theorem planLate_f7 : Try.prog.stopsHeard = true := by kernel_rfl
theorem planLate_f8 : (Rows.planLateRow.lifted == Try.prog.liftsFinal) = true := by rw [head_final]; kernel_rfl
theorem planLate_f9 : (Try.prog.make == some Rows.planLateRow.make) = true := by rw [head_make]; kernel_rfl
theorem planLate_named : Try.prog.funcNamed Rows.planLateRow.func = some 5 := by kernel_rfl
theorem planLate_instance : Try.f5.isInstance Try.prog Rows.planLateRow.origin Rows.planLateRow.targs := of_decide_eq_true (by kernel_rfl)
theorem planLate_wrapper : Try.f5.isWrapper Try.prog Rows.planLateRow.wrapper Rows.planLateRow.mainSum := by
  unfold Func.isWrapper
  first | (rw [if_pos (by decide +kernel)]; kernel_rfl) | (rw [if_neg (by decide +kernel)]; exact ⟨rfl, rfl⟩)
theorem planLate_joined : joinedFacts Try.prog 5 Try.f5 Rows.planLateSpec Rows.planLateRow = true :=
  joined_of (by kernel_rfl) planLate_laid planLate_f1 (by kernel_rfl) (by kernel_rfl) (by kernel_rfl) (by kernel_rfl) (by kernel_rfl) (by kernel_rfl) planLate_f2 planLate_f3 planLate_f4 planLate_f5
    (by kernel_rfl) (by kernel_rfl) (by kernel_rfl) (by kernel_rfl) (by kernel_rfl) (by kernel_rfl) (by kernel_rfl) (by kernel_rfl) (by kernel_rfl) planLate_f6 (by kernel_rfl) planLate_f7 head_enter planLate_f8 planLate_f9
    (by kernel_rfl) (by kernel_rfl) (by kernel_rfl) (by kernel_rfl)
theorem planLate_noInit : Try.prog.inits.idxOf? 5 = none := by kernel_rfl
theorem planLate_params : (Try.f5.params.toList.all fun t => Try.prog.readableRec t && decide (t < Try.prog.types.size)) = true := by kernel_rfl

theorem planLate_lifted (os : Os) (started : os.Started) (H : Type) (enc : TypeId × Value → H) :
    ReturnsInHanded {} Try.checked os 5 .any (Rows.planLateSpec.pre6 enc Try.prog Try.f5 Rows.planLateRow.domain false) (Rows.planLateSpec.post enc Try.prog Try.f5 false true false false) := by
  refine returnsInHanded_of_change (C := Try.checked) planLate_own started planLate_noInit Try.func5
    (ChangeSpec.witness6 (enc := enc) (C := Try.checked) false ⟨#[], #[.slice none 0 0, .agg #[.int .i64 0, .int .i64 0, .int .i64 0, .int .i64 0], .int .i64 0], []⟩ 8 (by kernel_rfl) (by kernel_rfl) (by kernel_rfl) (by kernel_rfl)) ?_
  intro W base args ds gs before hval hW _ _
  have hW0 := hW
  obtain ⟨p, q, hA0, hV, rfl, hfz, hnd⟩ := hW0
  have hA : DataW.TrodAll enc Try.prog W 0 (fun _ => true) true Try.f5.params.toList args.toList ds p := hA0
  rw [Try.params5] at hA
  obtain ⟨v1, vs1, d1, ds1, p1, q1, e1, rfl, rfl, ht1, hA1⟩ := trodAll_cons hA
  obtain ⟨v2, vs2, d2, ds2, p2, q2, e2, rfl, rfl, ht2, hA2⟩ := trodAll_cons hA1
  obtain ⟨v3, vs3, d3, ds3, p3, q3, e3, rfl, rfl, ht3, hA3⟩ := trodAll_cons hA2
  obtain ⟨en, rfl, rfl⟩ := trodAll_nil hA3
  obtain rfl : args = #[v1, v2, v3] := by
    apply Array.ext'
    rw [e1, e2, e3, en]
  obtain ⟨rfl, rfl⟩ := trodVars_none hV
  have k1 := hval 0 22 v1 (by rw [Try.params5]; rfl) rfl
  obtain ⟨a1, h1⟩ := Opn.top_cell o22 rfl (.inr (.inr (.inl ⟨3, by kernel_rfl⟩))) k1 ht1
  have k2 := hval 1 24 v2 (by rw [Try.params5]; rfl) rfl
  obtain ⟨a2, h2⟩ := Opn.top_struct o24 rfl Try.underlying24 k2 ht2
  have k3 := hval 2 3 v3 (by rw [Try.params5]; rfl) rfl
  obtain ⟨a3, h3⟩ := Opn.top_cell o3 rfl (.inl ⟨.i64, by kernel_rfl⟩) k3 ht3
  have hs1 : (Rows.planLateSpec.fn H ([d1, d2, d3] ++ [])).results = [.lit (.bool true)] := rfl
  have hs2 : (Rows.planLateSpec.fn H ([d1, d2, d3] ++ [])).args = [d1, d2, d3] := rfl
  have hs3 : (Rows.planLateSpec.fn H ([d1, d2, d3] ++ [])).vars = [] := rfl
  refine ((Go.Gx.c_mklaw4_PlanLate (Sp.planLate a1 a2 a3)).run (full W) W [v1, v2, v3] (full_on W) ⟨_, _, rfl, h1, ⟨_, _, rfl, h2, ⟨_, _, rfl, h3, rfl⟩⟩⟩).mono fun e W' he => ?_
  obtain ⟨v, rfl, hb, hr⟩ := he
  obtain ⟨vs, h1, rfl⟩ := hr
  obtain rfl : vs = [.bool true] := h1
  exact ⟨.bool true, rfl, law_post (t := 4) planLate_laid rfl rfl Try.underlying4 planLate_params hW hs1 hs2 hs3 hb⟩
theorem planLate_holds : Rows.PlanLateSaid :=
  OpenClaim.holds_of_wide 5 Try.f5 rfl rfl rfl rfl rfl rfl rfl ⟨rfl, rfl, rfl, rfl, rfl⟩ rfl rfl rfl rfl rfl planLate_named Try.func5 planLate_joined
    planLate_instance planLate_wrapper (fun os started H enc _ => planLate_lifted os started H enc)
end Go.Proofs.Ytpicjflhhgildaa
