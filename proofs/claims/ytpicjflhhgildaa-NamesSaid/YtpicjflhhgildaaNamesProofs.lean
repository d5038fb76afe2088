/-
  THE CLOSED SENTENCE 'mktop.Names' ANSWERS TRUE, and turns nothing of what there was. For every start: no condition.
-/
import Derived.Test.YtpicjflhhgildaaRows
import Derived.Test.YtpicjflhhgildaaHd
import Derived.Test.YtpicjflhhgildaaNames
import Derived.ProofKit
namespace Go.Proofs.Ytpicjflhhgildaa
open Go.ChangeShapes Go.WideShapes Go.ChangeAt Go.RowKit Go.Gx
set_option linter.unusedVariables false

theorem names_own : ownKnob Try.prog.godebug = none := by kernel_rfl
theorem names_laid : laidOutB Try.prog = true := by kernel_rfl
theorem names_f1 : mapsRowed Try.prog = true := by kernel_rfl
theorem names_f2 : (Rows.namesRow.inPlace == Try.prog.inPlace 13) = true := by kernel_rfl
theorem names_f3 : (Rows.namesRow.unfollowed == Try.prog.unfollowed 13) = true := by kernel_rfl
theorem names_f4 : (Rows.namesRow.recurses == Try.prog.recurses 13) = true := by kernel_rfl
theorem names_f5 : (Rows.namesRow.named == Try.prog.varsNamed 13) = true := by kernel_rfl
theorem names_f6 : (Rows.namesRow.plainKeys == Try.prog.plainKeys) = true := by kernel_rfl
theorem names_f7 : Try.prog.stopsHeard = true := by kernel_rfl
theorem names_f8 : (Rows.namesRow.lifted == Try.prog.liftsFinal) = true := by rw [head_final]; kernel_rfl
theorem names_f9 : (Try.prog.make == some Rows.namesRow.make) = true := by rw [head_make]; kernel_rfl
theorem names_named : Try.prog.funcNamed Rows.namesRow.func = some 13 := by kernel_rfl
theorem names_instance : Try.f13.isInstance Try.prog Rows.namesRow.origin Rows.namesRow.targs := of_decide_eq_true (by kernel_rfl)
theorem names_wrapper : Try.f13.isWrapper Try.prog Rows.namesRow.wrapper Rows.namesRow.mainSum := by
  unfold Func.isWrapper
  first | (rw [if_pos (by decide +kernel)]; kernel_rfl) | (rw [if_neg (by decide +kernel)]; exact ⟨rfl, rfl⟩)
theorem names_joined : joinedFacts Try.prog 13 Try.f13 Rows.namesSpec Rows.namesRow = true :=
  joined_of (by kernel_rfl) names_laid names_f1 (by kernel_rfl) (by kernel_rfl) (by kernel_rfl) (by kernel_rfl) (by kernel_rfl) (by kernel_rfl) names_f2 names_f3 names_f4 names_f5
    (by kernel_rfl) (by kernel_rfl) (by kernel_rfl) (by kernel_rfl) (by kernel_rfl) (by kernel_rfl) (by kernel_rfl) (by kernel_rfl) (by kernel_rfl) names_f6 (by kernel_rfl) names_f7 head_enter names_f8 names_f9
    (by kernel_rfl) (by kernel_rfl) (by kernel_rfl) (by kernel_rfl)
theorem names_noInit : Try.prog.inits.idxOf? 13 = none := by kernel_rfl
theorem names_params : (Try.f13.params.toList.all fun t => Try.prog.readableRec t && decide (t < Try.prog.types.size)) = true := by kernel_rfl

theorem names_lifted (os : Os) (started : os.Started) (H : Type) (enc : TypeId × Value → H) :
    ReturnsInHanded {} Try.checked os 13 .any (Rows.namesSpec.pre6 enc Try.prog Try.f13 Rows.namesRow.domain false) (Rows.namesSpec.post enc Try.prog Try.f13 false true false false) := by
  refine returnsInHanded_of_change (C := Try.checked) names_own started names_noInit Try.func13
    (ChangeSpec.witness6 (enc := enc) (C := Try.checked) false ⟨#[], #[], []⟩ 8 (by kernel_rfl) (by kernel_rfl) (by kernel_rfl) (by kernel_rfl)) ?_
  intro W base args ds gs before hval hW _ _
  have hW0 := hW
  obtain ⟨p, q, hA0, hV, rfl, hfz, hnd⟩ := hW0
  have hA : DataW.TrodAll enc Try.prog W 0 (fun _ => true) true Try.f13.params.toList args.toList ds p := hA0
  rw [Try.params13] at hA
  obtain ⟨hargs, rfl, rfl⟩ := trodAll_nil hA
  obtain rfl : args = #[] := by cases args; simp_all
  obtain ⟨rfl, rfl⟩ := trodVars_none hV
  have hs1 : (Rows.namesSpec.fn H ([] ++ [])).results = [.lit (.bool true)] := rfl
  have hs2 : (Rows.namesSpec.fn H ([] ++ [])).args = [] := rfl
  have hs3 : (Rows.namesSpec.fn H ([] ++ [])).vars = [] := rfl
  refine ((Go.Gx.c13).run (fun b o => W.cell? ⟨b, o, none⟩) W [] (fun b o v h => h) rfl).mono fun e W' he => ?_
  obtain ⟨v, rfl, hb, hr⟩ := he
  obtain ⟨vs, h1, rfl⟩ := hr
  obtain rfl : vs = [.bool true] := h1
  exact ⟨.bool true, rfl, law_post (t := 4) names_laid rfl rfl Try.underlying4 names_params hW hs1 hs2 hs3 hb⟩
theorem names_holds : Rows.NamesSaid :=
  OpenClaim.holds_of_wide 13 Try.f13 rfl rfl rfl rfl rfl rfl rfl ⟨rfl, rfl, rfl, rfl, rfl⟩ rfl rfl rfl rfl rfl names_named Try.func13 names_joined
    names_instance names_wrapper (fun os started H enc _ => names_lifted os started H enc)
end Go.Proofs.Ytpicjflhhgildaa

