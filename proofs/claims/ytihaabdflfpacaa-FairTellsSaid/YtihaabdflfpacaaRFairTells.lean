/-
  'mklaw12.FairTells' ANSWERS TRUE for every input, and turns nothing of what there was. No condition.
-/
import Derived.Test.YtihaabdflfpacaaRows
import Derived.ProofKit
import Derived.Test.YtihaabdflfpacaaZFaT6
namespace Go.Proofs.Ytihaabdflfpacaa
open Go.ChangeShapes Go.WideShapes Go.ChangeAt Go.RowKit Go.Gx
set_option linter.unusedVariables false
set_option maxRecDepth 20000

theorem fairTells_own : ownKnob Try.prog.godebug = none := by kernel_rfl
theorem fairTells_laid : laidOutB Try.prog = true := by kernel_rfl
theorem fairTells_f1 : mapsRowed Try.prog = true := by kernel_rfl
theorem fairTells_f2 : (Rows.fairTellsRow.inPlace == Try.prog.inPlace 13) = true := by kernel_rfl
theorem fairTells_f3 : (Rows.fairTellsRow.unfollowed == Try.prog.unfollowed 13) = true := by kernel_rfl
theorem fairTells_f4 : (Rows.fairTellsRow.recurses == Try.prog.recurses 13) = true := by kernel_rfl
theorem fairTells_f5 : (Rows.fairTellsRow.named == Try.prog.varsNamed 13) = true := by kernel_rfl
theorem fairTells_f6 : (Rows.fairTellsRow.plainKeys == Try.prog.plainKeys) = true := by kernel_rfl
theorem fairTells_f7 : Try.prog.stopsHeard = true := by kernel_rfl
theorem fairTells_f8 : (Rows.fairTellsRow.lifted == Try.prog.liftsFinal) = true := by rw [head_final]; kernel_rfl
theorem fairTells_f9 : (Try.prog.make == some Rows.fairTellsRow.make) = true := by rw [head_make]; kernel_rfl
theorem fairTells_named : Try.prog.funcNamed Rows.fairTellsRow.func = some 13 := by kernel_rfl
theorem fairTells_instance : Try.f13.isInstance Try.prog Rows.fairTellsRow.origin Rows.fairTellsRow.targs := of_decide_eq_true (by kernel_rfl)
theorem fairTells_wrapper : Try.f13.isWrapper Try.prog Rows.fairTellsRow.wrapper Rows.fairTellsRow.mainSum := by
  unfold Func.isWrapper
  first | (rw [if_pos (by decide +kernel)]; kernel_rfl) | (rw [if_neg (by decide +kernel)]; exact ⟨rfl, rfl⟩)
theorem fairTells_joined : joinedFacts Try.prog 13 Try.f13 Rows.fairTellsSpec Rows.fairTellsRow = true :=
  joined_of (by kernel_rfl) fairTells_laid fairTells_f1 (by kernel_rfl) (by kernel_rfl) (by kernel_rfl) (by kernel_rfl) (by kernel_rfl) (by kernel_rfl) fairTells_f2 fairTells_f3 fairTells_f4 fairTells_f5
    (by kernel_rfl) (by kernel_rfl) (by kernel_rfl) (by kernel_rfl) (by kernel_rfl) (by kernel_rfl) (by kernel_rfl) (by kernel_rfl) (by kernel_rfl) fairTells_f6 (by kernel_rfl) fairTells_f7 head_enter fairTells_f8 fairTells_f9
    (by kernel_rfl) (by kernel_rfl) (by kernel_rfl) (by kernel_rfl)
theorem fairTells_noInit : Try.prog.inits.idxOf? 13 = none := by kernel_rfl
theorem fairTells_params : (Try.f13.params.toList.all fun t => Try.prog.readableRec t && decide (t < Try.prog.types.size)) = true := by kernel_rfl

theorem fairTells_lifted (os : Os) (started : os.Started) (H : Type) (enc : TypeId × Value → H) :
    ReturnsInHanded {} Try.checked os 13 .any (Rows.fairTellsSpec.pre6 enc Try.prog Try.f13 Rows.fairTellsRow.domain false) (Rows.fairTellsSpec.post enc Try.prog Try.f13 false true false false) := by
  refine returnsInHanded_of_change (C := Try.checked) fairTells_own started fairTells_noInit Try.func13
    (ChangeSpec.witness6 (enc := enc) (C := Try.checked) false ⟨#[], #[.slice none 0 0, .slice none 0 0], []⟩ 8 (by kernel_rfl) (by kernel_rfl) (by kernel_rfl) (by kernel_rfl)) ?_
  intro W base args ds gs before hval hW _ _
  have hW0 := hW
  obtain ⟨p, q, hA0, hV, rfl, hfz, hnd⟩ := hW0
  have hA : DataW.TrodAll enc Try.prog W 0 (fun _ => true) true Try.f13.params.toList args.toList ds p := hA0
  rw [Try.params13] at hA
  obtain ⟨v1, vs1, d1, ds1, p1, q1, e1, rfl, rfl, ht1, hA1⟩ := trodAll_cons hA
  obtain ⟨v2, vs2, d2, ds2, p2, q2, e2, rfl, rfl, ht2, hA2⟩ := trodAll_cons hA1
  obtain ⟨en, rfl, rfl⟩ := trodAll_nil hA2
  obtain rfl : args = #[v1, v2] := by
    apply Array.ext'
    rw [e1, e2, en]
  obtain ⟨rfl, rfl⟩ := trodVars_none hV
  have k1 := hval 0 22 v1 (by rw [Try.params13]; rfl) rfl
  obtain ⟨a1, h1⟩ := Opn.top_cell o22 rfl (.inr (.inr (.inl ⟨59, by kernel_rfl⟩))) k1 ht1
  have k2 := hval 1 23 v2 (by rw [Try.params13]; rfl) rfl
  obtain ⟨a2, h2⟩ := Opn.top_cell o23 rfl (.inr (.inr (.inl ⟨83, by kernel_rfl⟩))) k2 ht2
  have hs1 : (Rows.fairTellsSpec.fn H ([d1, d2] ++ [])).results = [.lit (.bool true)] := rfl
  have hs2 : (Rows.fairTellsSpec.fn H ([d1, d2] ++ [])).args = [d1, d2] := rfl
  have hs3 : (Rows.fairTellsSpec.fn H ([d1, d2] ++ [])).vars = [] := rfl
  obtain ⟨_, s2, _⟩ := id h2
  have hst := len_of_rep s2
  refine ((Go.Gx.c_mklaw12_FairTells (Sp.fairTells a1 a2 hst)).run (full W) W [v1, v2] (full_on W) ⟨_, _, rfl, h1, ⟨_, _, rfl, h2, rfl⟩⟩).mono fun e W' he => ?_
  obtain ⟨v, rfl, hb, hr⟩ := he
  obtain ⟨vs, h1, rfl⟩ := hr
  obtain rfl : vs = [.bool true] := h1
  exact ⟨.bool true, rfl, law_post (t := 4) fairTells_laid rfl rfl Try.underlying4 fairTells_params hW hs1 hs2 hs3 hb⟩
theorem fairTells_holds : Rows.FairTellsSaid :=
  OpenClaim.holds_of_wide 13 Try.f13 rfl rfl rfl rfl rfl rfl rfl ⟨rfl, rfl, rfl, rfl, rfl⟩ rfl rfl rfl rfl rfl fairTells_named Try.func13 fairTells_joined
    fairTells_instance fairTells_wrapper (fun os started H enc _ => fairTells_lifted os started H enc)
end Go.Proofs.Ytihaabdflfpacaa
