/-
  'mklaw12.FairEnds' ANSWERS TRUE for every input, and turns nothing of what there was. No condition.
-/
import Derived.Test.YtihaabdflfpacaaRows
import Derived.ProofKit
import Derived.Test.YtihaabdflfpacaaZFaE6
namespace Go.Proofs.Ytihaabdflfpacaa
open Go.ChangeShapes Go.WideShapes Go.ChangeAt Go.RowKit Go.Gx
set_option linter.unusedVariables false
set_option maxRecDepth 20000

theorem fairEnds_own : ownKnob Try.prog.godebug = none := by kernel_rfl
theorem fairEnds_laid : laidOutB Try.prog = true := by kernel_rfl
theorem fairEnds_f1 : mapsRowed Try.prog = true := by kernel_rfl
theorem fairEnds_f2 : (Rows.fairEndsRow.inPlace == Try.prog.inPlace 14) = true := by kernel_rfl
theorem fairEnds_f3 : (Rows.fairEndsRow.unfollowed == Try.prog.unfollowed 14) = true := by kernel_rfl
theorem fairEnds_f4 : (Rows.fairEndsRow.recurses == Try.prog.recurses 14) = true := by kernel_rfl
theorem fairEnds_f5 : (Rows.fairEndsRow.named == Try.prog.varsNamed 14) = true := by kernel_rfl
theorem fairEnds_f6 : (Rows.fairEndsRow.plainKeys == Try.prog.plainKeys) = true := by kernel_rfl
theorem fairEnds_f7 : Try.prog.stopsHeard = true := by kernel_rfl
theorem fairEnds_f8 : (Rows.fairEndsRow.lifted == Try.prog.liftsFinal) = true := by rw [head_final]; kernel_rfl
theorem fairEnds_f9 : (Try.prog.make == some Rows.fairEndsRow.make) = true := by rw [head_make]; kernel_rfl
theorem fairEnds_named : Try.prog.funcNamed Rows.fairEndsRow.func = some 14 := by kernel_rfl
theorem fairEnds_instance : Try.f14.isInstance Try.prog Rows.fairEndsRow.origin Rows.fairEndsRow.targs := of_decide_eq_true (by kernel_rfl)
theorem fairEnds_wrapper : Try.f14.isWrapper Try.prog Rows.fairEndsRow.wrapper Rows.fairEndsRow.mainSum := by
  unfold Func.isWrapper
  first | (rw [if_pos (by decide +kernel)]; kernel_rfl) | (rw [if_neg (by decide +kernel)]; exact ⟨rfl, rfl⟩)
theorem fairEnds_joined : joinedFacts Try.prog 14 Try.f14 Rows.fairEndsSpec Rows.fairEndsRow = true :=
  joined_of (by kernel_rfl) fairEnds_laid fairEnds_f1 (by kernel_rfl) (by kernel_rfl) (by kernel_rfl) (by kernel_rfl) (by kernel_rfl) (by kernel_rfl) fairEnds_f2 fairEnds_f3 fairEnds_f4 fairEnds_f5
    (by kernel_rfl) (by kernel_rfl) (by kernel_rfl) (by kernel_rfl) (by kernel_rfl) (by kernel_rfl) (by kernel_rfl) (by kernel_rfl) (by kernel_rfl) fairEnds_f6 (by kernel_rfl) fairEnds_f7 head_enter fairEnds_f8 fairEnds_f9
    (by kernel_rfl) (by kernel_rfl) (by kernel_rfl) (by kernel_rfl)
theorem fairEnds_noInit : Try.prog.inits.idxOf? 14 = none := by kernel_rfl
theorem fairEnds_params : (Try.f14.params.toList.all fun t => Try.prog.readableRec t && decide (t < Try.prog.types.size)) = true := by kernel_rfl

theorem fairEnds_lifted (os : Os) (started : os.Started) (H : Type) (enc : TypeId × Value → H) :
    ReturnsInHanded {} Try.checked os 14 .any (Rows.fairEndsSpec.pre6 enc Try.prog Try.f14 Rows.fairEndsRow.domain false) (Rows.fairEndsSpec.post enc Try.prog Try.f14 false true false false) := by
  refine returnsInHanded_of_change (C := Try.checked) fairEnds_own started fairEnds_noInit Try.func14
    (ChangeSpec.witness6 (enc := enc) (C := Try.checked) false ⟨#[], #[.slice none 0 0, .slice none 0 0], []⟩ 8 (by kernel_rfl) (by kernel_rfl) (by kernel_rfl) (by kernel_rfl)) ?_
  intro W base args ds gs before hval hW _ _
  have hW0 := hW
  obtain ⟨p, q, hA0, hV, rfl, hfz, hnd⟩ := hW0
  have hA : DataW.TrodAll enc Try.prog W 0 (fun _ => true) true Try.f14.params.toList args.toList ds p := hA0
  rw [Try.params14] at hA
  obtain ⟨v1, vs1, d1, ds1, p1, q1, e1, rfl, rfl, ht1, hA1⟩ := trodAll_cons hA
  obtain ⟨v2, vs2, d2, ds2, p2, q2, e2, rfl, rfl, ht2, hA2⟩ := trodAll_cons hA1
  obtain ⟨en, rfl, rfl⟩ := trodAll_nil hA2
  obtain rfl : args = #[v1, v2] := by
    apply Array.ext'
    rw [e1, e2, en]
  obtain ⟨rfl, rfl⟩ := trodVars_none hV
  have k1 := hval 0 22 v1 (by rw [Try.params14]; rfl) rfl
  obtain ⟨a1, h1⟩ := Opn.top_cell o22 rfl (.inr (.inr (.inl ⟨59, by kernel_rfl⟩))) k1 ht1
  have k2 := hval 1 23 v2 (by rw [Try.params14]; rfl) rfl
  obtain ⟨a2, h2⟩ := Opn.top_cell o23 rfl (.inr (.inr (.inl ⟨83, by kernel_rfl⟩))) k2 ht2
  have hs1 : (Rows.fairEndsSpec.fn H ([d1, d2] ++ [])).results = [.lit (.bool true)] := rfl
  have hs2 : (Rows.fairEndsSpec.fn H ([d1, d2] ++ [])).args = [d1, d2] := rfl
  have hs3 : (Rows.fairEndsSpec.fn H ([d1, d2] ++ [])).vars = [] := rfl
  obtain ⟨_, s2, _⟩ := id h2
  have hst := len_of_rep s2
  refine ((Go.Gx.c_mklaw12_FairEnds (Sp.fairEnds a1 a2 hst)).run (full W) W [v1, v2] (full_on W) ⟨_, _, rfl, h1, ⟨_, _, rfl, h2, rfl⟩⟩).mono fun e W' he => ?_
  obtain ⟨v, rfl, hb, hr⟩ := he
  obtain ⟨vs, h1, rfl⟩ := hr
  obtain rfl : vs = [.bool true] := h1
  exact ⟨.bool true, rfl, law_post (t := 4) fairEnds_laid rfl rfl Try.underlying4 fairEnds_params hW hs1 hs2 hs3 hb⟩
theorem fairEnds_holds : Rows.FairEndsSaid :=
  OpenClaim.holds_of_wide 14 Try.f14 rfl rfl rfl rfl rfl rfl rfl ⟨rfl, rfl, rfl, rfl, rfl⟩ rfl rfl rfl rfl rfl fairEnds_named Try.func14 fairEnds_joined
    fairEnds_instance fairEnds_wrapper (fun os started H enc _ => fairEnds_lifted os started H enc)
end Go.Proofs.Ytihaabdflfpacaa
