/-
  'mklaw12.FairAlone' ANSWERS TRUE for every input, and turns nothing of what there was. No condition.
-/
import Derived.Test.YtihaabdflfpacaaRows
import Derived.ProofKit
import Derived.Test.YtihaabdflfpacaaZFaE6
namespace Go.Proofs.Ytihaabdflfpacaa
open Go.ChangeShapes Go.WideShapes Go.ChangeAt Go.RowKit Go.Gx
set_option linter.unusedVariables false
set_option maxRecDepth 20000

theorem fairAlone_own : ownKnob Try.prog.godebug = none := by kernel_rfl
theorem fairAlone_laid : laidOutB Try.prog = true := by kernel_rfl
theorem fairAlone_f1 : mapsRowed Try.prog = true := by kernel_rfl
theorem fairAlone_f2 : (Rows.fairAloneRow.inPlace == Try.prog.inPlace 15) = true := by kernel_rfl
theorem fairAlone_f3 : (Rows.fairAloneRow.unfollowed == Try.prog.unfollowed 15) = true := by kernel_rfl
theorem fairAlone_f4 : (Rows.fairAloneRow.recurses == Try.prog.recurses 15) = true := by kernel_rfl
theorem fairAlone_f5 : (Rows.fairAloneRow.named == Try.prog.varsNamed 15) = true := by kernel_rfl
theorem fairAlone_f6 : (Rows.fairAloneRow.plainKeys == Try.prog.plainKeys) = true := by kernel_rfl
theorem fairAlone_f7 : Try.prog.stopsHeard = true := by kernel_rfl
theorem fairAlone_f8 : (Rows.fairAloneRow.lifted == Try.prog.liftsFinal) = true := by rw [head_final]; kernel_rfl
theorem fairAlone_f9 : (Try.prog.make == some Rows.fairAloneRow.make) = true := by rw [head_make]; kernel_rfl
theorem fairAlone_named : Try.prog.funcNamed Rows.fairAloneRow.func = some 15 := by kernel_rfl
theorem fairAlone_instance : Try.f15.isInstance Try.prog Rows.fairAloneRow.origin Rows.fairAloneRow.targs := of_decide_eq_true (by kernel_rfl)
theorem fairAlone_wrapper : Try.f15.isWrapper Try.prog Rows.fairAloneRow.wrapper Rows.fairAloneRow.mainSum := by
  unfold Func.isWrapper
  first | (rw [if_pos (by decide +kernel)]; kernel_rfl) | (rw [if_neg (by decide +kernel)]; exact ⟨rfl, rfl⟩)
theorem fairAlone_joined : joinedFacts Try.prog 15 Try.f15 Rows.fairAloneSpec Rows.fairAloneRow = true :=
  joined_of (by kernel_rfl) fairAlone_laid fairAlone_f1 (by kernel_rfl) (by kernel_rfl) (by kernel_rfl) (by kernel_rfl) (by kernel_rfl) (by kernel_rfl) fairAlone_f2 fairAlone_f3 fairAlone_f4 fairAlone_f5
    (by kernel_rfl) (by kernel_rfl) (by kernel_rfl) (by kernel_rfl) (by kernel_rfl) (by kernel_rfl) (by kernel_rfl) (by kernel_rfl) (by kernel_rfl) fairAlone_f6 (by kernel_rfl) fairAlone_f7 head_enter fairAlone_f8 fairAlone_f9
    (by kernel_rfl) (by kernel_rfl) (by kernel_rfl) (by kernel_rfl)
theorem fairAlone_noInit : Try.prog.inits.idxOf? 15 = none := by kernel_rfl
theorem fairAlone_params : (Try.f15.params.toList.all fun t => Try.prog.readableRec t && decide (t < Try.prog.types.size)) = true := by kernel_rfl

theorem fairAlone_lifted (os : Os) (started : os.Started) (H : Type) (enc : TypeId × Value → H) :
    ReturnsInHanded {} Try.checked os 15 .any (Rows.fairAloneSpec.pre6 enc Try.prog Try.f15 Rows.fairAloneRow.domain false) (Rows.fairAloneSpec.post enc Try.prog Try.f15 false true false false) := by
  refine returnsInHanded_of_change (C := Try.checked) fairAlone_own started fairAlone_noInit Try.func15
    (ChangeSpec.witness6 (enc := enc) (C := Try.checked) false ⟨#[], #[.slice none 0 0, .slice none 0 0], []⟩ 8 (by kernel_rfl) (by kernel_rfl) (by kernel_rfl) (by kernel_rfl)) ?_
  intro W base args ds gs before hval hW _ _
  have hW0 := hW
  obtain ⟨p, q, hA0, hV, rfl, hfz, hnd⟩ := hW0
  have hA : DataW.TrodAll enc Try.prog W 0 (fun _ => true) true Try.f15.params.toList args.toList ds p := hA0
  rw [Try.params15] at hA
  obtain ⟨v1, vs1, d1, ds1, p1, q1, e1, rfl, rfl, ht1, hA1⟩ := trodAll_cons hA
  obtain ⟨v2, vs2, d2, ds2, p2, q2, e2, rfl, rfl, ht2, hA2⟩ := trodAll_cons hA1
  obtain ⟨en, rfl, rfl⟩ := trodAll_nil hA2
  obtain rfl : args = #[v1, v2] := by
    apply Array.ext'
    rw [e1, e2, en]
  obtain ⟨rfl, rfl⟩ := trodVars_none hV
  have k1 := hval 0 59 v1 (by rw [Try.params15]; rfl) rfl
  obtain ⟨a1, h1⟩ := Opn.top_cell o59 rfl (.inr (.inr (.inl ⟨33, by kernel_rfl⟩))) k1 ht1
  have k2 := hval 1 23 v2 (by rw [Try.params15]; rfl) rfl
  obtain ⟨a2, h2⟩ := Opn.top_cell o23 rfl (.inr (.inr (.inl ⟨83, by kernel_rfl⟩))) k2 ht2
  have hs1 : (Rows.fairAloneSpec.fn H ([d1, d2] ++ [])).results = [.lit (.bool true)] := rfl
  have hs2 : (Rows.fairAloneSpec.fn H ([d1, d2] ++ [])).args = [d1, d2] := rfl
  have hs3 : (Rows.fairAloneSpec.fn H ([d1, d2] ++ [])).vars = [] := rfl
  obtain ⟨_, s2, _⟩ := id h2
  have hst := len_of_rep s2
  refine ((Go.Gx.c_mklaw12_FairAlone (Sp.fairAlone a1 a2 hst)).run (full W) W [v1, v2] (full_on W) ⟨_, _, rfl, h1, ⟨_, _, rfl, h2, rfl⟩⟩).mono fun e W' he => ?_
  obtain ⟨v, rfl, hb, hr⟩ := he
  obtain ⟨vs, h1, rfl⟩ := hr
  obtain rfl : vs = [.bool true] := h1
  exact ⟨.bool true, rfl, law_post (t := 4) fairAlone_laid rfl rfl Try.underlying4 fairAlone_params hW hs1 hs2 hs3 hb⟩
theorem fairAlone_holds : Rows.FairAloneSaid :=
  OpenClaim.holds_of_wide 15 Try.f15 rfl rfl rfl rfl rfl rfl rfl ⟨rfl, rfl, rfl, rfl, rfl⟩ rfl rfl rfl rfl rfl fairAlone_named Try.func15 fairAlone_joined
    fairAlone_instance fairAlone_wrapper (fun os started H enc _ => fairAlone_lifted os started H enc)
end Go.Proofs.Ytihaabdflfpacaa
