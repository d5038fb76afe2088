/-
  'mklaw8.GuardUp' ANSWERS TRUE for every input, and turns nothing of what there was. No condition.
-/
import Derived.Test.YtkmokkhcoombnaaRows
import Derived.ProofKit
import Derived.Test.YtkmokkhcoombnaaZGu6
namespace Go.Proofs.Ytkmokkhcoombnaa
open Go.ChangeShapes Go.WideShapes Go.ChangeAt Go.RowKit Go.Gx
set_option linter.unusedVariables false
set_option maxRecDepth 20000

theorem guardUp_own : ownKnob Try.prog.godebug = none := by kernel_rfl
theorem guardUp_laid : laidOutB Try.prog = true := by kernel_rfl
theorem guardUp_f1 : mapsRowed Try.prog = true := by kernel_rfl
theorem guardUp_f2 : (Rows.guardUpRow.inPlace == Try.prog.inPlace 17) = true := by kernel_rfl
theorem guardUp_f3 : (Rows.guardUpRow.unfollowed == Try.prog.unfollowed 17) = true := by kernel_rfl
theorem guardUp_f4 : (Rows.guardUpRow.recurses == Try.prog.recurses 17) = true := by kernel_rfl
theorem guardUp_f5 : (Rows.guardUpRow.named == Try.prog.varsNamed 17) = true := by kernel_rfl
theorem guardUp_f6 : (Rows.guardUpRow.plainKeys == Try.prog.plainKeys) = true := by kernel_rfl
theorem guardUp_f7 : Try.prog.stopsHeard = true := by kernel_rfl
theorem guardUp_f8 : (Rows.guardUpRow.lifted == Try.prog.liftsFinal) = true := by rw [head_final]; kernel_rfl
theorem guardUp_f9 : (Try.prog.make == some Rows.guardUpRow.make) = true := by rw [head_make]; kernel_rfl
theorem guardUp_named : Try.prog.funcNamed Rows.guardUpRow.func = some 17 := by kernel_rfl
theorem guardUp_instance : Try.f17.isInstance Try.prog Rows.guardUpRow.origin Rows.guardUpRow.targs := of_decide_eq_true (by kernel_rfl)
theorem guardUp_wrapper : Try.f17.isWrapper Try.prog Rows.guardUpRow.wrapper Rows.guardUpRow.mainSum := by
  unfold Func.isWrapper
  first | (rw [if_pos (by decide +kernel)]; kernel_rfl) | (rw [if_neg (by decide +kernel)]; exact ⟨rfl, rfl⟩)
theorem guardUp_joined : joinedFacts Try.prog 17 Try.f17 Rows.guardUpSpec Rows.guardUpRow = true :=
  joined_of (by kernel_rfl) guardUp_laid guardUp_f1 (by kernel_rfl) (by kernel_rfl) (by kernel_rfl) (by kernel_rfl) (by kernel_rfl) (by kernel_rfl) guardUp_f2 guardUp_f3 guardUp_f4 guardUp_f5
    (by kernel_rfl) (by kernel_rfl) (by kernel_rfl) (by kernel_rfl) (by kernel_rfl) (by kernel_rfl) (by kernel_rfl) (by kernel_rfl) (by kernel_rfl) guardUp_f6 (by kernel_rfl) guardUp_f7 head_enter guardUp_f8 guardUp_f9
    (by kernel_rfl) (by kernel_rfl) (by kernel_rfl) (by kernel_rfl)
theorem guardUp_noInit : Try.prog.inits.idxOf? 17 = none := by kernel_rfl
theorem guardUp_params : (Try.f17.params.toList.all fun t => Try.prog.readableRec t && decide (t < Try.prog.types.size)) = true := by kernel_rfl

theorem guardUp_lifted (os : Os) (started : os.Started) (H : Type) (enc : TypeId × Value → H) :
    ReturnsInHanded {} Try.checked os 17 .any (Rows.guardUpSpec.pre6 enc Try.prog Try.f17 Rows.guardUpRow.domain false) (Rows.guardUpSpec.post enc Try.prog Try.f17 false true false false) := by
  refine returnsInHanded_of_change (C := Try.checked) guardUp_own started guardUp_noInit Try.func17
    (ChangeSpec.witness6 (enc := enc) (C := Try.checked) false ⟨#[], #[.slice none 0 0, .slice none 0 0], []⟩ 8 (by kernel_rfl) (by kernel_rfl) (by kernel_rfl) (by kernel_rfl)) ?_
  intro W base args ds gs before hval hW _ _
  have hW0 := hW
  obtain ⟨p, q, hA0, hV, rfl, hfz, hnd⟩ := hW0
  have hA : DataW.TrodAll enc Try.prog W 0 (fun _ => true) true Try.f17.params.toList args.toList ds p := hA0
  rw [Try.params17] at hA
  obtain ⟨v1, vs1, d1, ds1, p1, q1, e1, rfl, rfl, ht1, hA1⟩ := trodAll_cons hA
  obtain ⟨v2, vs2, d2, ds2, p2, q2, e2, rfl, rfl, ht2, hA2⟩ := trodAll_cons hA1
  obtain ⟨en, rfl, rfl⟩ := trodAll_nil hA2
  obtain rfl : args = #[v1, v2] := by
    apply Array.ext'
    rw [e1, e2, en]
  obtain ⟨rfl, rfl⟩ := trodVars_none hV
  have k1 := hval 0 63 v1 (by rw [Try.params17]; rfl) rfl
  obtain ⟨a1, h1⟩ := Opn.top_cell o63 rfl (.inr (.inr (.inl ⟨75, by kernel_rfl⟩))) k1 ht1
  have k2 := hval 1 64 v2 (by rw [Try.params17]; rfl) rfl
  obtain ⟨a2, h2⟩ := Opn.top_cell o64 rfl (.inr (.inr (.inl ⟨123, by kernel_rfl⟩))) k2 ht2
  have hs1 : (Rows.guardUpSpec.fn H ([d1, d2] ++ [])).results = [.lit (.bool true)] := rfl
  have hs2 : (Rows.guardUpSpec.fn H ([d1, d2] ++ [])).args = [d1, d2] := rfl
  have hs3 : (Rows.guardUpSpec.fn H ([d1, d2] ++ [])).vars = [] := rfl
  obtain ⟨_, s2, _⟩ := id h2
  have hst := len_of_rep s2
  refine ((Go.Gx.c_mklaw8_GuardUp (Sp.guardUp a1 a2 hst)).run (full W) W [v1, v2] (full_on W) ⟨_, _, rfl, h1, ⟨_, _, rfl, h2, rfl⟩⟩).mono fun e W' he => ?_
  obtain ⟨v, rfl, hb, hr⟩ := he
  obtain ⟨vs, h1, rfl⟩ := hr
  obtain rfl : vs = [.bool true] := h1
  exact ⟨.bool true, rfl, law_post (t := 4) guardUp_laid rfl rfl Try.underlying4 guardUp_params hW hs1 hs2 hs3 hb⟩
theorem guardUp_holds : Rows.GuardUpSaid :=
  OpenClaim.holds_of_wide 17 Try.f17 rfl rfl rfl rfl rfl rfl rfl ⟨rfl, rfl, rfl, rfl, rfl⟩ rfl rfl rfl rfl rfl guardUp_named Try.func17 guardUp_joined
    guardUp_instance guardUp_wrapper (fun os started H enc _ => guardUp_lifted os started H enc)
end Go.Proofs.Ytkmokkhcoombnaa
