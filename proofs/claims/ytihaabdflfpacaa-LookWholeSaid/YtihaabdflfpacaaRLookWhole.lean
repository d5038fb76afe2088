/-
  'mklaw11.LookWhole' ANSWERS TRUE for every input, and turns nothing of what there was. No condition.
-/
import Derived.Test.YtihaabdflfpacaaRows
import Derived.ProofKit
import Derived.Test.YtihaabdflfpacaaZLo6
namespace Go.Proofs.Ytihaabdflfpacaa
open Go.ChangeShapes Go.WideShapes Go.ChangeAt Go.RowKit Go.Gx
set_option linter.unusedVariables false
set_option maxRecDepth 20000

theorem lookWhole_own : ownKnob Try.prog.godebug = none := by kernel_rfl
theorem lookWhole_laid : laidOutB Try.prog = true := by kernel_rfl
theorem lookWhole_f1 : mapsRowed Try.prog = true := by kernel_rfl
theorem lookWhole_f2 : (Rows.lookWholeRow.inPlace == Try.prog.inPlace 4) = true := by kernel_rfl
theorem lookWhole_f3 : (Rows.lookWholeRow.unfollowed == Try.prog.unfollowed 4) = true := by kernel_rfl
theorem lookWhole_f4 : (Rows.lookWholeRow.recurses == Try.prog.recurses 4) = true := by kernel_rfl
theorem lookWhole_f5 : (Rows.lookWholeRow.named == Try.prog.varsNamed 4) = true := by kernel_rfl
theorem lookWhole_f6 : (Rows.lookWholeRow.plainKeys == Try.prog.plainKeys) = true := by kernel_rfl
theorem lookWhole_f7 : Try.prog.stopsHeard = true := by kernel_rfl
theorem lookWhole_f8 : (Rows.lookWholeRow.lifted == Try.prog.liftsFinal) = true := by rw [head_final]; kernel_rfl
theorem lookWhole_f9 : (Try.prog.make == some Rows.lookWholeRow.make) = true := by rw [head_make]; kernel_rfl
theorem lookWhole_named : Try.prog.funcNamed Rows.lookWholeRow.func = some 4 := by kernel_rfl
theorem lookWhole_instance : Try.f4.isInstance Try.prog Rows.lookWholeRow.origin Rows.lookWholeRow.targs := of_decide_eq_true (by kernel_rfl)
theorem lookWhole_wrapper : Try.f4.isWrapper Try.prog Rows.lookWholeRow.wrapper Rows.lookWholeRow.mainSum := by
  unfold Func.isWrapper
  first | (rw [if_pos (by decide +kernel)]; kernel_rfl) | (rw [if_neg (by decide +kernel)]; exact ⟨rfl, rfl⟩)
theorem lookWhole_joined : joinedFacts Try.prog 4 Try.f4 Rows.lookWholeSpec Rows.lookWholeRow = true :=
  joined_of (by kernel_rfl) lookWhole_laid lookWhole_f1 (by kernel_rfl) (by kernel_rfl) (by kernel_rfl) (by kernel_rfl) (by kernel_rfl) (by kernel_rfl) lookWhole_f2 lookWhole_f3 lookWhole_f4 lookWhole_f5
    (by kernel_rfl) (by kernel_rfl) (by kernel_rfl) (by kernel_rfl) (by kernel_rfl) (by kernel_rfl) (by kernel_rfl) (by kernel_rfl) (by kernel_rfl) lookWhole_f6 (by kernel_rfl) lookWhole_f7 head_enter lookWhole_f8 lookWhole_f9
    (by kernel_rfl) (by kernel_rfl) (by kernel_rfl) (by kernel_rfl)
theorem lookWhole_noInit : Try.prog.inits.idxOf? 4 = none := by kernel_rfl
theorem lookWhole_params : (Try.f4.params.toList.all fun t => Try.prog.readableRec t && decide (t < Try.prog.types.size)) = true := by kernel_rfl

theorem lookWhole_lifted (os : Os) (started : os.Started) (H : Type) (enc : TypeId × Value → H) :
    ReturnsInHanded {} Try.checked os 4 .any (Rows.lookWholeSpec.pre6 enc Try.prog Try.f4 Rows.lookWholeRow.domain false) (Rows.lookWholeSpec.post enc Try.prog Try.f4 false true false false) := by
  refine returnsInHanded_of_change (C := Try.checked) lookWhole_own started lookWhole_noInit Try.func4
    (ChangeSpec.witness6 (enc := enc) (C := Try.checked) false ⟨#[], #[.slice none 0 0, .slice none 0 0], []⟩ 8 (by kernel_rfl) (by kernel_rfl) (by kernel_rfl) (by kernel_rfl)) ?_
  intro W base args ds gs before hval hW _ _
  have hW0 := hW
  obtain ⟨p, q, hA0, hV, rfl, hfz, hnd⟩ := hW0
  have hA : DataW.TrodAll enc Try.prog W 0 (fun _ => true) true Try.f4.params.toList args.toList ds p := hA0
  rw [Try.params4] at hA
  obtain ⟨v1, vs1, d1, ds1, p1, q1, e1, rfl, rfl, ht1, hA1⟩ := trodAll_cons hA
  obtain ⟨v2, vs2, d2, ds2, p2, q2, e2, rfl, rfl, ht2, hA2⟩ := trodAll_cons hA1
  obtain ⟨en, rfl, rfl⟩ := trodAll_nil hA2
  obtain rfl : args = #[v1, v2] := by
    apply Array.ext'
    rw [e1, e2, en]
  obtain ⟨rfl, rfl⟩ := trodVars_none hV
  have k1 := hval 0 22 v1 (by rw [Try.params4]; rfl) rfl
  obtain ⟨a1, h1⟩ := Opn.top_cell o22 rfl (.inr (.inr (.inl ⟨59, by kernel_rfl⟩))) k1 ht1
  have k2 := hval 1 23 v2 (by rw [Try.params4]; rfl) rfl
  obtain ⟨a2, h2⟩ := Opn.top_cell o23 rfl (.inr (.inr (.inl ⟨83, by kernel_rfl⟩))) k2 ht2
  have hs1 : (Rows.lookWholeSpec.fn H ([d1, d2] ++ [])).results = [.lit (.bool true)] := rfl
  have hs2 : (Rows.lookWholeSpec.fn H ([d1, d2] ++ [])).args = [d1, d2] := rfl
  have hs3 : (Rows.lookWholeSpec.fn H ([d1, d2] ++ [])).vars = [] := rfl
  obtain ⟨_, s2, _⟩ := id h2
  have hst := len_of_rep s2
  refine ((Go.Gx.c_mklaw11_LookWhole (Sp.lookWhole a1 a2 hst)).run (full W) W [v1, v2] (full_on W) ⟨_, _, rfl, h1, ⟨_, _, rfl, h2, rfl⟩⟩).mono fun e W' he => ?_
  obtain ⟨v, rfl, hb, hr⟩ := he
  obtain ⟨vs, h1, rfl⟩ := hr
  obtain rfl : vs = [.bool true] := h1
  exact ⟨.bool true, rfl, law_post (t := 4) lookWhole_laid rfl rfl Try.underlying4 lookWhole_params hW hs1 hs2 hs3 hb⟩
theorem lookWhole_holds : Rows.LookWholeSaid :=
  OpenClaim.holds_of_wide 4 Try.f4 rfl rfl rfl rfl rfl rfl rfl ⟨rfl, rfl, rfl, rfl, rfl⟩ rfl rfl rfl rfl rfl lookWhole_named Try.func4 lookWhole_joined
    lookWhole_instance lookWhole_wrapper (fun os started H enc _ => lookWhole_lifted os started H enc)
end Go.Proofs.Ytihaabdflfpacaa
