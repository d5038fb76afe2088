/-
  'mklaw8.GuardKeeps' ANSWERS TRUE for every input, and turns nothing of what there was. No condition.
-/
import Derived.Test.YtkmokkhcoombnaaRows
import Derived.ProofKit
import Derived.Test.YtkmokkhcoombnaaZGu6
namespace Go.Proofs.Ytkmokkhcoombnaa
open Go.ChangeShapes Go.WideShapes Go.ChangeAt Go.RowKit Go.Gx
set_option linter.unusedVariables false
set_option maxRecDepth 20000

theorem guardKeeps_own : ownKnob Try.prog.godebug = none := by kernel_rfl
theorem guardKeeps_laid : laidOutB Try.prog = true := by kernel_rfl
theorem guardKeeps_f1 : mapsRowed Try.prog = true := by kernel_rfl
theorem guardKeeps_f2 : (Rows.guardKeepsRow.inPlace == Try.prog.inPlace 16) = true := by kernel_rfl
theorem guardKeeps_f3 : (Rows.guardKeepsRow.unfollowed == Try.prog.unfollowed 16) = true := by kernel_rfl
theorem guardKeeps_f4 : (Rows.guardKeepsRow.recurses == Try.prog.recurses 16) = true := by kernel_rfl
theorem guardKeeps_f5 : (Rows.guardKeepsRow.named == Try.prog.varsNamed 16) = true := by kernel_rfl
theorem guardKeeps_f6 : (Rows.guardKeepsRow.plainKeys == Try.prog.plainKeys) = true := by kernel_rfl
theorem guardKeeps_f7 : Try.prog.stopsHeard = true := by kernel_rfl
theorem guardKeeps_f8 : (Rows.guardKeepsRow.lifted == Try.prog.liftsFinal) = true := by rw [head_final]; kernel_rfl
theorem guardKeeps_f9 : (Try.prog.make == some Rows.guardKeepsRow.make) = true := by rw [head_make]; kernel_rfl
theorem guardKeeps_named : Try.prog.funcNamed Rows.guardKeepsRow.func = some 16 := by kernel_rfl
theorem guardKeeps_instance : Try.f16.isInstance Try.prog Rows.guardKeepsRow.origin Rows.guardKeepsRow.targs := of_decide_eq_true (by kernel_rfl)
theorem guardKeeps_wrapper : Try.f16.isWrapper Try.prog Rows.guardKeepsRow.wrapper Rows.guardKeepsRow.mainSum := by
  unfold Func.isWrapper
  first | (rw [if_pos (by decide +kernel)]; kernel_rfl) | (rw [if_neg (by decide +kernel)]; exact ⟨rfl, rfl⟩)
theorem guardKeeps_joined : joinedFacts Try.prog 16 Try.f16 Rows.guardKeepsSpec Rows.guardKeepsRow = true :=
  joined_of (by kernel_rfl) guardKeeps_laid guardKeeps_f1 (by kernel_rfl) (by kernel_rfl) (by kernel_rfl) (by kernel_rfl) (by kernel_rfl) (by kernel_rfl) guardKeeps_f2 guardKeeps_f3 guardKeeps_f4 guardKeeps_f5
    (by kernel_rfl) (by kernel_rfl) (by kernel_rfl) (by kernel_rfl) (by kernel_rfl) (by kernel_rfl) (by kernel_rfl) (by kernel_rfl) (by kernel_rfl) guardKeeps_f6 (by kernel_rfl) guardKeeps_f7 head_enter guardKeeps_f8 guardKeeps_f9
    (by kernel_rfl) (by kernel_rfl) (by kernel_rfl) (by kernel_rfl)
theorem guardKeeps_noInit : Try.prog.inits.idxOf? 16 = none := by kernel_rfl
theorem guardKeeps_params : (Try.f16.params.toList.all fun t => Try.prog.readableRec t && decide (t < Try.prog.types.size)) = true := by kernel_rfl

theorem guardKeeps_lifted (os : Os) (started : os.Started) (H : Type) (enc : TypeId × Value → H) :
    ReturnsInHanded {} Try.checked os 16 .any (Rows.guardKeepsSpec.pre6 enc Try.prog Try.f16 Rows.guardKeepsRow.domain false) (Rows.guardKeepsSpec.post enc Try.prog Try.f16 false true false false) := by
  refine returnsInHanded_of_change (C := Try.checked) guardKeeps_own started guardKeeps_noInit Try.func16
    (ChangeSpec.witness6 (enc := enc) (C := Try.checked) false ⟨#[], #[.slice none 0 0, .slice none 0 0, .int .i64 0], []⟩ 8 (by kernel_rfl) (by kernel_rfl) (by kernel_rfl) (by kernel_rfl)) ?_
  intro W base args ds gs before hval hW _ _
  have hW0 := hW
  obtain ⟨p, q, hA0, hV, rfl, hfz, hnd⟩ := hW0
  have hA : DataW.TrodAll enc Try.prog W 0 (fun _ => true) true Try.f16.params.toList args.toList ds p := hA0
  rw [Try.params16] at hA
  obtain ⟨v1, vs1, d1, ds1, p1, q1, e1, rfl, rfl, ht1, hA1⟩ := trodAll_cons hA
  obtain ⟨v2, vs2, d2, ds2, p2, q2, e2, rfl, rfl, ht2, hA2⟩ := trodAll_cons hA1
  obtain ⟨v3, vs3, d3, ds3, p3, q3, e3, rfl, rfl, ht3, hA3⟩ := trodAll_cons hA2
  obtain ⟨en, rfl, rfl⟩ := trodAll_nil hA3
  obtain rfl : args = #[v1, v2, v3] := by
    apply Array.ext'
    rw [e1, e2, e3, en]
  obtain ⟨rfl, rfl⟩ := trodVars_none hV
  have k1 := hval 0 63 v1 (by rw [Try.params16]; rfl) rfl
  obtain ⟨a1, h1⟩ := Opn.top_cell o63 rfl (.inr (.inr (.inl ⟨75, by kernel_rfl⟩))) k1 ht1
  have k2 := hval 1 64 v2 (by rw [Try.params16]; rfl) rfl
  obtain ⟨a2, h2⟩ := Opn.top_cell o64 rfl (.inr (.inr (.inl ⟨123, by kernel_rfl⟩))) k2 ht2
  have k3 := hval 2 3 v3 (by rw [Try.params16]; rfl) rfl
  obtain ⟨a3, h3⟩ := Opn.top_cell o3 rfl (.inl ⟨.i64, by kernel_rfl⟩) k3 ht3
  have hs1 : (Rows.guardKeepsSpec.fn H ([d1, d2, d3] ++ [])).results = [.lit (.bool true)] := rfl
  have hs2 : (Rows.guardKeepsSpec.fn H ([d1, d2, d3] ++ [])).args = [d1, d2, d3] := rfl
  have hs3 : (Rows.guardKeepsSpec.fn H ([d1, d2, d3] ++ [])).vars = [] := rfl
  obtain ⟨_, s2, _⟩ := id h2
  have hst := len_of_rep s2
  refine ((Go.Gx.c_mklaw8_GuardKeeps (Sp.guardKeeps a1 a2 a3 hst)).run (full W) W [v1, v2, v3] (full_on W) ⟨_, _, rfl, h1, ⟨_, _, rfl, h2, ⟨_, _, rfl, h3, rfl⟩⟩⟩).mono fun e W' he => ?_
  obtain ⟨v, rfl, hb, hr⟩ := he
  obtain ⟨vs, h1, rfl⟩ := hr
  obtain rfl : vs = [.bool true] := h1
  exact ⟨.bool true, rfl, law_post (t := 4) guardKeeps_laid rfl rfl Try.underlying4 guardKeeps_params hW hs1 hs2 hs3 hb⟩
theorem guardKeeps_holds : Rows.GuardKeepsSaid :=
  OpenClaim.holds_of_wide 16 Try.f16 rfl rfl rfl rfl rfl rfl rfl ⟨rfl, rfl, rfl, rfl, rfl⟩ rfl rfl rfl rfl rfl guardKeeps_named Try.func16 guardKeeps_joined
    guardKeeps_instance guardKeeps_wrapper (fun os started H enc _ => guardKeeps_lifted os started H enc)
end Go.Proofs.Ytkmokkhcoombnaa
