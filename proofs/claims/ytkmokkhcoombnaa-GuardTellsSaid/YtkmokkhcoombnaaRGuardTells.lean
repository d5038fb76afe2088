/-
  'mklaw8.GuardTells' ANSWERS TRUE for every input, and turns nothing of what there was. No condition.
-/
import Derived.Test.YtkmokkhcoombnaaRows
import Derived.ProofKit
import Derived.Test.YtkmokkhcoombnaaZGu6
namespace Go.Proofs.Ytkmokkhcoombnaa
open Go.ChangeShapes Go.WideShapes Go.ChangeAt Go.RowKit Go.Gx
set_option linter.unusedVariables false
set_option maxRecDepth 20000

theorem guardTells_own : ownKnob Try.prog.godebug = none := by kernel_rfl
theorem guardTells_laid : laidOutB Try.prog = true := by kernel_rfl
theorem guardTells_f1 : mapsRowed Try.prog = true := by kernel_rfl
theorem guardTells_f2 : (Rows.guardTellsRow.inPlace == Try.prog.inPlace 15) = true := by kernel_rfl
theorem guardTells_f3 : (Rows.guardTellsRow.unfollowed == Try.prog.unfollowed 15) = true := by kernel_rfl
theorem guardTells_f4 : (Rows.guardTellsRow.recurses == Try.prog.recurses 15) = true := by kernel_rfl
theorem guardTells_f5 : (Rows.guardTellsRow.named == Try.prog.varsNamed 15) = true := by kernel_rfl
theorem guardTells_f6 : (Rows.guardTellsRow.plainKeys == Try.prog.plainKeys) = true := by kernel_rfl
theorem guardTells_f7 : Try.prog.stopsHeard = true := by kernel_rfl
theorem guardTells_f8 : (Rows.guardTellsRow.lifted == Try.prog.liftsFinal) = true := by rw [head_final]; kernel_rfl
theorem guardTells_f9 : (Try.prog.make == some Rows.guardTellsRow.make) = true := by rw [head_make]; kernel_rfl
theorem guardTells_named : Try.prog.funcNamed Rows.guardTellsRow.func = some 15 := by kernel_rfl
theorem guardTells_instance : Try.f15.isInstance Try.prog Rows.guardTellsRow.origin Rows.guardTellsRow.targs := of_decide_eq_true (by kernel_rfl)
theorem guardTells_wrapper : Try.f15.isWrapper Try.prog Rows.guardTellsRow.wrapper Rows.guardTellsRow.mainSum := by
  unfold Func.isWrapper
  first | (rw [if_pos (by decide +kernel)]; kernel_rfl) | (rw [if_neg (by decide +kernel)]; exact ⟨rfl, rfl⟩)
theorem guardTells_joined : joinedFacts Try.prog 15 Try.f15 Rows.guardTellsSpec Rows.guardTellsRow = true :=
  joined_of (by kernel_rfl) guardTells_laid guardTells_f1 (by kernel_rfl) (by kernel_rfl) (by kernel_rfl) (by kernel_rfl) (by kernel_rfl) (by kernel_rfl) guardTells_f2 guardTells_f3 guardTells_f4 guardTells_f5
    (by kernel_rfl) (by kernel_rfl) (by kernel_rfl) (by kernel_rfl) (by kernel_rfl) (by kernel_rfl) (by kernel_rfl) (by kernel_rfl) (by kernel_rfl) guardTells_f6 (by kernel_rfl) guardTells_f7 head_enter guardTells_f8 guardTells_f9
    (by kernel_rfl) (by kernel_rfl) (by kernel_rfl) (by kernel_rfl)
theorem guardTells_noInit : Try.prog.inits.idxOf? 15 = none := by kernel_rfl
theorem guardTells_params : (Try.f15.params.toList.all fun t => Try.prog.readableRec t && decide (t < Try.prog.types.size)) = true := by kernel_rfl

theorem guardTells_lifted (os : Os) (started : os.Started) (H : Type) (enc : TypeId × Value → H) :
    ReturnsInHanded {} Try.checked os 15 .any (Rows.guardTellsSpec.pre6 enc Try.prog Try.f15 Rows.guardTellsRow.domain false) (Rows.guardTellsSpec.post enc Try.prog Try.f15 false true false false) := by
  refine returnsInHanded_of_change (C := Try.checked) guardTells_own started guardTells_noInit Try.func15
    (ChangeSpec.witness6 (enc := enc) (C := Try.checked) false ⟨#[], #[.slice none 0 0, .slice none 0 0, .int .i64 0], []⟩ 8 (by kernel_rfl) (by kernel_rfl) (by kernel_rfl) (by kernel_rfl)) ?_
  intro W base args ds gs before hval hW _ _
  have hW0 := hW
  obtain ⟨p, q, hA0, hV, rfl, hfz, hnd⟩ := hW0
  have hA : DataW.TrodAll enc Try.prog W 0 (fun _ => true) true Try.f15.params.toList args.toList ds p := hA0
  rw [Try.params15] at hA
  obtain ⟨v1, vs1, d1, ds1, p1, q1, e1, rfl, rfl, ht1, hA1⟩ := trodAll_cons hA
  obtain ⟨v2, vs2, d2, ds2, p2, q2, e2, rfl, rfl, ht2, hA2⟩ := trodAll_cons hA1
  obtain ⟨v3, vs3, d3, ds3, p3, q3, e3, rfl, rfl, ht3, hA3⟩ := trodAll_cons hA2
  obtain ⟨en, rfl, rfl⟩ := trodAll_nil hA3
  obtain rfl : args = #[v1, v2, v3] := by
    apply Array.ext'
    rw [e1, e2, e3, en]
  obtain ⟨rfl, rfl⟩ := trodVars_none hV
  have k1 := hval 0 63 v1 (by rw [Try.params15]; rfl) rfl
  obtain ⟨a1, h1⟩ := Opn.top_cell o63 rfl (.inr (.inr (.inl ⟨75, by kernel_rfl⟩))) k1 ht1
  have k2 := hval 1 64 v2 (by rw [Try.params15]; rfl) rfl
  obtain ⟨a2, h2⟩ := Opn.top_cell o64 rfl (.inr (.inr (.inl ⟨123, by kernel_rfl⟩))) k2 ht2
  have k3 := hval 2 3 v3 (by rw [Try.params15]; rfl) rfl
  obtain ⟨a3, h3⟩ := Opn.top_cell o3 rfl (.inl ⟨.i64, by kernel_rfl⟩) k3 ht3
  have hs1 : (Rows.guardTellsSpec.fn H ([d1, d2, d3] ++ [])).results = [.lit (.bool true)] := rfl
  have hs2 : (Rows.guardTellsSpec.fn H ([d1, d2, d3] ++ [])).args = [d1, d2, d3] := rfl
  have hs3 : (Rows.guardTellsSpec.fn H ([d1, d2, d3] ++ [])).vars = [] := rfl
  obtain ⟨_, s2, _⟩ := id h2
  have hst := len_of_rep s2
  refine ((Go.Gx.c_mklaw8_GuardTells (Sp.guardTells a1 a2 a3 hst)).run (full W) W [v1, v2, v3] (full_on W) ⟨_, _, rfl, h1, ⟨_, _, rfl, h2, ⟨_, _, rfl, h3, rfl⟩⟩⟩).mono fun e W' he => ?_
  obtain ⟨v, rfl, hb, hr⟩ := he
  obtain ⟨vs, h1, rfl⟩ := hr
  obtain rfl : vs = [.bool true] := h1
  exact ⟨.bool true, rfl, law_post (t := 4) guardTells_laid rfl rfl Try.underlying4 guardTells_params hW hs1 hs2 hs3 hb⟩
theorem guardTells_holds : Rows.GuardTellsSaid :=
  OpenClaim.holds_of_wide 15 Try.f15 rfl rfl rfl rfl rfl rfl rfl ⟨rfl, rfl, rfl, rfl, rfl⟩ rfl rfl rfl rfl rfl guardTells_named Try.func15 guardTells_joined
    guardTells_instance guardTells_wrapper (fun os started H enc _ => guardTells_lifted os started H enc)
end Go.Proofs.Ytkmokkhcoombnaa
