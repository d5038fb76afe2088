/-
  'mklaw2.ModelTells' ANSWERS TRUE for every input, and turns nothing of what there was. No condition.
-/
import Derived.Test.YtkmokkhcoombnaaRows
import Derived.ProofKit
import Derived.Test.YtkmokkhcoombnaaZMo3
namespace Go.Proofs.Ytkmokkhcoombnaa
open Go.ChangeShapes Go.WideShapes Go.ChangeAt Go.RowKit Go.Gx
set_option linter.unusedVariables false
set_option maxRecDepth 20000

theorem modelTells_own : ownKnob Try.prog.godebug = none := by kernel_rfl
theorem modelTells_laid : laidOutB Try.prog = true := by kernel_rfl
theorem modelTells_f1 : mapsRowed Try.prog = true := by kernel_rfl
theorem modelTells_f2 : (Rows.modelTellsRow.inPlace == Try.prog.inPlace 18) = true := by kernel_rfl
theorem modelTells_f3 : (Rows.modelTellsRow.unfollowed == Try.prog.unfollowed 18) = true := by kernel_rfl
theorem modelTells_f4 : (Rows.modelTellsRow.recurses == Try.prog.recurses 18) = true := by kernel_rfl
theorem modelTells_f5 : (Rows.modelTellsRow.named == Try.prog.varsNamed 18) = true := by kernel_rfl
theorem modelTells_f6 : (Rows.modelTellsRow.plainKeys == Try.prog.plainKeys) = true := by kernel_rfl
theorem modelTells_f7 : Try.prog.stopsHeard = true := by kernel_rfl
theorem modelTells_f8 : (Rows.modelTellsRow.lifted == Try.prog.liftsFinal) = true := by rw [head_final]; kernel_rfl
theorem modelTells_f9 : (Try.prog.make == some Rows.modelTellsRow.make) = true := by rw [head_make]; kernel_rfl
theorem modelTells_named : Try.prog.funcNamed Rows.modelTellsRow.func = some 18 := by kernel_rfl
theorem modelTells_instance : Try.f18.isInstance Try.prog Rows.modelTellsRow.origin Rows.modelTellsRow.targs := of_decide_eq_true (by kernel_rfl)
theorem modelTells_wrapper : Try.f18.isWrapper Try.prog Rows.modelTellsRow.wrapper Rows.modelTellsRow.mainSum := by
  unfold Func.isWrapper
  first | (rw [if_pos (by decide +kernel)]; kernel_rfl) | (rw [if_neg (by decide +kernel)]; exact ⟨rfl, rfl⟩)
theorem modelTells_joined : joinedFacts Try.prog 18 Try.f18 Rows.modelTellsSpec Rows.modelTellsRow = true :=
  joined_of (by kernel_rfl) modelTells_laid modelTells_f1 (by kernel_rfl) (by kernel_rfl) (by kernel_rfl) (by kernel_rfl) (by kernel_rfl) (by kernel_rfl) modelTells_f2 modelTells_f3 modelTells_f4 modelTells_f5
    (by kernel_rfl) (by kernel_rfl) (by kernel_rfl) (by kernel_rfl) (by kernel_rfl) (by kernel_rfl) (by kernel_rfl) (by kernel_rfl) (by kernel_rfl) modelTells_f6 (by kernel_rfl) modelTells_f7 head_enter modelTells_f8 modelTells_f9
    (by kernel_rfl) (by kernel_rfl) (by kernel_rfl) (by kernel_rfl)
theorem modelTells_noInit : Try.prog.inits.idxOf? 18 = none := by kernel_rfl
theorem modelTells_params : (Try.f18.params.toList.all fun t => Try.prog.readableRec t && decide (t < Try.prog.types.size)) = true := by kernel_rfl

theorem modelTells_lifted (os : Os) (started : os.Started) (H : Type) (enc : TypeId × Value → H) :
    ReturnsInHanded {} Try.checked os 18 .any (Rows.modelTellsSpec.pre6 enc Try.prog Try.f18 Rows.modelTellsRow.domain false) (Rows.modelTellsSpec.post enc Try.prog Try.f18 false true false false) := by
  refine returnsInHanded_of_change_sized (C := Try.checked) modelTells_own started modelTells_noInit Try.func18
    (ChangeSpec.witness6 (enc := enc) (C := Try.checked) false ⟨#[], #[.slice none 0 0, .agg #[.int .i64 0, .int .i64 0, .int .i64 0, .int .i64 0], .slice none 0 0, .slice none 0 0], []⟩ 8 (by kernel_rfl) (by kernel_rfl) (by kernel_rfl) (by kernel_rfl)) ?_
  intro W base args ds gs before hval hW _ hsz _
  have hW0 := hW
  obtain ⟨p, q, hA0, hV, rfl, hfz, hnd⟩ := hW0
  have hA : DataW.TrodAll enc Try.prog W 0 (fun _ => true) true Try.f18.params.toList args.toList ds p := hA0
  rw [Try.params18] at hA
  obtain ⟨v1, vs1, d1, ds1, p1, q1, e1, rfl, rfl, ht1, hA1⟩ := trodAll_cons hA
  obtain ⟨v2, vs2, d2, ds2, p2, q2, e2, rfl, rfl, ht2, hA2⟩ := trodAll_cons hA1
  obtain ⟨v3, vs3, d3, ds3, p3, q3, e3, rfl, rfl, ht3, hA3⟩ := trodAll_cons hA2
  obtain ⟨v4, vs4, d4, ds4, p4, q4, e4, rfl, rfl, ht4, hA4⟩ := trodAll_cons hA3
  obtain ⟨en, rfl, rfl⟩ := trodAll_nil hA4
  obtain rfl : args = #[v1, v2, v3, v4] := by
    apply Array.ext'
    rw [e1, e2, e3, e4, en]
  obtain ⟨rfl, rfl⟩ := trodVars_none hV
  have k1 := hval 0 44 v1 (by rw [Try.params18]; rfl) rfl
  obtain ⟨a1, h1⟩ := Opn.top_cell o44 rfl (.inr (.inr (.inl ⟨50, by kernel_rfl⟩))) k1 ht1
  have k2 := hval 1 23 v2 (by rw [Try.params18]; rfl) rfl
  obtain ⟨a2, h2⟩ := Opn.top_struct o23 rfl Try.underlying23 k2 ht2
  have k3 := hval 2 46 v3 (by rw [Try.params18]; rfl) rfl
  obtain ⟨a3, h3, z3⟩ := Opn.top_slice o25 (by kernel_rfl) k3 ht3 hsz (j := 2) (by rw [Try.params18]; rfl) rfl
  have y3 : a3.length * 48 ≤ 140737488355328 := Nat.le_trans (by rw [show Try.prog.bytesOf 25 = 48 from by kernel_rfl] at z3; exact z3) (by decide)
  have k4 := hval 3 43 v4 (by rw [Try.params18]; rfl) rfl
  obtain ⟨a4, h4⟩ := Opn.top_cell o43 rfl (.inr (.inr (.inl ⟨3, by kernel_rfl⟩))) k4 ht4
  have hs1 : (Rows.modelTellsSpec.fn H ([d1, d2, d3, d4] ++ [])).results = [.lit (.bool true)] := rfl
  have hs2 : (Rows.modelTellsSpec.fn H ([d1, d2, d3, d4] ++ [])).args = [d1, d2, d3, d4] := rfl
  have hs3 : (Rows.modelTellsSpec.fn H ([d1, d2, d3, d4] ++ [])).vars = [] := rfl
  refine ((Go.Gx.c_mklaw2_ModelTells (Sp.modelTells a1 a2 a3 a4 y3)).run (full W) W [v1, v2, v3, v4] (full_on W) ⟨_, _, rfl, h1, ⟨_, _, rfl, h2, ⟨_, _, rfl, h3, ⟨_, _, rfl, h4, rfl⟩⟩⟩⟩).mono fun e W' he => ?_
  obtain ⟨v, rfl, hb, hr⟩ := he
  obtain ⟨vs, h1, rfl⟩ := hr
  obtain rfl : vs = [.bool true] := h1
  exact ⟨.bool true, rfl, law_post (t := 4) modelTells_laid rfl rfl Try.underlying4 modelTells_params hW hs1 hs2 hs3 hb⟩
theorem modelTells_holds : Rows.ModelTellsSaid :=
  OpenClaim.holds_of_wide 18 Try.f18 rfl rfl rfl rfl rfl rfl rfl ⟨rfl, rfl, rfl, rfl, rfl⟩ rfl rfl rfl rfl rfl modelTells_named Try.func18 modelTells_joined
    modelTells_instance modelTells_wrapper (fun os started H enc _ => modelTells_lifted os started H enc)
end Go.Proofs.Ytkmokkhcoombnaa
