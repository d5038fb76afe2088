/-
  'mklaw5.WireTells' ANSWERS TRUE for every input, and turns nothing of what there was. No condition.
-/
import Derived.Test.YtkmokkhcoombnaaRows
import Derived.Test.YtkmokkhcoombnaaHd
import Derived.Test.YtkmokkhcoombnaaCtWireL
import Derived.Test.YtkmokkhcoombnaaOt
import Derived.Test.YtkmokkhcoombnaaPW2
import Derived.ProofKit
namespace Go.Proofs.Ytkmokkhcoombnaa
open Go.ChangeShapes Go.WideShapes Go.ChangeAt Go.RowKit Go.Gx
set_option linter.unusedVariables false
set_option maxRecDepth 20000

theorem wireTells_own : ownKnob Try.prog.godebug = none := by kernel_rfl
theorem wireTells_laid : laidOutB Try.prog = true := by kernel_rfl
theorem wireTells_f1 : mapsRowed Try.prog = true := by kernel_rfl
theorem wireTells_f2 : (Rows.wireTellsRow.inPlace == Try.prog.inPlace 3) = true := by kernel_rfl
theorem wireTells_f3 : (Rows.wireTellsRow.unfollowed == Try.prog.unfollowed 3) = true := by kernel_rfl
theorem wireTells_f4 : (Rows.wireTellsRow.recurses == Try.prog.recurses 3) = true := by kernel_rfl
theorem wireTells_f5 : (Rows.wireTellsRow.named == Try.prog.varsNamed 3) = true := by kernel_rfl
theorem wireTells_f6 : (Rows.wireTellsRow.plainKeys == Try.prog.plainKeys) = true := by kernel_rfl
theorem wireTells_f7 : Try.prog.stopsHeard = true := by kernel_rfl
theorem wireTells_f8 : (Rows.wireTellsRow.lifted == Try.prog.liftsFinal) = true := by rw [head_final]; kernel_rfl
theorem wireTells_f9 : (Try.prog.make == some Rows.wireTellsRow.make) = true := by rw [head_make]; kernel_rfl
theorem wireTells_named : Try.prog.funcNamed Rows.wireTellsRow.func = some 3 := by kernel_rfl
theorem wireTells_instance : Try.f3.isInstance Try.prog Rows.wireTellsRow.origin Rows.wireTellsRow.targs := of_decide_eq_true (by kernel_rfl)
theorem wireTells_wrapper : Try.f3.isWrapper Try.prog Rows.wireTellsRow.wrapper Rows.wireTellsRow.mainSum := by
  unfold Func.isWrapper
  first | (rw [if_pos (by decide +kernel)]; kernel_rfl) | (rw [if_neg (by decide +kernel)]; exact ⟨rfl, rfl⟩)
theorem wireTells_joined : joinedFacts Try.prog 3 Try.f3 Rows.wireTellsSpec Rows.wireTellsRow = true :=
  joined_of (by kernel_rfl) wireTells_laid wireTells_f1 (by kernel_rfl) (by kernel_rfl) (by kernel_rfl) (by kernel_rfl) (by kernel_rfl) (by kernel_rfl) wireTells_f2 wireTells_f3 wireTells_f4 wireTells_f5
    (by kernel_rfl) (by kernel_rfl) (by kernel_rfl) (by kernel_rfl) (by kernel_rfl) (by kernel_rfl) (by kernel_rfl) (by kernel_rfl) (by kernel_rfl) wireTells_f6 (by kernel_rfl) wireTells_f7 head_enter wireTells_f8 wireTells_f9
    (by kernel_rfl) (by kernel_rfl) (by kernel_rfl) (by kernel_rfl)
theorem wireTells_noInit : Try.prog.inits.idxOf? 3 = none := by kernel_rfl
theorem wireTells_params : (Try.f3.params.toList.all fun t => Try.prog.readableRec t && decide (t < Try.prog.types.size)) = true := by kernel_rfl

theorem wireTells_lifted (os : Os) (started : os.Started) (H : Type) (enc : TypeId × Value → H) :
    ReturnsInHanded {} Try.checked os 3 .any (Rows.wireTellsSpec.pre6 enc Try.prog Try.f3 Rows.wireTellsRow.domain false) (Rows.wireTellsSpec.post enc Try.prog Try.f3 false true false false) := by
  refine returnsInHanded_of_change (C := Try.checked) wireTells_own started wireTells_noInit Try.func3
    (ChangeSpec.witness6 (enc := enc) (C := Try.checked) false ⟨#[], #[.agg #[.int .i64 0, .int .i64 0, .int .i64 0, .int .i64 0, .int .i64 0, .int .i64 0], .agg #[.int .i64 0, .int .i64 0, .int .i64 0, .int .i64 0], .slice none 0 0], []⟩ 8 (by kernel_rfl) (by kernel_rfl) (by kernel_rfl) (by kernel_rfl)) ?_
  intro W base args ds gs before hval hW _ _
  have hW0 := hW
  obtain ⟨p, q, hA0, hV, rfl, hfz, hnd⟩ := hW0
  have hA : DataW.TrodAll enc Try.prog W 0 (fun _ => true) true Try.f3.params.toList args.toList ds p := hA0
  rw [Try.params3] at hA
  obtain ⟨v1, vs1, d1, ds1, p1, q1, e1, rfl, rfl, ht1, hA1⟩ := trodAll_cons hA
  obtain ⟨v2, vs2, d2, ds2, p2, q2, e2, rfl, rfl, ht2, hA2⟩ := trodAll_cons hA1
  obtain ⟨v3, vs3, d3, ds3, p3, q3, e3, rfl, rfl, ht3, hA3⟩ := trodAll_cons hA2
  obtain ⟨en, rfl, rfl⟩ := trodAll_nil hA3
  obtain rfl : args = #[v1, v2, v3] := by
    apply Array.ext'
    rw [e1, e2, e3, en]
  obtain ⟨rfl, rfl⟩ := trodVars_none hV
  have k1 := hval 0 25 v1 (by rw [Try.params3]; rfl) rfl
  obtain ⟨a1, h1⟩ := Opn.top_struct o25 rfl Try.underlying25 k1 ht1
  have k2 := hval 1 30 v2 (by rw [Try.params3]; rfl) rfl
  obtain ⟨a2, h2⟩ := Opn.top_struct o30 rfl Try.underlying30 k2 ht2
  have k3 := hval 2 31 v3 (by rw [Try.params3]; rfl) rfl
  obtain ⟨a3, h3⟩ := Opn.top_cell o31 rfl (.inr (.inr (.inl ⟨5, by kernel_rfl⟩))) k3 ht3
  have hs1 : (Rows.wireTellsSpec.fn H ([d1, d2, d3] ++ [])).results = [.lit (.bool true)] := rfl
  have hs2 : (Rows.wireTellsSpec.fn H ([d1, d2, d3] ++ [])).args = [d1, d2, d3] := rfl
  have hs3 : (Rows.wireTellsSpec.fn H ([d1, d2, d3] ++ [])).vars = [] := rfl
  refine ((Go.Gx.c_mklaw5_WireTells (Sp.wireTells a1 a2 a3)).run (full W) W [v1, v2, v3] (full_on W) ⟨_, _, rfl, h1, ⟨_, _, rfl, h2, ⟨_, _, rfl, h3, rfl⟩⟩⟩).mono fun e W' he => ?_
  obtain ⟨v, rfl, hb, hr⟩ := he
  obtain ⟨vs, h1, rfl⟩ := hr
  obtain rfl : vs = [.bool true] := h1
  exact ⟨.bool true, rfl, law_post (t := 4) wireTells_laid rfl rfl Try.underlying4 wireTells_params hW hs1 hs2 hs3 hb⟩
theorem wireTells_holds : Rows.WireTellsSaid :=
  OpenClaim.holds_of_wide 3 Try.f3 rfl rfl rfl rfl rfl rfl rfl ⟨rfl, rfl, rfl, rfl, rfl⟩ rfl rfl rfl rfl rfl wireTells_named Try.func3 wireTells_joined
    wireTells_instance wireTells_wrapper (fun os started H enc _ => wireTells_lifted os started H enc)
end Go.Proofs.Ytkmokkhcoombnaa
