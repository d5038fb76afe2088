/-
  'mklaw5.WireTurns' ANSWERS TRUE for every input, and turns nothing of what there was. No condition.
-/
import Derived.Test.YtkmokkhcoombnaaRows
import Derived.Test.YtkmokkhcoombnaaHd
import Derived.Test.YtkmokkhcoombnaaCtWireL
import Derived.Test.YtkmokkhcoombnaaOt
import Derived.Test.YtkmokkhcoombnaaPW2
import Derived.ProofKit
namespace Go.Proofs.Ytkmokkhcoombnaa
open Go.ChangeShapes Go.WideShapes Go.ChangeAt Go.RowKit Go.Gx
set_option linter.unusedVariables false
set_option maxRecDepth 20000

theorem wireTurns_own : ownKnob Try.prog.godebug = none := by kernel_rfl
theorem wireTurns_laid : laidOutB Try.prog = true := by kernel_rfl
theorem wireTurns_f1 : mapsRowed Try.prog = true := by kernel_rfl
theorem wireTurns_f2 : (Rows.wireTurnsRow.inPlace == Try.prog.inPlace 5) = true := by kernel_rfl
theorem wireTurns_f3 : (Rows.wireTurnsRow.unfollowed == Try.prog.unfollowed 5) = true := by kernel_rfl
theorem wireTurns_f4 : (Rows.wireTurnsRow.recurses == Try.prog.recurses 5) = true := by kernel_rfl
theorem wireTurns_f5 : (Rows.wireTurnsRow.named == Try.prog.varsNamed 5) = true := by kernel_rfl
theorem wireTurns_f6 : (Rows.wireTurnsRow.plainKeys == Try.prog.plainKeys) = true := by kernel_rfl
theorem wireTurns_f7 : Try.prog.stopsHeard = true := by kernel_rfl
theorem wireTurns_f8 : (Rows.wireTurnsRow.lifted == Try.prog.liftsFinal) = true := by rw [head_final]; kernel_rfl
theorem wireTurns_f9 : (Try.prog.make == some Rows.wireTurnsRow.make) = true := by rw [head_make]; kernel_rfl
theorem wireTurns_named : Try.prog.funcNamed Rows.wireTurnsRow.func = some 5 := by kernel_rfl
theorem wireTurns_instance : Try.f5.isInstance Try.prog Rows.wireTurnsRow.origin Rows.wireTurnsRow.targs := of_decide_eq_true (by kernel_rfl)
theorem wireTurns_wrapper : Try.f5.isWrapper Try.prog Rows.wireTurnsRow.wrapper Rows.wireTurnsRow.mainSum := by
  unfold Func.isWrapper
  first | (rw [if_pos (by decide +kernel)]; kernel_rfl) | (rw [if_neg (by decide +kernel)]; exact ⟨rfl, rfl⟩)
theorem wireTurns_joined : joinedFacts Try.prog 5 Try.f5 Rows.wireTurnsSpec Rows.wireTurnsRow = true :=
  joined_of (by kernel_rfl) wireTurns_laid wireTurns_f1 (by kernel_rfl) (by kernel_rfl) (by kernel_rfl) (by kernel_rfl) (by kernel_rfl) (by kernel_rfl) wireTurns_f2 wireTurns_f3 wireTurns_f4 wireTurns_f5
    (by kernel_rfl) (by kernel_rfl) (by kernel_rfl) (by kernel_rfl) (by kernel_rfl) (by kernel_rfl) (by kernel_rfl) (by kernel_rfl) (by kernel_rfl) wireTurns_f6 (by kernel_rfl) wireTurns_f7 head_enter wireTurns_f8 wireTurns_f9
    (by kernel_rfl) (by kernel_rfl) (by kernel_rfl) (by kernel_rfl)
theorem wireTurns_noInit : Try.prog.inits.idxOf? 5 = none := by kernel_rfl
theorem wireTurns_params : (Try.f5.params.toList.all fun t => Try.prog.readableRec t && decide (t < Try.prog.types.size)) = true := by kernel_rfl

theorem wireTurns_lifted (os : Os) (started : os.Started) (H : Type) (enc : TypeId × Value → H) :
    ReturnsInHanded {} Try.checked os 5 .any (Rows.wireTurnsSpec.pre6 enc Try.prog Try.f5 Rows.wireTurnsRow.domain false) (Rows.wireTurnsSpec.post enc Try.prog Try.f5 false true false false) := by
  refine returnsInHanded_of_change (C := Try.checked) wireTurns_own started wireTurns_noInit Try.func5
    (ChangeSpec.witness6 (enc := enc) (C := Try.checked) false ⟨#[], #[.agg #[.int .i64 0, .int .i64 0, .int .i64 0, .int .i64 0, .int .i64 0, .int .i64 0], .agg #[.int .i64 0, .int .i64 0, .int .i64 0, .int .i64 0], .slice none 0 0], []⟩ 8 (by kernel_rfl) (by kernel_rfl) (by kernel_rfl) (by kernel_rfl)) ?_
  intro W base args ds gs before hval hW _ _
  have hW0 := hW
  obtain ⟨p, q, hA0, hV, rfl, hfz, hnd⟩ := hW0
  have hA : DataW.TrodAll enc Try.prog W 0 (fun _ => true) true Try.f5.params.toList args.toList ds p := hA0
  rw [Try.params5] at hA
  obtain ⟨v1, vs1, d1, ds1, p1, q1, e1, rfl, rfl, ht1, hA1⟩ := trodAll_cons hA
  obtain ⟨v2, vs2, d2, ds2, p2, q2, e2, rfl, rfl, ht2, hA2⟩ := trodAll_cons hA1
  obtain ⟨v3, vs3, d3, ds3, p3, q3, e3, rfl, rfl, ht3, hA3⟩ := trodAll_cons hA2
  obtain ⟨en, rfl, rfl⟩ := trodAll_nil hA3
  obtain rfl : args = #[v1, v2, v3] := by
    apply Array.ext'
    rw [e1, e2, e3, en]
  obtain ⟨rfl, rfl⟩ := trodVars_none hV
  have k1 := hval 0 25 v1 (by rw [Try.params5]; rfl) rfl
  obtain ⟨a1, h1⟩ := Opn.top_struct o25 rfl Try.underlying25 k1 ht1
  have k2 := hval 1 30 v2 (by rw [Try.params5]; rfl) rfl
  obtain ⟨a2, h2⟩ := Opn.top_struct o30 rfl Try.underlying30 k2 ht2
  have k3 := hval 2 31 v3 (by rw [Try.params5]; rfl) rfl
  obtain ⟨a3, h3⟩ := Opn.top_cell o31 rfl (.inr (.inr (.inl ⟨5, by kernel_rfl⟩))) k3 ht3
  have hs1 : (Rows.wireTurnsSpec.fn H ([d1, d2, d3] ++ [])).results = [.lit (.bool true)] := rfl
  have hs2 : (Rows.wireTurnsSpec.fn H ([d1, d2, d3] ++ [])).args = [d1, d2, d3] := rfl
  have hs3 : (Rows.wireTurnsSpec.fn H ([d1, d2, d3] ++ [])).vars = [] := rfl
  refine ((Go.Gx.c_mklaw5_WireTurns (Sp.wireTurns a1 a2 a3)).run (full W) W [v1, v2, v3] (full_on W) ⟨_, _, rfl, h1, ⟨_, _, rfl, h2, ⟨_, _, rfl, h3, rfl⟩⟩⟩).mono fun e W' he => ?_
  obtain ⟨v, rfl, hb, hr⟩ := he
  obtain ⟨vs, h1, rfl⟩ := hr
  obtain rfl : vs = [.bool true] := h1
  exact ⟨.bool true, rfl, law_post (t := 4) wireTurns_laid rfl rfl Try.underlying4 wireTurns_params hW hs1 hs2 hs3 hb⟩
theorem wireTurns_holds : Rows.WireTurnsSaid :=
  OpenClaim.holds_of_wide 5 Try.f5 rfl rfl rfl rfl rfl rfl rfl ⟨rfl, rfl, rfl, rfl, rfl⟩ rfl rfl rfl rfl rfl wireTurns_named Try.func5 wireTurns_joined
    wireTurns_instance wireTurns_wrapper (fun os started H enc _ => wireTurns_lifted os started H enc)
end Go.Proofs.Ytkmokkhcoombnaa
