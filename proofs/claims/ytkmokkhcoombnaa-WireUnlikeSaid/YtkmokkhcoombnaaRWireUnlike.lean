/-
  'mklaw5.WireUnlike' ANSWERS TRUE for every input, and turns nothing of what there was. No condition.
-/
import Derived.Test.YtkmokkhcoombnaaRows
import Derived.Test.YtkmokkhcoombnaaHd
import Derived.Test.YtkmokkhcoombnaaCtWireL
import Derived.Test.YtkmokkhcoombnaaOt
import Derived.Test.YtkmokkhcoombnaaPW2
import Derived.ProofKit
namespace Go.Proofs.Ytkmokkhcoombnaa
open Go.ChangeShapes Go.WideShapes Go.ChangeAt Go.RowKit Go.Gx
set_option linter.unusedVariables false
set_option maxRecDepth 20000

theorem wireUnlike_own : ownKnob Try.prog.godebug = none := by kernel_rfl
theorem wireUnlike_laid : laidOutB Try.prog = true := by kernel_rfl
theorem wireUnlike_f1 : mapsRowed Try.prog = true := by kernel_rfl
theorem wireUnlike_f2 : (Rows.wireUnlikeRow.inPlace == Try.prog.inPlace 4) = true := by kernel_rfl
theorem wireUnlike_f3 : (Rows.wireUnlikeRow.unfollowed == Try.prog.unfollowed 4) = true := by kernel_rfl
theorem wireUnlike_f4 : (Rows.wireUnlikeRow.recurses == Try.prog.recurses 4) = true := by kernel_rfl
theorem wireUnlike_f5 : (Rows.wireUnlikeRow.named == Try.prog.varsNamed 4) = true := by kernel_rfl
theorem wireUnlike_f6 : (Rows.wireUnlikeRow.plainKeys == Try.prog.plainKeys) = true := by kernel_rfl
theorem wireUnlike_f7 : Try.prog.stopsHeard = true := by kernel_rfl
theorem wireUnlike_f8 : (Rows.wireUnlikeRow.lifted == Try.prog.liftsFinal) = true := by rw [head_final]; kernel_rfl
theorem wireUnlike_f9 : (Try.prog.make == some Rows.wireUnlikeRow.make) = true := by rw [head_make]; kernel_rfl
theorem wireUnlike_named : Try.prog.funcNamed Rows.wireUnlikeRow.func = some 4 := by kernel_rfl
theorem wireUnlike_instance : Try.f4.isInstance Try.prog Rows.wireUnlikeRow.origin Rows.wireUnlikeRow.targs := of_decide_eq_true (by kernel_rfl)
theorem wireUnlike_wrapper : Try.f4.isWrapper Try.prog Rows.wireUnlikeRow.wrapper Rows.wireUnlikeRow.mainSum := by
  unfold Func.isWrapper
  first | (rw [if_pos (by decide +kernel)]; kernel_rfl) | (rw [if_neg (by decide +kernel)]; exact ⟨rfl, rfl⟩)
theorem wireUnlike_joined : joinedFacts Try.prog 4 Try.f4 Rows.wireUnlikeSpec Rows.wireUnlikeRow = true :=
  joined_of (by kernel_rfl) wireUnlike_laid wireUnlike_f1 (by kernel_rfl) (by kernel_rfl) (by kernel_rfl) (by kernel_rfl) (by kernel_rfl) (by kernel_rfl) wireUnlike_f2 wireUnlike_f3 wireUnlike_f4 wireUnlike_f5
    (by kernel_rfl) (by kernel_rfl) (by kernel_rfl) (by kernel_rfl) (by kernel_rfl) (by kernel_rfl) (by kernel_rfl) (by kernel_rfl) (by kernel_rfl) wireUnlike_f6 (by kernel_rfl) wireUnlike_f7 head_enter wireUnlike_f8 wireUnlike_f9
    (by kernel_rfl) (by kernel_rfl) (by kernel_rfl) (by kernel_rfl)
theorem wireUnlike_noInit : Try.prog.inits.idxOf? 4 = none := by kernel_rfl
theorem wireUnlike_params : (Try.f4.params.toList.all fun t => Try.prog.readableRec t && decide (t < Try.prog.types.size)) = true := by kernel_rfl

theorem wireUnlike_lifted (os : Os) (started : os.Started) (H : Type) (enc : TypeId × Value → H) :
    ReturnsInHanded {} Try.checked os 4 .any (Rows.wireUnlikeSpec.pre6 enc Try.prog Try.f4 Rows.wireUnlikeRow.domain false) (Rows.wireUnlikeSpec.post enc Try.prog Try.f4 false true false false) := by
  refine returnsInHanded_of_change (C := Try.checked) wireUnlike_own started wireUnlike_noInit Try.func4
    (ChangeSpec.witness6 (enc := enc) (C := Try.checked) false ⟨#[], #[.agg #[.int .i64 0, .int .i64 0, .int .i64 0, .int .i64 0, .int .i64 0, .int .i64 0], .agg #[.int .i64 0, .int .i64 0, .int .i64 0, .int .i64 0, .int .i64 0, .int .i64 0], .agg #[.int .i64 0, .int .i64 0, .int .i64 0, .int .i64 0], .agg #[.int .i64 0, .int .i64 0, .int .i64 0, .int .i64 0]], []⟩ 8 (by kernel_rfl) (by kernel_rfl) (by kernel_rfl) (by kernel_rfl)) ?_
  intro W base args ds gs before hval hW _ _
  have hW0 := hW
  obtain ⟨p, q, hA0, hV, rfl, hfz, hnd⟩ := hW0
  have hA : DataW.TrodAll enc Try.prog W 0 (fun _ => true) true Try.f4.params.toList args.toList ds p := hA0
  rw [Try.params4] at hA
  obtain ⟨v1, vs1, d1, ds1, p1, q1, e1, rfl, rfl, ht1, hA1⟩ := trodAll_cons hA
  obtain ⟨v2, vs2, d2, ds2, p2, q2, e2, rfl, rfl, ht2, hA2⟩ := trodAll_cons hA1
  obtain ⟨v3, vs3, d3, ds3, p3, q3, e3, rfl, rfl, ht3, hA3⟩ := trodAll_cons hA2
  obtain ⟨v4, vs4, d4, ds4, p4, q4, e4, rfl, rfl, ht4, hA4⟩ := trodAll_cons hA3
  obtain ⟨en, rfl, rfl⟩ := trodAll_nil hA4
  obtain rfl : args = #[v1, v2, v3, v4] := by
    apply Array.ext'
    rw [e1, e2, e3, e4, en]
  obtain ⟨rfl, rfl⟩ := trodVars_none hV
  have k1 := hval 0 25 v1 (by rw [Try.params4]; rfl) rfl
  obtain ⟨a1, h1⟩ := Opn.top_struct o25 rfl Try.underlying25 k1 ht1
  have k2 := hval 1 25 v2 (by rw [Try.params4]; rfl) rfl
  obtain ⟨a2, h2⟩ := Opn.top_struct o25 rfl Try.underlying25 k2 ht2
  have k3 := hval 2 30 v3 (by rw [Try.params4]; rfl) rfl
  obtain ⟨a3, h3⟩ := Opn.top_struct o30 rfl Try.underlying30 k3 ht3
  have k4 := hval 3 30 v4 (by rw [Try.params4]; rfl) rfl
  obtain ⟨a4, h4⟩ := Opn.top_struct o30 rfl Try.underlying30 k4 ht4
  have hs1 : (Rows.wireUnlikeSpec.fn H ([d1, d2, d3, d4] ++ [])).results = [.lit (.bool true)] := rfl
  have hs2 : (Rows.wireUnlikeSpec.fn H ([d1, d2, d3, d4] ++ [])).args = [d1, d2, d3, d4] := rfl
  have hs3 : (Rows.wireUnlikeSpec.fn H ([d1, d2, d3, d4] ++ [])).vars = [] := rfl
  refine ((Go.Gx.c_mklaw5_WireUnlike (Sp.wireUnlike a1 a2 a3 a4)).run (full W) W [v1, v2, v3, v4] (full_on W) ⟨_, _, rfl, h1, ⟨_, _, rfl, h2, ⟨_, _, rfl, h3, ⟨_, _, rfl, h4, rfl⟩⟩⟩⟩).mono fun e W' he => ?_
  obtain ⟨v, rfl, hb, hr⟩ := he
  obtain ⟨vs, h1, rfl⟩ := hr
  obtain rfl : vs = [.bool true] := h1
  exact ⟨.bool true, rfl, law_post (t := 4) wireUnlike_laid rfl rfl Try.underlying4 wireUnlike_params hW hs1 hs2 hs3 hb⟩
theorem wireUnlike_holds : Rows.WireUnlikeSaid :=
  OpenClaim.holds_of_wide 4 Try.f4 rfl rfl rfl rfl rfl rfl rfl ⟨rfl, rfl, rfl, rfl, rfl⟩ rfl rfl rfl rfl rfl wireUnlike_named Try.func4 wireUnlike_joined
    wireUnlike_instance wireUnlike_wrapper (fun os started H enc _ => wireUnlike_lifted os started H enc)
end Go.Proofs.Ytkmokkhcoombnaa
