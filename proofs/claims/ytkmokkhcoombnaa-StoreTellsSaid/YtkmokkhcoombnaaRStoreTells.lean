/-
  'mklaw6.StoreTells' ANSWERS TRUE for every input, and turns nothing of what there was. No condition.
-/
import Derived.Test.YtkmokkhcoombnaaRows
import Derived.Test.YtkmokkhcoombnaaHd
import Derived.Test.YtkmokkhcoombnaaCtStoreL
import Derived.Test.YtkmokkhcoombnaaOt
import Derived.Test.YtkmokkhcoombnaaPS2
import Derived.ProofKit
namespace Go.Proofs.Ytkmokkhcoombnaa
open Go.ChangeShapes Go.WideShapes Go.ChangeAt Go.RowKit Go.Gx
set_option linter.unusedVariables false
set_option maxRecDepth 20000

theorem storeTells_own : ownKnob Try.prog.godebug = none := by kernel_rfl
theorem storeTells_laid : laidOutB Try.prog = true := by kernel_rfl
theorem storeTells_f1 : mapsRowed Try.prog = true := by kernel_rfl
theorem storeTells_f2 : (Rows.storeTellsRow.inPlace == Try.prog.inPlace 6) = true := by kernel_rfl
theorem storeTells_f3 : (Rows.storeTellsRow.unfollowed == Try.prog.unfollowed 6) = true := by kernel_rfl
theorem storeTells_f4 : (Rows.storeTellsRow.recurses == Try.prog.recurses 6) = true := by kernel_rfl
theorem storeTells_f5 : (Rows.storeTellsRow.named == Try.prog.varsNamed 6) = true := by kernel_rfl
theorem storeTells_f6 : (Rows.storeTellsRow.plainKeys == Try.prog.plainKeys) = true := by kernel_rfl
theorem storeTells_f7 : Try.prog.stopsHeard = true := by kernel_rfl
theorem storeTells_f8 : (Rows.storeTellsRow.lifted == Try.prog.liftsFinal) = true := by rw [head_final]; kernel_rfl
theorem storeTells_f9 : (Try.prog.make == some Rows.storeTellsRow.make) = true := by rw [head_make]; kernel_rfl
theorem storeTells_named : Try.prog.funcNamed Rows.storeTellsRow.func = some 6 := by kernel_rfl
theorem storeTells_instance : Try.f6.isInstance Try.prog Rows.storeTellsRow.origin Rows.storeTellsRow.targs := of_decide_eq_true (by kernel_rfl)
theorem storeTells_wrapper : Try.f6.isWrapper Try.prog Rows.storeTellsRow.wrapper Rows.storeTellsRow.mainSum := by
  unfold Func.isWrapper
  first | (rw [if_pos (by decide +kernel)]; kernel_rfl) | (rw [if_neg (by decide +kernel)]; exact ⟨rfl, rfl⟩)
theorem storeTells_joined : joinedFacts Try.prog 6 Try.f6 Rows.storeTellsSpec Rows.storeTellsRow = true :=
  joined_of (by kernel_rfl) storeTells_laid storeTells_f1 (by kernel_rfl) (by kernel_rfl) (by kernel_rfl) (by kernel_rfl) (by kernel_rfl) (by kernel_rfl) storeTells_f2 storeTells_f3 storeTells_f4 storeTells_f5
    (by kernel_rfl) (by kernel_rfl) (by kernel_rfl) (by kernel_rfl) (by kernel_rfl) (by kernel_rfl) (by kernel_rfl) (by kernel_rfl) (by kernel_rfl) storeTells_f6 (by kernel_rfl) storeTells_f7 head_enter storeTells_f8 storeTells_f9
    (by kernel_rfl) (by kernel_rfl) (by kernel_rfl) (by kernel_rfl)
theorem storeTells_noInit : Try.prog.inits.idxOf? 6 = none := by kernel_rfl
theorem storeTells_params : (Try.f6.params.toList.all fun t => Try.prog.readableRec t && decide (t < Try.prog.types.size)) = true := by kernel_rfl

theorem storeTells_lifted (os : Os) (started : os.Started) (H : Type) (enc : TypeId × Value → H) :
    ReturnsInHanded {} Try.checked os 6 .any (Rows.storeTellsSpec.pre6 enc Try.prog Try.f6 Rows.storeTellsRow.domain false) (Rows.storeTellsSpec.post enc Try.prog Try.f6 false true false false) := by
  refine returnsInHanded_of_change (C := Try.checked) storeTells_own started storeTells_noInit Try.func6
    (ChangeSpec.witness6 (enc := enc) (C := Try.checked) false ⟨#[], #[.agg #[.slice none 0 0, .slice none 0 0, .slice none 0 0, .slice none 0 0], .agg #[.int .i64 0, .int .i64 0], .agg #[.int .i64 0, .int .i64 0, .int .i64 0, .int .i64 0, .int .i64 0, .int .i64 0], .agg #[.int .i64 0, .int .i64 0], .int .i64 0], []⟩ 8 (by kernel_rfl) (by kernel_rfl) (by kernel_rfl) (by kernel_rfl)) ?_
  intro W base args ds gs before hval hW _ _
  have hW0 := hW
  obtain ⟨p, q, hA0, hV, rfl, hfz, hnd⟩ := hW0
  have hA : DataW.TrodAll enc Try.prog W 0 (fun _ => true) true Try.f6.params.toList args.toList ds p := hA0
  rw [Try.params6] at hA
  obtain ⟨v1, vs1, d1, ds1, p1, q1, e1, rfl, rfl, ht1, hA1⟩ := trodAll_cons hA
  obtain ⟨v2, vs2, d2, ds2, p2, q2, e2, rfl, rfl, ht2, hA2⟩ := trodAll_cons hA1
  obtain ⟨v3, vs3, d3, ds3, p3, q3, e3, rfl, rfl, ht3, hA3⟩ := trodAll_cons hA2
  obtain ⟨v4, vs4, d4, ds4, p4, q4, e4, rfl, rfl, ht4, hA4⟩ := trodAll_cons hA3
  obtain ⟨v5, vs5, d5, ds5, p5, q5, e5, rfl, rfl, ht5, hA5⟩ := trodAll_cons hA4
  obtain ⟨en, rfl, rfl⟩ := trodAll_nil hA5
  obtain rfl : args = #[v1, v2, v3, v4, v5] := by
    apply Array.ext'
    rw [e1, e2, e3, e4, e5, en]
  obtain ⟨rfl, rfl⟩ := trodVars_none hV
  have k1 := hval 0 48 v1 (by rw [Try.params6]; rfl) rfl
  obtain ⟨a1, h1⟩ := Opn.top_struct o48 rfl Try.underlying48 k1 ht1
  have k2 := hval 1 50 v2 (by rw [Try.params6]; rfl) rfl
  obtain ⟨a2, h2⟩ := Opn.top_struct o50 rfl Try.underlying50 k2 ht2
  have k3 := hval 2 25 v3 (by rw [Try.params6]; rfl) rfl
  obtain ⟨a3, h3⟩ := Opn.top_struct o25 rfl Try.underlying25 k3 ht3
  have k4 := hval 3 28 v4 (by rw [Try.params6]; rfl) rfl
  obtain ⟨a4, h4⟩ := Opn.top_struct o28 rfl Try.underlying28 k4 ht4
  have k5 := hval 4 3 v5 (by rw [Try.params6]; rfl) rfl
  obtain ⟨a5, h5⟩ := Opn.top_cell o3 rfl (.inl ⟨.i64, by kernel_rfl⟩) k5 ht5
  have hs1 : (Rows.storeTellsSpec.fn H ([d1, d2, d3, d4, d5] ++ [])).results = [.lit (.bool true)] := rfl
  have hs2 : (Rows.storeTellsSpec.fn H ([d1, d2, d3, d4, d5] ++ [])).args = [d1, d2, d3, d4, d5] := rfl
  have hs3 : (Rows.storeTellsSpec.fn H ([d1, d2, d3, d4, d5] ++ [])).vars = [] := rfl
  obtain ⟨_, ⟨_, _, _, _, ⟨_, _, _, u1, _⟩⟩, _⟩ := id h1
  have hu := len_of_rep u1
  refine ((Go.Gx.c_mklaw6_StoreTells (Sp.storeTells a1 a2 a3 a4 a5 hu)).run (full W) W [v1, v2, v3, v4, v5] (full_on W) ⟨_, _, rfl, h1, ⟨_, _, rfl, h2, ⟨_, _, rfl, h3, ⟨_, _, rfl, h4, ⟨_, _, rfl, h5, rfl⟩⟩⟩⟩⟩).mono fun e W' he => ?_
  obtain ⟨v, rfl, hb, hr⟩ := he
  obtain ⟨vs, h1, rfl⟩ := hr
  obtain rfl : vs = [.bool true] := h1
  exact ⟨.bool true, rfl, law_post (t := 4) storeTells_laid rfl rfl Try.underlying4 storeTells_params hW hs1 hs2 hs3 hb⟩
theorem storeTells_holds : Rows.StoreTellsSaid :=
  OpenClaim.holds_of_wide 6 Try.f6 rfl rfl rfl rfl rfl rfl rfl ⟨rfl, rfl, rfl, rfl, rfl⟩ rfl rfl rfl rfl rfl storeTells_named Try.func6 storeTells_joined
    storeTells_instance storeTells_wrapper (fun os started H enc _ => storeTells_lifted os started H enc)
end Go.Proofs.Ytkmokkhcoombnaa
