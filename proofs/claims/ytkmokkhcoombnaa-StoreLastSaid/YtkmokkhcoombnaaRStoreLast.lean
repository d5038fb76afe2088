/-
  'mklaw6.StoreLast' ANSWERS TRUE for every input, and turns nothing of what there was. No condition.
-/
import Derived.Test.YtkmokkhcoombnaaRows
import Derived.Test.YtkmokkhcoombnaaHd
import Derived.Test.YtkmokkhcoombnaaCtStoreL
import Derived.Test.YtkmokkhcoombnaaOt
import Derived.Test.YtkmokkhcoombnaaPS2
import Derived.ProofKit
namespace Go.Proofs.Ytkmokkhcoombnaa
open Go.ChangeShapes Go.WideShapes Go.ChangeAt Go.RowKit Go.Gx
set_option linter.unusedVariables false
set_option maxRecDepth 20000

theorem storeLast_own : ownKnob Try.prog.godebug = none := by kernel_rfl
theorem storeLast_laid : laidOutB Try.prog = true := by kernel_rfl
theorem storeLast_f1 : mapsRowed Try.prog = true := by kernel_rfl
theorem storeLast_f2 : (Rows.storeLastRow.inPlace == Try.prog.inPlace 7) = true := by kernel_rfl
theorem storeLast_f3 : (Rows.storeLastRow.unfollowed == Try.prog.unfollowed 7) = true := by kernel_rfl
theorem storeLast_f4 : (Rows.storeLastRow.recurses == Try.prog.recurses 7) = true := by kernel_rfl
theorem storeLast_f5 : (Rows.storeLastRow.named == Try.prog.varsNamed 7) = true := by kernel_rfl
theorem storeLast_f6 : (Rows.storeLastRow.plainKeys == Try.prog.plainKeys) = true := by kernel_rfl
theorem storeLast_f7 : Try.prog.stopsHeard = true := by kernel_rfl
theorem storeLast_f8 : (Rows.storeLastRow.lifted == Try.prog.liftsFinal) = true := by rw [head_final]; kernel_rfl
theorem storeLast_f9 : (Try.prog.make == some Rows.storeLastRow.make) = true := by rw [head_make]; kernel_rfl
theorem storeLast_named : Try.prog.funcNamed Rows.storeLastRow.func = some 7 := by kernel_rfl
theorem storeLast_instance : Try.f7.isInstance Try.prog Rows.storeLastRow.origin Rows.storeLastRow.targs := of_decide_eq_true (by kernel_rfl)
theorem storeLast_wrapper : Try.f7.isWrapper Try.prog Rows.storeLastRow.wrapper Rows.storeLastRow.mainSum := by
  unfold Func.isWrapper
  first | (rw [if_pos (by decide +kernel)]; kernel_rfl) | (rw [if_neg (by decide +kernel)]; exact ⟨rfl, rfl⟩)
theorem storeLast_joined : joinedFacts Try.prog 7 Try.f7 Rows.storeLastSpec Rows.storeLastRow = true :=
  joined_of (by kernel_rfl) storeLast_laid storeLast_f1 (by kernel_rfl) (by kernel_rfl) (by kernel_rfl) (by kernel_rfl) (by kernel_rfl) (by kernel_rfl) storeLast_f2 storeLast_f3 storeLast_f4 storeLast_f5
    (by kernel_rfl) (by kernel_rfl) (by kernel_rfl) (by kernel_rfl) (by kernel_rfl) (by kernel_rfl) (by kernel_rfl) (by kernel_rfl) (by kernel_rfl) storeLast_f6 (by kernel_rfl) storeLast_f7 head_enter storeLast_f8 storeLast_f9
    (by kernel_rfl) (by kernel_rfl) (by kernel_rfl) (by kernel_rfl)
theorem storeLast_noInit : Try.prog.inits.idxOf? 7 = none := by kernel_rfl
theorem storeLast_params : (Try.f7.params.toList.all fun t => Try.prog.readableRec t && decide (t < Try.prog.types.size)) = true := by kernel_rfl

theorem storeLast_lifted (os : Os) (started : os.Started) (H : Type) (enc : TypeId × Value → H) :
    ReturnsInHanded {} Try.checked os 7 .any (Rows.storeLastSpec.pre6 enc Try.prog Try.f7 Rows.storeLastRow.domain false) (Rows.storeLastSpec.post enc Try.prog Try.f7 false true false false) := by
  refine returnsInHanded_of_change (C := Try.checked) storeLast_own started storeLast_noInit Try.func7
    (ChangeSpec.witness6 (enc := enc) (C := Try.checked) false ⟨#[], #[.agg #[.slice none 0 0, .slice none 0 0, .slice none 0 0, .slice none 0 0], .agg #[.int .i64 0, .int .i64 0, .int .i64 0, .int .i64 0, .int .i64 0, .int .i64 0], .agg #[.int .i64 0, .int .i64 0], .int .i64 0], []⟩ 8 (by kernel_rfl) (by kernel_rfl) (by kernel_rfl) (by kernel_rfl)) ?_
  intro W base args ds gs before hval hW _ _
  have hW0 := hW
  obtain ⟨p, q, hA0, hV, rfl, hfz, hnd⟩ := hW0
  have hA : DataW.TrodAll enc Try.prog W 0 (fun _ => true) true Try.f7.params.toList args.toList ds p := hA0
  rw [Try.params7] at hA
  obtain ⟨v1, vs1, d1, ds1, p1, q1, e1, rfl, rfl, ht1, hA1⟩ := trodAll_cons hA
  obtain ⟨v2, vs2, d2, ds2, p2, q2, e2, rfl, rfl, ht2, hA2⟩ := trodAll_cons hA1
  obtain ⟨v3, vs3, d3, ds3, p3, q3, e3, rfl, rfl, ht3, hA3⟩ := trodAll_cons hA2
  obtain ⟨v4, vs4, d4, ds4, p4, q4, e4, rfl, rfl, ht4, hA4⟩ := trodAll_cons hA3
  obtain ⟨en, rfl, rfl⟩ := trodAll_nil hA4
  obtain rfl : args = #[v1, v2, v3, v4] := by
    apply Array.ext'
    rw [e1, e2, e3, e4, en]
  obtain ⟨rfl, rfl⟩ := trodVars_none hV
  have k1 := hval 0 48 v1 (by rw [Try.params7]; rfl) rfl
  obtain ⟨a1, h1⟩ := Opn.top_struct o48 rfl Try.underlying48 k1 ht1
  have k2 := hval 1 25 v2 (by rw [Try.params7]; rfl) rfl
  obtain ⟨a2, h2⟩ := Opn.top_struct o25 rfl Try.underlying25 k2 ht2
  have k3 := hval 2 28 v3 (by rw [Try.params7]; rfl) rfl
  obtain ⟨a3, h3⟩ := Opn.top_struct o28 rfl Try.underlying28 k3 ht3
  have k4 := hval 3 3 v4 (by rw [Try.params7]; rfl) rfl
  obtain ⟨a4, h4⟩ := Opn.top_cell o3 rfl (.inl ⟨.i64, by kernel_rfl⟩) k4 ht4
  have hs1 : (Rows.storeLastSpec.fn H ([d1, d2, d3, d4] ++ [])).results = [.lit (.bool true)] := rfl
  have hs2 : (Rows.storeLastSpec.fn H ([d1, d2, d3, d4] ++ [])).args = [d1, d2, d3, d4] := rfl
  have hs3 : (Rows.storeLastSpec.fn H ([d1, d2, d3, d4] ++ [])).vars = [] := rfl
  obtain ⟨_, ⟨_, _, _, _, ⟨_, _, _, u1, _⟩⟩, _⟩ := id h1
  have hu := len_of_rep u1
  refine ((Go.Gx.c_mklaw6_StoreLast (Sp.storeLast a1 a2 a3 a4 hu)).run (full W) W [v1, v2, v3, v4] (full_on W) ⟨_, _, rfl, h1, ⟨_, _, rfl, h2, ⟨_, _, rfl, h3, ⟨_, _, rfl, h4, rfl⟩⟩⟩⟩).mono fun e W' he => ?_
  obtain ⟨v, rfl, hb, hr⟩ := he
  obtain ⟨vs, h1, rfl⟩ := hr
  obtain rfl : vs = [.bool true] := h1
  exact ⟨.bool true, rfl, law_post (t := 4) storeLast_laid rfl rfl Try.underlying4 storeLast_params hW hs1 hs2 hs3 hb⟩
theorem storeLast_holds : Rows.StoreLastSaid :=
  OpenClaim.holds_of_wide 7 Try.f7 rfl rfl rfl rfl rfl rfl rfl ⟨rfl, rfl, rfl, rfl, rfl⟩ rfl rfl rfl rfl rfl storeLast_named Try.func7 storeLast_joined
    storeLast_instance storeLast_wrapper (fun os started H enc _ => storeLast_lifted os started H enc)
end Go.Proofs.Ytkmokkhcoombnaa
