/-
  'mklaw6.StoreBack' ANSWERS TRUE for every input, and turns nothing of what there was. No condition.
-/
import Derived.Test.YtkmokkhcoombnaaRows
import Derived.Test.YtkmokkhcoombnaaHd
import Derived.Test.YtkmokkhcoombnaaCtStoreL
import Derived.Test.YtkmokkhcoombnaaOt
import Derived.Test.YtkmokkhcoombnaaPS2
import Derived.ProofKit
namespace Go.Proofs.Ytkmokkhcoombnaa
open Go.ChangeShapes Go.WideShapes Go.ChangeAt Go.RowKit Go.Gx
set_option linter.unusedVariables false
set_option maxRecDepth 20000

theorem storeBack_own : ownKnob Try.prog.godebug = none := by kernel_rfl
theorem storeBack_laid : laidOutB Try.prog = true := by kernel_rfl
theorem storeBack_f1 : mapsRowed Try.prog = true := by kernel_rfl
theorem storeBack_f2 : (Rows.storeBackRow.inPlace == Try.prog.inPlace 8) = true := by kernel_rfl
theorem storeBack_f3 : (Rows.storeBackRow.unfollowed == Try.prog.unfollowed 8) = true := by kernel_rfl
theorem storeBack_f4 : (Rows.storeBackRow.recurses == Try.prog.recurses 8) = true := by kernel_rfl
theorem storeBack_f5 : (Rows.storeBackRow.named == Try.prog.varsNamed 8) = true := by kernel_rfl
theorem storeBack_f6 : (Rows.storeBackRow.plainKeys == Try.prog.plainKeys) = true := by kernel_rfl
theorem storeBack_f7 : Try.prog.stopsHeard = true := by kernel_rfl
theorem storeBack_f8 : (Rows.storeBackRow.lifted == Try.prog.liftsFinal) = true := by rw [head_final]; kernel_rfl
theorem storeBack_f9 : (Try.prog.make == some Rows.storeBackRow.make) = true := by rw [head_make]; kernel_rfl
theorem storeBack_named : Try.prog.funcNamed Rows.storeBackRow.func = some 8 := by kernel_rfl
theorem storeBack_instance : Try.f8.isInstance Try.prog Rows.storeBackRow.origin Rows.storeBackRow.targs := of_decide_eq_true (by kernel_rfl)
theorem storeBack_wrapper : Try.f8.isWrapper Try.prog Rows.storeBackRow.wrapper Rows.storeBackRow.mainSum := by
  unfold Func.isWrapper
  first | (rw [if_pos (by decide +kernel)]; kernel_rfl) | (rw [if_neg (by decide +kernel)]; exact ⟨rfl, rfl⟩)
theorem storeBack_joined : joinedFacts Try.prog 8 Try.f8 Rows.storeBackSpec Rows.storeBackRow = true :=
  joined_of (by kernel_rfl) storeBack_laid storeBack_f1 (by kernel_rfl) (by kernel_rfl) (by kernel_rfl) (by kernel_rfl) (by kernel_rfl) (by kernel_rfl) storeBack_f2 storeBack_f3 storeBack_f4 storeBack_f5
    (by kernel_rfl) (by kernel_rfl) (by kernel_rfl) (by kernel_rfl) (by kernel_rfl) (by kernel_rfl) (by kernel_rfl) (by kernel_rfl) (by kernel_rfl) storeBack_f6 (by kernel_rfl) storeBack_f7 head_enter storeBack_f8 storeBack_f9
    (by kernel_rfl) (by kernel_rfl) (by kernel_rfl) (by kernel_rfl)
theorem storeBack_noInit : Try.prog.inits.idxOf? 8 = none := by kernel_rfl
theorem storeBack_params : (Try.f8.params.toList.all fun t => Try.prog.readableRec t && decide (t < Try.prog.types.size)) = true := by kernel_rfl

theorem storeBack_lifted (os : Os) (started : os.Started) (H : Type) (enc : TypeId × Value → H) :
    ReturnsInHanded {} Try.checked os 8 .any (Rows.storeBackSpec.pre6 enc Try.prog Try.f8 Rows.storeBackRow.domain false) (Rows.storeBackSpec.post enc Try.prog Try.f8 false true false false) := by
  refine returnsInHanded_of_change (C := Try.checked) storeBack_own started storeBack_noInit Try.func8
    (ChangeSpec.witness6 (enc := enc) (C := Try.checked) false ⟨#[], #[.agg #[.slice none 0 0, .slice none 0 0, .slice none 0 0, .slice none 0 0], .slice none 0 0, .agg #[.int .i64 0, .int .i64 0, .int .i64 0, .int .i64 0, .int .i64 0, .int .i64 0], .agg #[.int .i64 0, .int .i64 0]], []⟩ 8 (by kernel_rfl) (by kernel_rfl) (by kernel_rfl) (by kernel_rfl)) ?_
  intro W base args ds gs before hval hW _ _
  have hW0 := hW
  obtain ⟨p, q, hA0, hV, rfl, hfz, hnd⟩ := hW0
  have hA : DataW.TrodAll enc Try.prog W 0 (fun _ => true) true Try.f8.params.toList args.toList ds p := hA0
  rw [Try.params8] at hA
  obtain ⟨v1, vs1, d1, ds1, p1, q1, e1, rfl, rfl, ht1, hA1⟩ := trodAll_cons hA
  obtain ⟨v2, vs2, d2, ds2, p2, q2, e2, rfl, rfl, ht2, hA2⟩ := trodAll_cons hA1
  obtain ⟨v3, vs3, d3, ds3, p3, q3, e3, rfl, rfl, ht3, hA3⟩ := trodAll_cons hA2
  obtain ⟨v4, vs4, d4, ds4, p4, q4, e4, rfl, rfl, ht4, hA4⟩ := trodAll_cons hA3
  obtain ⟨en, rfl, rfl⟩ := trodAll_nil hA4
  obtain rfl : args = #[v1, v2, v3, v4] := by
    apply Array.ext'
    rw [e1, e2, e3, e4, en]
  obtain ⟨rfl, rfl⟩ := trodVars_none hV
  have k1 := hval 0 48 v1 (by rw [Try.params8]; rfl) rfl
  obtain ⟨a1, h1⟩ := Opn.top_struct o48 rfl Try.underlying48 k1 ht1
  have k2 := hval 1 44 v2 (by rw [Try.params8]; rfl) rfl
  obtain ⟨a2, h2⟩ := Opn.top_cell o44 rfl (.inr (.inr (.inl ⟨50, by kernel_rfl⟩))) k2 ht2
  have k3 := hval 2 25 v3 (by rw [Try.params8]; rfl) rfl
  obtain ⟨a3, h3⟩ := Opn.top_struct o25 rfl Try.underlying25 k3 ht3
  have k4 := hval 3 28 v4 (by rw [Try.params8]; rfl) rfl
  obtain ⟨a4, h4⟩ := Opn.top_struct o28 rfl Try.underlying28 k4 ht4
  have hs1 : (Rows.storeBackSpec.fn H ([d1, d2, d3, d4] ++ [])).results = [.lit (.bool true)] := rfl
  have hs2 : (Rows.storeBackSpec.fn H ([d1, d2, d3, d4] ++ [])).args = [d1, d2, d3, d4] := rfl
  have hs3 : (Rows.storeBackSpec.fn H ([d1, d2, d3, d4] ++ [])).vars = [] := rfl
  obtain ⟨_, ⟨_, _, _, _, ⟨_, _, _, u1, _⟩⟩, _⟩ := id h1
  have hu := len_of_rep u1
  refine ((Go.Gx.c_mklaw6_StoreBack (Sp.storeBack a1 a2 a3 a4 hu)).run (full W) W [v1, v2, v3, v4] (full_on W) ⟨_, _, rfl, h1, ⟨_, _, rfl, h2, ⟨_, _, rfl, h3, ⟨_, _, rfl, h4, rfl⟩⟩⟩⟩).mono fun e W' he => ?_
  obtain ⟨v, rfl, hb, hr⟩ := he
  obtain ⟨vs, h1, rfl⟩ := hr
  obtain rfl : vs = [.bool true] := h1
  exact ⟨.bool true, rfl, law_post (t := 4) storeBack_laid rfl rfl Try.underlying4 storeBack_params hW hs1 hs2 hs3 hb⟩
theorem storeBack_holds : Rows.StoreBackSaid :=
  OpenClaim.holds_of_wide 8 Try.f8 rfl rfl rfl rfl rfl rfl rfl ⟨rfl, rfl, rfl, rfl, rfl⟩ rfl rfl rfl rfl rfl storeBack_named Try.func8 storeBack_joined
    storeBack_instance storeBack_wrapper (fun os started H enc _ => storeBack_lifted os started H enc)
end Go.Proofs.Ytkmokkhcoombnaa
