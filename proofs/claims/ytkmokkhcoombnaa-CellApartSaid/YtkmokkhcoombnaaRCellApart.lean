/-
  'mklaw1.CellApart' ANSWERS TRUE for every input, and turns nothing of what there was. No condition.
-/
import Derived.Test.YtkmokkhcoombnaaRows
import Derived.Test.YtkmokkhcoombnaaHd
import Derived.Test.YtkmokkhcoombnaaCtCellL
import Derived.Test.YtkmokkhcoombnaaOt
import Derived.Test.YtkmokkhcoombnaaPC2
import Derived.ProofKit
namespace Go.Proofs.Ytkmokkhcoombnaa
open Go.ChangeShapes Go.WideShapes Go.ChangeAt Go.RowKit Go.Gx
set_option linter.unusedVariables false
set_option maxRecDepth 20000

theorem cellApart_own : ownKnob Try.prog.godebug = none := by kernel_rfl
theorem cellApart_laid : laidOutB Try.prog = true := by kernel_rfl
theorem cellApart_f1 : mapsRowed Try.prog = true := by kernel_rfl
theorem cellApart_f2 : (Rows.cellApartRow.inPlace == Try.prog.inPlace 13) = true := by kernel_rfl
theorem cellApart_f3 : (Rows.cellApartRow.unfollowed == Try.prog.unfollowed 13) = true := by kernel_rfl
theorem cellApart_f4 : (Rows.cellApartRow.recurses == Try.prog.recurses 13) = true := by kernel_rfl
theorem cellApart_f5 : (Rows.cellApartRow.named == Try.prog.varsNamed 13) = true := by kernel_rfl
theorem cellApart_f6 : (Rows.cellApartRow.plainKeys == Try.prog.plainKeys) = true := by kernel_rfl
theorem cellApart_f7 : Try.prog.stopsHeard = true := by kernel_rfl
theorem cellApart_f8 : (Rows.cellApartRow.lifted == Try.prog.liftsFinal) = true := by rw [head_final]; kernel_rfl
theorem cellApart_f9 : (Try.prog.make == some Rows.cellApartRow.make) = true := by rw [head_make]; kernel_rfl
theorem cellApart_named : Try.prog.funcNamed Rows.cellApartRow.func = some 13 := by kernel_rfl
theorem cellApart_instance : Try.f13.isInstance Try.prog Rows.cellApartRow.origin Rows.cellApartRow.targs := of_decide_eq_true (by kernel_rfl)
theorem cellApart_wrapper : Try.f13.isWrapper Try.prog Rows.cellApartRow.wrapper Rows.cellApartRow.mainSum := by
  unfold Func.isWrapper
  first | (rw [if_pos (by decide +kernel)]; kernel_rfl) | (rw [if_neg (by decide +kernel)]; exact ⟨rfl, rfl⟩)
theorem cellApart_joined : joinedFacts Try.prog 13 Try.f13 Rows.cellApartSpec Rows.cellApartRow = true :=
  joined_of (by kernel_rfl) cellApart_laid cellApart_f1 (by kernel_rfl) (by kernel_rfl) (by kernel_rfl) (by kernel_rfl) (by kernel_rfl) (by kernel_rfl) cellApart_f2 cellApart_f3 cellApart_f4 cellApart_f5
    (by kernel_rfl) (by kernel_rfl) (by kernel_rfl) (by kernel_rfl) (by kernel_rfl) (by kernel_rfl) (by kernel_rfl) (by kernel_rfl) (by kernel_rfl) cellApart_f6 (by kernel_rfl) cellApart_f7 head_enter cellApart_f8 cellApart_f9
    (by kernel_rfl) (by kernel_rfl) (by kernel_rfl) (by kernel_rfl)
theorem cellApart_noInit : Try.prog.inits.idxOf? 13 = none := by kernel_rfl
theorem cellApart_params : (Try.f13.params.toList.all fun t => Try.prog.readableRec t && decide (t < Try.prog.types.size)) = true := by kernel_rfl

theorem cellApart_lifted (os : Os) (started : os.Started) (H : Type) (enc : TypeId × Value → H) :
    ReturnsInHanded {} Try.checked os 13 .any (Rows.cellApartSpec.pre6 enc Try.prog Try.f13 Rows.cellApartRow.domain false) (Rows.cellApartSpec.post enc Try.prog Try.f13 false true false false) := by
  refine returnsInHanded_of_change_sized (C := Try.checked) cellApart_own started cellApart_noInit Try.func13
    (ChangeSpec.witness6 (enc := enc) (C := Try.checked) false ⟨#[], #[.slice none 0 0, .agg #[.int .i64 0, .int .i64 0], .agg #[.int .i64 0, .int .i64 0]], []⟩ 8 (by kernel_rfl) (by kernel_rfl) (by kernel_rfl) (by kernel_rfl)) ?_
  intro W base args ds gs before hval hW _ hsz _
  have hW0 := hW
  obtain ⟨p, q, hA0, hV, rfl, hfz, hnd⟩ := hW0
  have hA : DataW.TrodAll enc Try.prog W 0 (fun _ => true) true Try.f13.params.toList args.toList ds p := hA0
  rw [Try.params13] at hA
  obtain ⟨v1, vs1, d1, ds1, p1, q1, e1, rfl, rfl, ht1, hA1⟩ := trodAll_cons hA
  obtain ⟨v2, vs2, d2, ds2, p2, q2, e2, rfl, rfl, ht2, hA2⟩ := trodAll_cons hA1
  obtain ⟨v3, vs3, d3, ds3, p3, q3, e3, rfl, rfl, ht3, hA3⟩ := trodAll_cons hA2
  obtain ⟨en, rfl, rfl⟩ := trodAll_nil hA3
  obtain rfl : args = #[v1, v2, v3] := by
    apply Array.ext'
    rw [e1, e2, e3, en]
  obtain ⟨rfl, rfl⟩ := trodVars_none hV
  have k1 := hval 0 43 v1 (by rw [Try.params13]; rfl) rfl
  obtain ⟨a1, h1, z1⟩ := Opn.top_slice o3 (by kernel_rfl) k1 ht1 hsz (j := 0) (by rw [Try.params13]; rfl) rfl
  have y1 : a1.length * 8 ≤ 140737488355328 := Nat.le_trans (by rw [show Try.prog.bytesOf 3 = 8 from by kernel_rfl] at z1; exact z1) (by decide)
  have k2 := hval 1 50 v2 (by rw [Try.params13]; rfl) rfl
  obtain ⟨a2, h2⟩ := Opn.top_struct o50 rfl Try.underlying50 k2 ht2
  have k3 := hval 2 50 v3 (by rw [Try.params13]; rfl) rfl
  obtain ⟨a3, h3⟩ := Opn.top_struct o50 rfl Try.underlying50 k3 ht3
  have hs1 : (Rows.cellApartSpec.fn H ([d1, d2, d3] ++ [])).results = [.lit (.bool true)] := rfl
  have hs2 : (Rows.cellApartSpec.fn H ([d1, d2, d3] ++ [])).args = [d1, d2, d3] := rfl
  have hs3 : (Rows.cellApartSpec.fn H ([d1, d2, d3] ++ [])).vars = [] := rfl
  refine ((Go.Gx.c_mklaw1_CellApart (Sp.cellApart a1 a2 a3 y1)).run (full W) W [v1, v2, v3] (full_on W) ⟨_, _, rfl, h1, ⟨_, _, rfl, h2, ⟨_, _, rfl, h3, rfl⟩⟩⟩).mono fun e W' he => ?_
  obtain ⟨v, rfl, hb, hr⟩ := he
  obtain ⟨vs, h1, rfl⟩ := hr
  obtain rfl : vs = [.bool true] := h1
  exact ⟨.bool true, rfl, law_post (t := 4) cellApart_laid rfl rfl Try.underlying4 cellApart_params hW hs1 hs2 hs3 hb⟩
theorem cellApart_holds : Rows.CellApartSaid :=
  OpenClaim.holds_of_wide 13 Try.f13 rfl rfl rfl rfl rfl rfl rfl ⟨rfl, rfl, rfl, rfl, rfl⟩ rfl rfl rfl rfl rfl cellApart_named Try.func13 cellApart_joined
    cellApart_instance cellApart_wrapper (fun os started H enc _ => cellApart_lifted os started H enc)
end Go.Proofs.Ytkmokkhcoombnaa
