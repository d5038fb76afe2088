/-
  'mklaw1.CellBack' ANSWERS TRUE for every input, and turns nothing of what there was. No condition.
-/
import Derived.Test.YtkmokkhcoombnaaRows
import Derived.Test.YtkmokkhcoombnaaHd
import Derived.Test.YtkmokkhcoombnaaCtCellL
import Derived.Test.YtkmokkhcoombnaaOt
import Derived.Test.YtkmokkhcoombnaaPC2
import Derived.ProofKit
namespace Go.Proofs.Ytkmokkhcoombnaa
open Go.ChangeShapes Go.WideShapes Go.ChangeAt Go.RowKit Go.Gx
set_option linter.unusedVariables false
set_option maxRecDepth 20000

theorem cellBack_own : ownKnob Try.prog.godebug = none := by kernel_rfl
theorem cellBack_laid : laidOutB Try.prog = true := by kernel_rfl
theorem cellBack_f1 : mapsRowed Try.prog = true := by kernel_rfl
theorem cellBack_f2 : (Rows.cellBackRow.inPlace == Try.prog.inPlace 14) = true := by kernel_rfl
theorem cellBack_f3 : (Rows.cellBackRow.unfollowed == Try.prog.unfollowed 14) = true := by kernel_rfl
theorem cellBack_f4 : (Rows.cellBackRow.recurses == Try.prog.recurses 14) = true := by kernel_rfl
theorem cellBack_f5 : (Rows.cellBackRow.named == Try.prog.varsNamed 14) = true := by kernel_rfl
theorem cellBack_f6 : (Rows.cellBackRow.plainKeys == Try.prog.plainKeys) = true := by kernel_rfl
theorem cellBack_f7 : Try.prog.stopsHeard = true := by kernel_rfl
theorem cellBack_f8 : (Rows.cellBackRow.lifted == Try.prog.liftsFinal) = true := by rw [head_final]; kernel_rfl
theorem cellBack_f9 : (Try.prog.make == some Rows.cellBackRow.make) = true := by rw [head_make]; kernel_rfl
theorem cellBack_named : Try.prog.funcNamed Rows.cellBackRow.func = some 14 := by kernel_rfl
theorem cellBack_instance : Try.f14.isInstance Try.prog Rows.cellBackRow.origin Rows.cellBackRow.targs := of_decide_eq_true (by kernel_rfl)
theorem cellBack_wrapper : Try.f14.isWrapper Try.prog Rows.cellBackRow.wrapper Rows.cellBackRow.mainSum := by
  unfold Func.isWrapper
  first | (rw [if_pos (by decide +kernel)]; kernel_rfl) | (rw [if_neg (by decide +kernel)]; exact ⟨rfl, rfl⟩)
theorem cellBack_joined : joinedFacts Try.prog 14 Try.f14 Rows.cellBackSpec Rows.cellBackRow = true :=
  joined_of (by kernel_rfl) cellBack_laid cellBack_f1 (by kernel_rfl) (by kernel_rfl) (by kernel_rfl) (by kernel_rfl) (by kernel_rfl) (by kernel_rfl) cellBack_f2 cellBack_f3 cellBack_f4 cellBack_f5
    (by kernel_rfl) (by kernel_rfl) (by kernel_rfl) (by kernel_rfl) (by kernel_rfl) (by kernel_rfl) (by kernel_rfl) (by kernel_rfl) (by kernel_rfl) cellBack_f6 (by kernel_rfl) cellBack_f7 head_enter cellBack_f8 cellBack_f9
    (by kernel_rfl) (by kernel_rfl) (by kernel_rfl) (by kernel_rfl)
theorem cellBack_noInit : Try.prog.inits.idxOf? 14 = none := by kernel_rfl
theorem cellBack_params : (Try.f14.params.toList.all fun t => Try.prog.readableRec t && decide (t < Try.prog.types.size)) = true := by kernel_rfl

theorem cellBack_lifted (os : Os) (started : os.Started) (H : Type) (enc : TypeId × Value → H) :
    ReturnsInHanded {} Try.checked os 14 .any (Rows.cellBackSpec.pre6 enc Try.prog Try.f14 Rows.cellBackRow.domain false) (Rows.cellBackSpec.post enc Try.prog Try.f14 false true false false) := by
  refine returnsInHanded_of_change_sized (C := Try.checked) cellBack_own started cellBack_noInit Try.func14
    (ChangeSpec.witness6 (enc := enc) (C := Try.checked) false ⟨#[], #[.slice none 0 0, .slice none 0 0, .int .i64 0], []⟩ 8 (by kernel_rfl) (by kernel_rfl) (by kernel_rfl) (by kernel_rfl)) ?_
  intro W base args ds gs before hval hW _ hsz _
  have hW0 := hW
  obtain ⟨p, q, hA0, hV, rfl, hfz, hnd⟩ := hW0
  have hA : DataW.TrodAll enc Try.prog W 0 (fun _ => true) true Try.f14.params.toList args.toList ds p := hA0
  rw [Try.params14] at hA
  obtain ⟨v1, vs1, d1, ds1, p1, q1, e1, rfl, rfl, ht1, hA1⟩ := trodAll_cons hA
  obtain ⟨v2, vs2, d2, ds2, p2, q2, e2, rfl, rfl, ht2, hA2⟩ := trodAll_cons hA1
  obtain ⟨v3, vs3, d3, ds3, p3, q3, e3, rfl, rfl, ht3, hA3⟩ := trodAll_cons hA2
  obtain ⟨en, rfl, rfl⟩ := trodAll_nil hA3
  obtain rfl : args = #[v1, v2, v3] := by
    apply Array.ext'
    rw [e1, e2, e3, en]
  obtain ⟨rfl, rfl⟩ := trodVars_none hV
  have k1 := hval 0 43 v1 (by rw [Try.params14]; rfl) rfl
  obtain ⟨a1, h1, z1⟩ := Opn.top_slice o3 (by kernel_rfl) k1 ht1 hsz (j := 0) (by rw [Try.params14]; rfl) rfl
  have y1 : a1.length * 8 ≤ 140737488355328 := Nat.le_trans (by rw [show Try.prog.bytesOf 3 = 8 from by kernel_rfl] at z1; exact z1) (by decide)
  have k2 := hval 1 44 v2 (by rw [Try.params14]; rfl) rfl
  obtain ⟨a2, h2, z2⟩ := Opn.top_slice o50 (by kernel_rfl) k2 ht2 hsz (j := 1) (by rw [Try.params14]; rfl) rfl
  have y2 : a2.length * 16 ≤ 140737488355328 := Nat.le_trans (by rw [show Try.prog.bytesOf 50 = 16 from by kernel_rfl] at z2; exact z2) (by decide)
  have k3 := hval 2 3 v3 (by rw [Try.params14]; rfl) rfl
  obtain ⟨a3, h3⟩ := Opn.top_cell o3 rfl (.inl ⟨.i64, by kernel_rfl⟩) k3 ht3
  have hs1 : (Rows.cellBackSpec.fn H ([d1, d2, d3] ++ [])).results = [.lit (.bool true)] := rfl
  have hs2 : (Rows.cellBackSpec.fn H ([d1, d2, d3] ++ [])).args = [d1, d2, d3] := rfl
  have hs3 : (Rows.cellBackSpec.fn H ([d1, d2, d3] ++ [])).vars = [] := rfl
  refine ((Go.Gx.c_mklaw1_CellBack (Sp.cellBack a1 a2 a3 y1 y2)).run (full W) W [v1, v2, v3] (full_on W) ⟨_, _, rfl, h1, ⟨_, _, rfl, h2, ⟨_, _, rfl, h3, rfl⟩⟩⟩).mono fun e W' he => ?_
  obtain ⟨v, rfl, hb, hr⟩ := he
  obtain ⟨vs, h1, rfl⟩ := hr
  obtain rfl : vs = [.bool true] := h1
  exact ⟨.bool true, rfl, law_post (t := 4) cellBack_laid rfl rfl Try.underlying4 cellBack_params hW hs1 hs2 hs3 hb⟩
theorem cellBack_holds : Rows.CellBackSaid :=
  OpenClaim.holds_of_wide 14 Try.f14 rfl rfl rfl rfl rfl rfl rfl ⟨rfl, rfl, rfl, rfl, rfl⟩ rfl rfl rfl rfl rfl cellBack_named Try.func14 cellBack_joined
    cellBack_instance cellBack_wrapper (fun os started H enc _ => cellBack_lifted os started H enc)
end Go.Proofs.Ytkmokkhcoombnaa
