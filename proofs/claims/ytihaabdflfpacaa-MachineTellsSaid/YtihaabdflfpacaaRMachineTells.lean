/-
  'mklaw10.MachineTells' ANSWERS TRUE for every input, and turns nothing of what there was. No condition.
-/
import Derived.Test.YtihaabdflfpacaaRows
import Derived.ProofKit
import Derived.Test.YtihaabdflfpacaaZMaT6
namespace Go.Proofs.Ytihaabdflfpacaa
open Go.ChangeShapes Go.WideShapes Go.ChangeAt Go.RowKit Go.Gx
set_option linter.unusedVariables false
set_option maxRecDepth 20000

theorem machineTells_own : ownKnob Try.prog.godebug = none := by kernel_rfl
theorem machineTells_laid : laidOutB Try.prog = true := by kernel_rfl
theorem machineTells_f1 : mapsRowed Try.prog = true := by kernel_rfl
theorem machineTells_f2 : (Rows.machineTellsRow.inPlace == Try.prog.inPlace 9) = true := by kernel_rfl
theorem machineTells_f3 : (Rows.machineTellsRow.unfollowed == Try.prog.unfollowed 9) = true := by kernel_rfl
theorem machineTells_f4 : (Rows.machineTellsRow.recurses == Try.prog.recurses 9) = true := by kernel_rfl
theorem machineTells_f5 : (Rows.machineTellsRow.named == Try.prog.varsNamed 9) = true := by kernel_rfl
theorem machineTells_f6 : (Rows.machineTellsRow.plainKeys == Try.prog.plainKeys) = true := by kernel_rfl
theorem machineTells_f7 : Try.prog.stopsHeard = true := by kernel_rfl
theorem machineTells_f8 : (Rows.machineTellsRow.lifted == Try.prog.liftsFinal) = true := by rw [head_final]; kernel_rfl
theorem machineTells_f9 : (Try.prog.make == some Rows.machineTellsRow.make) = true := by rw [head_make]; kernel_rfl
theorem machineTells_named : Try.prog.funcNamed Rows.machineTellsRow.func = some 9 := by kernel_rfl
theorem machineTells_instance : Try.f9.isInstance Try.prog Rows.machineTellsRow.origin Rows.machineTellsRow.targs := of_decide_eq_true (by kernel_rfl)
theorem machineTells_wrapper : Try.f9.isWrapper Try.prog Rows.machineTellsRow.wrapper Rows.machineTellsRow.mainSum := by
  unfold Func.isWrapper
  first | (rw [if_pos (by decide +kernel)]; kernel_rfl) | (rw [if_neg (by decide +kernel)]; exact ⟨rfl, rfl⟩)
theorem machineTells_joined : joinedFacts Try.prog 9 Try.f9 Rows.machineTellsSpec Rows.machineTellsRow = true :=
  joined_of (by kernel_rfl) machineTells_laid machineTells_f1 (by kernel_rfl) (by kernel_rfl) (by kernel_rfl) (by kernel_rfl) (by kernel_rfl) (by kernel_rfl) machineTells_f2 machineTells_f3 machineTells_f4 machineTells_f5
    (by kernel_rfl) (by kernel_rfl) (by kernel_rfl) (by kernel_rfl) (by kernel_rfl) (by kernel_rfl) (by kernel_rfl) (by kernel_rfl) (by kernel_rfl) machineTells_f6 (by kernel_rfl) machineTells_f7 head_enter machineTells_f8 machineTells_f9
    (by kernel_rfl) (by kernel_rfl) (by kernel_rfl) (by kernel_rfl)
theorem machineTells_noInit : Try.prog.inits.idxOf? 9 = none := by kernel_rfl
theorem machineTells_params : (Try.f9.params.toList.all fun t => Try.prog.readableRec t && decide (t < Try.prog.types.size)) = true := by kernel_rfl

theorem machineTells_lifted (os : Os) (started : os.Started) (H : Type) (enc : TypeId × Value → H) :
    ReturnsInHanded {} Try.checked os 9 .any (Rows.machineTellsSpec.pre6 enc Try.prog Try.f9 Rows.machineTellsRow.domain false) (Rows.machineTellsSpec.post enc Try.prog Try.f9 false true false false) := by
  refine returnsInHanded_of_change (C := Try.checked) machineTells_own started machineTells_noInit Try.func9
    (ChangeSpec.witness6 (enc := enc) (C := Try.checked) false ⟨#[], #[.slice none 0 0, .slice none 0 0, .agg #[.int .i64 0, .int .i64 0]], []⟩ 8 (by kernel_rfl) (by kernel_rfl) (by kernel_rfl) (by kernel_rfl)) ?_
  intro W base args ds gs before hval hW _ _
  have hW0 := hW
  obtain ⟨p, q, hA0, hV, rfl, hfz, hnd⟩ := hW0
  have hA : DataW.TrodAll enc Try.prog W 0 (fun _ => true) true Try.f9.params.toList args.toList ds p := hA0
  rw [Try.params9] at hA
  obtain ⟨v1, vs1, d1, ds1, p1, q1, e1, rfl, rfl, ht1, hA1⟩ := trodAll_cons hA
  obtain ⟨v2, vs2, d2, ds2, p2, q2, e2, rfl, rfl, ht2, hA2⟩ := trodAll_cons hA1
  obtain ⟨v3, vs3, d3, ds3, p3, q3, e3, rfl, rfl, ht3, hA3⟩ := trodAll_cons hA2
  obtain ⟨en, rfl, rfl⟩ := trodAll_nil hA3
  obtain rfl : args = #[v1, v2, v3] := by
    apply Array.ext'
    rw [e1, e2, e3, en]
  obtain ⟨rfl, rfl⟩ := trodVars_none hV
  have k1 := hval 0 22 v1 (by rw [Try.params9]; rfl) rfl
  obtain ⟨a1, h1⟩ := Opn.top_cell o22 rfl (.inr (.inr (.inl ⟨59, by kernel_rfl⟩))) k1 ht1
  have k2 := hval 1 23 v2 (by rw [Try.params9]; rfl) rfl
  obtain ⟨a2, h2⟩ := Opn.top_cell o23 rfl (.inr (.inr (.inl ⟨83, by kernel_rfl⟩))) k2 ht2
  have k3 := hval 2 83 v3 (by rw [Try.params9]; rfl) rfl
  obtain ⟨a3, h3⟩ := Opn.top_struct o83 rfl Try.underlying83 k3 ht3
  have hs1 : (Rows.machineTellsSpec.fn H ([d1, d2, d3] ++ [])).results = [.lit (.bool true)] := rfl
  have hs2 : (Rows.machineTellsSpec.fn H ([d1, d2, d3] ++ [])).args = [d1, d2, d3] := rfl
  have hs3 : (Rows.machineTellsSpec.fn H ([d1, d2, d3] ++ [])).vars = [] := rfl
  obtain ⟨_, s2, _⟩ := id h2
  have hst := len_of_rep s2
  refine ((Go.Gx.c_mklaw10_MachineTells (Sp.machineTells a1 a2 a3 hst)).run (full W) W [v1, v2, v3] (full_on W) ⟨_, _, rfl, h1, ⟨_, _, rfl, h2, ⟨_, _, rfl, h3, rfl⟩⟩⟩).mono fun e W' he => ?_
  obtain ⟨v, rfl, hb, hr⟩ := he
  obtain ⟨vs, h1, rfl⟩ := hr
  obtain rfl : vs = [.bool true] := h1
  exact ⟨.bool true, rfl, law_post (t := 4) machineTells_laid rfl rfl Try.underlying4 machineTells_params hW hs1 hs2 hs3 hb⟩
theorem machineTells_holds : Rows.MachineTellsSaid :=
  OpenClaim.holds_of_wide 9 Try.f9 rfl rfl rfl rfl rfl rfl rfl ⟨rfl, rfl, rfl, rfl, rfl⟩ rfl rfl rfl rfl rfl machineTells_named Try.func9 machineTells_joined
    machineTells_instance machineTells_wrapper (fun os started H enc _ => machineTells_lifted os started H enc)
end Go.Proofs.Ytihaabdflfpacaa
