/-
  'mklaw10.MachineOrder' ANSWERS TRUE for every input, and turns nothing of what there was. No condition.
-/
import Derived.Test.YtihaabdflfpacaaRows
import Derived.ProofKit
import Derived.Test.YtihaabdflfpacaaZMaO6
namespace Go.Proofs.Ytihaabdflfpacaa
open Go.ChangeShapes Go.WideShapes Go.ChangeAt Go.RowKit Go.Gx
set_option linter.unusedVariables false
set_option maxRecDepth 20000

theorem machineOrder_own : ownKnob Try.prog.godebug = none := by kernel_rfl
theorem machineOrder_laid : laidOutB Try.prog = true := by kernel_rfl
theorem machineOrder_f1 : mapsRowed Try.prog = true := by kernel_rfl
theorem machineOrder_f2 : (Rows.machineOrderRow.inPlace == Try.prog.inPlace 12) = true := by kernel_rfl
theorem machineOrder_f3 : (Rows.machineOrderRow.unfollowed == Try.prog.unfollowed 12) = true := by kernel_rfl
theorem machineOrder_f4 : (Rows.machineOrderRow.recurses == Try.prog.recurses 12) = true := by kernel_rfl
theorem machineOrder_f5 : (Rows.machineOrderRow.named == Try.prog.varsNamed 12) = true := by kernel_rfl
theorem machineOrder_f6 : (Rows.machineOrderRow.plainKeys == Try.prog.plainKeys) = true := by kernel_rfl
theorem machineOrder_f7 : Try.prog.stopsHeard = true := by kernel_rfl
theorem machineOrder_f8 : (Rows.machineOrderRow.lifted == Try.prog.liftsFinal) = true := by rw [head_final]; kernel_rfl
theorem machineOrder_f9 : (Try.prog.make == some Rows.machineOrderRow.make) = true := by rw [head_make]; kernel_rfl
theorem machineOrder_named : Try.prog.funcNamed Rows.machineOrderRow.func = some 12 := by kernel_rfl
theorem machineOrder_instance : Try.f12.isInstance Try.prog Rows.machineOrderRow.origin Rows.machineOrderRow.targs := of_decide_eq_true (by kernel_rfl)
theorem machineOrder_wrapper : Try.f12.isWrapper Try.prog Rows.machineOrderRow.wrapper Rows.machineOrderRow.mainSum := by
  unfold Func.isWrapper
  first | (rw [if_pos (by decide +kernel)]; kernel_rfl) | (rw [if_neg (by decide +kernel)]; exact ⟨rfl, rfl⟩)
theorem machineOrder_joined : joinedFacts Try.prog 12 Try.f12 Rows.machineOrderSpec Rows.machineOrderRow = true :=
  joined_of (by kernel_rfl) machineOrder_laid machineOrder_f1 (by kernel_rfl) (by kernel_rfl) (by kernel_rfl) (by kernel_rfl) (by kernel_rfl) (by kernel_rfl) machineOrder_f2 machineOrder_f3 machineOrder_f4 machineOrder_f5
    (by kernel_rfl) (by kernel_rfl) (by kernel_rfl) (by kernel_rfl) (by kernel_rfl) (by kernel_rfl) (by kernel_rfl) (by kernel_rfl) (by kernel_rfl) machineOrder_f6 (by kernel_rfl) machineOrder_f7 head_enter machineOrder_f8 machineOrder_f9
    (by kernel_rfl) (by kernel_rfl) (by kernel_rfl) (by kernel_rfl)
theorem machineOrder_noInit : Try.prog.inits.idxOf? 12 = none := by kernel_rfl
theorem machineOrder_params : (Try.f12.params.toList.all fun t => Try.prog.readableRec t && decide (t < Try.prog.types.size)) = true := by kernel_rfl

theorem machineOrder_lifted (os : Os) (started : os.Started) (H : Type) (enc : TypeId × Value → H) :
    ReturnsInHanded {} Try.checked os 12 .any (Rows.machineOrderSpec.pre6 enc Try.prog Try.f12 Rows.machineOrderRow.domain false) (Rows.machineOrderSpec.post enc Try.prog Try.f12 false true false false) := by
  refine returnsInHanded_of_change (C := Try.checked) machineOrder_own started machineOrder_noInit Try.func12
    (ChangeSpec.witness6 (enc := enc) (C := Try.checked) false ⟨#[], #[.slice none 0 0, .slice none 0 0, .slice none 0 0], []⟩ 8 (by kernel_rfl) (by kernel_rfl) (by kernel_rfl) (by kernel_rfl)) ?_
  intro W base args ds gs before hval hW _ _
  have hW0 := hW
  obtain ⟨p, q, hA0, hV, rfl, hfz, hnd⟩ := hW0
  have hA : DataW.TrodAll enc Try.prog W 0 (fun _ => true) true Try.f12.params.toList args.toList ds p := hA0
  rw [Try.params12] at hA
  obtain ⟨v1, vs1, d1, ds1, p1, q1, e1, rfl, rfl, ht1, hA1⟩ := trodAll_cons hA
  obtain ⟨v2, vs2, d2, ds2, p2, q2, e2, rfl, rfl, ht2, hA2⟩ := trodAll_cons hA1
  obtain ⟨v3, vs3, d3, ds3, p3, q3, e3, rfl, rfl, ht3, hA3⟩ := trodAll_cons hA2
  obtain ⟨en, rfl, rfl⟩ := trodAll_nil hA3
  obtain rfl : args = #[v1, v2, v3] := by
    apply Array.ext'
    rw [e1, e2, e3, en]
  obtain ⟨rfl, rfl⟩ := trodVars_none hV
  have k1 := hval 0 22 v1 (by rw [Try.params12]; rfl) rfl
  obtain ⟨a1, h1⟩ := Opn.top_cell o22 rfl (.inr (.inr (.inl ⟨59, by kernel_rfl⟩))) k1 ht1
  have k2 := hval 1 23 v2 (by rw [Try.params12]; rfl) rfl
  obtain ⟨a2, h2⟩ := Opn.top_cell o23 rfl (.inr (.inr (.inl ⟨83, by kernel_rfl⟩))) k2 ht2
  have k3 := hval 2 23 v3 (by rw [Try.params12]; rfl) rfl
  obtain ⟨a3, h3⟩ := Opn.top_cell o23 rfl (.inr (.inr (.inl ⟨83, by kernel_rfl⟩))) k3 ht3
  have hs1 : (Rows.machineOrderSpec.fn H ([d1, d2, d3] ++ [])).results = [.lit (.bool true)] := rfl
  have hs2 : (Rows.machineOrderSpec.fn H ([d1, d2, d3] ++ [])).args = [d1, d2, d3] := rfl
  have hs3 : (Rows.machineOrderSpec.fn H ([d1, d2, d3] ++ [])).vars = [] := rfl
  obtain ⟨_, s2, _⟩ := id h2
  have hst := len_of_rep s2
  refine ((Go.Gx.c_mklaw10_MachineOrder (Sp.machineOrder a1 a2 a3 hst)).run (full W) W [v1, v2, v3] (full_on W) ⟨_, _, rfl, h1, ⟨_, _, rfl, h2, ⟨_, _, rfl, h3, rfl⟩⟩⟩).mono fun e W' he => ?_
  obtain ⟨v, rfl, hb, hr⟩ := he
  obtain ⟨vs, h1, rfl⟩ := hr
  obtain rfl : vs = [.bool true] := h1
  exact ⟨.bool true, rfl, law_post (t := 4) machineOrder_laid rfl rfl Try.underlying4 machineOrder_params hW hs1 hs2 hs3 hb⟩
theorem machineOrder_holds : Rows.MachineOrderSaid :=
  OpenClaim.holds_of_wide 12 Try.f12 rfl rfl rfl rfl rfl rfl rfl ⟨rfl, rfl, rfl, rfl, rfl⟩ rfl rfl rfl rfl rfl machineOrder_named Try.func12 machineOrder_joined
    machineOrder_instance machineOrder_wrapper (fun os started H enc _ => machineOrder_lifted os started H enc)
end Go.Proofs.Ytihaabdflfpacaa
