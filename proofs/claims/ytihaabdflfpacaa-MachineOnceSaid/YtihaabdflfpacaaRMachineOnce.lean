/-
  'mklaw10.MachineOnce' ANSWERS TRUE for every input, and turns nothing of what there was. No condition.
-/
import Derived.Test.YtihaabdflfpacaaRows
import Derived.ProofKit
import Derived.Test.YtihaabdflfpacaaZMaO6
namespace Go.Proofs.Ytihaabdflfpacaa
open Go.ChangeShapes Go.WideShapes Go.ChangeAt Go.RowKit Go.Gx
set_option linter.unusedVariables false
set_option maxRecDepth 20000

theorem machineOnce_own : ownKnob Try.prog.godebug = none := by kernel_rfl
theorem machineOnce_laid : laidOutB Try.prog = true := by kernel_rfl
theorem machineOnce_f1 : mapsRowed Try.prog = true := by kernel_rfl
theorem machineOnce_f2 : (Rows.machineOnceRow.inPlace == Try.prog.inPlace 11) = true := by kernel_rfl
theorem machineOnce_f3 : (Rows.machineOnceRow.unfollowed == Try.prog.unfollowed 11) = true := by kernel_rfl
theorem machineOnce_f4 : (Rows.machineOnceRow.recurses == Try.prog.recurses 11) = true := by kernel_rfl
theorem machineOnce_f5 : (Rows.machineOnceRow.named == Try.prog.varsNamed 11) = true := by kernel_rfl
theorem machineOnce_f6 : (Rows.machineOnceRow.plainKeys == Try.prog.plainKeys) = true := by kernel_rfl
theorem machineOnce_f7 : Try.prog.stopsHeard = true := by kernel_rfl
theorem machineOnce_f8 : (Rows.machineOnceRow.lifted == Try.prog.liftsFinal) = true := by rw [head_final]; kernel_rfl
theorem machineOnce_f9 : (Try.prog.make == some Rows.machineOnceRow.make) = true := by rw [head_make]; kernel_rfl
theorem machineOnce_named : Try.prog.funcNamed Rows.machineOnceRow.func = some 11 := by kernel_rfl
theorem machineOnce_instance : Try.f11.isInstance Try.prog Rows.machineOnceRow.origin Rows.machineOnceRow.targs := of_decide_eq_true (by kernel_rfl)
theorem machineOnce_wrapper : Try.f11.isWrapper Try.prog Rows.machineOnceRow.wrapper Rows.machineOnceRow.mainSum := by
  unfold Func.isWrapper
  first | (rw [if_pos (by decide +kernel)]; kernel_rfl) | (rw [if_neg (by decide +kernel)]; exact ⟨rfl, rfl⟩)
theorem machineOnce_joined : joinedFacts Try.prog 11 Try.f11 Rows.machineOnceSpec Rows.machineOnceRow = true :=
  joined_of (by kernel_rfl) machineOnce_laid machineOnce_f1 (by kernel_rfl) (by kernel_rfl) (by kernel_rfl) (by kernel_rfl) (by kernel_rfl) (by kernel_rfl) machineOnce_f2 machineOnce_f3 machineOnce_f4 machineOnce_f5
    (by kernel_rfl) (by kernel_rfl) (by kernel_rfl) (by kernel_rfl) (by kernel_rfl) (by kernel_rfl) (by kernel_rfl) (by kernel_rfl) (by kernel_rfl) machineOnce_f6 (by kernel_rfl) machineOnce_f7 head_enter machineOnce_f8 machineOnce_f9
    (by kernel_rfl) (by kernel_rfl) (by kernel_rfl) (by kernel_rfl)
theorem machineOnce_noInit : Try.prog.inits.idxOf? 11 = none := by kernel_rfl
theorem machineOnce_params : (Try.f11.params.toList.all fun t => Try.prog.readableRec t && decide (t < Try.prog.types.size)) = true := by kernel_rfl

theorem machineOnce_lifted (os : Os) (started : os.Started) (H : Type) (enc : TypeId × Value → H) :
    ReturnsInHanded {} Try.checked os 11 .any (Rows.machineOnceSpec.pre6 enc Try.prog Try.f11 Rows.machineOnceRow.domain false) (Rows.machineOnceSpec.post enc Try.prog Try.f11 false true false false) := by
  refine returnsInHanded_of_change (C := Try.checked) machineOnce_own started machineOnce_noInit Try.func11
    (ChangeSpec.witness6 (enc := enc) (C := Try.checked) false ⟨#[], #[.slice none 0 0, .slice none 0 0, .agg #[.int .i64 0, .int .i64 0]], []⟩ 8 (by kernel_rfl) (by kernel_rfl) (by kernel_rfl) (by kernel_rfl)) ?_
  intro W base args ds gs before hval hW _ _
  have hW0 := hW
  obtain ⟨p, q, hA0, hV, rfl, hfz, hnd⟩ := hW0
  have hA : DataW.TrodAll enc Try.prog W 0 (fun _ => true) true Try.f11.params.toList args.toList ds p := hA0
  rw [Try.params11] at hA
  obtain ⟨v1, vs1, d1, ds1, p1, q1, e1, rfl, rfl, ht1, hA1⟩ := trodAll_cons hA
  obtain ⟨v2, vs2, d2, ds2, p2, q2, e2, rfl, rfl, ht2, hA2⟩ := trodAll_cons hA1
  obtain ⟨v3, vs3, d3, ds3, p3, q3, e3, rfl, rfl, ht3, hA3⟩ := trodAll_cons hA2
  obtain ⟨en, rfl, rfl⟩ := trodAll_nil hA3
  obtain rfl : args = #[v1, v2, v3] := by
    apply Array.ext'
    rw [e1, e2, e3, en]
  obtain ⟨rfl, rfl⟩ := trodVars_none hV
  have k1 := hval 0 22 v1 (by rw [Try.params11]; rfl) rfl
  obtain ⟨a1, h1⟩ := Opn.top_cell o22 rfl (.inr (.inr (.inl ⟨59, by kernel_rfl⟩))) k1 ht1
  have k2 := hval 1 23 v2 (by rw [Try.params11]; rfl) rfl
  obtain ⟨a2, h2⟩ := Opn.top_cell o23 rfl (.inr (.inr (.inl ⟨83, by kernel_rfl⟩))) k2 ht2
  have k3 := hval 2 83 v3 (by rw [Try.params11]; rfl) rfl
  obtain ⟨a3, h3⟩ := Opn.top_struct o83 rfl Try.underlying83 k3 ht3
  have hs1 : (Rows.machineOnceSpec.fn H ([d1, d2, d3] ++ [])).results = [.lit (.bool true)] := rfl
  have hs2 : (Rows.machineOnceSpec.fn H ([d1, d2, d3] ++ [])).args = [d1, d2, d3] := rfl
  have hs3 : (Rows.machineOnceSpec.fn H ([d1, d2, d3] ++ [])).vars = [] := rfl
  obtain ⟨_, s2, _⟩ := id h2
  have hst := len_of_rep s2
  refine ((Go.Gx.c_mklaw10_MachineOnce (Sp.machineOnce a1 a2 a3 hst)).run (full W) W [v1, v2, v3] (full_on W) ⟨_, _, rfl, h1, ⟨_, _, rfl, h2, ⟨_, _, rfl, h3, rfl⟩⟩⟩).mono fun e W' he => ?_
  obtain ⟨v, rfl, hb, hr⟩ := he
  obtain ⟨vs, h1, rfl⟩ := hr
  obtain rfl : vs = [.bool true] := h1
  exact ⟨.bool true, rfl, law_post (t := 4) machineOnce_laid rfl rfl Try.underlying4 machineOnce_params hW hs1 hs2 hs3 hb⟩
theorem machineOnce_holds : Rows.MachineOnceSaid :=
  OpenClaim.holds_of_wide 11 Try.f11 rfl rfl rfl rfl rfl rfl rfl ⟨rfl, rfl, rfl, rfl, rfl⟩ rfl rfl rfl rfl rfl machineOnce_named Try.func11 machineOnce_joined
    machineOnce_instance machineOnce_wrapper (fun os started H enc _ => machineOnce_lifted os started H enc)
end Go.Proofs.Ytihaabdflfpacaa
