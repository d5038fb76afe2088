/-
  'mklaw11.LookSharp' ANSWERS TRUE for every input, and turns nothing of what there was. No condition.
-/
import Derived.Test.YtihaabdflfpacaaRows
import Derived.ProofKit
import Derived.Test.YtihaabdflfpacaaZLo6
namespace Go.Proofs.Ytihaabdflfpacaa
open Go.ChangeShapes Go.WideShapes Go.ChangeAt Go.RowKit Go.Gx
set_option linter.unusedVariables false
set_option maxRecDepth 20000

theorem lookSharp_own : ownKnob Try.prog.godebug = none := by kernel_rfl
theorem lookSharp_laid : laidOutB Try.prog = true := by kernel_rfl
theorem lookSharp_f1 : mapsRowed Try.prog = true := by kernel_rfl
theorem lookSharp_f2 : (Rows.lookSharpRow.inPlace == Try.prog.inPlace 5) = true := by kernel_rfl
theorem lookSharp_f3 : (Rows.lookSharpRow.unfollowed == Try.prog.unfollowed 5) = true := by kernel_rfl
theorem lookSharp_f4 : (Rows.lookSharpRow.recurses == Try.prog.recurses 5) = true := by kernel_rfl
theorem lookSharp_f5 : (Rows.lookSharpRow.named == Try.prog.varsNamed 5) = true := by kernel_rfl
theorem lookSharp_f6 : (Rows.lookSharpRow.plainKeys == Try.prog.plainKeys) = true := by kernel_rfl
theorem lookSharp_f7 : Try.prog.stopsHeard = true := by kernel_rfl
theorem lookSharp_f8 : (Rows.lookSharpRow.lifted == Try.prog.liftsFinal) = true := by rw [head_final]; kernel_rfl
theorem lookSharp_f9 : (Try.prog.make == some Rows.lookSharpRow.make) = true := by rw [head_make]; kernel_rfl
theorem lookSharp_named : Try.prog.funcNamed Rows.lookSharpRow.func = some 5 := by kernel_rfl
theorem lookSharp_instance : Try.f5.isInstance Try.prog Rows.lookSharpRow.origin Rows.lookSharpRow.targs := of_decide_eq_true (by kernel_rfl)
theorem lookSharp_wrapper : Try.f5.isWrapper Try.prog Rows.lookSharpRow.wrapper Rows.lookSharpRow.mainSum := by
  unfold Func.isWrapper
  first | (rw [if_pos (by decide +kernel)]; kernel_rfl) | (rw [if_neg (by decide +kernel)]; exact ⟨rfl, rfl⟩)
theorem lookSharp_joined : joinedFacts Try.prog 5 Try.f5 Rows.lookSharpSpec Rows.lookSharpRow = true :=
  joined_of (by kernel_rfl) lookSharp_laid lookSharp_f1 (by kernel_rfl) (by kernel_rfl) (by kernel_rfl) (by kernel_rfl) (by kernel_rfl) (by kernel_rfl) lookSharp_f2 lookSharp_f3 lookSharp_f4 lookSharp_f5
    (by kernel_rfl) (by kernel_rfl) (by kernel_rfl) (by kernel_rfl) (by kernel_rfl) (by kernel_rfl) (by kernel_rfl) (by kernel_rfl) (by kernel_rfl) lookSharp_f6 (by kernel_rfl) lookSharp_f7 head_enter lookSharp_f8 lookSharp_f9
    (by kernel_rfl) (by kernel_rfl) (by kernel_rfl) (by kernel_rfl)
theorem lookSharp_noInit : Try.prog.inits.idxOf? 5 = none := by kernel_rfl
theorem lookSharp_params : (Try.f5.params.toList.all fun t => Try.prog.readableRec t && decide (t < Try.prog.types.size)) = true := by kernel_rfl

theorem lookSharp_lifted (os : Os) (started : os.Started) (H : Type) (enc : TypeId × Value → H) :
    ReturnsInHanded {} Try.checked os 5 .any (Rows.lookSharpSpec.pre6 enc Try.prog Try.f5 Rows.lookSharpRow.domain false) (Rows.lookSharpSpec.post enc Try.prog Try.f5 false true false false) := by
  refine returnsInHanded_of_change (C := Try.checked) lookSharp_own started lookSharp_noInit Try.func5
    (ChangeSpec.witness6 (enc := enc) (C := Try.checked) false ⟨#[], #[.slice none 0 0, .slice none 0 0, .int .i64 0, .int .i64 0, .int .i64 0], []⟩ 8 (by kernel_rfl) (by kernel_rfl) (by kernel_rfl) (by kernel_rfl)) ?_
  intro W base args ds gs before hval hW _ _
  have hW0 := hW
  obtain ⟨p, q, hA0, hV, rfl, hfz, hnd⟩ := hW0
  have hA : DataW.TrodAll enc Try.prog W 0 (fun _ => true) true Try.f5.params.toList args.toList ds p := hA0
  rw [Try.params5] at hA
  obtain ⟨v1, vs1, d1, ds1, p1, q1, e1, rfl, rfl, ht1, hA1⟩ := trodAll_cons hA
  obtain ⟨v2, vs2, d2, ds2, p2, q2, e2, rfl, rfl, ht2, hA2⟩ := trodAll_cons hA1
  obtain ⟨v3, vs3, d3, ds3, p3, q3, e3, rfl, rfl, ht3, hA3⟩ := trodAll_cons hA2
  obtain ⟨v4, vs4, d4, ds4, p4, q4, e4, rfl, rfl, ht4, hA4⟩ := trodAll_cons hA3
  obtain ⟨v5, vs5, d5, ds5, p5, q5, e5, rfl, rfl, ht5, hA5⟩ := trodAll_cons hA4
  obtain ⟨en, rfl, rfl⟩ := trodAll_nil hA5
  obtain rfl : args = #[v1, v2, v3, v4, v5] := by
    apply Array.ext'
    rw [e1, e2, e3, e4, e5, en]
  obtain ⟨rfl, rfl⟩ := trodVars_none hV
  have k1 := hval 0 22 v1 (by rw [Try.params5]; rfl) rfl
  obtain ⟨a1, h1⟩ := Opn.top_cell o22 rfl (.inr (.inr (.inl ⟨59, by kernel_rfl⟩))) k1 ht1
  have k2 := hval 1 23 v2 (by rw [Try.params5]; rfl) rfl
  obtain ⟨a2, h2⟩ := Opn.top_cell o23 rfl (.inr (.inr (.inl ⟨83, by kernel_rfl⟩))) k2 ht2
  have k3 := hval 2 3 v3 (by rw [Try.params5]; rfl) rfl
  obtain ⟨a3, h3⟩ := Opn.top_cell o3 rfl (.inl ⟨.i64, by kernel_rfl⟩) k3 ht3
  have k4 := hval 3 3 v4 (by rw [Try.params5]; rfl) rfl
  obtain ⟨a4, h4⟩ := Opn.top_cell o3 rfl (.inl ⟨.i64, by kernel_rfl⟩) k4 ht4
  have k5 := hval 4 3 v5 (by rw [Try.params5]; rfl) rfl
  obtain ⟨a5, h5⟩ := Opn.top_cell o3 rfl (.inl ⟨.i64, by kernel_rfl⟩) k5 ht5
  have hs1 : (Rows.lookSharpSpec.fn H ([d1, d2, d3, d4, d5] ++ [])).results = [.lit (.bool true)] := rfl
  have hs2 : (Rows.lookSharpSpec.fn H ([d1, d2, d3, d4, d5] ++ [])).args = [d1, d2, d3, d4, d5] := rfl
  have hs3 : (Rows.lookSharpSpec.fn H ([d1, d2, d3, d4, d5] ++ [])).vars = [] := rfl
  obtain ⟨_, s2, _⟩ := id h2
  have hst := len_of_rep s2
  refine ((Go.Gx.c_mklaw11_LookSharp (Sp.lookSharp a1 a2 a3 a4 a5 hst)).run (full W) W [v1, v2, v3, v4, v5] (full_on W) ⟨_, _, rfl, h1, ⟨_, _, rfl, h2, ⟨_, _, rfl, h3, ⟨_, _, rfl, h4, ⟨_, _, rfl, h5, rfl⟩⟩⟩⟩⟩).mono fun e W' he => ?_
  obtain ⟨v, rfl, hb, hr⟩ := he
  obtain ⟨vs, h1, rfl⟩ := hr
  obtain rfl : vs = [.bool true] := h1
  exact ⟨.bool true, rfl, law_post (t := 4) lookSharp_laid rfl rfl Try.underlying4 lookSharp_params hW hs1 hs2 hs3 hb⟩
theorem lookSharp_holds : Rows.LookSharpSaid :=
  OpenClaim.holds_of_wide 5 Try.f5 rfl rfl rfl rfl rfl rfl rfl ⟨rfl, rfl, rfl, rfl, rfl⟩ rfl rfl rfl rfl rfl lookSharp_named Try.func5 lookSharp_joined
    lookSharp_instance lookSharp_wrapper (fun os started H enc _ => lookSharp_lifted os started H enc)
end Go.Proofs.Ytihaabdflfpacaa
