/-
  'mklaw9.ClientDeaf' ANSWERS TRUE for every input, and turns nothing of what there was. No condition.
-/
import Derived.Test.YtkmokkhcoombnaaRows
import Derived.ProofKit
import Derived.Test.YtkmokkhcoombnaaZCl5
namespace Go.Proofs.Ytkmokkhcoombnaa
open Go.ChangeShapes Go.WideShapes Go.ChangeAt Go.RowKit Go.Gx
set_option linter.unusedVariables false
set_option maxRecDepth 20000

theorem clientDeaf_own : ownKnob Try.prog.godebug = none := by kernel_rfl
theorem clientDeaf_laid : laidOutB Try.prog = true := by kernel_rfl
theorem clientDeaf_f1 : mapsRowed Try.prog = true := by kernel_rfl
theorem clientDeaf_f2 : (Rows.clientDeafRow.inPlace == Try.prog.inPlace 11) = true := by kernel_rfl
theorem clientDeaf_f3 : (Rows.clientDeafRow.unfollowed == Try.prog.unfollowed 11) = true := by kernel_rfl
theorem clientDeaf_f4 : (Rows.clientDeafRow.recurses == Try.prog.recurses 11) = true := by kernel_rfl
theorem clientDeaf_f5 : (Rows.clientDeafRow.named == Try.prog.varsNamed 11) = true := by kernel_rfl
theorem clientDeaf_f6 : (Rows.clientDeafRow.plainKeys == Try.prog.plainKeys) = true := by kernel_rfl
theorem clientDeaf_f7 : Try.prog.stopsHeard = true := by kernel_rfl
theorem clientDeaf_f8 : (Rows.clientDeafRow.lifted == Try.prog.liftsFinal) = true := by rw [head_final]; kernel_rfl
theorem clientDeaf_f9 : (Try.prog.make == some Rows.clientDeafRow.make) = true := by rw [head_make]; kernel_rfl
theorem clientDeaf_named : Try.prog.funcNamed Rows.clientDeafRow.func = some 11 := by kernel_rfl
theorem clientDeaf_instance : Try.f11.isInstance Try.prog Rows.clientDeafRow.origin Rows.clientDeafRow.targs := of_decide_eq_true (by kernel_rfl)
theorem clientDeaf_wrapper : Try.f11.isWrapper Try.prog Rows.clientDeafRow.wrapper Rows.clientDeafRow.mainSum := by
  unfold Func.isWrapper
  first | (rw [if_pos (by decide +kernel)]; kernel_rfl) | (rw [if_neg (by decide +kernel)]; exact ⟨rfl, rfl⟩)
theorem clientDeaf_joined : joinedFacts Try.prog 11 Try.f11 Rows.clientDeafSpec Rows.clientDeafRow = true :=
  joined_of (by kernel_rfl) clientDeaf_laid clientDeaf_f1 (by kernel_rfl) (by kernel_rfl) (by kernel_rfl) (by kernel_rfl) (by kernel_rfl) (by kernel_rfl) clientDeaf_f2 clientDeaf_f3 clientDeaf_f4 clientDeaf_f5
    (by kernel_rfl) (by kernel_rfl) (by kernel_rfl) (by kernel_rfl) (by kernel_rfl) (by kernel_rfl) (by kernel_rfl) (by kernel_rfl) (by kernel_rfl) clientDeaf_f6 (by kernel_rfl) clientDeaf_f7 head_enter clientDeaf_f8 clientDeaf_f9
    (by kernel_rfl) (by kernel_rfl) (by kernel_rfl) (by kernel_rfl)
theorem clientDeaf_noInit : Try.prog.inits.idxOf? 11 = none := by kernel_rfl
theorem clientDeaf_params : (Try.f11.params.toList.all fun t => Try.prog.readableRec t && decide (t < Try.prog.types.size)) = true := by kernel_rfl

theorem clientDeaf_lifted (os : Os) (started : os.Started) (H : Type) (enc : TypeId × Value → H) :
    ReturnsInHanded {} Try.checked os 11 .any (Rows.clientDeafSpec.pre6 enc Try.prog Try.f11 Rows.clientDeafRow.domain false) (Rows.clientDeafSpec.post enc Try.prog Try.f11 false true false false) := by
  refine returnsInHanded_of_change_sized (C := Try.checked) clientDeaf_own started clientDeaf_noInit Try.func11
    (ChangeSpec.witness6 (enc := enc) (C := Try.checked) false ⟨#[], #[.slice none 0 0, .slice none 0 0, .int .i64 0, .slice none 0 0], []⟩ 8 (by kernel_rfl) (by kernel_rfl) (by kernel_rfl) (by kernel_rfl)) ?_
  intro W base args ds gs before hval hW _ hsz _
  have hW0 := hW
  obtain ⟨p, q, hA0, hV, rfl, hfz, hnd⟩ := hW0
  have hA : DataW.TrodAll enc Try.prog W 0 (fun _ => true) true Try.f11.params.toList args.toList ds p := hA0
  rw [Try.params11] at hA
  obtain ⟨v1, vs1, d1, ds1, p1, q1, e1, rfl, rfl, ht1, hA1⟩ := trodAll_cons hA
  obtain ⟨v2, vs2, d2, ds2, p2, q2, e2, rfl, rfl, ht2, hA2⟩ := trodAll_cons hA1
  obtain ⟨v3, vs3, d3, ds3, p3, q3, e3, rfl, rfl, ht3, hA3⟩ := trodAll_cons hA2
  obtain ⟨v4, vs4, d4, ds4, p4, q4, e4, rfl, rfl, ht4, hA4⟩ := trodAll_cons hA3
  obtain ⟨en, rfl, rfl⟩ := trodAll_nil hA4
  obtain rfl : args = #[v1, v2, v3, v4] := by
    apply Array.ext'
    rw [e1, e2, e3, e4, en]
  obtain ⟨rfl, rfl⟩ := trodVars_none hV
  have k1 := hval 0 63 v1 (by rw [Try.params11]; rfl) rfl
  obtain ⟨a1, h1⟩ := Opn.top_cell o63 rfl (.inr (.inr (.inl ⟨75, by kernel_rfl⟩))) k1 ht1
  have k2 := hval 1 64 v2 (by rw [Try.params11]; rfl) rfl
  obtain ⟨a2, h2⟩ := Opn.top_cell o64 rfl (.inr (.inr (.inl ⟨123, by kernel_rfl⟩))) k2 ht2
  have k3 := hval 2 3 v3 (by rw [Try.params11]; rfl) rfl
  obtain ⟨a3, h3⟩ := Opn.top_cell o3 rfl (.inl ⟨.i64, by kernel_rfl⟩) k3 ht3
  have k4 := hval 3 31 v4 (by rw [Try.params11]; rfl) rfl
  obtain ⟨a4, h4, z4⟩ := Opn.top_slice o5 (by kernel_rfl) k4 ht4 hsz (j := 3) (by rw [Try.params11]; rfl) rfl
  have y4 : a4.length * 1 ≤ 140737488355328 := Nat.le_trans (by rw [show Try.prog.bytesOf 5 = 1 from by kernel_rfl] at z4; exact z4) (by decide)
  have hs1 : (Rows.clientDeafSpec.fn H ([d1, d2, d3, d4] ++ [])).results = [.lit (.bool true)] := rfl
  have hs2 : (Rows.clientDeafSpec.fn H ([d1, d2, d3, d4] ++ [])).args = [d1, d2, d3, d4] := rfl
  have hs3 : (Rows.clientDeafSpec.fn H ([d1, d2, d3, d4] ++ [])).vars = [] := rfl
  obtain ⟨_, s2, _⟩ := id h2
  have hst := len_of_rep s2
  refine ((Go.Gx.c_mklaw9_ClientDeaf (Sp.clientDeaf a1 a2 a3 a4 hst y4)).run (full W) W [v1, v2, v3, v4] (full_on W) ⟨_, _, rfl, h1, ⟨_, _, rfl, h2, ⟨_, _, rfl, h3, ⟨_, _, rfl, h4, rfl⟩⟩⟩⟩).mono fun e W' he => ?_
  obtain ⟨v, rfl, hb, hr⟩ := he
  obtain ⟨vs, h1, rfl⟩ := hr
  obtain rfl : vs = [.bool true] := h1
  exact ⟨.bool true, rfl, law_post (t := 4) clientDeaf_laid rfl rfl Try.underlying4 clientDeaf_params hW hs1 hs2 hs3 hb⟩
theorem clientDeaf_holds : Rows.ClientDeafSaid :=
  OpenClaim.holds_of_wide 11 Try.f11 rfl rfl rfl rfl rfl rfl rfl ⟨rfl, rfl, rfl, rfl, rfl⟩ rfl rfl rfl rfl rfl clientDeaf_named Try.func11 clientDeaf_joined
    clientDeaf_instance clientDeaf_wrapper (fun os started H enc _ => clientDeaf_lifted os started H enc)
end Go.Proofs.Ytkmokkhcoombnaa
