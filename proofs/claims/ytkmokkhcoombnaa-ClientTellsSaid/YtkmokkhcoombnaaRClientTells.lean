/-
  'mklaw9.ClientTells' ANSWERS TRUE for every input, and turns nothing of what there was. No condition.
-/
import Derived.Test.YtkmokkhcoombnaaRows
import Derived.ProofKit
import Derived.Test.YtkmokkhcoombnaaZCl5
namespace Go.Proofs.Ytkmokkhcoombnaa
open Go.ChangeShapes Go.WideShapes Go.ChangeAt Go.RowKit Go.Gx
set_option linter.unusedVariables false
set_option maxRecDepth 20000

theorem clientTells_own : ownKnob Try.prog.godebug = none := by kernel_rfl
theorem clientTells_laid : laidOutB Try.prog = true := by kernel_rfl
theorem clientTells_f1 : mapsRowed Try.prog = true := by kernel_rfl
theorem clientTells_f2 : (Rows.clientTellsRow.inPlace == Try.prog.inPlace 9) = true := by kernel_rfl
theorem clientTells_f3 : (Rows.clientTellsRow.unfollowed == Try.prog.unfollowed 9) = true := by kernel_rfl
theorem clientTells_f4 : (Rows.clientTellsRow.recurses == Try.prog.recurses 9) = true := by kernel_rfl
theorem clientTells_f5 : (Rows.clientTellsRow.named == Try.prog.varsNamed 9) = true := by kernel_rfl
theorem clientTells_f6 : (Rows.clientTellsRow.plainKeys == Try.prog.plainKeys) = true := by kernel_rfl
theorem clientTells_f7 : Try.prog.stopsHeard = true := by kernel_rfl
theorem clientTells_f8 : (Rows.clientTellsRow.lifted == Try.prog.liftsFinal) = true := by rw [head_final]; kernel_rfl
theorem clientTells_f9 : (Try.prog.make == some Rows.clientTellsRow.make) = true := by rw [head_make]; kernel_rfl
theorem clientTells_named : Try.prog.funcNamed Rows.clientTellsRow.func = some 9 := by kernel_rfl
theorem clientTells_instance : Try.f9.isInstance Try.prog Rows.clientTellsRow.origin Rows.clientTellsRow.targs := of_decide_eq_true (by kernel_rfl)
theorem clientTells_wrapper : Try.f9.isWrapper Try.prog Rows.clientTellsRow.wrapper Rows.clientTellsRow.mainSum := by
  unfold Func.isWrapper
  first | (rw [if_pos (by decide +kernel)]; kernel_rfl) | (rw [if_neg (by decide +kernel)]; exact ⟨rfl, rfl⟩)
theorem clientTells_joined : joinedFacts Try.prog 9 Try.f9 Rows.clientTellsSpec Rows.clientTellsRow = true :=
  joined_of (by kernel_rfl) clientTells_laid clientTells_f1 (by kernel_rfl) (by kernel_rfl) (by kernel_rfl) (by kernel_rfl) (by kernel_rfl) (by kernel_rfl) clientTells_f2 clientTells_f3 clientTells_f4 clientTells_f5
    (by kernel_rfl) (by kernel_rfl) (by kernel_rfl) (by kernel_rfl) (by kernel_rfl) (by kernel_rfl) (by kernel_rfl) (by kernel_rfl) (by kernel_rfl) clientTells_f6 (by kernel_rfl) clientTells_f7 head_enter clientTells_f8 clientTells_f9
    (by kernel_rfl) (by kernel_rfl) (by kernel_rfl) (by kernel_rfl)
theorem clientTells_noInit : Try.prog.inits.idxOf? 9 = none := by kernel_rfl
theorem clientTells_params : (Try.f9.params.toList.all fun t => Try.prog.readableRec t && decide (t < Try.prog.types.size)) = true := by kernel_rfl

theorem clientTells_lifted (os : Os) (started : os.Started) (H : Type) (enc : TypeId × Value → H) :
    ReturnsInHanded {} Try.checked os 9 .any (Rows.clientTellsSpec.pre6 enc Try.prog Try.f9 Rows.clientTellsRow.domain false) (Rows.clientTellsSpec.post enc Try.prog Try.f9 false true false false) := by
  refine returnsInHanded_of_change_sized (C := Try.checked) clientTells_own started clientTells_noInit Try.func9
    (ChangeSpec.witness6 (enc := enc) (C := Try.checked) false ⟨#[], #[.slice none 0 0, .slice none 0 0, .slice none 0 0, .int .i64 0, .int .i64 0, .bool false], []⟩ 8 (by kernel_rfl) (by kernel_rfl) (by kernel_rfl) (by kernel_rfl)) ?_
  intro W base args ds gs before hval hW _ hsz _
  have hW0 := hW
  obtain ⟨p, q, hA0, hV, rfl, hfz, hnd⟩ := hW0
  have hA : DataW.TrodAll enc Try.prog W 0 (fun _ => true) true Try.f9.params.toList args.toList ds p := hA0
  rw [Try.params9] at hA
  obtain ⟨v1, vs1, d1, ds1, p1, q1, e1, rfl, rfl, ht1, hA1⟩ := trodAll_cons hA
  obtain ⟨v2, vs2, d2, ds2, p2, q2, e2, rfl, rfl, ht2, hA2⟩ := trodAll_cons hA1
  obtain ⟨v3, vs3, d3, ds3, p3, q3, e3, rfl, rfl, ht3, hA3⟩ := trodAll_cons hA2
  obtain ⟨v4, vs4, d4, ds4, p4, q4, e4, rfl, rfl, ht4, hA4⟩ := trodAll_cons hA3
  obtain ⟨v5, vs5, d5, ds5, p5, q5, e5, rfl, rfl, ht5, hA5⟩ := trodAll_cons hA4
  obtain ⟨v6, vs6, d6, ds6, p6, q6, e6, rfl, rfl, ht6, hA6⟩ := trodAll_cons hA5
  obtain ⟨en, rfl, rfl⟩ := trodAll_nil hA6
  obtain rfl : args = #[v1, v2, v3, v4, v5, v6] := by
    apply Array.ext'
    rw [e1, e2, e3, e4, e5, e6, en]
  obtain ⟨rfl, rfl⟩ := trodVars_none hV
  have k1 := hval 0 63 v1 (by rw [Try.params9]; rfl) rfl
  obtain ⟨a1, h1⟩ := Opn.top_cell o63 rfl (.inr (.inr (.inl ⟨75, by kernel_rfl⟩))) k1 ht1
  have k2 := hval 1 64 v2 (by rw [Try.params9]; rfl) rfl
  obtain ⟨a2, h2⟩ := Opn.top_cell o64 rfl (.inr (.inr (.inl ⟨123, by kernel_rfl⟩))) k2 ht2
  have k3 := hval 2 31 v3 (by rw [Try.params9]; rfl) rfl
  obtain ⟨a3, h3, z3⟩ := Opn.top_slice o5 (by kernel_rfl) k3 ht3 hsz (j := 2) (by rw [Try.params9]; rfl) rfl
  have y3 : a3.length * 1 ≤ 140737488355328 := Nat.le_trans (by rw [show Try.prog.bytesOf 5 = 1 from by kernel_rfl] at z3; exact z3) (by decide)
  have k4 := hval 3 3 v4 (by rw [Try.params9]; rfl) rfl
  obtain ⟨a4, h4⟩ := Opn.top_cell o3 rfl (.inl ⟨.i64, by kernel_rfl⟩) k4 ht4
  have k5 := hval 4 3 v5 (by rw [Try.params9]; rfl) rfl
  obtain ⟨a5, h5⟩ := Opn.top_cell o3 rfl (.inl ⟨.i64, by kernel_rfl⟩) k5 ht5
  have k6 := hval 5 4 v6 (by rw [Try.params9]; rfl) rfl
  obtain ⟨a6, h6⟩ := Opn.top_cell o4 rfl (.inr (.inl (by kernel_rfl))) k6 ht6
  have hs1 : (Rows.clientTellsSpec.fn H ([d1, d2, d3, d4, d5, d6] ++ [])).results = [.lit (.bool true)] := rfl
  have hs2 : (Rows.clientTellsSpec.fn H ([d1, d2, d3, d4, d5, d6] ++ [])).args = [d1, d2, d3, d4, d5, d6] := rfl
  have hs3 : (Rows.clientTellsSpec.fn H ([d1, d2, d3, d4, d5, d6] ++ [])).vars = [] := rfl
  obtain ⟨_, s2, _⟩ := id h2
  have hst := len_of_rep s2
  refine ((Go.Gx.c_mklaw9_ClientTells (Sp.clientTells a1 a2 a3 a4 a5 a6 hst y3)).run (full W) W [v1, v2, v3, v4, v5, v6] (full_on W) ⟨_, _, rfl, h1, ⟨_, _, rfl, h2, ⟨_, _, rfl, h3, ⟨_, _, rfl, h4, ⟨_, _, rfl, h5, ⟨_, _, rfl, h6, rfl⟩⟩⟩⟩⟩⟩).mono fun e W' he => ?_
  obtain ⟨v, rfl, hb, hr⟩ := he
  obtain ⟨vs, h1, rfl⟩ := hr
  obtain rfl : vs = [.bool true] := h1
  exact ⟨.bool true, rfl, law_post (t := 4) clientTells_laid rfl rfl Try.underlying4 clientTells_params hW hs1 hs2 hs3 hb⟩
theorem clientTells_holds : Rows.ClientTellsSaid :=
  OpenClaim.holds_of_wide 9 Try.f9 rfl rfl rfl rfl rfl rfl rfl ⟨rfl, rfl, rfl, rfl, rfl⟩ rfl rfl rfl rfl rfl clientTells_named Try.func9 clientTells_joined
    clientTells_instance clientTells_wrapper (fun os started H enc _ => clientTells_lifted os started H enc)
end Go.Proofs.Ytkmokkhcoombnaa
