/-
  'mklaw7.ServeTells' ANSWERS TRUE for every input, and turns nothing of what there was. No condition.
-/
import Derived.Test.YtihaabdflfpacaaRows
import Derived.ProofKit
import Derived.Test.YtihaabdflfpacaaZSe6
namespace Go.Proofs.Ytihaabdflfpacaa
open Go.ChangeShapes Go.WideShapes Go.ChangeAt Go.RowKit Go.Gx
set_option linter.unusedVariables false
set_option maxRecDepth 20000

theorem serveTells_own : ownKnob Try.prog.godebug = none := by kernel_rfl
theorem serveTells_laid : laidOutB Try.prog = true := by kernel_rfl
theorem serveTells_f1 : mapsRowed Try.prog = true := by kernel_rfl
theorem serveTells_f2 : (Rows.serveTellsRow.inPlace == Try.prog.inPlace 6) = true := by kernel_rfl
theorem serveTells_f3 : (Rows.serveTellsRow.unfollowed == Try.prog.unfollowed 6) = true := by kernel_rfl
theorem serveTells_f4 : (Rows.serveTellsRow.recurses == Try.prog.recurses 6) = true := by kernel_rfl
theorem serveTells_f5 : (Rows.serveTellsRow.named == Try.prog.varsNamed 6) = true := by kernel_rfl
theorem serveTells_f6 : (Rows.serveTellsRow.plainKeys == Try.prog.plainKeys) = true := by kernel_rfl
theorem serveTells_f7 : Try.prog.stopsHeard = true := by kernel_rfl
theorem serveTells_f8 : (Rows.serveTellsRow.lifted == Try.prog.liftsFinal) = true := by rw [head_final]; kernel_rfl
theorem serveTells_f9 : (Try.prog.make == some Rows.serveTellsRow.make) = true := by rw [head_make]; kernel_rfl
theorem serveTells_named : Try.prog.funcNamed Rows.serveTellsRow.func = some 6 := by kernel_rfl
theorem serveTells_instance : Try.f6.isInstance Try.prog Rows.serveTellsRow.origin Rows.serveTellsRow.targs := of_decide_eq_true (by kernel_rfl)
theorem serveTells_wrapper : Try.f6.isWrapper Try.prog Rows.serveTellsRow.wrapper Rows.serveTellsRow.mainSum := by
  unfold Func.isWrapper
  first | (rw [if_pos (by decide +kernel)]; kernel_rfl) | (rw [if_neg (by decide +kernel)]; exact ⟨rfl, rfl⟩)
theorem serveTells_joined : joinedFacts Try.prog 6 Try.f6 Rows.serveTellsSpec Rows.serveTellsRow = true :=
  joined_of (by kernel_rfl) serveTells_laid serveTells_f1 (by kernel_rfl) (by kernel_rfl) (by kernel_rfl) (by kernel_rfl) (by kernel_rfl) (by kernel_rfl) serveTells_f2 serveTells_f3 serveTells_f4 serveTells_f5
    (by kernel_rfl) (by kernel_rfl) (by kernel_rfl) (by kernel_rfl) (by kernel_rfl) (by kernel_rfl) (by kernel_rfl) (by kernel_rfl) (by kernel_rfl) serveTells_f6 (by kernel_rfl) serveTells_f7 head_enter serveTells_f8 serveTells_f9
    (by kernel_rfl) (by kernel_rfl) (by kernel_rfl) (by kernel_rfl)
theorem serveTells_noInit : Try.prog.inits.idxOf? 6 = none := by kernel_rfl
theorem serveTells_params : (Try.f6.params.toList.all fun t => Try.prog.readableRec t && decide (t < Try.prog.types.size)) = true := by kernel_rfl

theorem serveTells_lifted (os : Os) (started : os.Started) (H : Type) (enc : TypeId × Value → H) :
    ReturnsInHanded {} Try.checked os 6 .any (Rows.serveTellsSpec.pre6 enc Try.prog Try.f6 Rows.serveTellsRow.domain false) (Rows.serveTellsSpec.post enc Try.prog Try.f6 false true false false) := by
  refine returnsInHanded_of_change_sized (C := Try.checked) serveTells_own started serveTells_noInit Try.func6
    (ChangeSpec.witness6 (enc := enc) (C := Try.checked) false ⟨#[], #[.slice none 0 0, .slice none 0 0, .slice none 0 0], []⟩ 8 (by kernel_rfl) (by kernel_rfl) (by kernel_rfl) (by kernel_rfl)) ?_
  intro W base args ds gs before hval hW _ hsz _
  have hW0 := hW
  obtain ⟨p, q, hA0, hV, rfl, hfz, hnd⟩ := hW0
  have hA : DataW.TrodAll enc Try.prog W 0 (fun _ => true) true Try.f6.params.toList args.toList ds p := hA0
  rw [Try.params6] at hA
  obtain ⟨v1, vs1, d1, ds1, p1, q1, e1, rfl, rfl, ht1, hA1⟩ := trodAll_cons hA
  obtain ⟨v2, vs2, d2, ds2, p2, q2, e2, rfl, rfl, ht2, hA2⟩ := trodAll_cons hA1
  obtain ⟨v3, vs3, d3, ds3, p3, q3, e3, rfl, rfl, ht3, hA3⟩ := trodAll_cons hA2
  obtain ⟨en, rfl, rfl⟩ := trodAll_nil hA3
  obtain rfl : args = #[v1, v2, v3] := by
    apply Array.ext'
    rw [e1, e2, e3, en]
  obtain ⟨rfl, rfl⟩ := trodVars_none hV
  have k1 := hval 0 22 v1 (by rw [Try.params6]; rfl) rfl
  obtain ⟨a1, h1⟩ := Opn.top_cell o22 rfl (.inr (.inr (.inl ⟨59, by kernel_rfl⟩))) k1 ht1
  have k2 := hval 1 23 v2 (by rw [Try.params6]; rfl) rfl
  obtain ⟨a2, h2⟩ := Opn.top_cell o23 rfl (.inr (.inr (.inl ⟨83, by kernel_rfl⟩))) k2 ht2
  have k3 := hval 2 63 v3 (by rw [Try.params6]; rfl) rfl
  obtain ⟨a3, h3, z3⟩ := Opn.top_slice o5 (by kernel_rfl) k3 ht3 hsz (j := 2) (by rw [Try.params6]; rfl) rfl
  have y3 : a3.length * 1 ≤ 140737488355328 := Nat.le_trans (by rw [show Try.prog.bytesOf 5 = 1 from by kernel_rfl] at z3; exact z3) (by decide)
  have hs1 : (Rows.serveTellsSpec.fn H ([d1, d2, d3] ++ [])).results = [.lit (.bool true)] := rfl
  have hs2 : (Rows.serveTellsSpec.fn H ([d1, d2, d3] ++ [])).args = [d1, d2, d3] := rfl
  have hs3 : (Rows.serveTellsSpec.fn H ([d1, d2, d3] ++ [])).vars = [] := rfl
  obtain ⟨_, s2, _⟩ := id h2
  have hst := len_of_rep s2
  refine ((Go.Gx.c_mklaw7_ServeTells (Sp.serveTells a1 a2 a3 hst y3)).run (full W) W [v1, v2, v3] (full_on W) ⟨_, _, rfl, h1, ⟨_, _, rfl, h2, ⟨_, _, rfl, h3, rfl⟩⟩⟩).mono fun e W' he => ?_
  obtain ⟨v, rfl, hb, hr⟩ := he
  obtain ⟨vs, h1, rfl⟩ := hr
  obtain rfl : vs = [.bool true] := h1
  exact ⟨.bool true, rfl, law_post (t := 4) serveTells_laid rfl rfl Try.underlying4 serveTells_params hW hs1 hs2 hs3 hb⟩
theorem serveTells_holds : Rows.ServeTellsSaid :=
  OpenClaim.holds_of_wide 6 Try.f6 rfl rfl rfl rfl rfl rfl rfl ⟨rfl, rfl, rfl, rfl, rfl⟩ rfl rfl rfl rfl rfl serveTells_named Try.func6 serveTells_joined
    serveTells_instance serveTells_wrapper (fun os started H enc _ => serveTells_lifted os started H enc)
end Go.Proofs.Ytihaabdflfpacaa
