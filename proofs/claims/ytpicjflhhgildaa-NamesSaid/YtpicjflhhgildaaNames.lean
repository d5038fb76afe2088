/- The closed sentence of constants, walked. -/
import Derived.Test.YtpicjflhhgildaaGt
import Derived.Test.YtpicjflhhgildaaGxA
import Derived.Test.YtpicjflhhgildaaChecked
namespace Go.Gx
set_option linter.unusedVariables false
set_option linter.unusedSimpArgs false
theorem nameA : ∀ k : Nat, k < 13 → ix ([0,1,2,3,4,5,6,7,8,9,10,11,12] : List Int) (k : Int) = (k : Int) := by decide
theorem nameB : ∀ k : Nat, k < 21 → ix ([5,11,1073741824,255,1,2,3,4,5,6,3,8,6,3,1,2,3,4,400,300,3] : List Int) (k : Int) = ix ([5,11,1073741824,255,1,2,3,4,5,6,3,8,6,3,1,2,3,4,400,300,3] : List Int) (k : Int) := fun _ _ => rfl
set_option maxRecDepth 20000 in
/-- mendkernel/mktop.Names -/
theorem c13  : Fn Go.Proofs.Try.prog 13 [] (.val true) := by
  refine Fn.mk' Go.Proofs.Try.func13 rfl (by decide) rfl rfl rfl (fun w0 => ?_)
  refine PT.seq ?_
  refine PT.region ?_
  refine Ops.put rfl rfl (ox_assign .bool) (.nil) (.nil) rfl ?_
  refine Ops.nil ?_
  refine PT.sub (σ' := ⟨[], []⟩) trivial trivial ?_
  refine PT.seq ?_
  refine PT.region ?_
  refine Ops.put rfl rfl (ox_buildSlice_val s82 z25 (.cons .int (.cons .int (.cons .int (.cons .int (.cons .int (.cons .int (.cons .int (.cons .int (.cons .int (.cons .int (.cons .int (.cons .int (.cons .int Parts.nil))))))))))))) rfl (by decide)) ((.app (.nil) (.app (.nil) (.app (.nil) (.app (.nil) (.app (.nil) (.app (.nil) (.app (.nil) (.app (.nil) (.app (.nil) (.app (.nil) (.app (.nil) (.app (.nil) (.app (.nil) .nil)))))))))))))) (.nil) rfl ?_
  refine Ops.put rfl rfl (ox_assign .tmp) (.one rfl) (.nil) rfl ?_
  refine Ops.nil ?_
  refine PT.sub (σ' := ⟨[(1, _)], []⟩) ⟨rfl, trivial⟩ trivial ?_
  refine PT.seq ?_
  refine PT.seq ?_
  refine PT.region ?_
  refine Ops.put rfl rfl (ox_move .tmp) (.one rfl) (.nil) rfl ?_
  refine Ops.put rfl rfl (ox_len s82 .tmp) (.one rfl) (.nil) rfl ?_
  refine Ops.put rfl rfl (ox_move .int) (.nil) (.nil) rfl ?_
  refine Ops.nil ?_
  refine PT.sub (σ' := ⟨[(8, _), (9, _), (10, _)], []⟩) ⟨rfl, rfl, rfl, trivial⟩ trivial ?_
  refine PT.block ?_
  refine PT.loop (ι := Nat) (fun k => ⟨[(8, .val ([0,1,2,3,4,5,6,7,8,9,10,11,12] : List Int)), (9, .val (13 : Int)), (10, .val (k : Int))], []⟩) (fun k => k ≤ 13) (fun k => 13 - k) (0) (by omega) ⟨rfl, rfl, rfl, trivial⟩ trivial ?_
  rintro k hk
  refine PT.seq ?_
  refine PT.region ?_
  refine Ops.put rfl rfl (ox_lss .tmp .tmp) ((.app (.one rfl) (.one rfl))) (.nil) rfl ?_
  refine Ops.nil ?_
  refine PT.sub (σ' := ⟨[(8, _), (9, _), (10, _), (11, _)], []⟩) ⟨rfl, rfl, rfl, rfl, trivial⟩ trivial ?_
  refine PT.seq ?_
  refine PT.cond _ rfl (fun hc1 => ?_) (fun hc1 => ?_)
  · try simp only [Bool.and_eq_true, Bool.or_eq_true, decide_eq_true_eq, Bool.not_eq_true', decide_eq_false_iff_not, Bool.and_eq_false_iff, Bool.or_eq_false_iff, Bool.not_eq_false', Bool.not_eq_true, Bool.not_eq_false] at hc1
    refine PT.sub (σ' := ⟨[(8, _), (9, _), (10, _)], []⟩) ⟨rfl, rfl, rfl, trivial⟩ trivial ?_
    refine PT.skip ?_
    refine PT.seq ?_
    refine PT.block ?_
    refine PT.seq ?_
    refine PT.region ?_
    refine Ops.put rfl rfl (ox_move .tmp) (.one rfl) (.nil) rfl ?_
    refine Ops.put rfl rfl (ox_ix s82 .tmp .tmp (by (try simp only [List.length_cons, List.length_nil]); omega) (by (try simp only [List.length_cons, List.length_nil]); omega)) ((.app (.one rfl) (.one rfl))) (.nil) rfl ?_
    refine Ops.put rfl rfl (ox_load_elem t25) (.one rfl) (.nil) rfl ?_
    refine Ops.put rfl rfl (ox_assign .tmp) (.one rfl) (.nil) rfl ?_
    refine Ops.put rfl rfl (ox_assign .tmp) (.one rfl) (.nil) rfl ?_
    refine Ops.nil ?_
    refine PT.sub (σ' := ⟨[(2, _), (3, _), (8, _), (9, _), (10, _)], []⟩) ⟨rfl, rfl, rfl, rfl, rfl, trivial⟩ trivial ?_
    refine PT.seq ?_
    refine PT.region ?_
    refine Ops.put rfl rfl (ox_move .tmp) (.one rfl) (.nil) rfl ?_
    refine Ops.put rfl rfl (ox_move .tmp) (.one rfl) (.nil) rfl ?_
    refine Ops.put rfl rfl (ox_neq .tmp .tmp) ((.app (.one rfl) (.one rfl))) (.nil) rfl ?_
    refine Ops.nil ?_
    refine PT.sub (σ' := ⟨[(8, _), (9, _), (10, _), (17, _)], []⟩) ⟨rfl, rfl, rfl, rfl, trivial⟩ trivial ?_
    refine PT.cond _ rfl (fun hc2 => ?_) (fun hc2 => ?_)
    · try simp only [Bool.and_eq_true, Bool.or_eq_true, decide_eq_true_eq, Bool.not_eq_true', decide_eq_false_iff_not, Bool.and_eq_false_iff, Bool.or_eq_false_iff, Bool.not_eq_false', Bool.not_eq_true, Bool.not_eq_false] at hc2
      refine PT.sub (σ' := ⟨[], []⟩) trivial trivial ?_
      refine PT.seq ?_
      refine PT.region ?_
      refine Ops.put rfl rfl (ox_assign .bool) (.nil) (.nil) rfl ?_
      refine Ops.nil ?_
      refine PT.sub (σ' := ⟨[(0, _)], []⟩) ⟨rfl, trivial⟩ trivial ?_
      refine PT.ret ?_
      refine PT.done rfl (.tmp rfl rfl .nil) (res1 ?_)
      exact absurd (nameA _ (by omega)) hc2
    · try simp only [Bool.and_eq_true, Bool.or_eq_true, decide_eq_true_eq, Bool.not_eq_true', decide_eq_false_iff_not, Bool.and_eq_false_iff, Bool.or_eq_false_iff, Bool.not_eq_false', Bool.not_eq_true, Bool.not_eq_false] at hc2
      refine PT.sub (σ' := ⟨[(8, _), (9, _), (10, _)], []⟩) ⟨rfl, rfl, rfl, trivial⟩ trivial ?_
      refine PT.skip ?_
      refine PT.region ?_
      refine Ops.put rfl rfl (ox_add .tmp .int (by unfold I64; (try simp only [List.length_cons, List.length_nil]); omega)) ((.app (.one rfl) (.nil))) (.nil) rfl ?_
      refine Ops.put rfl rfl (ox_move .tmp) (.one rfl) (.nil) rfl ?_
      refine Ops.nil ?_
      refine PT.sub (σ' := ⟨[(8, _), (9, _), (10, _)], []⟩) ⟨rfl, rfl, rfl, trivial⟩ trivial ?_
      refine PT.next (k+1) (by omega) (by omega) ⟨rfl, rfl, rfl, trivial⟩ trivial
  · try simp only [Bool.and_eq_true, Bool.or_eq_true, decide_eq_true_eq, Bool.not_eq_true', decide_eq_false_iff_not, Bool.and_eq_false_iff, Bool.or_eq_false_iff, Bool.not_eq_false', Bool.not_eq_true, Bool.not_eq_false] at hc1
    refine PT.sub (σ' := ⟨[], []⟩) trivial trivial ?_
    refine PT.exit ?_
    refine PT.seq ?_
    refine PT.region ?_
    refine Ops.put rfl rfl (ox_buildSlice_val s22 z3 (.cons .int (.cons .int (.cons .int (.cons .int (.cons .int (.cons .int (.cons .int (.cons .int (.cons .int (.cons .int (.cons .int (.cons .int (.cons .int (.cons .int (.cons .int (.cons .int (.cons .int (.cons .int (.cons .int (.cons .int (.cons .int Parts.nil))))))))))))))))))))) rfl (by decide)) ((.app (.nil) (.app (.nil) (.app (.nil) (.app (.nil) (.app (.nil) (.app (.nil) (.app (.nil) (.app (.nil) (.app (.nil) (.app (.nil) (.app (.nil) (.app (.nil) (.app (.nil) (.app (.nil) (.app (.nil) (.app (.nil) (.app (.nil) (.app (.nil) (.app (.nil) (.app (.nil) (.app (.nil) .nil)))))))))))))))))))))) (.nil) rfl ?_
    refine Ops.put rfl rfl (ox_assign .tmp) (.one rfl) (.nil) rfl ?_
    refine Ops.nil ?_
    refine PT.sub (σ' := ⟨[(4, _)], []⟩) ⟨rfl, trivial⟩ trivial ?_
    refine PT.seq ?_
    refine PT.region ?_
    refine Ops.put rfl rfl (ox_buildSlice_val s22 z3 (.cons .int (.cons .int (.cons .int (.cons .int (.cons .int (.cons .int (.cons .int (.cons .int (.cons .int (.cons .int (.cons .int (.cons .int (.cons .int (.cons .int (.cons .int (.cons .int (.cons .int (.cons .int (.cons .int (.cons .int (.cons .int Parts.nil))))))))))))))))))))) rfl (by decide)) ((.app (.nil) (.app (.nil) (.app (.nil) (.app (.nil) (.app (.nil) (.app (.nil) (.app (.nil) (.app (.nil) (.app (.nil) (.app (.nil) (.app (.nil) (.app (.nil) (.app (.nil) (.app (.nil) (.app (.nil) (.app (.nil) (.app (.nil) (.app (.nil) (.app (.nil) (.app (.nil) (.app (.nil) .nil)))))))))))))))))))))) (.nil) rfl ?_
    refine Ops.put rfl rfl (ox_assign .tmp) (.one rfl) (.nil) rfl ?_
    refine Ops.nil ?_
    refine PT.sub (σ' := ⟨[(4, _), (5, _)], []⟩) ⟨rfl, rfl, trivial⟩ trivial ?_
    refine PT.seq ?_
    refine PT.seq ?_
    refine PT.region ?_
    refine Ops.put rfl rfl (ox_move .tmp) (.one rfl) (.nil) rfl ?_
    refine Ops.put rfl rfl (ox_len s22 .tmp) (.one rfl) (.nil) rfl ?_
    refine Ops.put rfl rfl (ox_move .int) (.nil) (.nil) rfl ?_
    refine Ops.nil ?_
    refine PT.sub (σ' := ⟨[(4, _), (5, _), (22, _), (23, _)], []⟩) ⟨rfl, rfl, rfl, rfl, trivial⟩ trivial ?_
    refine PT.block ?_
    refine PT.loop (ι := Nat) (fun k => ⟨[(4, .val ([5,11,1073741824,255,1,2,3,4,5,6,3,8,6,3,1,2,3,4,400,300,3] : List Int)), (5, .val ([5,11,1073741824,255,1,2,3,4,5,6,3,8,6,3,1,2,3,4,400,300,3] : List Int)), (22, .val (21 : Int)), (23, .val (k : Int))], []⟩) (fun k => k ≤ 21) (fun k => 21 - k) (0) (by omega) ⟨rfl, rfl, rfl, rfl, trivial⟩ trivial ?_
    rintro k hk
    refine PT.seq ?_
    refine PT.region ?_
    refine Ops.put rfl rfl (ox_lss .tmp .tmp) ((.app (.one rfl) (.one rfl))) (.nil) rfl ?_
    refine Ops.nil ?_
    refine PT.sub (σ' := ⟨[(4, _), (5, _), (22, _), (23, _), (24, _)], []⟩) ⟨rfl, rfl, rfl, rfl, rfl, trivial⟩ trivial ?_
    refine PT.seq ?_
    refine PT.cond _ rfl (fun hc3 => ?_) (fun hc3 => ?_)
    · try simp only [Bool.and_eq_true, Bool.or_eq_true, decide_eq_true_eq, Bool.not_eq_true', decide_eq_false_iff_not, Bool.and_eq_false_iff, Bool.or_eq_false_iff, Bool.not_eq_false', Bool.not_eq_true, Bool.not_eq_false] at hc3
      refine PT.sub (σ' := ⟨[(4, _), (5, _), (22, _), (23, _)], []⟩) ⟨rfl, rfl, rfl, rfl, trivial⟩ trivial ?_
      refine PT.skip ?_
      refine PT.seq ?_
      refine PT.block ?_
      refine PT.seq ?_
      refine PT.region ?_
      refine Ops.put rfl rfl (ox_move .tmp) (.one rfl) (.nil) rfl ?_
      refine Ops.put rfl rfl (ox_assign .tmp) (.one rfl) (.nil) rfl ?_
      refine Ops.nil ?_
      refine PT.sub (σ' := ⟨[(4, _), (5, _), (6, _), (22, _), (23, _)], []⟩) ⟨rfl, rfl, rfl, rfl, rfl, trivial⟩ trivial ?_
      refine PT.seq ?_
      refine PT.draw hMixed (
          Segs.cons (Step.put rfl rfl (ox_move .tmp)) ⟨.one rfl, .nil⟩ (by kernel_rfl) rfl <|
          Segs.cons (Step.put rfl rfl (ox_move .tmp)) ⟨.one rfl, .nil⟩ (by kernel_rfl) rfl <|
          Segs.cons (Step.put rfl rfl (ox_ix s22 .tmp .tmp (by (try simp only [List.length_cons, List.length_nil]); omega) (by (try simp only [List.length_cons, List.length_nil]); omega))) ⟨(.app (.one rfl) (.one rfl)), .nil⟩ (by kernel_rfl) rfl <|
          Segs.cons (Step.put rfl rfl (ox_load_elem t3)) ⟨.one rfl, .nil⟩ (by kernel_rfl) rfl <|
          Segs.cons (Step.put rfl rfl (ox_move .tmp)) ⟨.one rfl, .nil⟩ (by kernel_rfl) rfl <|
          Segs.cons (Step.put rfl rfl (ox_move .tmp)) ⟨.one rfl, .nil⟩ (by kernel_rfl) rfl <|
          Segs.cons (Step.put rfl rfl (ox_ix s22 .tmp .tmp (by (try simp only [List.length_cons, List.length_nil]); omega) (by (try simp only [List.length_cons, List.length_nil]); omega))) ⟨(.app (.one rfl) (.one rfl)), .nil⟩ (by kernel_rfl) rfl <|
          Segs.cons (Step.put rfl rfl (ox_load_elem t3)) ⟨.one rfl, .nil⟩ (by kernel_rfl) rfl <|
          Segs.cons (Step.put rfl rfl (ox_neq .tmp .tmp)) ⟨(.app (.one rfl) (.one rfl)), .nil⟩ (by kernel_rfl) rfl <|
          Segs.nil) _ [[], [], [0, 1], [0, 1, 2], [], [], [4, 5], [4, 5, 6], [0, 1, 2, 3, 4, 5, 6, 7]] rfl (by kernel_rfl) (by kernel_rfl) ?_
      refine PT.sub (σ' := ⟨[(4, _), (5, _), (22, _), (23, _), (34, _)], []⟩) ⟨rfl, rfl, rfl, rfl, rfl, trivial⟩ trivial ?_
      refine PT.cond _ rfl (fun hc4 => ?_) (fun hc4 => ?_)
      · try simp only [Bool.and_eq_true, Bool.or_eq_true, decide_eq_true_eq, Bool.not_eq_true', decide_eq_false_iff_not, Bool.and_eq_false_iff, Bool.or_eq_false_iff, Bool.not_eq_false', Bool.not_eq_true, Bool.not_eq_false] at hc4
        refine PT.sub (σ' := ⟨[], []⟩) trivial trivial ?_
        refine PT.seq ?_
        refine PT.region ?_
        refine Ops.put rfl rfl (ox_assign .bool) (.nil) (.nil) rfl ?_
        refine Ops.nil ?_
        refine PT.sub (σ' := ⟨[(0, _)], []⟩) ⟨rfl, trivial⟩ trivial ?_
        refine PT.ret ?_
        refine PT.done rfl (.tmp rfl rfl .nil) (res1 ?_)
        exact absurd trivial hc4
      · try simp only [Bool.and_eq_true, Bool.or_eq_true, decide_eq_true_eq, Bool.not_eq_true', decide_eq_false_iff_not, Bool.and_eq_false_iff, Bool.or_eq_false_iff, Bool.not_eq_false', Bool.not_eq_true, Bool.not_eq_false] at hc4
        refine PT.sub (σ' := ⟨[(4, _), (5, _), (22, _), (23, _)], []⟩) ⟨rfl, rfl, rfl, rfl, trivial⟩ trivial ?_
        refine PT.skip ?_
        refine PT.region ?_
        refine Ops.put rfl rfl (ox_add .tmp .int (by unfold I64; (try simp only [List.length_cons, List.length_nil]); omega)) ((.app (.one rfl) (.nil))) (.nil) rfl ?_
        refine Ops.put rfl rfl (ox_move .tmp) (.one rfl) (.nil) rfl ?_
        refine Ops.nil ?_
        refine PT.sub (σ' := ⟨[(4, _), (5, _), (22, _), (23, _)], []⟩) ⟨rfl, rfl, rfl, rfl, trivial⟩ trivial ?_
        refine PT.next (k+1) (by omega) (by omega) ⟨rfl, rfl, rfl, rfl, trivial⟩ trivial
    · try simp only [Bool.and_eq_true, Bool.or_eq_true, decide_eq_true_eq, Bool.not_eq_true', decide_eq_false_iff_not, Bool.and_eq_false_iff, Bool.or_eq_false_iff, Bool.not_eq_false', Bool.not_eq_true, Bool.not_eq_false] at hc3
      refine PT.sub (σ' := ⟨[], []⟩) trivial trivial ?_
      refine PT.exit ?_
      refine PT.seq ?_
      refine PT.region ?_
      refine Ops.put rfl rfl (ox_assign .bool) (.nil) (.nil) rfl ?_
      refine Ops.nil ?_
      refine PT.sub (σ' := ⟨[(0, _)], []⟩) ⟨rfl, trivial⟩ trivial ?_
      refine PT.ret ?_
      refine PT.done rfl (.tmp rfl rfl .nil) (res1 ?_)
      rfl
end Go.Gx
