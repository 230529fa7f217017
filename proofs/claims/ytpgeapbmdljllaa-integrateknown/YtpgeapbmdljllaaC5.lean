/- Chapter 33, part o: the examples of the chapter. -/
import Derived.Test.YtpgeapbmdljllaaC4
set_option linter.unusedVariables false
set_option linter.unusedSimpArgs false
/-! Io. -/
namespace Go.Proofs
open Go.E
set_option maxRecDepth 8000

set_option maxHeartbeats 2000000 in
theorem known_law : callP Try.prog 9 [] (· = .bool true) := by
  refine callE_def env (fn := Try.f9) rfl (by decide) rfl ?_
  have fa : FV (of3 0 0 (-33554432)) := of3_fit (fit_lit rfl) (fit_lit rfl) (fit_lit rfl)
  have fb : FV (of3 0 134217728 0) := of3_fit (fit_lit rfl) (fit_lit rfl) (fit_lit rfl)
  refine callT_E lives_c rfl ?_
  repeat (first | refine branch_true ?_ | refine branch_false ?_ | refine branch_f' (bne_self_eq_false _) ?_ | refine branch_t' (beq_self_eq_true _) ?_ | refine branch_t' (decide_eq_true rfl) ?_)
  refine callT_E (ofV_c (fit_lit rfl) (fit_lit rfl) (fit_lit rfl)) rfl ?_
  refine callT_E (ofV_c (fit_lit rfl) (fit_lit rfl) (fit_lit rfl)) rfl ?_
  refine callT_E (field_c (g := dv (of3 0 0 (-33554432))) (r := dv (of3 0 134217728 0)) (k0 := 4096) (k1 := 0) (p := 0) (dv_w fa) (dv_w fb) (by unfold W16; omega) w_zero) rfl ?_
  repeat (refine need_intro (by decide) ?_)
  apply choice_l
  refine callT_E (run_over (g := zeroV) (r := zeroV) (v := zeroV) (k0 := 0) (k1 := 0) (p := 4) (n := 101) (D := fun _ => zeroV) w_zero w_zero (by decide +kernel) (by decide)) rfl ?_
  refine callT_E (bound_c (p := 4) (n := 0) (by decide) (by decide)) rfl ?_
  refine callT_E (bound_c (p := 4) (n := 1) (by decide) (by decide)) rfl ?_
  refine callT_E (bound_c (p := 14) (n := 1) (by decide) (by decide)) rfl ?_
  refine callT_E (bound_bad (p := 3) (n := 1) (by omega)) rfl ?_
  refine callT_E (bound_over (p := 4) (n := 101) (by omega) (by omega)) rfl ?_
  refine draw_tree (picks [0, 1, 2, 3, 4, 5, 6, 7, 8, 9, 10, 11, 12, 13, 14, 15, 16, 17, 18, 19, 20, 21, 22, 23, 24, 25, 26, 27, 28, 29, 30, 31, 32, 33, 34, 35, 36, 37, 38, 39, 40, 41, 42, 43, 44, 45, 46, 47, 48, 49, 50, 51, 52, 53, 54, 55] .done) (by decide +kernel) ?_
  refine ⟨_, ⟨ofV_c (fit_lit rfl) (fit_lit rfl) (fit_lit rfl), rfl⟩, ?_⟩
  repeat (first | refine branch_t' (by decide +kernel) ?_ | refine branch_f' (by decide +kernel) ?_)
  show Eqv _ _
  exact .up (.up (.refl _))
end Go.Proofs
