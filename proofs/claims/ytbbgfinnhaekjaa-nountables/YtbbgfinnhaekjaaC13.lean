/- Chapter 29, part y: a noun is the same as itself. -/
import Derived.Test.YtbbgfinnhaekjaaC10
set_option linter.unusedVariables false
set_option linter.unusedSimpArgs false
/-! Bn. -/
namespace Go.Proofs
open Go.E
set_option maxRecDepth 8000

set_option maxHeartbeats 8000000 in
theorem same_c (x : Int) (m : Nat) (c : Nat → Cmp) (hm : m ≤ 9223372036854775807) :
    callP Try.prog 25 [.agg [.int .i64 x, .ro 4 m (fun j => cmpL (c j))], .agg [.int .i64 x, .ro 4 m (fun j => cmpL (c j))]] (· = .bool true) := by
  refine callE_def env (fn := Try.f25) rfl (by decide) rfl ?_
  repeat (first | refine need_intro (by decide) ?_ | refine branch_true ?_ | refine branch_false ?_ | (refine branch_t' (decide_eq_true ?_) ?_; focus omega) | (refine branch_f' (decide_eq_false ?_) ?_; focus omega) | (refine branch_t' (beq_iff_eq.2 ?_) ?_; focus omega) | (refine branch_f' (beq_eq_false_iff_ne.2 ?_) ?_; focus omega) | (refine branch_t' (bne_iff_ne.2 ?_) ?_; focus omega) | (refine branch_f' (bne_eq_false_iff_eq.2 ?_) ?_; focus omega) | refine branch_t' (by assumption) ?_ | refine branch_f' (by assumption) ?_ | refine branch_f' (bne_self_eq_false _) ?_ | refine branch_t' (beq_self_eq_true _) ?_ | (refine branch_f' ?_ ?_; focus (simp; done)) | (refine branch_t' ?_ ?_; focus (simp; done)))
  refine loop_weak (fun i : Nat => slots 38 [(2, .ptr ⟨0, 0, 0⟩), (3, .ptr ⟨1, 0, 0⟩), (5, .int .i64 i)]) (fun _ => [.cells [.int .i64 x, .ro 4 m (fun j => cmpL (c j))], .cells [.int .i64 x, .ro 4 m (fun j => cmpL (c j))]])
    (fun i => i ≤ m) (fun i => m - i) 0 (Nat.zero_le _) (weak_keep (keep 38 [2, 3, 5]) [0, 1] rfl rfl rfl) ?_
  intro i hi
  by_cases him : i = m
  · subst him
    repeat (first | refine need_intro (by decide) ?_ | refine branch_true ?_ | refine branch_false ?_ | (refine branch_t' (decide_eq_true ?_) ?_; focus omega) | (refine branch_f' (decide_eq_false ?_) ?_; focus omega) | (refine branch_t' (beq_iff_eq.2 ?_) ?_; focus omega) | (refine branch_f' (beq_eq_false_iff_ne.2 ?_) ?_; focus omega) | (refine branch_t' (bne_iff_ne.2 ?_) ?_; focus omega) | (refine branch_f' (bne_eq_false_iff_eq.2 ?_) ?_; focus omega) | refine branch_t' (by assumption) ?_ | refine branch_f' (by assumption) ?_ | refine branch_f' (bne_self_eq_false _) ?_ | refine branch_t' (beq_self_eq_true _) ?_ | (refine branch_f' ?_ ?_; focus (simp; done)) | (refine branch_t' ?_ ?_; focus (simp; done)))
    show Eqv _ _
    exact .up (.up (.refl _))
  have hlt : i < m := by omega
  repeat (first | refine need_intro (by decide) ?_ | refine branch_true ?_ | refine branch_false ?_ | (refine branch_t' (decide_eq_true ?_) ?_; focus omega) | (refine branch_f' (decide_eq_false ?_) ?_; focus omega) | (refine branch_t' (beq_iff_eq.2 ?_) ?_; focus omega) | (refine branch_f' (beq_eq_false_iff_ne.2 ?_) ?_; focus omega) | (refine branch_t' (bne_iff_ne.2 ?_) ?_; focus omega) | (refine branch_f' (bne_eq_false_iff_eq.2 ?_) ?_; focus omega) | refine branch_t' (by assumption) ?_ | refine branch_f' (by assumption) ?_ | refine branch_f' (bne_self_eq_false _) ?_ | refine branch_t' (beq_self_eq_true _) ?_ | (refine branch_f' ?_ ?_; focus (simp; done)) | (refine branch_t' ?_ ?_; focus (simp; done)))
  refine draw_tree (picks [0, 1, 2, 3, 4, 5, 6, 7, 8, 9, 10] .done) (by decide +kernel) ?_
  apply need_intro
  · omega
  conv => whnf
  apply need_intro
  · omega
  conv => whnf
  simp only [Int.toNat_natCast]
  repeat (first | refine need_intro (by decide) ?_ | refine branch_true ?_ | refine branch_false ?_ | (refine branch_t' (decide_eq_true ?_) ?_; focus omega) | (refine branch_f' (decide_eq_false ?_) ?_; focus omega) | (refine branch_t' (beq_iff_eq.2 ?_) ?_; focus omega) | (refine branch_f' (beq_eq_false_iff_ne.2 ?_) ?_; focus omega) | (refine branch_t' (bne_iff_ne.2 ?_) ?_; focus omega) | (refine branch_f' (bne_eq_false_iff_eq.2 ?_) ?_; focus omega) | refine branch_t' (by assumption) ?_ | refine branch_f' (by assumption) ?_ | refine branch_f' (bne_self_eq_false _) ?_ | refine branch_t' (beq_self_eq_true _) ?_ | (refine branch_f' ?_ ?_; focus (simp; done)) | (refine branch_t' ?_ ?_; focus (simp; done)))
  refine ⟨i + 1, by omega, by omega, weak_keep (keep 38 [2, 3, 5]) [0, 1] rfl ?_ rfl⟩
  show [_, _, _, _, _, _, _, _, _, _, _, _, _, _, _, _, _, _, _, _, _, _, _, _, _, _, _, _, _, _, _, _, _, _, _, _, _, _] = _
  have e3 : IntKind.i64.wrap ((i : Int) + 1) = ((i + 1 : Nat) : Int) := by rw [wi (by omega) (by omega)]; rfl
  rw [e3]
  rfl
theorem same_nil : callP Try.prog 25 [.agg [.int .i64 0, .nilslice], .agg [.int .i64 0, .nilslice]] (· = .bool true) := by
  refine callE_def env (fn := Try.f25) rfl (by decide) rfl ?_
  repeat (first | refine need_intro (by decide) ?_ | refine branch_true ?_ | refine branch_false ?_ | (refine branch_t' (decide_eq_true ?_) ?_; focus omega) | (refine branch_f' (decide_eq_false ?_) ?_; focus omega) | (refine branch_t' (beq_iff_eq.2 ?_) ?_; focus omega) | (refine branch_f' (beq_eq_false_iff_ne.2 ?_) ?_; focus omega) | (refine branch_t' (bne_iff_ne.2 ?_) ?_; focus omega) | (refine branch_f' (bne_eq_false_iff_eq.2 ?_) ?_; focus omega) | refine branch_t' (by assumption) ?_ | refine branch_f' (by assumption) ?_ | refine branch_f' (bne_self_eq_false _) ?_ | refine branch_t' (beq_self_eq_true _) ?_ | (refine branch_f' ?_ ?_; focus (simp; done)) | (refine branch_t' ?_ ?_; focus (simp; done)))
  refine loop_weak (fun _ : Nat => slots 38 [(2, .ptr ⟨0, 0, 0⟩), (3, .ptr ⟨1, 0, 0⟩), (5, .int .i64 0)]) (fun _ => [.cells [.int .i64 0, .nilslice], .cells [.int .i64 0, .nilslice]])
    (fun i => i = 0) (fun _ => 0) 0 rfl (weak_keep (keep 38 [2, 3, 5]) [0, 1] rfl rfl rfl) ?_
  rintro i rfl
  repeat (first | refine need_intro (by decide) ?_ | refine branch_true ?_ | refine branch_false ?_ | (refine branch_t' (decide_eq_true ?_) ?_; focus omega) | (refine branch_f' (decide_eq_false ?_) ?_; focus omega) | (refine branch_t' (beq_iff_eq.2 ?_) ?_; focus omega) | (refine branch_f' (beq_eq_false_iff_ne.2 ?_) ?_; focus omega) | (refine branch_t' (bne_iff_ne.2 ?_) ?_; focus omega) | (refine branch_f' (bne_eq_false_iff_eq.2 ?_) ?_; focus omega) | refine branch_t' (by assumption) ?_ | refine branch_f' (by assumption) ?_ | refine branch_f' (bne_self_eq_false _) ?_ | refine branch_t' (beq_self_eq_true _) ?_ | (refine branch_f' ?_ ?_; focus (simp; done)) | (refine branch_t' ?_ ?_; focus (simp; done)))
  show Eqv _ _
  exact .up (.up (.refl _))
end Go.Proofs
