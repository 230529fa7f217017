/- Chapter 33, part j: the law of the bounds. -/
import Derived.Test.YtpgeapbmdljllaaC2
set_option linter.unusedVariables false
set_option linter.unusedSimpArgs false
/-! Ij. -/
namespace Go.Proofs
open Go.E
set_option maxRecDepth 8000

set_option maxHeartbeats 2000000 in
theorem bounds_law (p : Int) (hp : -9223372036854775808 ≤ p ∧ p ≤ 9223372036854775807) (n : Int) (hn : -9223372036854775808 ≤ n ∧ n ≤ 9223372036854775807) : callP Try.prog 4 [.int .i64 p, .int .i64 n] (· = .bool true) := by
  refine callE_def env (fn := Try.f4) rfl (by decide) rfl ?_
  refine callT_E lives_c rfl ?_
  repeat (first | refine branch_true ?_ | refine branch_false ?_ | refine branch_f' (bne_self_eq_false _) ?_ | refine branch_t' (beq_self_eq_true _) ?_ | refine branch_t' (decide_eq_true rfl) ?_)
  by_cases hb : p < 4 ∨ p > 14 ∨ n < 0
  · refine callT_E (bound_bad hb) rfl ?_
    apply branch_intro <;> intro a
    · repeat (first | refine branch_true ?_ | refine branch_false ?_ | refine branch_f' (bne_self_eq_false _) ?_ | refine branch_t' (beq_self_eq_true _) ?_ | refine branch_t' (decide_eq_true rfl) ?_)
      show Eqv _ _
      exact .up (.up (.refl _))
    repeat (first | refine branch_true ?_ | refine branch_false ?_ | refine branch_f' (bne_self_eq_false _) ?_ | refine branch_t' (beq_self_eq_true _) ?_ | refine branch_t' (decide_eq_true rfl) ?_)
    apply branch_intro <;> intro b
    · repeat (first | refine branch_true ?_ | refine branch_false ?_ | refine branch_f' (bne_self_eq_false _) ?_ | refine branch_t' (beq_self_eq_true _) ?_ | refine branch_t' (decide_eq_true rfl) ?_)
      show Eqv _ _
      exact .up (.up (.refl _))
    repeat (first | refine branch_true ?_ | refine branch_false ?_ | refine branch_f' (bne_self_eq_false _) ?_ | refine branch_t' (beq_self_eq_true _) ?_ | refine branch_t' (decide_eq_true rfl) ?_)
    apply branch_intro <;> intro c
    · repeat (first | refine branch_true ?_ | refine branch_false ?_ | refine branch_f' (bne_self_eq_false _) ?_ | refine branch_t' (beq_self_eq_true _) ?_ | refine branch_t' (decide_eq_true rfl) ?_)
      show Eqv _ _
      exact .up (.up (.refl _))
    · exfalso
      simp at a b c
      omega
  have hp4 : 4 ≤ p ∧ p ≤ 14 := by omega
  by_cases ho : 100 < n
  · refine callT_E (bound_over hp4 ho) rfl ?_
    repeat (first | refine branch_true ?_ | refine branch_false ?_ | refine branch_t' (decide_eq_true (by omega)) ?_ | refine branch_f' (decide_eq_false (by omega)) ?_)
    show Eqv _ _
    exact .up (.up (.refl _))
  obtain ⟨q, rfl⟩ : ∃ q : Nat, p = q := ⟨p.toNat, by omega⟩
  obtain ⟨m, rfl⟩ : ∃ m : Nat, n = m := ⟨n.toNat, by omega⟩
  have hq : 4 ≤ q ∧ q ≤ 14 := by omega
  refine callT_E (bound_c hq (by omega)) rfl ?_
  repeat (first | refine branch_true ?_ | refine branch_false ?_ | refine branch_t' (decide_eq_true (by omega)) ?_ | refine branch_f' (decide_eq_false (by omega)) ?_)
  refine callT_E (rbound_c hq (by omega)) rfl ?_
  repeat (first | refine branch_true ?_ | refine branch_false ?_ | refine branch_f' (bne_self_eq_false _) ?_ | refine branch_t' (beq_self_eq_true _) ?_ | refine branch_t' (decide_eq_true rfl) ?_)
  have e1 : IntKind.i64.wrap ((m : Int) + 1) = ((m + 1 : Nat) : Int) := by rw [wi (by omega) (by omega)]; omega
  obtain ⟨h1, h2, h3, h4⟩ := bnd_b hq.1 m
  have ht := topM_b (n := m) (by omega)
  have u1 := up_b (k := 2 * q + 1) h1 (by omega)
  have u2 := up_b (k := q) h3 (by omega)
  have u3 := up_b (x := (bnd q m).1 + ((bnd q m).1 + upV (bnd q m).1 (2 * q + 1) + upV (bnd q m).2 q + 2) + 1) (k := q + 1) (by omega) (by omega)
  have w1 : IntKind.i64.wrap ((bnd q m).1 + 2) = (bnd q m).1 + 2 := wi (by omega) (by omega)
  have w2 : IntKind.i64.wrap ((bnd q m).2 + 1) = (bnd q m).2 + 1 := wi (by omega) (by omega)
  have g1 : (bnd q (m + 1)).1 ≥ (bnd q m).1 + 2 := by simp only [bnd]; omega
  have g2 : (bnd q (m + 1)).2 ≥ (bnd q m).2 + 1 := by simp only [bnd]; omega
  have z0 : m = 0 → (bnd q m).1 = 0 ∧ (bnd q m).2 = 0 := fun h => by subst h; exact ⟨rfl, rfl⟩
  have eo := bound_over hp4 (n := IntKind.i64.wrap ((m : Int) + 1))
  have ec := fun (h : m + 1 ≤ 100) => bound_c hq h
  rw [← e1] at ec
  apply branch_intro <;> intro z
  · simp at z
    obtain ⟨z1, z2⟩ := z0 z
    repeat (first | refine branch_true ?_ | refine branch_false ?_ | refine branch_f' (bne_self_eq_false _) ?_ | refine branch_t' (beq_self_eq_true _) ?_ | refine branch_t' (decide_eq_true rfl) ?_)
    refine branch_f' (by simp [z1]) ?_
    repeat (first | refine branch_true ?_ | refine branch_false ?_ | refine branch_f' (bne_self_eq_false _) ?_ | refine branch_t' (beq_self_eq_true _) ?_ | refine branch_t' (decide_eq_true rfl) ?_)
    refine branch_f' (by simp [z2]) ?_
    repeat (first | refine branch_true ?_ | refine branch_false ?_ | refine branch_f' (bne_self_eq_false _) ?_ | refine branch_t' (beq_self_eq_true _) ?_ | refine branch_t' (decide_eq_true rfl) ?_)
    by_cases hm : m = 100
    · refine callT_E (eo (by rw [e1]; omega)) rfl ?_
      refine branch_t' (decide_eq_true (by omega)) ?_
      repeat (first | refine branch_true ?_ | refine branch_false ?_ | refine branch_f' (bne_self_eq_false _) ?_ | refine branch_t' (beq_self_eq_true _) ?_ | refine branch_t' (decide_eq_true rfl) ?_)
      show Eqv _ _
      exact .up (.up (.refl _))
    · refine callT_E (ec (by omega)) rfl ?_
      refine branch_f' (decide_eq_false (by omega)) ?_
      repeat (first | refine branch_true ?_ | refine branch_false ?_ | refine branch_f' (bne_self_eq_false _) ?_ | refine branch_t' (beq_self_eq_true _) ?_ | refine branch_t' (decide_eq_true rfl) ?_)
      refine branch_t' (decide_eq_true (by rw [w1]; exact g1)) ?_
      repeat (first | refine branch_true ?_ | refine branch_false ?_ | refine branch_f' (bne_self_eq_false _) ?_ | refine branch_t' (beq_self_eq_true _) ?_ | refine branch_t' (decide_eq_true rfl) ?_)
      show Eqv _ _
      rw [w2, decide_eq_true g2]
      show Eqv _ _
      exact .up (.up (.refl _))
  · skip
    repeat (first | refine branch_true ?_ | refine branch_false ?_ | refine branch_f' (bne_self_eq_false _) ?_ | refine branch_t' (beq_self_eq_true _) ?_ | refine branch_t' (decide_eq_true rfl) ?_)
    by_cases hm : m = 100
    · refine callT_E (eo (by rw [e1]; omega)) rfl ?_
      refine branch_t' (decide_eq_true (by omega)) ?_
      repeat (first | refine branch_true ?_ | refine branch_false ?_ | refine branch_f' (bne_self_eq_false _) ?_ | refine branch_t' (beq_self_eq_true _) ?_ | refine branch_t' (decide_eq_true rfl) ?_)
      show Eqv _ _
      exact .up (.up (.refl _))
    · refine callT_E (ec (by omega)) rfl ?_
      refine branch_f' (decide_eq_false (by omega)) ?_
      repeat (first | refine branch_true ?_ | refine branch_false ?_ | refine branch_f' (bne_self_eq_false _) ?_ | refine branch_t' (beq_self_eq_true _) ?_ | refine branch_t' (decide_eq_true rfl) ?_)
      refine branch_t' (decide_eq_true (by rw [w1]; exact g1)) ?_
      repeat (first | refine branch_true ?_ | refine branch_false ?_ | refine branch_f' (bne_self_eq_false _) ?_ | refine branch_t' (beq_self_eq_true _) ?_ | refine branch_t' (decide_eq_true rfl) ?_)
      show Eqv _ _
      rw [w2, decide_eq_true g2]
      show Eqv _ _
      exact .up (.up (.refl _))
end Go.Proofs
