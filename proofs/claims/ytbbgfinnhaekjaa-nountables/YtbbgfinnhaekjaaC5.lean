/- Chapter 29, part f: the reference's Decimal; the examples that every law asks for. -/
import Derived.Test.YtbbgfinnhaekjaaC4
set_option linter.unusedVariables false
set_option linter.unusedSimpArgs false
/-! Af. -/
namespace Go.Proofs
open Go.E
set_option maxRecDepth 8000

set_option maxHeartbeats 4000000 in
theorem rdecimal_c (v : Int) (c : Cmp) (hc : c.Ok) : callP Try.prog 16 [.int .i64 v, cA c] (· = .tuple [shA (decV v c).1 (decV v c).2.1, .int .i64 (decV v c).2.2]) := by
  have cv := rone_c c hc
  refine callE_def env (fn := Try.f16) rfl (by decide) rfl ?_
  refine callT_E cv rfl ?_
  by_cases h1 : validC c = false
  · rw [h1]
    repeat (first | refine branch_true ?_ | refine branch_false ?_ | (refine branch_t' (decide_eq_true ?_) ?_; focus omega) | (refine branch_f' (decide_eq_false ?_) ?_; focus omega) | (refine branch_t' (beq_iff_eq.2 ?_) ?_; focus omega) | (refine branch_f' (beq_eq_false_iff_ne.2 ?_) ?_; focus omega) | (refine branch_t' (bne_iff_ne.2 ?_) ?_; focus omega) | (refine branch_f' (bne_eq_false_iff_eq.2 ?_) ?_; focus omega) | refine branch_t' (by assumption) ?_ | refine branch_f' (by assumption) ?_)
    rw [decV, if_pos (.inl h1)]
    show Eqv _ _
    exact .up (.up (.refl _))
  have h1t : validC c = true := by simpa using h1
  rw [h1t]
  by_cases h2 : c.k = 1
  · repeat (first | refine branch_true ?_ | refine branch_false ?_ | (refine branch_t' (decide_eq_true ?_) ?_; focus omega) | (refine branch_f' (decide_eq_false ?_) ?_; focus omega) | (refine branch_t' (beq_iff_eq.2 ?_) ?_; focus omega) | (refine branch_f' (beq_eq_false_iff_ne.2 ?_) ?_; focus omega) | (refine branch_t' (bne_iff_ne.2 ?_) ?_; focus omega) | (refine branch_f' (bne_eq_false_iff_eq.2 ?_) ?_; focus omega) | refine branch_t' (by assumption) ?_ | refine branch_f' (by assumption) ?_)
    rw [decV, if_pos (.inr h2)]
    show Eqv _ _
    exact .up (.up (.refl _))
  repeat (first | refine branch_true ?_ | refine branch_false ?_ | (refine branch_t' (decide_eq_true ?_) ?_; focus omega) | (refine branch_f' (decide_eq_false ?_) ?_; focus omega) | (refine branch_t' (beq_iff_eq.2 ?_) ?_; focus omega) | (refine branch_f' (beq_eq_false_iff_ne.2 ?_) ?_; focus omega) | (refine branch_t' (bne_iff_ne.2 ?_) ?_; focus omega) | (refine branch_f' (bne_eq_false_iff_eq.2 ?_) ?_; focus omega) | refine branch_t' (by assumption) ?_ | refine branch_f' (by assumption) ?_)
  obtain ⟨hcn, hcs, hck⟩ := val_facts h1t h2
  refine callT_E (rin_c v c.k (by omega)) rfl ?_
  by_cases h3 : inV v c.k = false
  · rw [h3]
    repeat (first | refine branch_true ?_ | refine branch_false ?_ | (refine branch_t' (decide_eq_true ?_) ?_; focus omega) | (refine branch_f' (decide_eq_false ?_) ?_; focus omega) | (refine branch_t' (beq_iff_eq.2 ?_) ?_; focus omega) | (refine branch_f' (beq_eq_false_iff_ne.2 ?_) ?_; focus omega) | (refine branch_t' (bne_iff_ne.2 ?_) ?_; focus omega) | (refine branch_f' (bne_eq_false_iff_eq.2 ?_) ?_; focus omega) | refine branch_t' (by assumption) ?_ | refine branch_f' (by assumption) ?_)
    rw [decV, if_neg (by simp [h1t, h2]), if_pos h3]
    show Eqv _ _
    exact .up (.up (.refl _))
  have h3t : inV v c.k = true := by simpa using h3
  rw [h3t]
  repeat (first | refine branch_true ?_ | refine branch_false ?_ | (refine branch_t' (decide_eq_true ?_) ?_; focus omega) | (refine branch_f' (decide_eq_false ?_) ?_; focus omega) | (refine branch_t' (beq_iff_eq.2 ?_) ?_; focus omega) | (refine branch_f' (beq_eq_false_iff_ne.2 ?_) ?_; focus omega) | (refine branch_t' (bne_iff_ne.2 ?_) ?_; focus omega) | (refine branch_f' (bne_eq_false_iff_eq.2 ?_) ?_; focus omega) | refine branch_t' (by assumption) ?_ | refine branch_f' (by assumption) ?_)
  obtain ⟨hv, hn, hs⟩ := ok_facts h1t h2 h3t
  obtain ⟨k, hk, hk40⟩ := pow_eq c.s hs
  have hp := pow_b hk40
  have hm := mul_facts hv hn
  rw [decV, if_neg (by simp [h1t, h2]), if_neg (by simp [h3t]), show c.s.toNat = k by omega]
  have w1 : IntKind.i64.wrap (v * c.n) = v * c.n := wi (by omega) (by omega)
  have cp : callP Try.prog 45 [.int .i64 c.s] (· = .int .i64 (2 ^ k)) := by rw [hk]; exact power_c hk40
  have cq : ∀ a : Int, a = v * c.n → callP Try.prog 44 [.int .i64 a, .int .i64 (2 ^ k)] (· = .int .i64 (rV (v * c.n) (2 ^ k))) := by
    rintro _ rfl
    exact round_c (by omega) (by omega)
  have hb := rV_b (p := v * c.n) (q := 2 ^ k) (by omega)
  refine draw_tree (picks [0, 1, 2, 3, 4, 5, 6, 7, 8] .done) (by decide +kernel) ?_
  refine ⟨_, ⟨cp, rfl⟩, ?_⟩
  refine ⟨_, ⟨cq _ w1, rfl⟩, ?_⟩
  generalize rV (v * c.n) (2 ^ k) = n at *

  apply branch_intro <;> intro h6
  · have h6 := of_decide_eq_true h6
    have w3 : IntKind.i64.wrap (0 - n) = -n := by rw [wi (by omega) (by omega)]; omega
    obtain ⟨q, hq⟩ : ∃ q : Int, -n = q := ⟨_, rfl⟩
    have hna : ((n.natAbs : Nat) : Int) = q := by omega
    by_cases h7 : n.natAbs ≥ 100000
    · rw [if_pos h7]
      repeat (first | refine branch_true ?_ | refine branch_false ?_ | (refine branch_t' (decide_eq_true ?_) ?_; focus omega) | (refine branch_f' (decide_eq_false ?_) ?_; focus omega) | (refine branch_t' (beq_iff_eq.2 ?_) ?_; focus omega) | (refine branch_f' (beq_eq_false_iff_ne.2 ?_) ?_; focus omega) | (refine branch_t' (bne_iff_ne.2 ?_) ?_; focus omega) | (refine branch_f' (bne_eq_false_iff_eq.2 ?_) ?_; focus omega) | refine branch_t' (by assumption) ?_ | refine branch_f' (by assumption) ?_)
      show Eqv _ _
      exact .up (.up (.refl _))
    rw [if_neg h7, if_pos h6]
    repeat (first | refine branch_true ?_ | refine branch_false ?_ | (refine branch_t' (decide_eq_true ?_) ?_; focus omega) | (refine branch_f' (decide_eq_false ?_) ?_; focus omega) | (refine branch_t' (beq_iff_eq.2 ?_) ?_; focus omega) | (refine branch_f' (beq_eq_false_iff_ne.2 ?_) ?_; focus omega) | (refine branch_t' (bne_iff_ne.2 ?_) ?_; focus omega) | (refine branch_f' (bne_eq_false_iff_eq.2 ?_) ?_; focus omega) | refine branch_t' (by assumption) ?_ | refine branch_f' (by assumption) ?_)
    have hx : 0 ≤ q ∧ q ≤ 9223372036854775807 := by omega
    rw [show ((n.natAbs : Nat) : Int) = q from hna]
    refine loop_inv (keep 54 [4, 5, 6, 7, 8]) (fun i : Nat => slots 54 [(4, .ptr ⟨1, 0, 0⟩), (5, .int .i64 0), (6, .int .i64 (dvV 10 q i)), (7, .ptr ⟨2, 0, 0⟩), (8, .int .i64 (4 - i))])
      (fun i => [.cells [.int .u8 c.k, .int .i64 c.a, .int .i64 c.n, .int .i64 c.s], .cells [.int .u8 0, .int .u8 0, .int .u8 0, .int .u8 0, .int .u8 0, .int .u8 0], .cells (shK 2 10 q i)]) (fun i => i ≤ 5) (fun i => 5 - i) 0 (by decide) (by show [_, _, _, _, _, _, _, _, _, _, _, _, _, _, _, _, _, _, _, _, _, _, _, _, _, _, _, _, _, _, _, _, _, _, _, _, _, _, _, _, _, _, _, _, _, _, _, _, _, _, _, _, _, _] = _; rw [w3, hq]; rfl) rfl ?_
    intro i hi
    have h5 : i = 0 ∨ i = 1 ∨ i = 2 ∨ i = 3 ∨ i = 4 ∨ i = 5 := by omega
    rcases h5 with rfl | rfl | rfl | rfl | rfl | rfl
    · have e1 := conv_dig (b := 10) (by decide) hx 0 (by decide)
      have e2 := conv_div (b := 10) (by decide) hx 0
      repeat (first | refine branch_true ?_ | refine branch_false ?_ | (refine branch_t' (decide_eq_true ?_) ?_; focus omega) | (refine branch_f' (decide_eq_false ?_) ?_; focus omega) | (refine branch_t' (beq_iff_eq.2 ?_) ?_; focus omega) | (refine branch_f' (beq_eq_false_iff_ne.2 ?_) ?_; focus omega) | (refine branch_t' (bne_iff_ne.2 ?_) ?_; focus omega) | (refine branch_f' (bne_eq_false_iff_eq.2 ?_) ?_; focus omega) | refine branch_t' (by assumption) ?_ | refine branch_f' (by assumption) ?_)
      repeat (refine need_intro (by decide) ?_)
      refine ⟨1, by decide, by decide, ?_, ?_⟩
      · show [_, _, _, _, _, _, _, _, _, _, _, _, _, _, _, _, _, _, _, _, _, _, _, _, _, _, _, _, _, _, _, _, _, _, _, _, _, _, _, _, _, _, _, _, _, _, _, _, _, _, _, _, _, _] = _
        rw [e2]
        rfl
      · show [_, _, _] = _
        rw [e1]
        rfl
    · have e1 := conv_dig (b := 10) (by decide) hx 1 (by decide)
      have e2 := conv_div (b := 10) (by decide) hx 1
      repeat (first | refine branch_true ?_ | refine branch_false ?_ | (refine branch_t' (decide_eq_true ?_) ?_; focus omega) | (refine branch_f' (decide_eq_false ?_) ?_; focus omega) | (refine branch_t' (beq_iff_eq.2 ?_) ?_; focus omega) | (refine branch_f' (beq_eq_false_iff_ne.2 ?_) ?_; focus omega) | (refine branch_t' (bne_iff_ne.2 ?_) ?_; focus omega) | (refine branch_f' (bne_eq_false_iff_eq.2 ?_) ?_; focus omega) | refine branch_t' (by assumption) ?_ | refine branch_f' (by assumption) ?_)
      repeat (refine need_intro (by decide) ?_)
      refine ⟨2, by decide, by decide, ?_, ?_⟩
      · show [_, _, _, _, _, _, _, _, _, _, _, _, _, _, _, _, _, _, _, _, _, _, _, _, _, _, _, _, _, _, _, _, _, _, _, _, _, _, _, _, _, _, _, _, _, _, _, _, _, _, _, _, _, _] = _
        rw [e2]
        rfl
      · show [_, _, _] = _
        rw [e1]
        rfl
    · have e1 := conv_dig (b := 10) (by decide) hx 2 (by decide)
      have e2 := conv_div (b := 10) (by decide) hx 2
      repeat (first | refine branch_true ?_ | refine branch_false ?_ | (refine branch_t' (decide_eq_true ?_) ?_; focus omega) | (refine branch_f' (decide_eq_false ?_) ?_; focus omega) | (refine branch_t' (beq_iff_eq.2 ?_) ?_; focus omega) | (refine branch_f' (beq_eq_false_iff_ne.2 ?_) ?_; focus omega) | (refine branch_t' (bne_iff_ne.2 ?_) ?_; focus omega) | (refine branch_f' (bne_eq_false_iff_eq.2 ?_) ?_; focus omega) | refine branch_t' (by assumption) ?_ | refine branch_f' (by assumption) ?_)
      repeat (refine need_intro (by decide) ?_)
      refine ⟨3, by decide, by decide, ?_, ?_⟩
      · show [_, _, _, _, _, _, _, _, _, _, _, _, _, _, _, _, _, _, _, _, _, _, _, _, _, _, _, _, _, _, _, _, _, _, _, _, _, _, _, _, _, _, _, _, _, _, _, _, _, _, _, _, _, _] = _
        rw [e2]
        rfl
      · show [_, _, _] = _
        rw [e1]
        rfl
    · have e1 := conv_dig (b := 10) (by decide) hx 3 (by decide)
      have e2 := conv_div (b := 10) (by decide) hx 3
      repeat (first | refine branch_true ?_ | refine branch_false ?_ | (refine branch_t' (decide_eq_true ?_) ?_; focus omega) | (refine branch_f' (decide_eq_false ?_) ?_; focus omega) | (refine branch_t' (beq_iff_eq.2 ?_) ?_; focus omega) | (refine branch_f' (beq_eq_false_iff_ne.2 ?_) ?_; focus omega) | (refine branch_t' (bne_iff_ne.2 ?_) ?_; focus omega) | (refine branch_f' (bne_eq_false_iff_eq.2 ?_) ?_; focus omega) | refine branch_t' (by assumption) ?_ | refine branch_f' (by assumption) ?_)
      repeat (refine need_intro (by decide) ?_)
      refine ⟨4, by decide, by decide, ?_, ?_⟩
      · show [_, _, _, _, _, _, _, _, _, _, _, _, _, _, _, _, _, _, _, _, _, _, _, _, _, _, _, _, _, _, _, _, _, _, _, _, _, _, _, _, _, _, _, _, _, _, _, _, _, _, _, _, _, _] = _
        rw [e2]
        rfl
      · show [_, _, _] = _
        rw [e1]
        rfl
    · have e1 := conv_dig (b := 10) (by decide) hx 4 (by decide)
      have e2 := conv_div (b := 10) (by decide) hx 4
      repeat (first | refine branch_true ?_ | refine branch_false ?_ | (refine branch_t' (decide_eq_true ?_) ?_; focus omega) | (refine branch_f' (decide_eq_false ?_) ?_; focus omega) | (refine branch_t' (beq_iff_eq.2 ?_) ?_; focus omega) | (refine branch_f' (beq_eq_false_iff_ne.2 ?_) ?_; focus omega) | (refine branch_t' (bne_iff_ne.2 ?_) ?_; focus omega) | (refine branch_f' (bne_eq_false_iff_eq.2 ?_) ?_; focus omega) | refine branch_t' (by assumption) ?_ | refine branch_f' (by assumption) ?_)
      repeat (refine need_intro (by decide) ?_)
      refine ⟨5, by decide, by decide, ?_, ?_⟩
      · show [_, _, _, _, _, _, _, _, _, _, _, _, _, _, _, _, _, _, _, _, _, _, _, _, _, _, _, _, _, _, _, _, _, _, _, _, _, _, _, _, _, _, _, _, _, _, _, _, _, _, _, _, _, _] = _
        rw [e2]
        rfl
      · show [_, _, _] = _
        rw [e1]
        rfl
    · repeat (first | refine branch_true ?_ | refine branch_false ?_ | (refine branch_t' (decide_eq_true ?_) ?_; focus omega) | (refine branch_f' (decide_eq_false ?_) ?_; focus omega) | (refine branch_t' (beq_iff_eq.2 ?_) ?_; focus omega) | (refine branch_f' (beq_eq_false_iff_ne.2 ?_) ?_; focus omega) | (refine branch_t' (bne_iff_ne.2 ?_) ?_; focus omega) | (refine branch_f' (bne_eq_false_iff_eq.2 ?_) ?_; focus omega) | refine branch_t' (by assumption) ?_ | refine branch_f' (by assumption) ?_)
      show Eqv _ _
      exact .up (.up (.refl _))
  · have h6 := of_decide_eq_false h6
    obtain ⟨q, hq⟩ : ∃ q : Int, n = q := ⟨_, rfl⟩
    have hna : ((n.natAbs : Nat) : Int) = q := by omega
    by_cases h7 : n.natAbs ≥ 100000
    · rw [if_pos h7]
      repeat (first | refine branch_true ?_ | refine branch_false ?_ | (refine branch_t' (decide_eq_true ?_) ?_; focus omega) | (refine branch_f' (decide_eq_false ?_) ?_; focus omega) | (refine branch_t' (beq_iff_eq.2 ?_) ?_; focus omega) | (refine branch_f' (beq_eq_false_iff_ne.2 ?_) ?_; focus omega) | (refine branch_t' (bne_iff_ne.2 ?_) ?_; focus omega) | (refine branch_f' (bne_eq_false_iff_eq.2 ?_) ?_; focus omega) | refine branch_t' (by assumption) ?_ | refine branch_f' (by assumption) ?_)
      show Eqv _ _
      exact .up (.up (.refl _))
    rw [if_neg h7, if_neg h6]
    repeat (first | refine branch_true ?_ | refine branch_false ?_ | (refine branch_t' (decide_eq_true ?_) ?_; focus omega) | (refine branch_f' (decide_eq_false ?_) ?_; focus omega) | (refine branch_t' (beq_iff_eq.2 ?_) ?_; focus omega) | (refine branch_f' (beq_eq_false_iff_ne.2 ?_) ?_; focus omega) | (refine branch_t' (bne_iff_ne.2 ?_) ?_; focus omega) | (refine branch_f' (bne_eq_false_iff_eq.2 ?_) ?_; focus omega) | refine branch_t' (by assumption) ?_ | refine branch_f' (by assumption) ?_)
    have hx : 0 ≤ q ∧ q ≤ 9223372036854775807 := by omega
    rw [show ((n.natAbs : Nat) : Int) = q from hna]
    refine loop_inv (keep 54 [4, 5, 6, 7, 8]) (fun i : Nat => slots 54 [(4, .ptr ⟨1, 0, 0⟩), (5, .int .i64 0), (6, .int .i64 (dvV 10 q i)), (7, .ptr ⟨2, 0, 0⟩), (8, .int .i64 (4 - i))])
      (fun i => [.cells [.int .u8 c.k, .int .i64 c.a, .int .i64 c.n, .int .i64 c.s], .cells [.int .u8 0, .int .u8 0, .int .u8 0, .int .u8 0, .int .u8 0, .int .u8 0], .cells (shK 1 10 q i)]) (fun i => i ≤ 5) (fun i => 5 - i) 0 (by decide) (by subst hq; rfl) rfl ?_
    intro i hi
    have h5 : i = 0 ∨ i = 1 ∨ i = 2 ∨ i = 3 ∨ i = 4 ∨ i = 5 := by omega
    rcases h5 with rfl | rfl | rfl | rfl | rfl | rfl
    · have e1 := conv_dig (b := 10) (by decide) hx 0 (by decide)
      have e2 := conv_div (b := 10) (by decide) hx 0
      repeat (first | refine branch_true ?_ | refine branch_false ?_ | (refine branch_t' (decide_eq_true ?_) ?_; focus omega) | (refine branch_f' (decide_eq_false ?_) ?_; focus omega) | (refine branch_t' (beq_iff_eq.2 ?_) ?_; focus omega) | (refine branch_f' (beq_eq_false_iff_ne.2 ?_) ?_; focus omega) | (refine branch_t' (bne_iff_ne.2 ?_) ?_; focus omega) | (refine branch_f' (bne_eq_false_iff_eq.2 ?_) ?_; focus omega) | refine branch_t' (by assumption) ?_ | refine branch_f' (by assumption) ?_)
      repeat (refine need_intro (by decide) ?_)
      refine ⟨1, by decide, by decide, ?_, ?_⟩
      · show [_, _, _, _, _, _, _, _, _, _, _, _, _, _, _, _, _, _, _, _, _, _, _, _, _, _, _, _, _, _, _, _, _, _, _, _, _, _, _, _, _, _, _, _, _, _, _, _, _, _, _, _, _, _] = _
        rw [e2]
        rfl
      · show [_, _, _] = _
        rw [e1]
        rfl
    · have e1 := conv_dig (b := 10) (by decide) hx 1 (by decide)
      have e2 := conv_div (b := 10) (by decide) hx 1
      repeat (first | refine branch_true ?_ | refine branch_false ?_ | (refine branch_t' (decide_eq_true ?_) ?_; focus omega) | (refine branch_f' (decide_eq_false ?_) ?_; focus omega) | (refine branch_t' (beq_iff_eq.2 ?_) ?_; focus omega) | (refine branch_f' (beq_eq_false_iff_ne.2 ?_) ?_; focus omega) | (refine branch_t' (bne_iff_ne.2 ?_) ?_; focus omega) | (refine branch_f' (bne_eq_false_iff_eq.2 ?_) ?_; focus omega) | refine branch_t' (by assumption) ?_ | refine branch_f' (by assumption) ?_)
      repeat (refine need_intro (by decide) ?_)
      refine ⟨2, by decide, by decide, ?_, ?_⟩
      · show [_, _, _, _, _, _, _, _, _, _, _, _, _, _, _, _, _, _, _, _, _, _, _, _, _, _, _, _, _, _, _, _, _, _, _, _, _, _, _, _, _, _, _, _, _, _, _, _, _, _, _, _, _, _] = _
        rw [e2]
        rfl
      · show [_, _, _] = _
        rw [e1]
        rfl
    · have e1 := conv_dig (b := 10) (by decide) hx 2 (by decide)
      have e2 := conv_div (b := 10) (by decide) hx 2
      repeat (first | refine branch_true ?_ | refine branch_false ?_ | (refine branch_t' (decide_eq_true ?_) ?_; focus omega) | (refine branch_f' (decide_eq_false ?_) ?_; focus omega) | (refine branch_t' (beq_iff_eq.2 ?_) ?_; focus omega) | (refine branch_f' (beq_eq_false_iff_ne.2 ?_) ?_; focus omega) | (refine branch_t' (bne_iff_ne.2 ?_) ?_; focus omega) | (refine branch_f' (bne_eq_false_iff_eq.2 ?_) ?_; focus omega) | refine branch_t' (by assumption) ?_ | refine branch_f' (by assumption) ?_)
      repeat (refine need_intro (by decide) ?_)
      refine ⟨3, by decide, by decide, ?_, ?_⟩
      · show [_, _, _, _, _, _, _, _, _, _, _, _, _, _, _, _, _, _, _, _, _, _, _, _, _, _, _, _, _, _, _, _, _, _, _, _, _, _, _, _, _, _, _, _, _, _, _, _, _, _, _, _, _, _] = _
        rw [e2]
        rfl
      · show [_, _, _] = _
        rw [e1]
        rfl
    · have e1 := conv_dig (b := 10) (by decide) hx 3 (by decide)
      have e2 := conv_div (b := 10) (by decide) hx 3
      repeat (first | refine branch_true ?_ | refine branch_false ?_ | (refine branch_t' (decide_eq_true ?_) ?_; focus omega) | (refine branch_f' (decide_eq_false ?_) ?_; focus omega) | (refine branch_t' (beq_iff_eq.2 ?_) ?_; focus omega) | (refine branch_f' (beq_eq_false_iff_ne.2 ?_) ?_; focus omega) | (refine branch_t' (bne_iff_ne.2 ?_) ?_; focus omega) | (refine branch_f' (bne_eq_false_iff_eq.2 ?_) ?_; focus omega) | refine branch_t' (by assumption) ?_ | refine branch_f' (by assumption) ?_)
      repeat (refine need_intro (by decide) ?_)
      refine ⟨4, by decide, by decide, ?_, ?_⟩
      · show [_, _, _, _, _, _, _, _, _, _, _, _, _, _, _, _, _, _, _, _, _, _, _, _, _, _, _, _, _, _, _, _, _, _, _, _, _, _, _, _, _, _, _, _, _, _, _, _, _, _, _, _, _, _] = _
        rw [e2]
        rfl
      · show [_, _, _] = _
        rw [e1]
        rfl
    · have e1 := conv_dig (b := 10) (by decide) hx 4 (by decide)
      have e2 := conv_div (b := 10) (by decide) hx 4
      repeat (first | refine branch_true ?_ | refine branch_false ?_ | (refine branch_t' (decide_eq_true ?_) ?_; focus omega) | (refine branch_f' (decide_eq_false ?_) ?_; focus omega) | (refine branch_t' (beq_iff_eq.2 ?_) ?_; focus omega) | (refine branch_f' (beq_eq_false_iff_ne.2 ?_) ?_; focus omega) | (refine branch_t' (bne_iff_ne.2 ?_) ?_; focus omega) | (refine branch_f' (bne_eq_false_iff_eq.2 ?_) ?_; focus omega) | refine branch_t' (by assumption) ?_ | refine branch_f' (by assumption) ?_)
      repeat (refine need_intro (by decide) ?_)
      refine ⟨5, by decide, by decide, ?_, ?_⟩
      · show [_, _, _, _, _, _, _, _, _, _, _, _, _, _, _, _, _, _, _, _, _, _, _, _, _, _, _, _, _, _, _, _, _, _, _, _, _, _, _, _, _, _, _, _, _, _, _, _, _, _, _, _, _, _] = _
        rw [e2]
        rfl
      · show [_, _, _] = _
        rw [e1]
        rfl
    · repeat (first | refine branch_true ?_ | refine branch_false ?_ | (refine branch_t' (decide_eq_true ?_) ?_; focus omega) | (refine branch_f' (decide_eq_false ?_) ?_; focus omega) | (refine branch_t' (beq_iff_eq.2 ?_) ?_; focus omega) | (refine branch_f' (beq_eq_false_iff_ne.2 ?_) ?_; focus omega) | (refine branch_t' (bne_iff_ne.2 ?_) ?_; focus omega) | (refine branch_f' (bne_eq_false_iff_eq.2 ?_) ?_; focus omega) | refine branch_t' (by assumption) ?_ | refine branch_f' (by assumption) ?_)
      show Eqv _ _
      exact .up (.up (.refl _))

theorem shown_c (s a b c d e : Int) : callP Try.prog 35 [.int .u8 s, .int .u8 a, .int .u8 b, .int .u8 c, .int .u8 d, .int .u8 e] (· = .agg [.int .u8 s, .int .u8 a, .int .u8 b, .int .u8 c, .int .u8 d, .int .u8 e]) := by
  refine callE_def env (fn := Try.f35) rfl (by decide) rfl ?_
  show Eqv _ _
  exact .up (.up (.refl _))
theorem angle_c : callP Try.prog 36 [] (· = cA ⟨2, 0, 36000, 14⟩) := by
  refine callE_def env (fn := Try.f36) rfl (by decide) rfl ?_
  show Eqv _ _
  exact .up (.up (.refl _))
def angV : Cmp := ⟨2, 0, 36000, 14⟩
theorem angOk : angV.Ok := ⟨by decide, by decide, by decide, by decide⟩
/-- Five digits as a function of the place. -/
def dgV (a b c d e : Int) : Nat → Int
  | 0 => a | 1 => b | 2 => c | 3 => d | 4 => e | _ => 0
set_option maxHeartbeats 4000000 in
theorem works_c : callP Try.prog 19 [] (· = .bool true) := by
  have d1 : callP Try.prog 15 [.int .i64 4096, cA angV] (· = .tuple [.agg [.int .u8 1, .int .u8 0, .int .u8 9, .int .u8 0, .int .u8 0, .int .u8 0], .int .i64 0]) := decimal_c 4096 angV angOk
  have d2 : callP Try.prog 15 [.int .i64 (-1), cA angV] (· = .tuple [.agg [.int .u8 2, .int .u8 0, .int .u8 0, .int .u8 0, .int .u8 0, .int .u8 2], .int .i64 0]) := decimal_c (-1) angV angOk
  have d3 : callP Try.prog 15 [.int .i64 16384, cA angV] (· = .tuple [.agg [.int .u8 0, .int .u8 0, .int .u8 0, .int .u8 0, .int .u8 0, .int .u8 0], .int .i64 3]) := decimal_c 16384 angV angOk
  have e1 : callP Try.prog 17 [.agg [.int .u8 1, .int .u8 0, .int .u8 9, .int .u8 0, .int .u8 0, .int .u8 0], cA angV] (· = .tuple [.int .i64 4096, .int .i64 0]) := by
    have := fromDec_c 1 (dgV 0 9 0 0 0) angV (by decide) (by decide) angOk
    rwa [show fdV (dgV 0 9 0 0 0) 1 angV = (4096, 0) from by decide +kernel] at this
  have e2 : callP Try.prog 17 [.agg [.int .u8 2, .int .u8 3, .int .u8 6, .int .u8 0, .int .u8 0, .int .u8 0], cA angV] (· = .tuple [.int .i64 0, .int .i64 12]) := by
    have := fromDec_c 2 (dgV 3 6 0 0 0) angV (by decide) (by decide) angOk
    rwa [show fdV (dgV 3 6 0 0 0) 2 angV = (0, 12) from by decide +kernel] at this
  have e3 : callP Try.prog 13 [.agg [.int .u8 0, .int .u8 7, .int .u8 7, .int .u8 9, .int .u8 9, .int .u8 9], .int .i64 2] (· = .tuple [.int .u16 63, .int .i64 0]) := by
    have := fromOct_c 0 (dgV 7 7 9 9 9) 2 (by decide)
    rwa [show foV (dgV 7 7 9 9 9) 0 2 = (63, 0) from by decide +kernel] at this
  have e4 : callP Try.prog 11 [.int .u16 83] (· = .agg [.int .u8 0, .int .u8 0, .int .u8 0, .int .u8 1, .int .u8 2, .int .u8 3]) := octal_c (x := 83) (by decide)
  refine callE_def env (fn := Try.f19) rfl (by decide) rfl ?_
  refine callT_E angle_c rfl ?_
  refine callT_E d1 rfl ?_
  refine callT_E angle_c rfl ?_
  refine callT_E d2 rfl ?_
  refine callT_E angle_c rfl ?_
  refine callT_E d3 rfl ?_
  refine callT_E (shown_c _ _ _ _ _ _) rfl ?_
  refine callT_E angle_c rfl ?_
  refine callT_E e1 rfl ?_
  refine callT_E (shown_c _ _ _ _ _ _) rfl ?_
  refine callT_E angle_c rfl ?_
  refine callT_E e2 rfl ?_
  refine callT_E (shown_c _ _ _ _ _ _) rfl ?_
  refine callT_E e3 rfl ?_
  refine draw_tree (picks [0, 1, 2, 3, 4, 5, 6, 7, 8, 9, 10, 11, 12, 13, 14, 15, 16, 17, 18, 19, 20, 21, 22, 23, 24, 25, 26, 27, 28, 29, 30, 31, 32, 33, 34, 35, 36, 37, 38, 39, 40, 41, 42, 43, 44, 45] .done) (by decide +kernel) ?_
  refine ⟨_, ⟨shown_c _ _ _ _ _ _, rfl⟩, ?_⟩
  repeat (first | refine branch_true ?_ | refine branch_false ?_ | (refine branch_t' (decide_eq_true ?_) ?_; focus omega) | (refine branch_f' (decide_eq_false ?_) ?_; focus omega) | (refine branch_t' (beq_iff_eq.2 ?_) ?_; focus omega) | (refine branch_f' (beq_eq_false_iff_ne.2 ?_) ?_; focus omega) | (refine branch_t' (bne_iff_ne.2 ?_) ?_; focus omega) | (refine branch_f' (bne_eq_false_iff_eq.2 ?_) ?_; focus omega) | refine branch_t' (by assumption) ?_ | refine branch_f' (by assumption) ?_)
  refine ⟨_, ⟨shown_c _ _ _ _ _ _, rfl⟩, ?_⟩
  repeat (first | refine branch_true ?_ | refine branch_false ?_ | (refine branch_t' (decide_eq_true ?_) ?_; focus omega) | (refine branch_f' (decide_eq_false ?_) ?_; focus omega) | (refine branch_t' (beq_iff_eq.2 ?_) ?_; focus omega) | (refine branch_f' (beq_eq_false_iff_ne.2 ?_) ?_; focus omega) | (refine branch_t' (bne_iff_ne.2 ?_) ?_; focus omega) | (refine branch_f' (bne_eq_false_iff_eq.2 ?_) ?_; focus omega) | refine branch_t' (by assumption) ?_ | refine branch_f' (by assumption) ?_)
  refine ⟨_, ⟨e4, rfl⟩, ?_⟩
  repeat (first | refine branch_true ?_ | refine branch_false ?_ | (refine branch_t' (decide_eq_true ?_) ?_; focus omega) | (refine branch_f' (decide_eq_false ?_) ?_; focus omega) | (refine branch_t' (beq_iff_eq.2 ?_) ?_; focus omega) | (refine branch_f' (beq_eq_false_iff_ne.2 ?_) ?_; focus omega) | (refine branch_t' (bne_iff_ne.2 ?_) ?_; focus omega) | (refine branch_f' (bne_eq_false_iff_eq.2 ?_) ?_; focus omega) | refine branch_t' (by assumption) ?_ | refine branch_f' (by assumption) ?_)
  refine ⟨_, ⟨shown_c _ _ _ _ _ _, rfl⟩, ?_⟩
  repeat (first | refine branch_true ?_ | refine branch_false ?_ | (refine branch_t' (decide_eq_true ?_) ?_; focus omega) | (refine branch_f' (decide_eq_false ?_) ?_; focus omega) | (refine branch_t' (beq_iff_eq.2 ?_) ?_; focus omega) | (refine branch_f' (beq_eq_false_iff_ne.2 ?_) ?_; focus omega) | (refine branch_t' (bne_iff_ne.2 ?_) ?_; focus omega) | (refine branch_f' (bne_eq_false_iff_eq.2 ?_) ?_; focus omega) | refine branch_t' (by assumption) ?_ | refine branch_f' (by assumption) ?_)
  show Eqv _ _
  exact .up (.up (.refl _))
end Go.Proofs
/-! Ag. -/
namespace Go.Proofs
open Go.E
set_option maxRecDepth 8000

theorem wrap16 (v : Int) : 0 ≤ IntKind.u16.wrap v ∧ IntKind.u16.wrap v < 65536 := by
  rw [IntKind.wrap_u16]; omega
set_option maxHeartbeats 8000000 in
theorem forms_go (v : Int) (c : Cmp) (hc : c.Ok) (s : Int) (f : Nat → Int) (hs : 0 ≤ s ∧ s < 256) (hf : ∀ j, j < 5 → 0 ≤ f j ∧ f j < 256) : callP Try.prog 3 [.int .i64 v, cA c, shA s f] (· = .bool true) := by
  refine callE_def env (fn := Try.f3) rfl (by decide) rfl ?_
  refine callT_E (octal_c (wrap16 v)) rfl ?_
  refine callT_E (roctal_c (wrap16 v)) rfl ?_
  repeat (first | refine branch_true ?_ | refine branch_false ?_ | (refine branch_t' (decide_eq_true ?_) ?_; focus omega) | (refine branch_f' (decide_eq_false ?_) ?_; focus omega) | (refine branch_t' (beq_iff_eq.2 ?_) ?_; focus omega) | (refine branch_f' (beq_eq_false_iff_ne.2 ?_) ?_; focus omega) | (refine branch_t' (bne_iff_ne.2 ?_) ?_; focus omega) | (refine branch_f' (bne_eq_false_iff_eq.2 ?_) ?_; focus omega) | refine branch_t' (by assumption) ?_ | refine branch_f' (by assumption) ?_ | refine branch_f' (bne_self_eq_false _) ?_ | refine branch_t' (beq_self_eq_true _) ?_ | (refine branch_f' ?_ ?_; focus (simp; done)) | (refine branch_t' ?_ ?_; focus (simp; done)))
  refine loop_weak (fun i : Nat => slots 117 [(0, .int .i64 v), (4, .ptr ⟨0, 0, 0⟩), (5, .ptr ⟨1, 0, 0⟩), (7, .int .i64 i)])
    (fun _ => [.cells [.int .u8 c.k, .int .i64 c.a, .int .i64 c.n, .int .i64 c.s], .cells [.int .u8 s, .int .u8 (f 0), .int .u8 (f 1), .int .u8 (f 2), .int .u8 (f 3), .int .u8 (f 4)]])
    (fun i => i ≤ 7) (fun i => 7 - i) 0 (by decide) (weak_keep (keep 117 [0, 4, 5, 7]) [0, 1] rfl rfl rfl) ?_
  intro i hi
  by_cases hi7 : i = 7
  · subst hi7
    repeat (first | refine branch_true ?_ | refine branch_false ?_ | (refine branch_t' (decide_eq_true ?_) ?_; focus omega) | (refine branch_f' (decide_eq_false ?_) ?_; focus omega) | (refine branch_t' (beq_iff_eq.2 ?_) ?_; focus omega) | (refine branch_f' (beq_eq_false_iff_ne.2 ?_) ?_; focus omega) | (refine branch_t' (bne_iff_ne.2 ?_) ?_; focus omega) | (refine branch_f' (bne_eq_false_iff_eq.2 ?_) ?_; focus omega) | refine branch_t' (by assumption) ?_ | refine branch_f' (by assumption) ?_ | refine branch_f' (bne_self_eq_false _) ?_ | refine branch_t' (beq_self_eq_true _) ?_ | (refine branch_f' ?_ ?_; focus (simp; done)) | (refine branch_t' ?_ ?_; focus (simp; done)))
    repeat (refine need_intro (by decide) ?_)
    refine loop_weak (fun j : Nat => slots 117 [(4, .ptr ⟨0, 0, 0⟩), (5, .ptr ⟨1, 0, 0⟩), (69, .agg [.int .i64 v, .int .i64 (v.tmod 20000), .int .i64 (v.tmod 300000000)]), (70, .int .i64 j)])
      (fun _ => [.cells [.int .u8 c.k, .int .i64 c.a, .int .i64 c.n, .int .i64 c.s], .cells [.int .u8 s, .int .u8 (f 0), .int .u8 (f 1), .int .u8 (f 2), .int .u8 (f 3), .int .u8 (f 4)]])
      (fun j => j ≤ 3) (fun j => 3 - j) 0 (by decide) (weak_keep (keep 117 [4, 5, 69, 70]) [0, 1] rfl rfl rfl) ?_
    intro j hj
    have h3 : j = 0 ∨ j = 1 ∨ j = 2 ∨ j = 3 := by omega
    rcases h3 with rfl | rfl | rfl | rfl
    · repeat (first | refine branch_true ?_ | refine branch_false ?_ | (refine branch_t' (decide_eq_true ?_) ?_; focus omega) | (refine branch_f' (decide_eq_false ?_) ?_; focus omega) | (refine branch_t' (beq_iff_eq.2 ?_) ?_; focus omega) | (refine branch_f' (beq_eq_false_iff_ne.2 ?_) ?_; focus omega) | (refine branch_t' (bne_iff_ne.2 ?_) ?_; focus omega) | (refine branch_f' (bne_eq_false_iff_eq.2 ?_) ?_; focus omega) | refine branch_t' (by assumption) ?_ | refine branch_f' (by assumption) ?_ | refine branch_f' (bne_self_eq_false _) ?_ | refine branch_t' (beq_self_eq_true _) ?_ | (refine branch_f' ?_ ?_; focus (simp; done)) | (refine branch_t' ?_ ?_; focus (simp; done)))
      repeat (refine need_intro (by decide) ?_)
      refine callT_E (decimal_c v c hc) rfl ?_
      refine callT_E (rdecimal_c v c hc) rfl ?_
      repeat (first | refine branch_true ?_ | refine branch_false ?_ | (refine branch_t' (decide_eq_true ?_) ?_; focus omega) | (refine branch_f' (decide_eq_false ?_) ?_; focus omega) | (refine branch_t' (beq_iff_eq.2 ?_) ?_; focus omega) | (refine branch_f' (beq_eq_false_iff_ne.2 ?_) ?_; focus omega) | (refine branch_t' (bne_iff_ne.2 ?_) ?_; focus omega) | (refine branch_f' (bne_eq_false_iff_eq.2 ?_) ?_; focus omega) | refine branch_t' (by assumption) ?_ | refine branch_f' (by assumption) ?_ | refine branch_f' (bne_self_eq_false _) ?_ | refine branch_t' (beq_self_eq_true _) ?_ | (refine branch_f' ?_ ?_; focus (simp; done)) | (refine branch_t' ?_ ?_; focus (simp; done)))
      exact ⟨1, by decide, by decide, weak_keep (keep 117 [4, 5, 69, 70]) [0, 1] rfl rfl rfl⟩
    · repeat (first | refine branch_true ?_ | refine branch_false ?_ | (refine branch_t' (decide_eq_true ?_) ?_; focus omega) | (refine branch_f' (decide_eq_false ?_) ?_; focus omega) | (refine branch_t' (beq_iff_eq.2 ?_) ?_; focus omega) | (refine branch_f' (beq_eq_false_iff_ne.2 ?_) ?_; focus omega) | (refine branch_t' (bne_iff_ne.2 ?_) ?_; focus omega) | (refine branch_f' (bne_eq_false_iff_eq.2 ?_) ?_; focus omega) | refine branch_t' (by assumption) ?_ | refine branch_f' (by assumption) ?_ | refine branch_f' (bne_self_eq_false _) ?_ | refine branch_t' (beq_self_eq_true _) ?_ | (refine branch_f' ?_ ?_; focus (simp; done)) | (refine branch_t' ?_ ?_; focus (simp; done)))
      repeat (refine need_intro (by decide) ?_)
      refine callT_E (decimal_c (v.tmod 20000) c hc) rfl ?_
      refine callT_E (rdecimal_c (v.tmod 20000) c hc) rfl ?_
      repeat (first | refine branch_true ?_ | refine branch_false ?_ | (refine branch_t' (decide_eq_true ?_) ?_; focus omega) | (refine branch_f' (decide_eq_false ?_) ?_; focus omega) | (refine branch_t' (beq_iff_eq.2 ?_) ?_; focus omega) | (refine branch_f' (beq_eq_false_iff_ne.2 ?_) ?_; focus omega) | (refine branch_t' (bne_iff_ne.2 ?_) ?_; focus omega) | (refine branch_f' (bne_eq_false_iff_eq.2 ?_) ?_; focus omega) | refine branch_t' (by assumption) ?_ | refine branch_f' (by assumption) ?_ | refine branch_f' (bne_self_eq_false _) ?_ | refine branch_t' (beq_self_eq_true _) ?_ | (refine branch_f' ?_ ?_; focus (simp; done)) | (refine branch_t' ?_ ?_; focus (simp; done)))
      exact ⟨2, by decide, by decide, weak_keep (keep 117 [4, 5, 69, 70]) [0, 1] rfl rfl rfl⟩
    · repeat (first | refine branch_true ?_ | refine branch_false ?_ | (refine branch_t' (decide_eq_true ?_) ?_; focus omega) | (refine branch_f' (decide_eq_false ?_) ?_; focus omega) | (refine branch_t' (beq_iff_eq.2 ?_) ?_; focus omega) | (refine branch_f' (beq_eq_false_iff_ne.2 ?_) ?_; focus omega) | (refine branch_t' (bne_iff_ne.2 ?_) ?_; focus omega) | (refine branch_f' (bne_eq_false_iff_eq.2 ?_) ?_; focus omega) | refine branch_t' (by assumption) ?_ | refine branch_f' (by assumption) ?_ | refine branch_f' (bne_self_eq_false _) ?_ | refine branch_t' (beq_self_eq_true _) ?_ | (refine branch_f' ?_ ?_; focus (simp; done)) | (refine branch_t' ?_ ?_; focus (simp; done)))
      repeat (refine need_intro (by decide) ?_)
      refine callT_E (decimal_c (v.tmod 300000000) c hc) rfl ?_
      refine callT_E (rdecimal_c (v.tmod 300000000) c hc) rfl ?_
      repeat (first | refine branch_true ?_ | refine branch_false ?_ | (refine branch_t' (decide_eq_true ?_) ?_; focus omega) | (refine branch_f' (decide_eq_false ?_) ?_; focus omega) | (refine branch_t' (beq_iff_eq.2 ?_) ?_; focus omega) | (refine branch_f' (beq_eq_false_iff_ne.2 ?_) ?_; focus omega) | (refine branch_t' (bne_iff_ne.2 ?_) ?_; focus omega) | (refine branch_f' (bne_eq_false_iff_eq.2 ?_) ?_; focus omega) | refine branch_t' (by assumption) ?_ | refine branch_f' (by assumption) ?_ | refine branch_f' (bne_self_eq_false _) ?_ | refine branch_t' (beq_self_eq_true _) ?_ | (refine branch_f' ?_ ?_; focus (simp; done)) | (refine branch_t' ?_ ?_; focus (simp; done)))
      exact ⟨3, by decide, by decide, weak_keep (keep 117 [4, 5, 69, 70]) [0, 1] rfl rfl rfl⟩
    · repeat (first | refine branch_true ?_ | refine branch_false ?_ | (refine branch_t' (decide_eq_true ?_) ?_; focus omega) | (refine branch_f' (decide_eq_false ?_) ?_; focus omega) | (refine branch_t' (beq_iff_eq.2 ?_) ?_; focus omega) | (refine branch_f' (beq_eq_false_iff_ne.2 ?_) ?_; focus omega) | (refine branch_t' (bne_iff_ne.2 ?_) ?_; focus omega) | (refine branch_f' (bne_eq_false_iff_eq.2 ?_) ?_; focus omega) | refine branch_t' (by assumption) ?_ | refine branch_f' (by assumption) ?_ | refine branch_f' (bne_self_eq_false _) ?_ | refine branch_t' (beq_self_eq_true _) ?_ | (refine branch_f' ?_ ?_; focus (simp; done)) | (refine branch_t' ?_ ?_; focus (simp; done)))
      refine callT_E (fromDec_c s f c hs hf hc) rfl ?_
      refine callT_E (rfromDec_c s f c hs hf hc) rfl ?_
      repeat (first | refine branch_true ?_ | refine branch_false ?_ | (refine branch_t' (decide_eq_true ?_) ?_; focus omega) | (refine branch_f' (decide_eq_false ?_) ?_; focus omega) | (refine branch_t' (beq_iff_eq.2 ?_) ?_; focus omega) | (refine branch_f' (beq_eq_false_iff_ne.2 ?_) ?_; focus omega) | (refine branch_t' (bne_iff_ne.2 ?_) ?_; focus omega) | (refine branch_f' (bne_eq_false_iff_eq.2 ?_) ?_; focus omega) | refine branch_t' (by assumption) ?_ | refine branch_f' (by assumption) ?_ | refine branch_f' (bne_self_eq_false _) ?_ | refine branch_t' (beq_self_eq_true _) ?_ | (refine branch_f' ?_ ?_; focus (simp; done)) | (refine branch_t' ?_ ?_; focus (simp; done)))
      refine callT_E works_c rfl ?_
      repeat (first | refine branch_true ?_ | refine branch_false ?_ | (refine branch_t' (decide_eq_true ?_) ?_; focus omega) | (refine branch_f' (decide_eq_false ?_) ?_; focus omega) | (refine branch_t' (beq_iff_eq.2 ?_) ?_; focus omega) | (refine branch_f' (beq_eq_false_iff_ne.2 ?_) ?_; focus omega) | (refine branch_t' (bne_iff_ne.2 ?_) ?_; focus omega) | (refine branch_f' (bne_eq_false_iff_eq.2 ?_) ?_; focus omega) | refine branch_t' (by assumption) ?_ | refine branch_f' (by assumption) ?_ | refine branch_f' (bne_self_eq_false _) ?_ | refine branch_t' (beq_self_eq_true _) ?_ | (refine branch_f' ?_ ?_; focus (simp; done)) | (refine branch_t' ?_ ?_; focus (simp; done)))
      show Eqv _ _
      exact .up (.up (.refl _))
  · repeat (first | refine branch_true ?_ | refine branch_false ?_ | (refine branch_t' (decide_eq_true ?_) ?_; focus omega) | (refine branch_f' (decide_eq_false ?_) ?_; focus omega) | (refine branch_t' (beq_iff_eq.2 ?_) ?_; focus omega) | (refine branch_f' (beq_eq_false_iff_ne.2 ?_) ?_; focus omega) | (refine branch_t' (bne_iff_ne.2 ?_) ?_; focus omega) | (refine branch_f' (bne_eq_false_iff_eq.2 ?_) ?_; focus omega) | refine branch_t' (by assumption) ?_ | refine branch_f' (by assumption) ?_ | refine branch_f' (bne_self_eq_false _) ?_ | refine branch_t' (beq_self_eq_true _) ?_ | (refine branch_f' ?_ ?_; focus (simp; done)) | (refine branch_t' ?_ ?_; focus (simp; done)))
    refine loop_weak (fun j : Nat => slots 117 [(0, .int .i64 v), (4, .ptr ⟨0, 0, 0⟩), (5, .ptr ⟨1, 0, 0⟩), (7, .int .i64 i), (39, .agg [.int .u8 s, .int .u8 (f 0), .int .u8 (f 1), .int .u8 (f 2), .int .u8 (f 3), .int .u8 (f 4), .int .u8 0, .int .u8 (f 0), .int .u8 (f 1), .int .u8 (f 2), .int .u8 (f 3), .int .u8 (f 4)]), (40, .int .i64 j)])
      (fun _ => [.cells [.int .u8 c.k, .int .i64 c.a, .int .i64 c.n, .int .i64 c.s], .cells [.int .u8 s, .int .u8 (f 0), .int .u8 (f 1), .int .u8 (f 2), .int .u8 (f 3), .int .u8 (f 4)]])
      (fun j => j ≤ 2) (fun j => 2 - j) 0 (by decide) (weak_keep (keep 117 [0, 4, 5, 7, 39, 40]) [0, 1] rfl rfl rfl) ?_
    intro j hj
    have h3 : j = 0 ∨ j = 1 ∨ j = 2 := by omega
    rcases h3 with rfl | rfl | rfl
    · repeat (first | refine branch_true ?_ | refine branch_false ?_ | (refine branch_t' (decide_eq_true ?_) ?_; focus omega) | (refine branch_f' (decide_eq_false ?_) ?_; focus omega) | (refine branch_t' (beq_iff_eq.2 ?_) ?_; focus omega) | (refine branch_f' (beq_eq_false_iff_ne.2 ?_) ?_; focus omega) | (refine branch_t' (bne_iff_ne.2 ?_) ?_; focus omega) | (refine branch_f' (bne_eq_false_iff_eq.2 ?_) ?_; focus omega) | refine branch_t' (by assumption) ?_ | refine branch_f' (by assumption) ?_ | refine branch_f' (bne_self_eq_false _) ?_ | refine branch_t' (beq_self_eq_true _) ?_ | (refine branch_f' ?_ ?_; focus (simp; done)) | (refine branch_t' ?_ ?_; focus (simp; done)))
      repeat (refine need_intro (by decide) ?_)
      refine callT_E (fromOct_c s f i hf) rfl ?_
      refine callT_E (rfromOct_c s f i hf) rfl ?_
      repeat (first | refine branch_true ?_ | refine branch_false ?_ | (refine branch_t' (decide_eq_true ?_) ?_; focus omega) | (refine branch_f' (decide_eq_false ?_) ?_; focus omega) | (refine branch_t' (beq_iff_eq.2 ?_) ?_; focus omega) | (refine branch_f' (beq_eq_false_iff_ne.2 ?_) ?_; focus omega) | (refine branch_t' (bne_iff_ne.2 ?_) ?_; focus omega) | (refine branch_f' (bne_eq_false_iff_eq.2 ?_) ?_; focus omega) | refine branch_t' (by assumption) ?_ | refine branch_f' (by assumption) ?_ | refine branch_f' (bne_self_eq_false _) ?_ | refine branch_t' (beq_self_eq_true _) ?_ | (refine branch_f' ?_ ?_; focus (simp; done)) | (refine branch_t' ?_ ?_; focus (simp; done)))
      exact ⟨1, by decide, by decide, weak_keep (keep 117 [0, 4, 5, 7, 39, 40]) [0, 1] rfl rfl rfl⟩
    · repeat (first | refine branch_true ?_ | refine branch_false ?_ | (refine branch_t' (decide_eq_true ?_) ?_; focus omega) | (refine branch_f' (decide_eq_false ?_) ?_; focus omega) | (refine branch_t' (beq_iff_eq.2 ?_) ?_; focus omega) | (refine branch_f' (beq_eq_false_iff_ne.2 ?_) ?_; focus omega) | (refine branch_t' (bne_iff_ne.2 ?_) ?_; focus omega) | (refine branch_f' (bne_eq_false_iff_eq.2 ?_) ?_; focus omega) | refine branch_t' (by assumption) ?_ | refine branch_f' (by assumption) ?_ | refine branch_f' (bne_self_eq_false _) ?_ | refine branch_t' (beq_self_eq_true _) ?_ | (refine branch_f' ?_ ?_; focus (simp; done)) | (refine branch_t' ?_ ?_; focus (simp; done)))
      repeat (refine need_intro (by decide) ?_)
      refine callT_E (fromOct_c 0 f i hf) rfl ?_
      refine callT_E (rfromOct_c 0 f i hf) rfl ?_
      repeat (first | refine branch_true ?_ | refine branch_false ?_ | (refine branch_t' (decide_eq_true ?_) ?_; focus omega) | (refine branch_f' (decide_eq_false ?_) ?_; focus omega) | (refine branch_t' (beq_iff_eq.2 ?_) ?_; focus omega) | (refine branch_f' (beq_eq_false_iff_ne.2 ?_) ?_; focus omega) | (refine branch_t' (bne_iff_ne.2 ?_) ?_; focus omega) | (refine branch_f' (bne_eq_false_iff_eq.2 ?_) ?_; focus omega) | refine branch_t' (by assumption) ?_ | refine branch_f' (by assumption) ?_ | refine branch_f' (bne_self_eq_false _) ?_ | refine branch_t' (beq_self_eq_true _) ?_ | (refine branch_f' ?_ ?_; focus (simp; done)) | (refine branch_t' ?_ ?_; focus (simp; done)))
      exact ⟨2, by decide, by decide, weak_keep (keep 117 [0, 4, 5, 7, 39, 40]) [0, 1] rfl rfl rfl⟩
    · repeat (first | refine branch_true ?_ | refine branch_false ?_ | (refine branch_t' (decide_eq_true ?_) ?_; focus omega) | (refine branch_f' (decide_eq_false ?_) ?_; focus omega) | (refine branch_t' (beq_iff_eq.2 ?_) ?_; focus omega) | (refine branch_f' (beq_eq_false_iff_ne.2 ?_) ?_; focus omega) | (refine branch_t' (bne_iff_ne.2 ?_) ?_; focus omega) | (refine branch_f' (bne_eq_false_iff_eq.2 ?_) ?_; focus omega) | refine branch_t' (by assumption) ?_ | refine branch_f' (by assumption) ?_ | refine branch_f' (bne_self_eq_false _) ?_ | refine branch_t' (beq_self_eq_true _) ?_ | (refine branch_f' ?_ ?_; focus (simp; done)) | (refine branch_t' ?_ ?_; focus (simp; done)))
      refine ⟨i + 1, by omega, by omega, weak_keep (keep 117 [0, 4, 5, 7]) [0, 1] rfl ?_ rfl⟩
      show [_, _, _, _, _, _, _, _, _, _, _, _, _, _, _, _, _, _, _, _, _, _, _, _, _, _, _, _, _, _, _, _, _, _, _, _, _, _, _, _, _, _, _, _, _, _, _, _, _, _, _, _, _, _, _, _, _, _, _, _, _, _, _, _, _, _, _, _, _, _, _, _, _, _, _, _, _, _, _, _, _, _, _, _, _, _, _, _, _, _, _, _, _, _, _, _, _, _, _, _, _, _, _, _, _, _, _, _, _, _, _, _, _, _, _, _, _] = _
      have e3 : IntKind.i64.wrap ((i : Int) + 1) = ((i + 1 : Nat) : Int) := by rw [wi (by omega) (by omega)]; rfl
      rw [e3]
      rfl
end Go.Proofs
