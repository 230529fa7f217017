/- Chapter 29, part h: rounding, digits: the plain laws. -/
import Derived.Test.YtbbgfinnhaekjaaC5
set_option linter.unusedVariables false
set_option linter.unusedSimpArgs false
/-! Ah. -/
namespace Go.Proofs
open Go.E
set_option maxRecDepth 8000

theorem rpV_err {p q : Int} (hq : 1 ≤ q) : -q ≤ 2 * p - 2 * q * rpV p q ∧ 2 * p - 2 * q * rpV p q < q := by
  have e := Int.mul_ediv_add_emod (2 * p + q) (2 * q)
  have h0 := Int.emod_nonneg (2 * p + q) (b := 2 * q) (by omega)
  have h1 := Int.emod_lt_of_pos (2 * p + q) (b := 2 * q) (by omega)
  unfold rpV
  omega
theorem rV_err {p q : Int} (hq : 1 ≤ q) : -q ≤ 2 * p - 2 * q * rV p q ∧ 2 * p - 2 * q * rV p q ≤ q := by
  unfold rV
  split
  · have := rpV_err (p := -p) hq
    rw [Int.mul_neg]
    omega
  · have := rpV_err (p := p) hq
    omega
theorem rV_uniq {p q d : Int} (hq : 1 ≤ q) (h1 : -q < 2 * p - 2 * q * d) (h2 : 2 * p - 2 * q * d < q) : rV p q = d := by
  have e := rV_err (p := p) hq
  generalize rV p q = r at *
  rw [Int.mul_assoc] at *
  have key : q * r - q * d = q * (r - d) := by rw [Int.mul_sub]
  rcases Int.lt_trichotomy r d with h | h | h
  · have := Int.mul_le_mul_of_nonneg_left (show r - d ≤ -1 by omega) (show 0 ≤ q by omega)
    omega
  · exact h
  · have := Int.mul_le_mul_of_nonneg_left (show 1 ≤ r - d by omega) (show 0 ≤ q by omega)
    omega
theorem rpV_zero {q : Int} (hq : 1 ≤ q) : rpV 0 q = 0 := by
  unfold rpV
  exact Int.ediv_eq_zero_of_lt (by omega) (by omega)
theorem rV_neg {p q : Int} (hq : 1 ≤ q) : rV (-p) q = -rV p q := by
  unfold rV
  rcases Int.lt_trichotomy p 0 with h | h | h
  · rw [if_neg (by omega), if_pos h, Int.neg_neg]
  · subst h
    rw [if_neg (by omega), if_neg (by omega)]
    show rpV 0 q = -rpV 0 q
    rw [rpV_zero hq]; rfl
  · rw [if_pos (by omega), if_neg (by omega), Int.neg_neg]
theorem rpV_mono {p p' q : Int} (hq : 1 ≤ q) (h : p ≤ p') : rpV p q ≤ rpV p' q := Int.ediv_le_ediv (by omega) (by omega)
theorem rV_mono {p p' q : Int} (hq : 1 ≤ q) (h : p ≤ p') : rV p q ≤ rV p' q := by
  unfold rV
  by_cases h1 : p < 0
  · rw [if_pos h1]
    have a := rpV_b (p := -p) (q := q) (by omega) hq
    by_cases h2 : p' < 0
    · rw [if_pos h2]
      have := rpV_mono (p := -p') (p' := -p) hq (by omega)
      omega
    · rw [if_neg h2]
      have b := rpV_b (p := p') (q := q) (by omega) hq
      omega
  · rw [if_neg h1, if_neg (by omega)]
    exact rpV_mono hq h
theorem decP_dig {q : Int} (h : 0 ≤ q ∧ q < 100000) : decP (digF 10 q) 5 = q := by
  simp only [decP, digF, dvV, Nat.sub_zero, Nat.reduceSub]
  omega
theorem dig_decP {f : Nat → Int} (hf : ∀ j, j < 5 → 0 ≤ f j ∧ f j ≤ 9) : ∀ i, i < 5 → digF 10 (decP f 5) i = f i := by
  have h0 := hf 0 (by decide)
  have h1 := hf 1 (by decide)
  have h2 := hf 2 (by decide)
  have h3 := hf 3 (by decide)
  have h4 := hf 4 (by decide)
  intro i hi
  have h5 : i = 0 ∨ i = 1 ∨ i = 2 ∨ i = 3 ∨ i = 4 := by omega
  rcases h5 with rfl | rfl | rfl | rfl | rfl
  all_goals
    simp only [decP, digF, dvV, Nat.sub_zero, Nat.reduceSub]
    omega
theorem shA_congr {s : Int} {f g : Nat → Int} (h : ∀ i, i < 5 → f i = g i) : shA s f = shA s g := by
  rw [shA, shA, h 0 (by decide), h 1 (by decide), h 2 (by decide), h 3 (by decide), h 4 (by decide)]
theorem octP_dig {q : Int} (h : 0 ≤ q ∧ q < 32768) : octP (digF 8 q) 1 = q / 4096 ∧ octP (digF 8 q) 2 = q / 512 ∧ octP (digF 8 q) 3 = q / 64 ∧ octP (digF 8 q) 4 = q / 8 ∧ octP (digF 8 q) 5 = q := by
  simp only [octP, digF, dvV, Nat.sub_zero, Nat.reduceSub]
  omega
theorem foV_dig {q : Int} (n : Nat) (hn : 1 ≤ n ∧ n ≤ 5) : foV (digF 8 q) 0 n = (octP (digF 8 q) n, 0) := by
  rw [foV, if_neg (by omega), Int.toNat_natCast, if_neg]
  rw [over_false (fun j _ => by have := digF_bound (b := 8) (n := q) (by decide) j; omega)]
  decide
theorem foV_bad {f : Nat → Int} (n j : Nat) (hn : 1 ≤ n ∧ n ≤ 5) (hj : j < n) (h : f j > 7) : foV f 0 n = (0, 5) := by
  rw [foV, if_neg (by omega), Int.toNat_natCast, if_pos (over_true j hj h)]
theorem foV_sign {f : Nat → Int} {s n : Int} (h : s ≠ 0) : foV f s n = (0, 2) := by
  rw [foV, if_pos (by omega)]
/-- One digit changed. -/
def updF (f : Nat → Int) (i : Nat) (x : Int) (j : Nat) : Int := if j = i then x else f j
theorem updF_self (f : Nat → Int) (i : Nat) (x : Int) : updF f i x i = x := if_pos rfl

set_option maxHeartbeats 8000000 in
theorem octals_go (w g : Int) (hw : 0 ≤ w ∧ w < 65536) (hg : 0 ≤ g ∧ g < 256) : callP Try.prog 5 [.int .u16 w, .int .u8 g] (· = .bool true) := by
  have hq : 0 ≤ w % 32768 ∧ w % 32768 < 32768 := by omega
  have hqe : w.tmod 32768 = w % 32768 := Int.tmod_eq_emod_of_nonneg hw.1
  have ho := octP_dig hq
  have hd : ∀ i, 0 ≤ digF 8 (w % 32768) i ∧ digF 8 (w % 32768) i < 8 := fun i => digF_bound (by decide) i
  have b1 : IntKind.u8.wrap (8 + g.tmod 3) = 8 + g % 3 := by rw [Int.tmod_eq_emod_of_nonneg hg.1, wu8 (by omega) (by omega)]
  have b2 : IntKind.u8.wrap (1 + g.tmod 255) = 1 + g % 255 := by rw [Int.tmod_eq_emod_of_nonneg hg.1, wu8 (by omega) (by omega)]
  refine callE_def env (fn := Try.f5) rfl (by decide) rfl ?_
  refine callT_E (octal_c hw) rfl ?_
  refine loop_weak (fun i : Nat => slots 75 [(0, .int .u16 w), (1, .int .u8 g), (5, .ptr ⟨0, 0, 0⟩), (6, .int .i64 (i + 1))])
    (fun _ => [.cells [.int .u8 0, .int .u8 (digF 8 (w % 32768) 0), .int .u8 (digF 8 (w % 32768) 1), .int .u8 (digF 8 (w % 32768) 2), .int .u8 (digF 8 (w % 32768) 3), .int .u8 (digF 8 (w % 32768) 4)]])
    (fun i => i ≤ 5) (fun i => 5 - i) 0 (by decide) (weak_keep (keep 75 [0, 1, 5, 6]) [0] rfl rfl rfl) ?_
  intro i hi
  have h5 : i = 0 ∨ i = 1 ∨ i = 2 ∨ i = 3 ∨ i = 4 ∨ i = 5 := by omega
  rcases h5 with rfl | rfl | rfl | rfl | rfl | rfl
  · repeat (first | refine branch_true ?_ | refine branch_false ?_ | (refine branch_t' (decide_eq_true ?_) ?_; focus omega) | (refine branch_f' (decide_eq_false ?_) ?_; focus omega) | (refine branch_t' (beq_iff_eq.2 ?_) ?_; focus omega) | (refine branch_f' (beq_eq_false_iff_ne.2 ?_) ?_; focus omega) | (refine branch_t' (bne_iff_ne.2 ?_) ?_; focus omega) | (refine branch_f' (bne_eq_false_iff_eq.2 ?_) ?_; focus omega) | refine branch_t' (by assumption) ?_ | refine branch_f' (by assumption) ?_ | refine branch_f' (bne_self_eq_false _) ?_ | refine branch_t' (beq_self_eq_true _) ?_ | (refine branch_f' ?_ ?_; focus (simp; done)) | (refine branch_t' ?_ ?_; focus (simp; done)))
    have c1 := fromOct_c 0 (digF 8 (w % 32768)) 1 (fun j _ => by have := hd j; omega)
    rw [show foV (digF 8 (w % 32768)) 0 1 = _ from foV_dig 1 (by decide), ho.1] at c1
    have hu : ∀ j, j < 5 → 0 ≤ updF (digF 8 (w % 32768)) 0 (IntKind.u8.wrap (8 + g.tmod 3)) j ∧ updF (digF 8 (w % 32768)) 0 (IntKind.u8.wrap (8 + g.tmod 3)) j < 256 := fun j _ => by
      have := hd j
      unfold updF
      split <;> omega
    have c2 := fromOct_c 0 (updF (digF 8 (w % 32768)) 0 (IntKind.u8.wrap (8 + g.tmod 3))) 1 hu
    rw [show foV (updF (digF 8 (w % 32768)) 0 (IntKind.u8.wrap (8 + g.tmod 3))) 0 1 = _ from foV_bad 1 0 (by decide) (by decide) (by rw [updF_self]; omega)] at c2
    have c3 := fromOct_c (IntKind.u8.wrap (1 + g.tmod 255)) (updF (digF 8 (w % 32768)) 0 (IntKind.u8.wrap (8 + g.tmod 3))) 1 hu
    rw [foV_sign (by omega)] at c3
    refine callT_E c1 rfl ?_
    repeat (first | refine need_intro (by decide) ?_ | refine branch_true ?_ | refine branch_false ?_ | (refine branch_t' (decide_eq_true ?_) ?_; focus omega) | (refine branch_f' (decide_eq_false ?_) ?_; focus omega) | (refine branch_t' (beq_iff_eq.2 ?_) ?_; focus omega) | (refine branch_f' (beq_eq_false_iff_ne.2 ?_) ?_; focus omega) | (refine branch_t' (bne_iff_ne.2 ?_) ?_; focus omega) | (refine branch_f' (bne_eq_false_iff_eq.2 ?_) ?_; focus omega) | refine branch_t' (by assumption) ?_ | refine branch_f' (by assumption) ?_ | refine branch_f' (bne_self_eq_false _) ?_ | refine branch_t' (beq_self_eq_true _) ?_ | (refine branch_f' ?_ ?_; focus (simp; done)) | (refine branch_t' ?_ ?_; focus (simp; done)))
    refine branch_f' (bne_eq_false_iff_eq.2 ?_) ?_
    · show w % 32768 / 4096 = (w.tmod 32768).fdiv (2 ^ 12)
      rw [hqe, Int.fdiv_eq_ediv_of_nonneg _ (by decide)]
      rfl
    repeat (first | refine need_intro (by decide) ?_ | refine branch_true ?_ | refine branch_false ?_ | (refine branch_t' (decide_eq_true ?_) ?_; focus omega) | (refine branch_f' (decide_eq_false ?_) ?_; focus omega) | (refine branch_t' (beq_iff_eq.2 ?_) ?_; focus omega) | (refine branch_f' (beq_eq_false_iff_ne.2 ?_) ?_; focus omega) | (refine branch_t' (bne_iff_ne.2 ?_) ?_; focus omega) | (refine branch_f' (bne_eq_false_iff_eq.2 ?_) ?_; focus omega) | refine branch_t' (by assumption) ?_ | refine branch_f' (by assumption) ?_ | refine branch_f' (bne_self_eq_false _) ?_ | refine branch_t' (beq_self_eq_true _) ?_ | (refine branch_f' ?_ ?_; focus (simp; done)) | (refine branch_t' ?_ ?_; focus (simp; done)))
    refine callT_E c2 rfl ?_
    repeat (first | refine need_intro (by decide) ?_ | refine branch_true ?_ | refine branch_false ?_ | (refine branch_t' (decide_eq_true ?_) ?_; focus omega) | (refine branch_f' (decide_eq_false ?_) ?_; focus omega) | (refine branch_t' (beq_iff_eq.2 ?_) ?_; focus omega) | (refine branch_f' (beq_eq_false_iff_ne.2 ?_) ?_; focus omega) | (refine branch_t' (bne_iff_ne.2 ?_) ?_; focus omega) | (refine branch_f' (bne_eq_false_iff_eq.2 ?_) ?_; focus omega) | refine branch_t' (by assumption) ?_ | refine branch_f' (by assumption) ?_ | refine branch_f' (bne_self_eq_false _) ?_ | refine branch_t' (beq_self_eq_true _) ?_ | (refine branch_f' ?_ ?_; focus (simp; done)) | (refine branch_t' ?_ ?_; focus (simp; done)))
    refine callT_E c3 rfl ?_
    repeat (first | refine branch_true ?_ | refine branch_false ?_ | (refine branch_t' (decide_eq_true ?_) ?_; focus omega) | (refine branch_f' (decide_eq_false ?_) ?_; focus omega) | (refine branch_t' (beq_iff_eq.2 ?_) ?_; focus omega) | (refine branch_f' (beq_eq_false_iff_ne.2 ?_) ?_; focus omega) | (refine branch_t' (bne_iff_ne.2 ?_) ?_; focus omega) | (refine branch_f' (bne_eq_false_iff_eq.2 ?_) ?_; focus omega) | refine branch_t' (by assumption) ?_ | refine branch_f' (by assumption) ?_ | refine branch_f' (bne_self_eq_false _) ?_ | refine branch_t' (beq_self_eq_true _) ?_ | (refine branch_f' ?_ ?_; focus (simp; done)) | (refine branch_t' ?_ ?_; focus (simp; done)))
    exact ⟨1, by decide, by decide, weak_keep (keep 75 [0, 1, 5, 6]) [0] rfl rfl rfl⟩
  · repeat (first | refine branch_true ?_ | refine branch_false ?_ | (refine branch_t' (decide_eq_true ?_) ?_; focus omega) | (refine branch_f' (decide_eq_false ?_) ?_; focus omega) | (refine branch_t' (beq_iff_eq.2 ?_) ?_; focus omega) | (refine branch_f' (beq_eq_false_iff_ne.2 ?_) ?_; focus omega) | (refine branch_t' (bne_iff_ne.2 ?_) ?_; focus omega) | (refine branch_f' (bne_eq_false_iff_eq.2 ?_) ?_; focus omega) | refine branch_t' (by assumption) ?_ | refine branch_f' (by assumption) ?_ | refine branch_f' (bne_self_eq_false _) ?_ | refine branch_t' (beq_self_eq_true _) ?_ | (refine branch_f' ?_ ?_; focus (simp; done)) | (refine branch_t' ?_ ?_; focus (simp; done)))
    have c1 := fromOct_c 0 (digF 8 (w % 32768)) 2 (fun j _ => by have := hd j; omega)
    rw [show foV (digF 8 (w % 32768)) 0 2 = _ from foV_dig 2 (by decide), ho.2.1] at c1
    have hu : ∀ j, j < 5 → 0 ≤ updF (digF 8 (w % 32768)) 1 (IntKind.u8.wrap (8 + g.tmod 3)) j ∧ updF (digF 8 (w % 32768)) 1 (IntKind.u8.wrap (8 + g.tmod 3)) j < 256 := fun j _ => by
      have := hd j
      unfold updF
      split <;> omega
    have c2 := fromOct_c 0 (updF (digF 8 (w % 32768)) 1 (IntKind.u8.wrap (8 + g.tmod 3))) 2 hu
    rw [show foV (updF (digF 8 (w % 32768)) 1 (IntKind.u8.wrap (8 + g.tmod 3))) 0 2 = _ from foV_bad 2 1 (by decide) (by decide) (by rw [updF_self]; omega)] at c2
    have c3 := fromOct_c (IntKind.u8.wrap (1 + g.tmod 255)) (updF (digF 8 (w % 32768)) 1 (IntKind.u8.wrap (8 + g.tmod 3))) 2 hu
    rw [foV_sign (by omega)] at c3
    refine callT_E c1 rfl ?_
    repeat (first | refine need_intro (by decide) ?_ | refine branch_true ?_ | refine branch_false ?_ | (refine branch_t' (decide_eq_true ?_) ?_; focus omega) | (refine branch_f' (decide_eq_false ?_) ?_; focus omega) | (refine branch_t' (beq_iff_eq.2 ?_) ?_; focus omega) | (refine branch_f' (beq_eq_false_iff_ne.2 ?_) ?_; focus omega) | (refine branch_t' (bne_iff_ne.2 ?_) ?_; focus omega) | (refine branch_f' (bne_eq_false_iff_eq.2 ?_) ?_; focus omega) | refine branch_t' (by assumption) ?_ | refine branch_f' (by assumption) ?_ | refine branch_f' (bne_self_eq_false _) ?_ | refine branch_t' (beq_self_eq_true _) ?_ | (refine branch_f' ?_ ?_; focus (simp; done)) | (refine branch_t' ?_ ?_; focus (simp; done)))
    refine branch_f' (bne_eq_false_iff_eq.2 ?_) ?_
    · show w % 32768 / 512 = (w.tmod 32768).fdiv (2 ^ 9)
      rw [hqe, Int.fdiv_eq_ediv_of_nonneg _ (by decide)]
      rfl
    repeat (first | refine need_intro (by decide) ?_ | refine branch_true ?_ | refine branch_false ?_ | (refine branch_t' (decide_eq_true ?_) ?_; focus omega) | (refine branch_f' (decide_eq_false ?_) ?_; focus omega) | (refine branch_t' (beq_iff_eq.2 ?_) ?_; focus omega) | (refine branch_f' (beq_eq_false_iff_ne.2 ?_) ?_; focus omega) | (refine branch_t' (bne_iff_ne.2 ?_) ?_; focus omega) | (refine branch_f' (bne_eq_false_iff_eq.2 ?_) ?_; focus omega) | refine branch_t' (by assumption) ?_ | refine branch_f' (by assumption) ?_ | refine branch_f' (bne_self_eq_false _) ?_ | refine branch_t' (beq_self_eq_true _) ?_ | (refine branch_f' ?_ ?_; focus (simp; done)) | (refine branch_t' ?_ ?_; focus (simp; done)))
    refine callT_E c2 rfl ?_
    repeat (first | refine need_intro (by decide) ?_ | refine branch_true ?_ | refine branch_false ?_ | (refine branch_t' (decide_eq_true ?_) ?_; focus omega) | (refine branch_f' (decide_eq_false ?_) ?_; focus omega) | (refine branch_t' (beq_iff_eq.2 ?_) ?_; focus omega) | (refine branch_f' (beq_eq_false_iff_ne.2 ?_) ?_; focus omega) | (refine branch_t' (bne_iff_ne.2 ?_) ?_; focus omega) | (refine branch_f' (bne_eq_false_iff_eq.2 ?_) ?_; focus omega) | refine branch_t' (by assumption) ?_ | refine branch_f' (by assumption) ?_ | refine branch_f' (bne_self_eq_false _) ?_ | refine branch_t' (beq_self_eq_true _) ?_ | (refine branch_f' ?_ ?_; focus (simp; done)) | (refine branch_t' ?_ ?_; focus (simp; done)))
    refine callT_E c3 rfl ?_
    repeat (first | refine branch_true ?_ | refine branch_false ?_ | (refine branch_t' (decide_eq_true ?_) ?_; focus omega) | (refine branch_f' (decide_eq_false ?_) ?_; focus omega) | (refine branch_t' (beq_iff_eq.2 ?_) ?_; focus omega) | (refine branch_f' (beq_eq_false_iff_ne.2 ?_) ?_; focus omega) | (refine branch_t' (bne_iff_ne.2 ?_) ?_; focus omega) | (refine branch_f' (bne_eq_false_iff_eq.2 ?_) ?_; focus omega) | refine branch_t' (by assumption) ?_ | refine branch_f' (by assumption) ?_ | refine branch_f' (bne_self_eq_false _) ?_ | refine branch_t' (beq_self_eq_true _) ?_ | (refine branch_f' ?_ ?_; focus (simp; done)) | (refine branch_t' ?_ ?_; focus (simp; done)))
    exact ⟨2, by decide, by decide, weak_keep (keep 75 [0, 1, 5, 6]) [0] rfl rfl rfl⟩
  · repeat (first | refine branch_true ?_ | refine branch_false ?_ | (refine branch_t' (decide_eq_true ?_) ?_; focus omega) | (refine branch_f' (decide_eq_false ?_) ?_; focus omega) | (refine branch_t' (beq_iff_eq.2 ?_) ?_; focus omega) | (refine branch_f' (beq_eq_false_iff_ne.2 ?_) ?_; focus omega) | (refine branch_t' (bne_iff_ne.2 ?_) ?_; focus omega) | (refine branch_f' (bne_eq_false_iff_eq.2 ?_) ?_; focus omega) | refine branch_t' (by assumption) ?_ | refine branch_f' (by assumption) ?_ | refine branch_f' (bne_self_eq_false _) ?_ | refine branch_t' (beq_self_eq_true _) ?_ | (refine branch_f' ?_ ?_; focus (simp; done)) | (refine branch_t' ?_ ?_; focus (simp; done)))
    have c1 := fromOct_c 0 (digF 8 (w % 32768)) 3 (fun j _ => by have := hd j; omega)
    rw [show foV (digF 8 (w % 32768)) 0 3 = _ from foV_dig 3 (by decide), ho.2.2.1] at c1
    have hu : ∀ j, j < 5 → 0 ≤ updF (digF 8 (w % 32768)) 2 (IntKind.u8.wrap (8 + g.tmod 3)) j ∧ updF (digF 8 (w % 32768)) 2 (IntKind.u8.wrap (8 + g.tmod 3)) j < 256 := fun j _ => by
      have := hd j
      unfold updF
      split <;> omega
    have c2 := fromOct_c 0 (updF (digF 8 (w % 32768)) 2 (IntKind.u8.wrap (8 + g.tmod 3))) 3 hu
    rw [show foV (updF (digF 8 (w % 32768)) 2 (IntKind.u8.wrap (8 + g.tmod 3))) 0 3 = _ from foV_bad 3 2 (by decide) (by decide) (by rw [updF_self]; omega)] at c2
    have c3 := fromOct_c (IntKind.u8.wrap (1 + g.tmod 255)) (updF (digF 8 (w % 32768)) 2 (IntKind.u8.wrap (8 + g.tmod 3))) 3 hu
    rw [foV_sign (by omega)] at c3
    refine callT_E c1 rfl ?_
    repeat (first | refine need_intro (by decide) ?_ | refine branch_true ?_ | refine branch_false ?_ | (refine branch_t' (decide_eq_true ?_) ?_; focus omega) | (refine branch_f' (decide_eq_false ?_) ?_; focus omega) | (refine branch_t' (beq_iff_eq.2 ?_) ?_; focus omega) | (refine branch_f' (beq_eq_false_iff_ne.2 ?_) ?_; focus omega) | (refine branch_t' (bne_iff_ne.2 ?_) ?_; focus omega) | (refine branch_f' (bne_eq_false_iff_eq.2 ?_) ?_; focus omega) | refine branch_t' (by assumption) ?_ | refine branch_f' (by assumption) ?_ | refine branch_f' (bne_self_eq_false _) ?_ | refine branch_t' (beq_self_eq_true _) ?_ | (refine branch_f' ?_ ?_; focus (simp; done)) | (refine branch_t' ?_ ?_; focus (simp; done)))
    refine branch_f' (bne_eq_false_iff_eq.2 ?_) ?_
    · show w % 32768 / 64 = (w.tmod 32768).fdiv (2 ^ 6)
      rw [hqe, Int.fdiv_eq_ediv_of_nonneg _ (by decide)]
      rfl
    repeat (first | refine need_intro (by decide) ?_ | refine branch_true ?_ | refine branch_false ?_ | (refine branch_t' (decide_eq_true ?_) ?_; focus omega) | (refine branch_f' (decide_eq_false ?_) ?_; focus omega) | (refine branch_t' (beq_iff_eq.2 ?_) ?_; focus omega) | (refine branch_f' (beq_eq_false_iff_ne.2 ?_) ?_; focus omega) | (refine branch_t' (bne_iff_ne.2 ?_) ?_; focus omega) | (refine branch_f' (bne_eq_false_iff_eq.2 ?_) ?_; focus omega) | refine branch_t' (by assumption) ?_ | refine branch_f' (by assumption) ?_ | refine branch_f' (bne_self_eq_false _) ?_ | refine branch_t' (beq_self_eq_true _) ?_ | (refine branch_f' ?_ ?_; focus (simp; done)) | (refine branch_t' ?_ ?_; focus (simp; done)))
    refine callT_E c2 rfl ?_
    repeat (first | refine need_intro (by decide) ?_ | refine branch_true ?_ | refine branch_false ?_ | (refine branch_t' (decide_eq_true ?_) ?_; focus omega) | (refine branch_f' (decide_eq_false ?_) ?_; focus omega) | (refine branch_t' (beq_iff_eq.2 ?_) ?_; focus omega) | (refine branch_f' (beq_eq_false_iff_ne.2 ?_) ?_; focus omega) | (refine branch_t' (bne_iff_ne.2 ?_) ?_; focus omega) | (refine branch_f' (bne_eq_false_iff_eq.2 ?_) ?_; focus omega) | refine branch_t' (by assumption) ?_ | refine branch_f' (by assumption) ?_ | refine branch_f' (bne_self_eq_false _) ?_ | refine branch_t' (beq_self_eq_true _) ?_ | (refine branch_f' ?_ ?_; focus (simp; done)) | (refine branch_t' ?_ ?_; focus (simp; done)))
    refine callT_E c3 rfl ?_
    repeat (first | refine branch_true ?_ | refine branch_false ?_ | (refine branch_t' (decide_eq_true ?_) ?_; focus omega) | (refine branch_f' (decide_eq_false ?_) ?_; focus omega) | (refine branch_t' (beq_iff_eq.2 ?_) ?_; focus omega) | (refine branch_f' (beq_eq_false_iff_ne.2 ?_) ?_; focus omega) | (refine branch_t' (bne_iff_ne.2 ?_) ?_; focus omega) | (refine branch_f' (bne_eq_false_iff_eq.2 ?_) ?_; focus omega) | refine branch_t' (by assumption) ?_ | refine branch_f' (by assumption) ?_ | refine branch_f' (bne_self_eq_false _) ?_ | refine branch_t' (beq_self_eq_true _) ?_ | (refine branch_f' ?_ ?_; focus (simp; done)) | (refine branch_t' ?_ ?_; focus (simp; done)))
    exact ⟨3, by decide, by decide, weak_keep (keep 75 [0, 1, 5, 6]) [0] rfl rfl rfl⟩
  · repeat (first | refine branch_true ?_ | refine branch_false ?_ | (refine branch_t' (decide_eq_true ?_) ?_; focus omega) | (refine branch_f' (decide_eq_false ?_) ?_; focus omega) | (refine branch_t' (beq_iff_eq.2 ?_) ?_; focus omega) | (refine branch_f' (beq_eq_false_iff_ne.2 ?_) ?_; focus omega) | (refine branch_t' (bne_iff_ne.2 ?_) ?_; focus omega) | (refine branch_f' (bne_eq_false_iff_eq.2 ?_) ?_; focus omega) | refine branch_t' (by assumption) ?_ | refine branch_f' (by assumption) ?_ | refine branch_f' (bne_self_eq_false _) ?_ | refine branch_t' (beq_self_eq_true _) ?_ | (refine branch_f' ?_ ?_; focus (simp; done)) | (refine branch_t' ?_ ?_; focus (simp; done)))
    have c1 := fromOct_c 0 (digF 8 (w % 32768)) 4 (fun j _ => by have := hd j; omega)
    rw [show foV (digF 8 (w % 32768)) 0 4 = _ from foV_dig 4 (by decide), ho.2.2.2.1] at c1
    have hu : ∀ j, j < 5 → 0 ≤ updF (digF 8 (w % 32768)) 3 (IntKind.u8.wrap (8 + g.tmod 3)) j ∧ updF (digF 8 (w % 32768)) 3 (IntKind.u8.wrap (8 + g.tmod 3)) j < 256 := fun j _ => by
      have := hd j
      unfold updF
      split <;> omega
    have c2 := fromOct_c 0 (updF (digF 8 (w % 32768)) 3 (IntKind.u8.wrap (8 + g.tmod 3))) 4 hu
    rw [show foV (updF (digF 8 (w % 32768)) 3 (IntKind.u8.wrap (8 + g.tmod 3))) 0 4 = _ from foV_bad 4 3 (by decide) (by decide) (by rw [updF_self]; omega)] at c2
    have c3 := fromOct_c (IntKind.u8.wrap (1 + g.tmod 255)) (updF (digF 8 (w % 32768)) 3 (IntKind.u8.wrap (8 + g.tmod 3))) 4 hu
    rw [foV_sign (by omega)] at c3
    refine callT_E c1 rfl ?_
    repeat (first | refine need_intro (by decide) ?_ | refine branch_true ?_ | refine branch_false ?_ | (refine branch_t' (decide_eq_true ?_) ?_; focus omega) | (refine branch_f' (decide_eq_false ?_) ?_; focus omega) | (refine branch_t' (beq_iff_eq.2 ?_) ?_; focus omega) | (refine branch_f' (beq_eq_false_iff_ne.2 ?_) ?_; focus omega) | (refine branch_t' (bne_iff_ne.2 ?_) ?_; focus omega) | (refine branch_f' (bne_eq_false_iff_eq.2 ?_) ?_; focus omega) | refine branch_t' (by assumption) ?_ | refine branch_f' (by assumption) ?_ | refine branch_f' (bne_self_eq_false _) ?_ | refine branch_t' (beq_self_eq_true _) ?_ | (refine branch_f' ?_ ?_; focus (simp; done)) | (refine branch_t' ?_ ?_; focus (simp; done)))
    refine branch_f' (bne_eq_false_iff_eq.2 ?_) ?_
    · show w % 32768 / 8 = (w.tmod 32768).fdiv (2 ^ 3)
      rw [hqe, Int.fdiv_eq_ediv_of_nonneg _ (by decide)]
      rfl
    repeat (first | refine need_intro (by decide) ?_ | refine branch_true ?_ | refine branch_false ?_ | (refine branch_t' (decide_eq_true ?_) ?_; focus omega) | (refine branch_f' (decide_eq_false ?_) ?_; focus omega) | (refine branch_t' (beq_iff_eq.2 ?_) ?_; focus omega) | (refine branch_f' (beq_eq_false_iff_ne.2 ?_) ?_; focus omega) | (refine branch_t' (bne_iff_ne.2 ?_) ?_; focus omega) | (refine branch_f' (bne_eq_false_iff_eq.2 ?_) ?_; focus omega) | refine branch_t' (by assumption) ?_ | refine branch_f' (by assumption) ?_ | refine branch_f' (bne_self_eq_false _) ?_ | refine branch_t' (beq_self_eq_true _) ?_ | (refine branch_f' ?_ ?_; focus (simp; done)) | (refine branch_t' ?_ ?_; focus (simp; done)))
    refine callT_E c2 rfl ?_
    repeat (first | refine need_intro (by decide) ?_ | refine branch_true ?_ | refine branch_false ?_ | (refine branch_t' (decide_eq_true ?_) ?_; focus omega) | (refine branch_f' (decide_eq_false ?_) ?_; focus omega) | (refine branch_t' (beq_iff_eq.2 ?_) ?_; focus omega) | (refine branch_f' (beq_eq_false_iff_ne.2 ?_) ?_; focus omega) | (refine branch_t' (bne_iff_ne.2 ?_) ?_; focus omega) | (refine branch_f' (bne_eq_false_iff_eq.2 ?_) ?_; focus omega) | refine branch_t' (by assumption) ?_ | refine branch_f' (by assumption) ?_ | refine branch_f' (bne_self_eq_false _) ?_ | refine branch_t' (beq_self_eq_true _) ?_ | (refine branch_f' ?_ ?_; focus (simp; done)) | (refine branch_t' ?_ ?_; focus (simp; done)))
    refine callT_E c3 rfl ?_
    repeat (first | refine branch_true ?_ | refine branch_false ?_ | (refine branch_t' (decide_eq_true ?_) ?_; focus omega) | (refine branch_f' (decide_eq_false ?_) ?_; focus omega) | (refine branch_t' (beq_iff_eq.2 ?_) ?_; focus omega) | (refine branch_f' (beq_eq_false_iff_ne.2 ?_) ?_; focus omega) | (refine branch_t' (bne_iff_ne.2 ?_) ?_; focus omega) | (refine branch_f' (bne_eq_false_iff_eq.2 ?_) ?_; focus omega) | refine branch_t' (by assumption) ?_ | refine branch_f' (by assumption) ?_ | refine branch_f' (bne_self_eq_false _) ?_ | refine branch_t' (beq_self_eq_true _) ?_ | (refine branch_f' ?_ ?_; focus (simp; done)) | (refine branch_t' ?_ ?_; focus (simp; done)))
    exact ⟨4, by decide, by decide, weak_keep (keep 75 [0, 1, 5, 6]) [0] rfl rfl rfl⟩
  · repeat (first | refine branch_true ?_ | refine branch_false ?_ | (refine branch_t' (decide_eq_true ?_) ?_; focus omega) | (refine branch_f' (decide_eq_false ?_) ?_; focus omega) | (refine branch_t' (beq_iff_eq.2 ?_) ?_; focus omega) | (refine branch_f' (beq_eq_false_iff_ne.2 ?_) ?_; focus omega) | (refine branch_t' (bne_iff_ne.2 ?_) ?_; focus omega) | (refine branch_f' (bne_eq_false_iff_eq.2 ?_) ?_; focus omega) | refine branch_t' (by assumption) ?_ | refine branch_f' (by assumption) ?_ | refine branch_f' (bne_self_eq_false _) ?_ | refine branch_t' (beq_self_eq_true _) ?_ | (refine branch_f' ?_ ?_; focus (simp; done)) | (refine branch_t' ?_ ?_; focus (simp; done)))
    have c1 := fromOct_c 0 (digF 8 (w % 32768)) 5 (fun j _ => by have := hd j; omega)
    rw [show foV (digF 8 (w % 32768)) 0 5 = _ from foV_dig 5 (by decide), ho.2.2.2.2] at c1
    have hu : ∀ j, j < 5 → 0 ≤ updF (digF 8 (w % 32768)) 4 (IntKind.u8.wrap (8 + g.tmod 3)) j ∧ updF (digF 8 (w % 32768)) 4 (IntKind.u8.wrap (8 + g.tmod 3)) j < 256 := fun j _ => by
      have := hd j
      unfold updF
      split <;> omega
    have c2 := fromOct_c 0 (updF (digF 8 (w % 32768)) 4 (IntKind.u8.wrap (8 + g.tmod 3))) 5 hu
    rw [show foV (updF (digF 8 (w % 32768)) 4 (IntKind.u8.wrap (8 + g.tmod 3))) 0 5 = _ from foV_bad 5 4 (by decide) (by decide) (by rw [updF_self]; omega)] at c2
    have c3 := fromOct_c (IntKind.u8.wrap (1 + g.tmod 255)) (updF (digF 8 (w % 32768)) 4 (IntKind.u8.wrap (8 + g.tmod 3))) 5 hu
    rw [foV_sign (by omega)] at c3
    refine callT_E c1 rfl ?_
    repeat (first | refine need_intro (by decide) ?_ | refine branch_true ?_ | refine branch_false ?_ | (refine branch_t' (decide_eq_true ?_) ?_; focus omega) | (refine branch_f' (decide_eq_false ?_) ?_; focus omega) | (refine branch_t' (beq_iff_eq.2 ?_) ?_; focus omega) | (refine branch_f' (beq_eq_false_iff_ne.2 ?_) ?_; focus omega) | (refine branch_t' (bne_iff_ne.2 ?_) ?_; focus omega) | (refine branch_f' (bne_eq_false_iff_eq.2 ?_) ?_; focus omega) | refine branch_t' (by assumption) ?_ | refine branch_f' (by assumption) ?_ | refine branch_f' (bne_self_eq_false _) ?_ | refine branch_t' (beq_self_eq_true _) ?_ | (refine branch_f' ?_ ?_; focus (simp; done)) | (refine branch_t' ?_ ?_; focus (simp; done)))
    refine branch_f' (bne_eq_false_iff_eq.2 ?_) ?_
    · show w % 32768 = (w.tmod 32768).fdiv (2 ^ 0)
      rw [hqe, Int.fdiv_eq_ediv_of_nonneg _ (by decide)]
      omega
    repeat (first | refine need_intro (by decide) ?_ | refine branch_true ?_ | refine branch_false ?_ | (refine branch_t' (decide_eq_true ?_) ?_; focus omega) | (refine branch_f' (decide_eq_false ?_) ?_; focus omega) | (refine branch_t' (beq_iff_eq.2 ?_) ?_; focus omega) | (refine branch_f' (beq_eq_false_iff_ne.2 ?_) ?_; focus omega) | (refine branch_t' (bne_iff_ne.2 ?_) ?_; focus omega) | (refine branch_f' (bne_eq_false_iff_eq.2 ?_) ?_; focus omega) | refine branch_t' (by assumption) ?_ | refine branch_f' (by assumption) ?_ | refine branch_f' (bne_self_eq_false _) ?_ | refine branch_t' (beq_self_eq_true _) ?_ | (refine branch_f' ?_ ?_; focus (simp; done)) | (refine branch_t' ?_ ?_; focus (simp; done)))
    refine callT_E c2 rfl ?_
    repeat (first | refine need_intro (by decide) ?_ | refine branch_true ?_ | refine branch_false ?_ | (refine branch_t' (decide_eq_true ?_) ?_; focus omega) | (refine branch_f' (decide_eq_false ?_) ?_; focus omega) | (refine branch_t' (beq_iff_eq.2 ?_) ?_; focus omega) | (refine branch_f' (beq_eq_false_iff_ne.2 ?_) ?_; focus omega) | (refine branch_t' (bne_iff_ne.2 ?_) ?_; focus omega) | (refine branch_f' (bne_eq_false_iff_eq.2 ?_) ?_; focus omega) | refine branch_t' (by assumption) ?_ | refine branch_f' (by assumption) ?_ | refine branch_f' (bne_self_eq_false _) ?_ | refine branch_t' (beq_self_eq_true _) ?_ | (refine branch_f' ?_ ?_; focus (simp; done)) | (refine branch_t' ?_ ?_; focus (simp; done)))
    refine callT_E c3 rfl ?_
    repeat (first | refine branch_true ?_ | refine branch_false ?_ | (refine branch_t' (decide_eq_true ?_) ?_; focus omega) | (refine branch_f' (decide_eq_false ?_) ?_; focus omega) | (refine branch_t' (beq_iff_eq.2 ?_) ?_; focus omega) | (refine branch_f' (beq_eq_false_iff_ne.2 ?_) ?_; focus omega) | (refine branch_t' (bne_iff_ne.2 ?_) ?_; focus omega) | (refine branch_f' (bne_eq_false_iff_eq.2 ?_) ?_; focus omega) | refine branch_t' (by assumption) ?_ | refine branch_f' (by assumption) ?_ | refine branch_f' (bne_self_eq_false _) ?_ | refine branch_t' (beq_self_eq_true _) ?_ | (refine branch_f' ?_ ?_; focus (simp; done)) | (refine branch_t' ?_ ?_; focus (simp; done)))
    exact ⟨5, by decide, by decide, weak_keep (keep 75 [0, 1, 5, 6]) [0] rfl rfl rfl⟩
  · repeat (first | refine branch_true ?_ | refine branch_false ?_ | (refine branch_t' (decide_eq_true ?_) ?_; focus omega) | (refine branch_f' (decide_eq_false ?_) ?_; focus omega) | (refine branch_t' (beq_iff_eq.2 ?_) ?_; focus omega) | (refine branch_f' (beq_eq_false_iff_ne.2 ?_) ?_; focus omega) | (refine branch_t' (bne_iff_ne.2 ?_) ?_; focus omega) | (refine branch_f' (bne_eq_false_iff_eq.2 ?_) ?_; focus omega) | refine branch_t' (by assumption) ?_ | refine branch_f' (by assumption) ?_ | refine branch_f' (bne_self_eq_false _) ?_ | refine branch_t' (beq_self_eq_true _) ?_ | (refine branch_f' ?_ ?_; focus (simp; done)) | (refine branch_t' ?_ ?_; focus (simp; done)))
    refine callT_E works_c rfl ?_
    repeat (first | refine branch_true ?_ | refine branch_false ?_ | (refine branch_t' (decide_eq_true ?_) ?_; focus omega) | (refine branch_f' (decide_eq_false ?_) ?_; focus omega) | (refine branch_t' (beq_iff_eq.2 ?_) ?_; focus omega) | (refine branch_f' (beq_eq_false_iff_ne.2 ?_) ?_; focus omega) | (refine branch_t' (bne_iff_ne.2 ?_) ?_; focus omega) | (refine branch_f' (bne_eq_false_iff_eq.2 ?_) ?_; focus omega) | refine branch_t' (by assumption) ?_ | refine branch_f' (by assumption) ?_ | refine branch_f' (bne_self_eq_false _) ?_ | refine branch_t' (beq_self_eq_true _) ?_ | (refine branch_f' ?_ ?_; focus (simp; done)) | (refine branch_t' ?_ ?_; focus (simp; done)))
    show Eqv _ _
    exact .up (.up (.refl _))
end Go.Proofs
/-! Ai. -/
namespace Go.Proofs
open Go.E
set_option maxRecDepth 8000

theorem decP_b256 {f : Nat → Int} : ∀ i, i ≤ 5 → (∀ j, j < i → 0 ≤ f j ∧ f j < 256) → 0 ≤ decP f i ∧ decP f i ≤ 2833305
  | 0, _, _ => by simp [decP]
  | 1, _, h => by have := h 0 (by decide); simp only [decP]; omega
  | 2, _, h => by have := h 0 (by decide); have := h 1 (by decide); simp only [decP]; omega
  | 3, _, h => by have := h 0 (by decide); have := h 1 (by decide); have := h 2 (by decide); simp only [decP]; omega
  | 4, _, h => by have := h 0 (by decide); have := h 1 (by decide); have := h 2 (by decide); have := h 3 (by decide); simp only [decP]; omega
  | 5, _, h => by have := h 0 (by decide); have := h 1 (by decide); have := h 2 (by decide); have := h 3 (by decide); have := h 4 (by decide); simp only [decP]; omega
  | n + 6, h, _ => by omega
theorem number_c (s : Int) (f : Nat → Int) (hf : ∀ j, j < 5 → 0 ≤ f j ∧ f j < 256) : callP Try.prog 20 [shA s f] (· = .int .i64 (numV f s)) := by
  refine callE_def env (fn := Try.f20) rfl (by decide) rfl ?_
  refine loop_inv (keep 23 [1, 2, 3, 4]) (fun i : Nat => slots 23 [(1, .ptr ⟨0, 0, 0⟩), (2, .int .i64 0), (3, .int .i64 (decP f i)), (4, .int .i64 i)])
    (fun _ => [.cells [.int .u8 s, .int .u8 (f 0), .int .u8 (f 1), .int .u8 (f 2), .int .u8 (f 3), .int .u8 (f 4)]]) (fun i => i ≤ 5) (fun i => 5 - i) 0 (by decide) rfl rfl ?_
  intro i hi
  have hb := decP_b256 i hi (fun j hj => hf j (by omega))
  have h5 : i = 0 ∨ i = 1 ∨ i = 2 ∨ i = 3 ∨ i = 4 ∨ i = 5 := by omega
  rcases h5 with rfl | rfl | rfl | rfl | rfl | rfl
  · have hd := hf 0 (by decide)
    repeat (first | refine need_intro (by decide) ?_ | refine branch_true ?_ | refine branch_false ?_ | (refine branch_t' (decide_eq_true ?_) ?_; focus omega) | (refine branch_f' (decide_eq_false ?_) ?_; focus omega) | (refine branch_t' (beq_iff_eq.2 ?_) ?_; focus omega) | (refine branch_f' (beq_eq_false_iff_ne.2 ?_) ?_; focus omega) | (refine branch_t' (bne_iff_ne.2 ?_) ?_; focus omega) | (refine branch_f' (bne_eq_false_iff_eq.2 ?_) ?_; focus omega) | refine branch_t' (by assumption) ?_ | refine branch_f' (by assumption) ?_ | refine branch_f' (bne_self_eq_false _) ?_ | refine branch_t' (beq_self_eq_true _) ?_ | (refine branch_f' ?_ ?_; focus (simp; done)) | (refine branch_t' ?_ ?_; focus (simp; done)))
    refine ⟨1, by decide, by decide, ?_, rfl⟩
    show [_, _, _, _, _, _, _, _, _, _, _, _, _, _, _, _, _, _, _, _, _, _, _] = _
    rw [wi (x := 10 * decP f 0) (by omega) (by omega), wi (x := f 0) (by omega) (by omega), wi (x := 10 * decP f 0 + f 0) (by omega) (by omega)]
    rfl
  · have hd := hf 1 (by decide)
    repeat (first | refine need_intro (by decide) ?_ | refine branch_true ?_ | refine branch_false ?_ | (refine branch_t' (decide_eq_true ?_) ?_; focus omega) | (refine branch_f' (decide_eq_false ?_) ?_; focus omega) | (refine branch_t' (beq_iff_eq.2 ?_) ?_; focus omega) | (refine branch_f' (beq_eq_false_iff_ne.2 ?_) ?_; focus omega) | (refine branch_t' (bne_iff_ne.2 ?_) ?_; focus omega) | (refine branch_f' (bne_eq_false_iff_eq.2 ?_) ?_; focus omega) | refine branch_t' (by assumption) ?_ | refine branch_f' (by assumption) ?_ | refine branch_f' (bne_self_eq_false _) ?_ | refine branch_t' (beq_self_eq_true _) ?_ | (refine branch_f' ?_ ?_; focus (simp; done)) | (refine branch_t' ?_ ?_; focus (simp; done)))
    refine ⟨2, by decide, by decide, ?_, rfl⟩
    show [_, _, _, _, _, _, _, _, _, _, _, _, _, _, _, _, _, _, _, _, _, _, _] = _
    rw [wi (x := 10 * decP f 1) (by omega) (by omega), wi (x := f 1) (by omega) (by omega), wi (x := 10 * decP f 1 + f 1) (by omega) (by omega)]
    rfl
  · have hd := hf 2 (by decide)
    repeat (first | refine need_intro (by decide) ?_ | refine branch_true ?_ | refine branch_false ?_ | (refine branch_t' (decide_eq_true ?_) ?_; focus omega) | (refine branch_f' (decide_eq_false ?_) ?_; focus omega) | (refine branch_t' (beq_iff_eq.2 ?_) ?_; focus omega) | (refine branch_f' (beq_eq_false_iff_ne.2 ?_) ?_; focus omega) | (refine branch_t' (bne_iff_ne.2 ?_) ?_; focus omega) | (refine branch_f' (bne_eq_false_iff_eq.2 ?_) ?_; focus omega) | refine branch_t' (by assumption) ?_ | refine branch_f' (by assumption) ?_ | refine branch_f' (bne_self_eq_false _) ?_ | refine branch_t' (beq_self_eq_true _) ?_ | (refine branch_f' ?_ ?_; focus (simp; done)) | (refine branch_t' ?_ ?_; focus (simp; done)))
    refine ⟨3, by decide, by decide, ?_, rfl⟩
    show [_, _, _, _, _, _, _, _, _, _, _, _, _, _, _, _, _, _, _, _, _, _, _] = _
    rw [wi (x := 10 * decP f 2) (by omega) (by omega), wi (x := f 2) (by omega) (by omega), wi (x := 10 * decP f 2 + f 2) (by omega) (by omega)]
    rfl
  · have hd := hf 3 (by decide)
    repeat (first | refine need_intro (by decide) ?_ | refine branch_true ?_ | refine branch_false ?_ | (refine branch_t' (decide_eq_true ?_) ?_; focus omega) | (refine branch_f' (decide_eq_false ?_) ?_; focus omega) | (refine branch_t' (beq_iff_eq.2 ?_) ?_; focus omega) | (refine branch_f' (beq_eq_false_iff_ne.2 ?_) ?_; focus omega) | (refine branch_t' (bne_iff_ne.2 ?_) ?_; focus omega) | (refine branch_f' (bne_eq_false_iff_eq.2 ?_) ?_; focus omega) | refine branch_t' (by assumption) ?_ | refine branch_f' (by assumption) ?_ | refine branch_f' (bne_self_eq_false _) ?_ | refine branch_t' (beq_self_eq_true _) ?_ | (refine branch_f' ?_ ?_; focus (simp; done)) | (refine branch_t' ?_ ?_; focus (simp; done)))
    refine ⟨4, by decide, by decide, ?_, rfl⟩
    show [_, _, _, _, _, _, _, _, _, _, _, _, _, _, _, _, _, _, _, _, _, _, _] = _
    rw [wi (x := 10 * decP f 3) (by omega) (by omega), wi (x := f 3) (by omega) (by omega), wi (x := 10 * decP f 3 + f 3) (by omega) (by omega)]
    rfl
  · have hd := hf 4 (by decide)
    repeat (first | refine need_intro (by decide) ?_ | refine branch_true ?_ | refine branch_false ?_ | (refine branch_t' (decide_eq_true ?_) ?_; focus omega) | (refine branch_f' (decide_eq_false ?_) ?_; focus omega) | (refine branch_t' (beq_iff_eq.2 ?_) ?_; focus omega) | (refine branch_f' (beq_eq_false_iff_ne.2 ?_) ?_; focus omega) | (refine branch_t' (bne_iff_ne.2 ?_) ?_; focus omega) | (refine branch_f' (bne_eq_false_iff_eq.2 ?_) ?_; focus omega) | refine branch_t' (by assumption) ?_ | refine branch_f' (by assumption) ?_ | refine branch_f' (bne_self_eq_false _) ?_ | refine branch_t' (beq_self_eq_true _) ?_ | (refine branch_f' ?_ ?_; focus (simp; done)) | (refine branch_t' ?_ ?_; focus (simp; done)))
    refine ⟨5, by decide, by decide, ?_, rfl⟩
    show [_, _, _, _, _, _, _, _, _, _, _, _, _, _, _, _, _, _, _, _, _, _, _] = _
    rw [wi (x := 10 * decP f 4) (by omega) (by omega), wi (x := f 4) (by omega) (by omega), wi (x := 10 * decP f 4 + f 4) (by omega) (by omega)]
    rfl
  · by_cases h : s = 2
    · repeat (first | refine branch_true ?_ | refine branch_false ?_ | (refine branch_t' (decide_eq_true ?_) ?_; focus omega) | (refine branch_f' (decide_eq_false ?_) ?_; focus omega) | (refine branch_t' (beq_iff_eq.2 ?_) ?_; focus omega) | (refine branch_f' (beq_eq_false_iff_ne.2 ?_) ?_; focus omega) | (refine branch_t' (bne_iff_ne.2 ?_) ?_; focus omega) | (refine branch_f' (bne_eq_false_iff_eq.2 ?_) ?_; focus omega) | refine branch_t' (by assumption) ?_ | refine branch_f' (by assumption) ?_ | refine branch_f' (bne_self_eq_false _) ?_ | refine branch_t' (beq_self_eq_true _) ?_ | (refine branch_f' ?_ ?_; focus (simp; done)) | (refine branch_t' ?_ ?_; focus (simp; done)))
      show Eqv _ _
      refine eqv_of_eq (congrArg (AVal.int _) ?_)
      rw [numV, if_pos h, wi (by omega) (by omega)]
      omega
    · repeat (first | refine branch_true ?_ | refine branch_false ?_ | (refine branch_t' (decide_eq_true ?_) ?_; focus omega) | (refine branch_f' (decide_eq_false ?_) ?_; focus omega) | (refine branch_t' (beq_iff_eq.2 ?_) ?_; focus omega) | (refine branch_f' (beq_eq_false_iff_ne.2 ?_) ?_; focus omega) | (refine branch_t' (bne_iff_ne.2 ?_) ?_; focus omega) | (refine branch_f' (bne_eq_false_iff_eq.2 ?_) ?_; focus omega) | refine branch_t' (by assumption) ?_ | refine branch_f' (by assumption) ?_ | refine branch_f' (bne_self_eq_false _) ?_ | refine branch_t' (beq_self_eq_true _) ?_ | (refine branch_f' ?_ ?_; focus (simp; done)) | (refine branch_t' ?_ ?_; focus (simp; done)))
      rw [numV, if_neg h]
      show Eqv _ _
      exact .up (.up (.refl _))

/-- A component with its number and its shift made valid. -/
def nV (x : Int) : Int := IntKind.i64.wrap (1 + IntKind.i64.wrap ((IntKind.u64.wrap x).tmod 100000))
def sV (x : Int) : Int := IntKind.i64.wrap ((IntKind.u64.wrap x).tmod 41)
theorem u64_b (x : Int) : 0 ≤ IntKind.u64.wrap x ∧ IntKind.u64.wrap x < 18446744073709551616 := by
  rw [IntKind.wrap_u64]; omega
theorem nV_b (x : Int) : 1 ≤ nV x ∧ nV x ≤ 100000 := by
  have h := u64_b x
  have h2 := Int.emod_nonneg (IntKind.u64.wrap x) (b := 100000) (by decide)
  have h3 := Int.emod_lt_of_pos (IntKind.u64.wrap x) (b := 100000) (by decide)
  unfold nV
  rw [Int.tmod_eq_emod_of_nonneg h.1, wi (x := IntKind.u64.wrap x % 100000) (by omega) (by omega), wi (by omega) (by omega)]
  omega
theorem sV_b (x : Int) : 0 ≤ sV x ∧ sV x ≤ 40 := by
  have h := u64_b x
  have h2 := Int.emod_nonneg (IntKind.u64.wrap x) (b := 41) (by decide)
  have h3 := Int.emod_lt_of_pos (IntKind.u64.wrap x) (b := 41) (by decide)
  unfold sV
  rw [Int.tmod_eq_emod_of_nonneg h.1, wi (by omega) (by omega)]
  omega
theorem cmp_ok3 {a n s : Int} (ha : 0 ≤ a ∧ a ≤ 100) (hn : 1 ≤ n ∧ n ≤ 100000) (hs : 0 ≤ s ∧ s ≤ 40) : Cmp.Ok ⟨3, a, n, s⟩ ∧ validC ⟨3, a, n, s⟩ = true :=
  ⟨⟨⟨by show (0 : Int) ≤ 3; decide, by show (3 : Int) < 256; decide⟩, ⟨by show _ ≤ a; omega, by show a ≤ _; omega⟩, ⟨by show _ ≤ n; omega, by show n ≤ _; omega⟩, ⟨by show _ ≤ s; omega, by show s ≤ _; omega⟩⟩,
    decide_eq_true ⟨ha.1, by show a ≤ 2048 - sizeV 3; rw [show sizeV 3 = 2 from rfl]; omega, .inr ⟨.inr rfl, hn.1, hn.2, hs.1, hs.2⟩⟩⟩
theorem tmod28 (v : Int) : -268435455 ≤ v.tmod 268435456 ∧ v.tmod 268435456 ≤ 268435455 := by
  rcases Int.lt_or_le v 0 with h | h
  · have e : v.tmod 268435456 = -((-v).tmod 268435456) := by rw [Int.neg_tmod, Int.neg_neg]
    rw [e, Int.tmod_eq_emod_of_nonneg (by omega)]
    omega
  · rw [Int.tmod_eq_emod_of_nonneg h]
    omega
theorem in3 {v : Int} (h : -268435455 ≤ v ∧ v ≤ 268435455) : inV v 3 = true := decide_eq_true h
/-- What Decimal answers for a valid component of two words. -/
theorem decV3 {v a n s : Int} (ha : 0 ≤ a ∧ a ≤ 100) (hn : 1 ≤ n ∧ n ≤ 100000) (hs : 0 ≤ s ∧ s ≤ 40) (hv : -268435455 ≤ v ∧ v ≤ 268435455) :
    decV v ⟨3, a, n, s⟩ = if (rV (v * n) (2 ^ s.toNat)).natAbs ≥ 100000 then (0, fun _ => 0, 12) else (if rV (v * n) (2 ^ s.toNat) < 0 then 2 else 1, digF 10 (rV (v * n) (2 ^ s.toNat)).natAbs, 0) := by
  rw [decV, if_neg (by simp [(cmp_ok3 ha hn hs).2]), if_neg (by simp [in3 hv])]
theorem num_dec {n : Int} (h : n.natAbs < 100000) : numV (digF 10 n.natAbs) (if n < 0 then 2 else 1) = n := by
  unfold numV
  rw [decP_dig (by omega)]
  by_cases h0 : n < 0
  · rw [if_pos (if_pos h0)]; omega
  · rw [if_neg (by rw [if_neg h0]; decide)]; omega

set_option maxHeartbeats 8000000 in
theorem order_go (k a n s : Int) (v w : Int) : callP Try.prog 6 [.agg [.int .u8 k, .int .i64 a, .int .i64 n, .int .i64 s], .int .i64 v, .int .i64 w] (· = .bool true) := by
  have hv := tmod28 v
  have hw := tmod28 w
  have hN := nV_b n
  have hS := sV_b s
  have ok := (cmp_ok3 (a := 0) (by decide) hN hS).1
  obtain ⟨K, hK, hK40⟩ := pow_eq (sV s) hS
  have hp := pow_b hK40
  have d1 := decimal_c (v.tmod 268435456) _ ok
  have d2 := decimal_c (w.tmod 268435456) _ ok
  have d3 := decimal_c (IntKind.i64.wrap (0 - v.tmod 268435456)) _ ok
  have wn : IntKind.i64.wrap (0 - v.tmod 268435456) = -v.tmod 268435456 := by rw [wi (by omega) (by omega)]; omega
  rw [decV3 (by decide) hN hS hv] at d1
  rw [decV3 (by decide) hN hS hw] at d2
  rw [wn, decV3 (v := -v.tmod 268435456) (by decide) hN hS (by omega), Int.neg_mul, rV_neg (by rw [hK, Int.toNat_natCast]; omega)] at d3
  rw [← wn] at d3
  have mono1 : v.tmod 268435456 ≤ w.tmod 268435456 → rV (v.tmod 268435456 * nV n) (2 ^ (sV s).toNat) ≤ rV (w.tmod 268435456 * nV n) (2 ^ (sV s).toNat) := fun h =>
    rV_mono (by rw [hK, Int.toNat_natCast]; omega) (Int.mul_le_mul_of_nonneg_right h (by omega))
  have mono2 : w.tmod 268435456 ≤ v.tmod 268435456 → rV (w.tmod 268435456 * nV n) (2 ^ (sV s).toNat) ≤ rV (v.tmod 268435456 * nV n) (2 ^ (sV s).toNat) := fun h =>
    rV_mono (by rw [hK, Int.toNat_natCast]; omega) (Int.mul_le_mul_of_nonneg_right h (by omega))
  generalize rV (v.tmod 268435456 * nV n) (2 ^ (sV s).toNat) = p at *
  generalize rV (w.tmod 268435456 * nV n) (2 ^ (sV s).toNat) = q at *
  refine callE_def env (fn := Try.f6) rfl (by decide) rfl ?_
  repeat (refine need_intro (by decide) ?_)
  refine callT_E d1 rfl ?_
  refine callT_E d2 rfl ?_
  by_cases h1 : p.natAbs ≥ 100000
  · simp only [if_pos h1]
    repeat (first | refine branch_true ?_ | refine branch_false ?_ | (refine branch_t' (decide_eq_true ?_) ?_; focus omega) | (refine branch_f' (decide_eq_false ?_) ?_; focus omega) | (refine branch_t' (beq_iff_eq.2 ?_) ?_; focus omega) | (refine branch_f' (beq_eq_false_iff_ne.2 ?_) ?_; focus omega) | (refine branch_t' (bne_iff_ne.2 ?_) ?_; focus omega) | (refine branch_f' (bne_eq_false_iff_eq.2 ?_) ?_; focus omega) | refine branch_t' (by assumption) ?_ | refine branch_f' (by assumption) ?_ | refine branch_f' (bne_self_eq_false _) ?_ | refine branch_t' (beq_self_eq_true _) ?_ | (refine branch_f' ?_ ?_; focus (simp; done)) | (refine branch_t' ?_ ?_; focus (simp; done)))
    refine callT_E works_c rfl ?_
    repeat (first | refine branch_true ?_ | refine branch_false ?_ | (refine branch_t' (decide_eq_true ?_) ?_; focus omega) | (refine branch_f' (decide_eq_false ?_) ?_; focus omega) | (refine branch_t' (beq_iff_eq.2 ?_) ?_; focus omega) | (refine branch_f' (beq_eq_false_iff_ne.2 ?_) ?_; focus omega) | (refine branch_t' (bne_iff_ne.2 ?_) ?_; focus omega) | (refine branch_f' (bne_eq_false_iff_eq.2 ?_) ?_; focus omega) | refine branch_t' (by assumption) ?_ | refine branch_f' (by assumption) ?_ | refine branch_f' (bne_self_eq_false _) ?_ | refine branch_t' (beq_self_eq_true _) ?_ | (refine branch_f' ?_ ?_; focus (simp; done)) | (refine branch_t' ?_ ?_; focus (simp; done)))
    show Eqv _ _
    exact .up (.up (.refl _))
  by_cases h2 : q.natAbs ≥ 100000
  · simp only [if_pos h2, if_neg h1]
    repeat (first | refine branch_true ?_ | refine branch_false ?_ | (refine branch_t' (decide_eq_true ?_) ?_; focus omega) | (refine branch_f' (decide_eq_false ?_) ?_; focus omega) | (refine branch_t' (beq_iff_eq.2 ?_) ?_; focus omega) | (refine branch_f' (beq_eq_false_iff_ne.2 ?_) ?_; focus omega) | (refine branch_t' (bne_iff_ne.2 ?_) ?_; focus omega) | (refine branch_f' (bne_eq_false_iff_eq.2 ?_) ?_; focus omega) | refine branch_t' (by assumption) ?_ | refine branch_f' (by assumption) ?_ | refine branch_f' (bne_self_eq_false _) ?_ | refine branch_t' (beq_self_eq_true _) ?_ | (refine branch_f' ?_ ?_; focus (simp; done)) | (refine branch_t' ?_ ?_; focus (simp; done)))
    refine callT_E works_c rfl ?_
    repeat (first | refine branch_true ?_ | refine branch_false ?_ | (refine branch_t' (decide_eq_true ?_) ?_; focus omega) | (refine branch_f' (decide_eq_false ?_) ?_; focus omega) | (refine branch_t' (beq_iff_eq.2 ?_) ?_; focus omega) | (refine branch_f' (beq_eq_false_iff_ne.2 ?_) ?_; focus omega) | (refine branch_t' (bne_iff_ne.2 ?_) ?_; focus omega) | (refine branch_f' (bne_eq_false_iff_eq.2 ?_) ?_; focus omega) | refine branch_t' (by assumption) ?_ | refine branch_f' (by assumption) ?_ | refine branch_f' (bne_self_eq_false _) ?_ | refine branch_t' (beq_self_eq_true _) ?_ | (refine branch_f' ?_ ?_; focus (simp; done)) | (refine branch_t' ?_ ?_; focus (simp; done)))
    show Eqv _ _
    exact .up (.up (.refl _))
  simp only [if_neg h1, if_neg h2]
  rw [if_neg (by omega)] at d3
  have b1 := fun i => digF_bound (b := 10) (n := (p.natAbs : Int)) (by decide) i
  have b2 := fun i => digF_bound (b := 10) (n := (q.natAbs : Int)) (by decide) i
  have b3 := fun i => digF_bound (b := 10) (n := ((-p).natAbs : Int)) (by decide) i
  have n1 := number_c (if p < 0 then 2 else 1) (digF 10 p.natAbs) (fun j _ => by have := b1 j; omega)
  have n2 := number_c (if q < 0 then 2 else 1) (digF 10 q.natAbs) (fun j _ => by have := b2 j; omega)
  have n3 := number_c (if -p < 0 then 2 else 1) (digF 10 (-p).natAbs) (fun j _ => by have := b3 j; omega)
  rw [num_dec (by omega)] at n1 n2 n3
  repeat (first | refine branch_true ?_ | refine branch_false ?_ | (refine branch_t' (decide_eq_true ?_) ?_; focus omega) | (refine branch_f' (decide_eq_false ?_) ?_; focus omega) | (refine branch_t' (beq_iff_eq.2 ?_) ?_; focus omega) | (refine branch_f' (beq_eq_false_iff_ne.2 ?_) ?_; focus omega) | (refine branch_t' (bne_iff_ne.2 ?_) ?_; focus omega) | (refine branch_f' (bne_eq_false_iff_eq.2 ?_) ?_; focus omega) | refine branch_t' (by assumption) ?_ | refine branch_f' (by assumption) ?_ | refine branch_f' (bne_self_eq_false _) ?_ | refine branch_t' (beq_self_eq_true _) ?_ | (refine branch_f' ?_ ?_; focus (simp; done)) | (refine branch_t' ?_ ?_; focus (simp; done)))
  refine draw_tree (picks [0, 1, 2, 3, 4, 5] .done) (by decide +kernel) ?_
  refine ⟨_, ⟨n1, rfl⟩, ?_⟩
  refine ⟨_, ⟨n2, rfl⟩, ?_⟩
  refine callT_E d3 rfl ?_
  have w3 : IntKind.i64.wrap (0 - p) = -p := by rw [wi (by omega) (by omega)]; omega
  generalize v.tmod 268435456 = x at *
  generalize w.tmod 268435456 = y at *
  have fin : x > y ∨ x < y ∨ x = y := by omega
  rcases fin with hxy | hxy | hxy
  all_goals
    repeat (first | refine branch_true ?_ | refine branch_false ?_ | (refine branch_t' (decide_eq_true ?_) ?_; focus omega) | (refine branch_f' (decide_eq_false ?_) ?_; focus omega) | (refine branch_t' (beq_iff_eq.2 ?_) ?_; focus omega) | (refine branch_f' (beq_eq_false_iff_ne.2 ?_) ?_; focus omega) | (refine branch_t' (bne_iff_ne.2 ?_) ?_; focus omega) | (refine branch_f' (bne_eq_false_iff_eq.2 ?_) ?_; focus omega) | refine branch_t' (by assumption) ?_ | refine branch_f' (by assumption) ?_ | refine branch_f' (bne_self_eq_false _) ?_ | refine branch_t' (beq_self_eq_true _) ?_ | (refine branch_f' ?_ ?_; focus (simp; done)) | (refine branch_t' ?_ ?_; focus (simp; done)))
    refine callT_E n3 rfl ?_
    repeat (first | refine branch_true ?_ | refine branch_false ?_ | (refine branch_t' (decide_eq_true ?_) ?_; focus omega) | (refine branch_f' (decide_eq_false ?_) ?_; focus omega) | (refine branch_t' (beq_iff_eq.2 ?_) ?_; focus omega) | (refine branch_f' (beq_eq_false_iff_ne.2 ?_) ?_; focus omega) | (refine branch_t' (bne_iff_ne.2 ?_) ?_; focus omega) | (refine branch_f' (bne_eq_false_iff_eq.2 ?_) ?_; focus omega) | refine branch_t' (by assumption) ?_ | refine branch_f' (by assumption) ?_ | refine branch_f' (bne_self_eq_false _) ?_ | refine branch_t' (beq_self_eq_true _) ?_ | (refine branch_f' ?_ ?_; focus (simp; done)) | (refine branch_t' ?_ ?_; focus (simp; done)))
    refine callT_E works_c rfl ?_
    repeat (first | refine branch_true ?_ | refine branch_false ?_ | (refine branch_t' (decide_eq_true ?_) ?_; focus omega) | (refine branch_f' (decide_eq_false ?_) ?_; focus omega) | (refine branch_t' (beq_iff_eq.2 ?_) ?_; focus omega) | (refine branch_f' (beq_eq_false_iff_ne.2 ?_) ?_; focus omega) | (refine branch_t' (bne_iff_ne.2 ?_) ?_; focus omega) | (refine branch_f' (bne_eq_false_iff_eq.2 ?_) ?_; focus omega) | refine branch_t' (by assumption) ?_ | refine branch_f' (by assumption) ?_ | refine branch_f' (bne_self_eq_false _) ?_ | refine branch_t' (beq_self_eq_true _) ?_ | (refine branch_f' ?_ ?_; focus (simp; done)) | (refine branch_t' ?_ ?_; focus (simp; done)))
    show Eqv _ _
    exact .up (.up (.refl _))

theorem fdV3 {f : Nat → Int} {t a n s : Int} (ha : 0 ≤ a ∧ a ≤ 100) (hn : 1 ≤ n ∧ n ≤ 100000) (hs : 0 ≤ s ∧ s ≤ 40) (ht : t = 1 ∨ t = 2) (hf : ∀ j, j < 5 → f j ≤ 9) :
    fdV f t ⟨3, a, n, s⟩ = if inV (rV (numV f t * 2 ^ s.toNat) n) 3 = false then (0, 12) else (rV (numV f t * 2 ^ s.toNat) n, 0) := by
  rw [fdV, if_neg (by simp [(cmp_ok3 ha hn hs).2]), if_neg (by omega), if_neg (by rw [over_false hf]; decide)]
/-- What is entered is shown again, where the unit is fine enough. -/
theorem back_exact {D N U : Int} (hN : 1 ≤ N) (hNU : N ≤ U) : rV (rV (D * U) N * N) U = D := by
  have e := rV_err (p := D * U) hN
  generalize rV (D * U) N = n at *
  refine rV_uniq (by omega) ?_ ?_
  all_goals
    rw [Int.mul_assoc] at *
    have k1 : n * N = N * n := Int.mul_comm _ _
    have k2 : D * U = U * D := Int.mul_comm _ _
    rw [k1]
    rw [k2] at e
    rcases Int.lt_or_le N U with h | h
    · omega
    · have hE : N = U := by omega
      subst hE
      have e2 : N * D - N * n = N * (D - n) := by rw [Int.mul_sub]
      rcases Int.lt_trichotomy D n with h3 | h3 | h3
      · have := Int.mul_le_mul_of_nonneg_left (show D - n ≤ -1 by omega) (show 0 ≤ N by omega)
        omega
      · subst h3; omega
      · have := Int.mul_le_mul_of_nonneg_left (show 1 ≤ D - n by omega) (show 0 ≤ N by omega)
        omega
/-- What is shown and entered again differs by little. -/
theorem back_near {v N U : Int} (hN : 1 ≤ N) (hU : 1 ≤ U) : -(U + N) ≤ (rV (rV (v * N) U * U) N - v) * 2 * N ∧ (rV (rV (v * N) U * U) N - v) * 2 * N ≤ U + N := by
  have e1 := rV_err (p := v * N) hU
  generalize rV (v * N) U = n at *
  have e2 := rV_err (p := n * U) hN
  generalize rV (n * U) N = m at *
  rw [Int.mul_assoc] at e1 e2
  have k1 : U * n = n * U := Int.mul_comm _ _
  have k2 : N * m = m * N := Int.mul_comm _ _
  have k3 : (m - v) * 2 * N = 2 * (m * N) - 2 * (v * N) := by
    rw [Int.sub_mul, Int.sub_mul, Int.mul_right_comm, Int.mul_right_comm v]; omega
  rw [k3]
  omega
end Go.Proofs
