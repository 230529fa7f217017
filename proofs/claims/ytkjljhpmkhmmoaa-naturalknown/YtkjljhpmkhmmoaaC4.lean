/- Chapter 13, laws, part d: NaturalPowers, NaturalEdge. -/
import Derived.Test.YtkjljhpmkhmmoaaC3
set_option linter.unusedVariables false
set_option linter.unusedSimpArgs false
/-! Qb. -/
namespace Go.Proofs
open Go.E

theorem bitLen_pow (n : Nat) : bitLen (2 ^ n) = n + 1 := by
  have := bitLen_mul (n := 1) (k := n) (by decide)
  rw [Nat.mul_one] at this
  rw [this, show bitLen 1 = 1 by rw [bitLen_pos (by decide), show 1 / 2 = 0 from rfl, bitLen_zero]]
theorem limited_pow_f {n : Nat} (h : n < 32768) : limited (2 ^ n) = .tuple [ints .u32 (limbsOf (2 ^ n)), .int .i64 0] := by
  exact limited_fit (by rw [bitLen_pow]; omega)
theorem limited_pow_b {n : Nat} (h : ¬ n < 32768) : limited (2 ^ n) = .tuple [ints .u32 [], .int .i64 4] := by
  rw [limited, if_pos (by rw [bitLen_pow]; omega)]
  rfl
theorem bitLen_pow_div (i k : Nat) : bitLen (2 ^ i / 2 ^ k) = i + 1 - k := by
  by_cases h : k ≤ i
  · rw [Nat.pow_div h (by decide), bitLen_pow]; omega
  · rw [Nat.div_eq_of_lt (Nat.pow_lt_pow_right (by decide) (by omega)), bitLen_zero]; omega
theorem shl_pow {l : List Int} {j : Nat} (ll : Limbs l) (sl : Small l) (hv : val l = 2 ^ j) {i : Int} (h0 : 0 ≤ i) (h1 : i < 32770) : callP Try.prog 35 [ints .u32 l, .int .i64 i] (· = limited (2 ^ (i.toNat + j))) := by
  have c := shl_c sl ll (n := i) (by omega)
  rwa [shlV, if_neg (by omega), hv, ← Nat.pow_add] at c
theorem tm_range {n : Int} (hn : 0 ≤ n ∧ n < 65536) {m : Int} (hm : 0 < m) (hm' : m ≤ 65536) : 0 ≤ (IntKind.i64.wrap n).tmod m ∧ (IntKind.i64.wrap n).tmod m < m := by
  rw [wi (by omega) (by omega), Int.tmod_eq_emod_of_nonneg hn.1]
  exact ⟨Int.emod_nonneg _ (by omega), Int.emod_lt_of_pos _ hm⟩
set_option maxRecDepth 8000 in
set_option maxHeartbeats 2000000 in
theorem powers_law (n : Int) (hn : 0 ≤ n ∧ n < 65536) (m : Int) (hm : 0 ≤ m ∧ m < 65536) : callP Try.prog 10 [.int .u16 n, .int .u16 m] (· = .bool true) := by
  have i0 := tm_range hn (m := 32770) (by decide) (by decide)
  have k0 := tm_range hm (m := 32770) (by decide) (by decide)
  refine callE_def env (fn := Try.f10) rfl (by decide) rfl ?_
  conv => whnf
  refine need_intro (by decide) ?_
  conv => whnf
  refine need_intro (by decide) ?_
  conv => whnf
  generalize (IntKind.i64.wrap n).tmod 32770 = i at *
  generalize (IntKind.i64.wrap m).tmod 32770 = k at *
  apply choice_l
  have L1 : Limbs [1] := by unfold Limbs; decide
  have c1 := shl_pow (j := 0) L1 (by unfold Small; decide) (by decide) i0.1 i0.2
  have c2 := shl_pow (j := 0) L1 (by unfold Small; decide) (by decide) k0.1 k0.2
  rw [Nat.add_zero] at c1 c2
  by_cases hi : i < 32768 <;> by_cases hk : k < 32768
  · rw [limited_pow_f (by omega)] at c1 c2
    refine callT_E c1 rfl ?_
    refine callT_E c2 rfl ?_
    repeat (first | refine branch_true ?_ | refine branch_false ?_ | refine branch_f' (bne_self_eq_false _) ?_ | refine branch_t' (beq_self_eq_true _) ?_ | refine branch_t' (decide_eq_true rfl) ?_ | (refine branch_f' ?_ ?_; focus (simp [hi, hk]; done)) | (refine branch_t' ?_ ?_; focus (simp [hi, hk]; done)))
    have hbi := bitLen_pow i.toNat
    have hbk := bitLen_pow k.toNat
    have gi : G (limbsOf (2 ^ i.toNat)) (2 ^ i.toNat) 1024 := .nat (by omega)
    have gk : G (limbsOf (2 ^ k.toNat)) (2 ^ k.toNat) 1024 := .nat (by omega)
    have si := small_of gi.2.2.2 (by decide)
    have sk := small_of gk.2.2.2 (by decide)
    have c3 := mul_c si sk gi.1 gk.1
    have c4 := shl_pow (j := i.toNat) gi.1 si gi.2.1 k0.1 k0.2
    have c5 := shr_c si gi.1 (n := k) (by omega)
    have c6 := bits_c si.short gi.1
    have c8 := cmp_c si sk gi.1 gk.1
    rw [gi.2.1, gk.2.1, ← Nat.pow_add] at c3
    rw [Nat.add_comm] at c4
    rw [gi.2.1, shrV, if_neg (by omega), limited_fit (Nat.le_trans (bitLen_mono (Nat.div_le_self _ _)) (by omega))] at c5
    rw [gi.2.1, hbi, show ((i.toNat + 1 : Nat) : Int) = i + 1 by omega] at c6
    rw [gi.2.1, gk.2.1] at c8
    have gq : G (limbsOf (2 ^ i.toNat / 2 ^ k.toNat)) (2 ^ i.toNat / 2 ^ k.toNat) 1024 := .nat (Nat.le_trans (bitLen_mono (Nat.div_le_self _ _)) gi.2.2.1)
    have c7 := bits_c (small_of gq.2.2.2 (by decide)).short gq.1
    rw [gq.2.1, bitLen_pow_div] at c7
    have w1 : IntKind.i64.wrap (i + 1) = i + 1 := wi (by omega) (by omega)
    have w2 : IntKind.i64.wrap (i + 1 - k) = i + 1 - k := wi (by omega) (by omega)
    have w3 : IntKind.i64.wrap (i + k) = i + k := wi (by omega) (by omega)
    obtain ⟨s, e, hs, hsl, he⟩ : ∃ s e, limited (2 ^ (i.toNat + k.toNat)) = .tuple [ints .u32 s, .int .i64 e] ∧ s.length ≤ 1024 ∧ (i + k < 32768 ∧ e = 0 ∨ ¬ i + k < 32768 ∧ e = 4) := by
      by_cases h : i + k < 32768
      · exact ⟨_, _, limited_pow_f (by omega), limbsOf_lenb (m := 1024) (by rw [bitLen_pow]; omega), .inl ⟨h, rfl⟩⟩
      · exact ⟨_, _, limited_pow_b (by omega), by simp, .inr ⟨h, rfl⟩⟩
    rw [hs] at c3 c4
    refine callT_E c3 rfl ?_
    refine callT_E c4 rfl ?_
    repeat (first | refine branch_true ?_ | refine branch_false ?_ | refine branch_f' (bne_self_eq_false _) ?_ | refine branch_t' (beq_self_eq_true _) ?_ | refine branch_t' (decide_eq_true rfl) ?_ | (refine branch_f' ?_ ?_; focus (simp [hi, hk]; done)) | (refine branch_t' ?_ ?_; focus (simp [hi, hk]; done)))
    refine callT_E (same_c (a := s) (b := s) (by unfold Short; omega)) rfl ?_
    repeat (first | refine branch_true ?_ | refine branch_false ?_ | refine branch_f' (bne_self_eq_false _) ?_ | refine branch_t' (beq_self_eq_true _) ?_ | refine branch_t' (decide_eq_true rfl) ?_ | (refine branch_f' ?_ ?_; focus (simp [hi, hk]; done)) | (refine branch_t' ?_ ?_; focus (simp [hi, hk]; done)))
    rcases he with ⟨he, rfl⟩ | ⟨he, rfl⟩
    · repeat (first | refine branch_true ?_ | refine branch_false ?_ | refine branch_f' (bne_self_eq_false _) ?_ | refine branch_t' (beq_self_eq_true _) ?_ | refine branch_t' (decide_eq_true rfl) ?_ | (refine branch_f' ?_ ?_; focus (simp [he, w1, w2, w3]; done)) | (refine branch_t' ?_ ?_; focus (simp [he, w1, w2, w3]; done)))
      refine callT_E c5 rfl ?_
      refine callT_E c6 rfl ?_
      repeat (first | refine branch_true ?_ | refine branch_false ?_ | refine branch_f' (bne_self_eq_false _) ?_ | refine branch_t' (beq_self_eq_true _) ?_ | refine branch_t' (decide_eq_true rfl) ?_ | (refine branch_f' ?_ ?_; focus (simp [he, w1, w2, w3]; done)) | (refine branch_t' ?_ ?_; focus (simp [he, w1, w2, w3]; done)))
      refine callT_E c7 rfl ?_
      repeat (first | refine branch_true ?_ | refine branch_false ?_ | refine branch_f' (bne_self_eq_false _) ?_ | refine branch_t' (beq_self_eq_true _) ?_ | refine branch_t' (decide_eq_true rfl) ?_ | (refine branch_f' ?_ ?_; focus (simp [he, w1, w2, w3]; done)) | (refine branch_t' ?_ ?_; focus (simp [he, w1, w2, w3]; done)))
      refine branch_t' (by rw [w1, w2]; simp; split <;> omega) ?_
      repeat (first | refine branch_true ?_ | refine branch_false ?_ | refine branch_f' (bne_self_eq_false _) ?_ | refine branch_t' (beq_self_eq_true _) ?_ | refine branch_t' (decide_eq_true rfl) ?_ | (refine branch_f' ?_ ?_; focus (simp [he, w1, w2, w3]; done)) | (refine branch_t' ?_ ?_; focus (simp [he, w1, w2, w3]; done)))
      refine callT_E c8 rfl ?_
      repeat (first | refine branch_true ?_ | refine branch_false ?_ | refine branch_f' (bne_self_eq_false _) ?_ | refine branch_t' (beq_self_eq_true _) ?_ | refine branch_t' (decide_eq_true rfl) ?_ | (refine branch_f' ?_ ?_; focus (simp [he, w1, w2, w3]; done)) | (refine branch_t' ?_ ?_; focus (simp [he, w1, w2, w3]; done)))
      refine branch_t' (by rw [beq_iff_eq, decide_eq_decide, cmpN_neg, Nat.pow_lt_pow_iff_right (by decide)]; omega) ?_
      repeat (first | refine branch_true ?_ | refine branch_false ?_ | refine branch_f' (bne_self_eq_false _) ?_ | refine branch_t' (beq_self_eq_true _) ?_ | refine branch_t' (decide_eq_true rfl) ?_)
      refine callT_E awake_c rfl ?_
      repeat (first | refine branch_true ?_ | refine branch_false ?_ | refine branch_f' (bne_self_eq_false _) ?_ | refine branch_t' (beq_self_eq_true _) ?_ | refine branch_t' (decide_eq_true rfl) ?_)
      show Eqv _ _
      exact .up (.up (.refl _))
    · repeat (first | refine branch_true ?_ | refine branch_false ?_ | refine branch_f' (bne_self_eq_false _) ?_ | refine branch_t' (beq_self_eq_true _) ?_ | refine branch_t' (decide_eq_true rfl) ?_ | (refine branch_f' ?_ ?_; focus (simp [he, w1, w2, w3]; done)) | (refine branch_t' ?_ ?_; focus (simp [he, w1, w2, w3]; done)))
      refine callT_E c5 rfl ?_
      refine callT_E c6 rfl ?_
      repeat (first | refine branch_true ?_ | refine branch_false ?_ | refine branch_f' (bne_self_eq_false _) ?_ | refine branch_t' (beq_self_eq_true _) ?_ | refine branch_t' (decide_eq_true rfl) ?_ | (refine branch_f' ?_ ?_; focus (simp [he, w1, w2, w3]; done)) | (refine branch_t' ?_ ?_; focus (simp [he, w1, w2, w3]; done)))
      refine callT_E c7 rfl ?_
      repeat (first | refine branch_true ?_ | refine branch_false ?_ | refine branch_f' (bne_self_eq_false _) ?_ | refine branch_t' (beq_self_eq_true _) ?_ | refine branch_t' (decide_eq_true rfl) ?_ | (refine branch_f' ?_ ?_; focus (simp [he, w1, w2, w3]; done)) | (refine branch_t' ?_ ?_; focus (simp [he, w1, w2, w3]; done)))
      refine branch_t' (by rw [w1, w2]; simp; split <;> omega) ?_
      repeat (first | refine branch_true ?_ | refine branch_false ?_ | refine branch_f' (bne_self_eq_false _) ?_ | refine branch_t' (beq_self_eq_true _) ?_ | refine branch_t' (decide_eq_true rfl) ?_ | (refine branch_f' ?_ ?_; focus (simp [he, w1, w2, w3]; done)) | (refine branch_t' ?_ ?_; focus (simp [he, w1, w2, w3]; done)))
      refine callT_E c8 rfl ?_
      repeat (first | refine branch_true ?_ | refine branch_false ?_ | refine branch_f' (bne_self_eq_false _) ?_ | refine branch_t' (beq_self_eq_true _) ?_ | refine branch_t' (decide_eq_true rfl) ?_ | (refine branch_f' ?_ ?_; focus (simp [he, w1, w2, w3]; done)) | (refine branch_t' ?_ ?_; focus (simp [he, w1, w2, w3]; done)))
      refine branch_t' (by rw [beq_iff_eq, decide_eq_decide, cmpN_neg, Nat.pow_lt_pow_iff_right (by decide)]; omega) ?_
      repeat (first | refine branch_true ?_ | refine branch_false ?_ | refine branch_f' (bne_self_eq_false _) ?_ | refine branch_t' (beq_self_eq_true _) ?_ | refine branch_t' (decide_eq_true rfl) ?_)
      refine callT_E awake_c rfl ?_
      repeat (first | refine branch_true ?_ | refine branch_false ?_ | refine branch_f' (bne_self_eq_false _) ?_ | refine branch_t' (beq_self_eq_true _) ?_ | refine branch_t' (decide_eq_true rfl) ?_)
      show Eqv _ _
      exact .up (.up (.refl _))
  · rw [limited_pow_f (by omega)] at c1
    rw [limited_pow_b (by omega)] at c2
    refine callT_E c1 rfl ?_
    refine callT_E c2 rfl ?_
    repeat (first | refine branch_true ?_ | refine branch_false ?_ | refine branch_f' (bne_self_eq_false _) ?_ | refine branch_t' (beq_self_eq_true _) ?_ | refine branch_t' (decide_eq_true rfl) ?_ | (refine branch_f' ?_ ?_; focus (simp [hi, hk]; done)) | (refine branch_t' ?_ ?_; focus (simp [hi, hk]; done)))
    repeat (first | refine branch_true ?_ | refine branch_false ?_ | refine branch_f' (bne_self_eq_false _) ?_ | refine branch_t' (beq_self_eq_true _) ?_ | refine branch_t' (decide_eq_true rfl) ?_)
    refine callT_E awake_c rfl ?_
    repeat (first | refine branch_true ?_ | refine branch_false ?_ | refine branch_f' (bne_self_eq_false _) ?_ | refine branch_t' (beq_self_eq_true _) ?_ | refine branch_t' (decide_eq_true rfl) ?_)
    show Eqv _ _
    exact .up (.up (.refl _))
  · rw [limited_pow_b (by omega)] at c1
    rw [limited_pow_f (by omega)] at c2
    refine callT_E c1 rfl ?_
    refine callT_E c2 rfl ?_
    repeat (first | refine branch_true ?_ | refine branch_false ?_ | refine branch_f' (bne_self_eq_false _) ?_ | refine branch_t' (beq_self_eq_true _) ?_ | refine branch_t' (decide_eq_true rfl) ?_ | (refine branch_f' ?_ ?_; focus (simp [hi, hk]; done)) | (refine branch_t' ?_ ?_; focus (simp [hi, hk]; done)))
    repeat (first | refine branch_true ?_ | refine branch_false ?_ | refine branch_f' (bne_self_eq_false _) ?_ | refine branch_t' (beq_self_eq_true _) ?_ | refine branch_t' (decide_eq_true rfl) ?_)
    refine callT_E awake_c rfl ?_
    repeat (first | refine branch_true ?_ | refine branch_false ?_ | refine branch_f' (bne_self_eq_false _) ?_ | refine branch_t' (beq_self_eq_true _) ?_ | refine branch_t' (decide_eq_true rfl) ?_)
    show Eqv _ _
    exact .up (.up (.refl _))
  · rw [limited_pow_b (by omega)] at c1 c2
    refine callT_E c1 rfl ?_
    refine callT_E c2 rfl ?_
    repeat (first | refine branch_true ?_ | refine branch_false ?_ | refine branch_f' (bne_self_eq_false _) ?_ | refine branch_t' (beq_self_eq_true _) ?_ | refine branch_t' (decide_eq_true rfl) ?_ | (refine branch_f' ?_ ?_; focus (simp [hi, hk]; done)) | (refine branch_t' ?_ ?_; focus (simp [hi, hk]; done)))
    repeat (first | refine branch_true ?_ | refine branch_false ?_ | refine branch_f' (bne_self_eq_false _) ?_ | refine branch_t' (beq_self_eq_true _) ?_ | refine branch_t' (decide_eq_true rfl) ?_)
    refine callT_E awake_c rfl ?_
    repeat (first | refine branch_true ?_ | refine branch_false ?_ | refine branch_f' (bne_self_eq_false _) ?_ | refine branch_t' (beq_self_eq_true _) ?_ | refine branch_t' (decide_eq_true rfl) ?_)
    show Eqv _ _
    exact .up (.up (.refl _))
end Go.Proofs
