/- Chapter 13, laws, part rb: NaturalDecimals. -/
import Derived.Test.YtkjljhpmkhmmoaaC4
set_option linter.unusedVariables false
set_option linter.unusedSimpArgs false
/-! Rb. -/
namespace Go.Proofs
open Go.E

/-- The digits as bytes, the greatest first. -/
def digL (n : Nat) : List UInt8 := (ascii (decD n)).reverse.map fun z => UInt8.ofNat z.toNat
theorem digL_small {n : Nat} (h : n < 10) : digL n = [UInt8.ofNat (48 + n)] := by
  rw [digL, decD_small h]
  show [UInt8.ofNat (48 + (n : Int)).toNat] = _
  rw [show (48 + (n : Int)).toNat = 48 + n by omega]
theorem digL_big {n : Nat} (h : ¬ n < 10) : digL n = digL (n / 10) ++ [UInt8.ofNat (48 + n % 10)] := by
  rw [digL, decD_big h, digL]
  show ((48 + ((n % 10 : Nat) : Int)) :: ascii (decD (n / 10))).reverse.map _ = _
  rw [List.reverse_cons, List.map_append]
  show _ ++ [UInt8.ofNat (48 + ((n % 10 : Nat) : Int)).toNat] = _
  rw [show (48 + ((n % 10 : Nat) : Int)).toNat = 48 + n % 10 by omega]
theorem ofNat_to {n : Nat} (h : n < 256) : (UInt8.ofNat n).toNat = n := by
  rw [UInt8.toNat_ofNat']
  exact Nat.mod_eq_of_lt h
theorem digL_facts (n : Nat) : numL (digL n) 0 = n ∧ (digL n).all dig = true ∧ digL n ≠ [] ∧ (n ≠ 0 → 49 ≤ ((digL n).getD 0 0).toNat) ∧ (digL n).length ≤ bitLen n + 1 := by
  induction n using Nat.strongRecOn with
  | ind n ih =>
    by_cases h : n < 10
    · rw [digL_small h]
      have e := ofNat_to (n := 48 + n) (by omega)
      refine ⟨?_, ?_, by simp, fun h0 => ?_, by simp⟩
      · rw [numL, numL, e]; omega
      · simp [dig, e]; omega
      · show 49 ≤ (UInt8.ofNat (48 + n)).toNat
        rw [e]; omega
    · obtain ⟨i1, i2, i3, i4, i5⟩ := ih (n / 10) (by omega)
      have e := ofNat_to (n := 48 + n % 10) (by omega)
      have hb := bitLen_div10 (n := n) (by omega)
      rw [digL_big h]
      refine ⟨?_, ?_, by simp, fun _ => ?_, by simp only [List.length_append, List.length_cons, List.length_nil]; omega⟩
      · rw [numL_snoc, i1, e]; omega
      · rw [List.all_append, i2]
        simp [dig, e]; omega
      · have := i4 (by omega)
        cases hd : digL (n / 10) with
        | nil => exact absurd hd i3
        | cons x r => rw [hd] at this; exact this
theorem decS_list (n : Nat) : (decS n).data.toList = digL n := by
  rw [decS, digL]
  rfl
theorem decS_size (n : Nat) : (decS n).size = (digL n).length := by rw [← size_list, decS_list]
theorem decS_parse {n : Nat} (h : bitLen n ≤ 32000) : parseV (decS n) = .tuple [ints .u32 (limbsOf n), .int .i64 0] := by
  obtain ⟨i1, i2, i3, i4, i5⟩ := digL_facts n
  have hs := decS_size n
  have hp : 0 < (digL n).length := List.length_pos_iff.2 i3
  have hg : goodT (decS n) = true := by
    rw [goodT, decS_list, i2, decide_eq_false (by omega)]
    simp only [Bool.not_false, Bool.true_and, Bool.and_true, Bool.not_eq_true', Bool.and_eq_false_iff, decide_eq_false_iff_not]
    by_cases h0 : n = 0
    · subst h0
      left
      rw [hs, digL_small (by decide)]
      simp
    · right
      rw [byteAt, decS_list]
      have := i4 h0
      omega
  rw [parseV, hg, if_neg (by decide), if_neg (by omega), decS_list, i1, limited_fit (by omega)]

set_option maxRecDepth 8000 in
set_option maxHeartbeats 2000000 in
theorem decimals_law (a : List Int) (_ : a.length ≤ maxLen) (la : Limbs a) (n : Int) (hn : 0 ≤ n ∧ n < 256) : callP Try.prog 12 [ints .u32 a, .int .u8 n] (· = .bool true) := by
  refine callE_def env (fn := Try.f12) rfl (by decide) rfl ?_
  apply branch_intro <;> intro h
  · repeat (first | refine branch_true ?_ | refine branch_false ?_ | refine branch_f' (bne_self_eq_false _) ?_ | refine branch_t' (beq_self_eq_true _) ?_ | refine branch_t' (decide_eq_true rfl) ?_)
    refine callT_E awake_c rfl ?_
    repeat (first | refine branch_true ?_ | refine branch_false ?_ | refine branch_f' (bne_self_eq_false _) ?_ | refine branch_t' (beq_self_eq_true _) ?_ | refine branch_t' (decide_eq_true rfl) ?_)
    show Eqv _ _
    exact .up (.up (.refl _))
  have ha : a.length ≤ 40 := by simp at h; omega
  have ga := G.of la ha
  have sa := small_of ha (by decide)
  have e0 : IntKind.i64.wrap n = n := wi (by omega) (by omega)
  have c1 := decimal_c (a := a) (by omega) la
  have c3 := shl_c sa la (n := IntKind.i64.wrap n) (by omega)
  have hx := ga.2.2.1
  have c5 := norm_g ga (by decide)
  rw [shlV, if_neg (by omega)] at c3
  generalize val a = x at *
  have c2 := parse_c (decS x) (by
    have := (digL_facts x).2.2.2.2
    rw [decS_size]
    exact Nat.le_trans this (Nat.le_trans (show bitLen x + 1 ≤ 2000 by omega) (by decide)))
  rw [decS_parse (by omega)] at c2
  have hk : (IntKind.i64.wrap n).toNat < 256 := by omega
  have hw : ¬ IntKind.i64.wrap n < 0 := by omega
  have hw2 : IntKind.i64.wrap n < 256 := by omega
  have b1 := bitLen_two_mul (IntKind.i64.wrap n).toNat x
  have gl : G (limbsOf (2 ^ (IntKind.i64.wrap n).toNat * x)) (2 ^ (IntKind.i64.wrap n).toNat * x) 48 := .nat (by omega)
  have c4 := shr_c (small_of gl.2.2.2 (by decide)) gl.1 (n := IntKind.i64.wrap n) (by omega)
  rw [shrV, if_neg hw, gl.2.1, Nat.mul_div_cancel_left _ (Nat.two_pow_pos _), limited_fit (by omega)] at c4
  rw [limited_fit (by omega)] at c3
  have gx : G (limbsOf x) x 40 := .nat hx
  obtain ⟨f1, f2, f3, f4, f5⟩ := digL_facts x
  repeat (first | refine branch_true ?_ | refine branch_false ?_ | refine branch_f' (bne_self_eq_false _) ?_ | refine branch_t' (beq_self_eq_true _) ?_ | refine branch_t' (decide_eq_true rfl) ?_)
  refine callT_E c1 rfl ?_
  repeat (first | refine branch_true ?_ | refine branch_false ?_ | refine branch_f' (bne_self_eq_false _) ?_ | refine branch_t' (beq_self_eq_true _) ?_ | refine branch_t' (decide_eq_true rfl) ?_)
  refine callT_E c2 rfl ?_
  repeat (first | refine branch_true ?_ | refine branch_false ?_ | refine branch_f' (bne_self_eq_false _) ?_ | refine branch_t' (beq_self_eq_true _) ?_ | refine branch_t' (decide_eq_true rfl) ?_)
  refine callT_E c3 rfl ?_
  repeat (first | refine branch_true ?_ | refine branch_false ?_ | refine branch_f' (bne_self_eq_false _) ?_ | refine branch_t' (beq_self_eq_true _) ?_ | refine branch_t' (decide_eq_true rfl) ?_)
  refine callT_E c4 rfl ?_
  repeat (first | refine branch_true ?_ | refine branch_false ?_ | refine branch_f' (bne_self_eq_false _) ?_ | refine branch_t' (beq_self_eq_true _) ?_ | refine branch_t' (decide_eq_true rfl) ?_)
  refine callT_E c5 rfl ?_
  repeat (first | refine branch_true ?_ | refine branch_false ?_ | refine branch_f' (bne_self_eq_false _) ?_ | refine branch_t' (beq_self_eq_true _) ?_ | refine branch_t' (decide_eq_true rfl) ?_)
  refine callT_E (same_g (m := 40) rfl hx (by decide)) rfl ?_
  repeat (first | refine branch_true ?_ | refine branch_false ?_ | refine branch_f' (bne_self_eq_false _) ?_ | refine branch_t' (beq_self_eq_true _) ?_ | refine branch_t' (decide_eq_true rfl) ?_)
  refine callT_E c5 rfl ?_
  repeat (first | refine branch_true ?_ | refine branch_false ?_ | refine branch_f' (bne_self_eq_false _) ?_ | refine branch_t' (beq_self_eq_true _) ?_ | refine branch_t' (decide_eq_true rfl) ?_)
  refine callT_E (same_g (m := 40) rfl hx (by decide)) rfl ?_
  repeat (first | refine branch_true ?_ | refine branch_false ?_ | refine branch_f' (bne_self_eq_false _) ?_ | refine branch_t' (beq_self_eq_true _) ?_ | refine branch_t' (decide_eq_true rfl) ?_)
  refine branch_t' (by
    show (!((decS x).toList == ByteArray.toList ⟨#[]⟩)) = true
    rw [Bool.not_eq_true', ← Bool.not_eq_true, empty_iff, decS_size]
    exact fun h => f3 (List.length_eq_zero_iff.1 h)) ?_
  repeat (first | refine branch_true ?_ | refine branch_false ?_ | refine branch_f' (bne_self_eq_false _) ?_ | refine branch_t' (beq_self_eq_true _) ?_ | refine branch_t' (decide_eq_true rfl) ?_)
  by_cases h0 : x = 0
  · refine branch_t' (by
      rw [beq_iff_eq, ByteArray.toList_eq, ByteArray.toList_eq, decS_list, h0, digL_small (by decide)]
      rfl) ?_
    repeat (first | refine branch_true ?_ | refine branch_false ?_ | refine branch_f' (bne_self_eq_false _) ?_ | refine branch_t' (beq_self_eq_true _) ?_ | refine branch_t' (decide_eq_true rfl) ?_)
    refine callT_E awake_c rfl ?_
    repeat (first | refine branch_true ?_ | refine branch_false ?_ | refine branch_f' (bne_self_eq_false _) ?_ | refine branch_t' (beq_self_eq_true _) ?_ | refine branch_t' (decide_eq_true rfl) ?_)
    show Eqv _ _
    exact .up (.up (.refl _))
  · have hne : ((decS x).data.toList.getD 0 0).toNat ≠ 48 := by
      have := f4 h0
      rw [decS_list]
      omega
    refine branch_f' (by
      rw [beq_eq_false_iff_ne, ByteArray.toList_eq, ByteArray.toList_eq]
      intro h
      rw [h] at hne
      exact hne rfl) ?_
    repeat (first | refine branch_true ?_ | refine branch_false ?_ | refine branch_f' (bne_self_eq_false _) ?_ | refine branch_t' (beq_self_eq_true _) ?_ | refine branch_t' (decide_eq_true rfl) ?_)
    apply need_intro
    · have := List.length_pos_iff.2 f3
      rw [← decS_size] at this
      first | omega | (dsimp only; omega)
    repeat (first | refine branch_true ?_ | refine branch_false ?_ | refine branch_f' (bne_self_eq_false _) ?_ | refine branch_t' (beq_self_eq_true _) ?_ | refine branch_t' (decide_eq_true rfl) ?_)
    refine branch_t' (bne_iff_ne.2 fun h => hne (by
      have h : (((decS x).data.toList.getD 0 0).toNat : Int) = 48 := h
      omega)) ?_
    repeat (first | refine branch_true ?_ | refine branch_false ?_ | refine branch_f' (bne_self_eq_false _) ?_ | refine branch_t' (beq_self_eq_true _) ?_ | refine branch_t' (decide_eq_true rfl) ?_)
    refine callT_E awake_c rfl ?_
    repeat (first | refine branch_true ?_ | refine branch_false ?_ | refine branch_f' (bne_self_eq_false _) ?_ | refine branch_t' (beq_self_eq_true _) ?_ | refine branch_t' (decide_eq_true rfl) ?_)
    show Eqv _ _
    exact .up (.up (.refl _))
end Go.Proofs
