/- Chapter 13, laws, part e: NaturalEdge. -/
import Derived.Test.YtkjljhpmkhmmoaaC4
set_option linter.unusedVariables false
set_option linter.unusedSimpArgs false
/-! Qc. -/
namespace Go.Proofs
open Go.E

theorem ones_val : ∀ k : Nat, val (List.replicate k 4294967295) + 1 = 2 ^ (32 * k)
  | 0 => rfl
  | k + 1 => by
    have := ones_val k
    rw [List.replicate_succ, val, show 32 * (k + 1) = 32 * k + 32 by omega, Nat.pow_add, ← this]
    simp only [show (2 : Nat) ^ 32 = 4294967296 from rfl, show (4294967295 : Int).toNat = 4294967295 from rfl]
    omega
theorem ones_limbs (k : Nat) : Limbs (List.replicate k 4294967295) := fun x hx => by
  rw [List.eq_of_mem_replicate hx]
  decide
theorem ones_of {k : Nat} (hk : 0 < k) : limbsOf (val (List.replicate k 4294967295)) = List.replicate k 4294967295 := by
  refine limbsOf_at (ones_limbs k) (.inr ?_) rfl
  have h1 := ones_val k
  have h2 : 2 ^ (32 * (k - 1)) < 2 ^ (32 * k) := Nat.pow_lt_pow_right (by decide) (by omega)
  rw [List.length_replicate]
  omega
theorem ones_bits {k : Nat} (hk : 0 < k) : bitLen (val (List.replicate k 4294967295)) = 32 * k := by
  have h1 := ones_val k
  have h2 : 2 ^ (32 * k - 1) < 2 ^ (32 * k) := Nat.pow_lt_pow_right (by decide) (by omega)
  have h3 : bitLen (val (List.replicate k 4294967295)) ≤ 32 * k := bitLen_le.2 (by omega)
  have h4 : ¬ bitLen (val (List.replicate k 4294967295)) ≤ 32 * k - 1 := fun h => by
    have := bitLen_le.1 h
    omega
  omega
theorem ones_add (k : Nat) {x : Nat} (hx : 1 ≤ x) : 32 * k < bitLen (val (List.replicate k 4294967295) + x) := by
  have h1 := ones_val k
  have h4 : ¬ bitLen (val (List.replicate k 4294967295) + x) ≤ 32 * k := fun h => by
    have := bitLen_le.1 h
    omega
  omega
theorem ones_ge {k j : Nat} (hj : j < 32 * k) : 2 ^ j ≤ val (List.replicate k 4294967295) := by
  have h1 := ones_val k
  have h2 : 2 ^ j < 2 ^ (32 * k) := Nat.pow_lt_pow_right (by decide) hj
  omega
theorem edge_facts {k j : Nat} (hk : 0 < k) (hj : j < 32 * k) : ∃ A V, A = List.replicate k 4294967295 ∧ A.length = k ∧ val A = V ∧ Limbs A ∧ limbsOf V = A ∧ bitLen V = 32 * k ∧ 2 ^ j ≤ V ∧ (∀ x, 1 ≤ x → 32 * k < bitLen (V + x)) :=
  ⟨_, _, rfl, List.length_replicate, rfl, ones_limbs k, ones_of hk, ones_bits hk, ones_ge hj, fun _ hx => ones_add k hx⟩
theorem rep_snoc (i : Nat) : List.replicate i (4294967295 : Int) ++ [4294967295] = List.replicate (i + 1) 4294967295 := by
  rw [List.replicate_succ']

set_option maxRecDepth 8000 in
set_option maxHeartbeats 2000000 in
theorem edge_law (n : Int) (hn : 0 ≤ n ∧ n < 65536) (low : Int) (hl : 0 ≤ low ∧ low < 4294967296) : callP Try.prog 7 [.int .u16 n, .int .u32 low] (· = .bool true) := by
  have i0 := tm_range hn (m := 32768) (by decide) (by decide)
  obtain ⟨J, hJ⟩ : ∃ J, J = (IntKind.i64.wrap n).tmod 32768 := ⟨_, rfl⟩
  rw [← hJ] at i0
  obtain ⟨mx, hmx⟩ : ∃ mx, mx = if (1 : Int) > low then 1 else low := ⟨_, rfl⟩
  have hm : 1 ≤ mx ∧ mx < 4294967296 := by rw [hmx]; split <;> omega
  obtain ⟨A, V, hA, hAl, hAV, hAL, hVA, hVb, hVj, hVx⟩ := edge_facts (k := 1024) (j := J.toNat) (by decide) (by omega)
  have L1 : Limbs [1] := by unfold Limbs; decide
  have sA := small_of (Nat.le_of_eq hAl) (by decide)
  have Lm : Limbs [mx] := fun x hx => by
    rw [List.mem_singleton] at hx
    omega
  have c1 := add_c (a := A) (b := [mx]) sA (by unfold Small; simp) hAL Lm
  rw [hAV, limited, if_pos (Nat.lt_of_le_of_lt (by omega) (hVx (val [mx]) (by simp only [val]; omega)))] at c1
  have c2 := shl_pow (j := 0) L1 (by unfold Small; decide) (by decide) i0.1 (by omega)
  rw [Nat.add_zero, limited_pow_f (by omega)] at c2
  have hbp := bitLen_pow J.toNat
  generalize 2 ^ J.toNat = p at *
  have gp : G (limbsOf p) p 1024 := .nat (by omega)
  have c3 := sub_c sA (small_of gp.2.2.2 (by decide)) hAL gp.1
  have hb3 := bitLen_mono (Nat.sub_le V p)
  have gd : G (limbsOf (V - p)) (V - p) 1024 := .nat (by omega)
  rw [hAV, gp.2.1, subV, if_neg (by omega), limited_fit (by omega)] at c3
  have c4 := add_c (small_of gd.2.2.2 (by decide)) (small_of gp.2.2.2 (by decide)) gd.1 gp.1
  rw [gd.2.1, gp.2.1, Nat.sub_add_cancel hVj, limited_fit (by omega), hVA] at c4
  have c5 := same_c (a := A) (b := A) sA.short
  rw [decide_eq_true (rfl : A = A)] at c5
  have c6 := bits_c sA.short hAL
  rw [hAV, hVb] at c6
  refine callE_def env (fn := Try.f7) rfl (by decide) rfl ?_
  refine loop_weak (fun i : Nat => slots 77 [(0, .int .u16 n), (1, .int .u32 low), (5, .slice ⟨0, 0, 0⟩ i), (6, .int .i64 i)]) (fun i => [.ints .u32 (List.replicate i 4294967295)])
    (fun i => i ≤ 1024) (fun i => 1024 - i) 0 (by omega) ((weak_nil 5 (.ints .u32 []) rfl rfl).trans (weak_keep (keep 77 [0, 1, 5, 6]) [0] rfl rfl rfl)) ?_
  intro i hi
  apply branch_intro <;> intro h2
  · have hk2 : i < 1024 := by simp at h2; omega
    apply choice_l
    apply need_intro
    · show (i + 1) * 4 ≤ 2 ^ 40
      omega
    apply need_intro
    · exact ⟨by show 0 + i = (List.replicate i _).length; rw [List.length_replicate]; omega, isRow_irow _ _ _⟩
    refine ⟨i + 1, (show i + 1 ≤ 1024 by omega), (show 1024 - (i + 1) < 1024 - i by omega), weak_keep (keep 77 [0, 1, 5, 6]) [0] rfl ?_ ?_⟩
    · rw [wi (x := (i : Int) + 1) (by omega) (by omega)]
      rfl
    · show [Blk.ints _ _] = _
      rw [snoc_row, rep_snoc]
  · have hk2 : i = 1024 := by simp at h2; omega
    subst hk2
    rw [← hA]
    rw [hmx] at c1
    rw [hJ] at c2
    apply choice_l
    refine callT_freeze 0 (keep 77 [0, 1, 5]) rfl rfl (Nat.le_refl _) ⟨by show 0 + 1024 ≤ A.length; omega, by show 0 + 1024 ≤ A.length; omega, trivial⟩ ?_
    refine callT_arg (args' := [ints .u32 A, ints .u32 [if (1 : Int) > low then 1 else low]]) (.cons (eqv_part hAl.symm fun _ _ => rfl) (.cons (.up (.up (.refl _))) .nil)) ?_
    refine callT_E c1 rfl ?_
    apply choice_l
    conv => whnf
    refine need_intro (by decide) ?_
    refine callT_E c2 rfl ?_
    refine callT_arg (args' := [ints .u32 A, ints .u32 (limbsOf p)]) (.cons (eqv_part hAl.symm fun _ _ => rfl) (.cons (.up (.up (.refl _))) .nil)) ?_
    refine callT_E c3 rfl ?_
    refine callT_E c4 rfl ?_
    repeat (first | refine branch_true ?_ | refine branch_false ?_ | refine branch_f' (bne_self_eq_false _) ?_ | refine branch_t' (beq_self_eq_true _) ?_ | refine branch_t' (decide_eq_true rfl) ?_)
    refine callT_arg (args' := [ints .u32 A, ints .u32 A]) (.cons (.up (.up (.refl _))) (.cons (eqv_part hAl.symm fun _ _ => rfl) .nil)) ?_
    refine callT_E c5 rfl ?_
    repeat (first | refine branch_true ?_ | refine branch_false ?_ | refine branch_f' (bne_self_eq_false _) ?_ | refine branch_t' (beq_self_eq_true _) ?_ | refine branch_t' (decide_eq_true rfl) ?_)
    refine callT_arg (args' := [ints .u32 A]) (.cons (eqv_part hAl.symm fun _ _ => rfl) .nil) ?_
    refine callT_E c6 rfl ?_
    repeat (first | refine branch_true ?_ | refine branch_false ?_ | refine branch_f' (bne_self_eq_false _) ?_ | refine branch_t' (beq_self_eq_true _) ?_ | refine branch_t' (decide_eq_true rfl) ?_)
    refine callT_E awake_c rfl ?_
    repeat (first | refine branch_true ?_ | refine branch_false ?_ | refine branch_f' (bne_self_eq_false _) ?_ | refine branch_t' (beq_self_eq_true _) ?_ | refine branch_t' (decide_eq_true rfl) ?_)
    show Eqv _ _
    exact .up (.up (.refl _))
end Go.Proofs
