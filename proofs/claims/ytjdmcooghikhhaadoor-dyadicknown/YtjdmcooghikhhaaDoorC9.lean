/- Chapter 14, part m: the laws of rounding and of doubles. -/
import Derived.Test.YtjdmcooghikhhaaDoorC8
set_option linter.unusedVariables false
set_option linter.unusedSimpArgs false
/-! Dm. -/
namespace Go.Proofs.N13
open Go.E
set_option maxRecDepth 8000

set_option maxHeartbeats 2000000 in
theorem rround_c (near : Bool) {x : Dy} (hx : x.fit) {k : Int} (hk : -8192 ≤ k ∧ k ≤ 8192) : callP Tryd.prog 21 [rA x, .int .i64 k, .bool near] (· = rA (roundD near x k)) := by
  obtain ⟨f1, f2, f3⟩ := hx
  have hl := bitsOf_len x.m
  have hl0 := bits_len0 x.m
  refine callE_def env (fn := Tryd.f21) rfl (by decide) rfl ?_
  have w1 : IntKind.i64.wrap (IntKind.i64.wrap (0 - k) - x.e) = -k - x.e := by rw [wi (x := 0 - k) (by omega) (by omega), wi (by omega) (by omega)]; omega
  apply branch_intro <;> intro h3
  · have h3 := of_decide_eq_true h3
    rw [w1] at h3
    repeat (first | refine branch_true ?_ | refine branch_false ?_ | refine branch_f' (bne_self_eq_false _) ?_ | refine branch_t' (beq_self_eq_true _) ?_ | refine branch_t' (decide_eq_true rfl) ?_)
    rw [roundD, if_pos (.inl h3)]
    show Eqv _ _
    exact .up (.up (.refl _))
  have h3 := of_decide_eq_false h3
  rw [w1] at h3
  repeat (first | refine branch_true ?_ | refine branch_false ?_ | refine branch_f' (bne_self_eq_false _) ?_ | refine branch_t' (beq_self_eq_true _) ?_ | refine branch_t' (decide_eq_true rfl) ?_)
  apply branch_intro <;> intro h4
  · have h4 : x.m = 0 := hl0.1 (by have := eq_of_beq h4; omega)
    rw [roundD, if_pos (.inr h4)]
    show Eqv _ _
    exact .up (.up (.refl _))
  have h4 : ¬ x.m = 0 := fun c => by have := hl0.2 c; rw [this] at h4; simp at h4
  have hrd : roundD near x k = canonD x.neg (x.m / 2 ^ (-k - x.e).toNat + if near = true ∧ x.m / 2 ^ ((-k - x.e).toNat - 1) % 2 = 1 then 1 else 0) (-k) := by rw [roundD, if_neg (by omega)]
  rw [hrd]
  clear hrd
  obtain ⟨s, hs⟩ : ∃ s : Nat, -k - x.e = ((s + 1 : Nat) : Int) := ⟨(-k - x.e).toNat - 1, by omega⟩
  rw [hs] at w1 ⊢
  rw [Int.toNat_natCast, Nat.add_sub_cancel]
  have hsb : s ≤ 20000 := by omega
  have hq := bitLen_mono (Nat.div_le_self x.m (2 ^ (s + 1)))
  have wk : IntKind.i64.wrap (0 - k) = -k := by rw [wi (by omega) (by omega)]; omega
  have fin : ∀ c : Nat, c ≤ 1 → callP Tryd.prog 53 [.bool x.neg, ints .u8 (bitsOf (x.m / 2 ^ (s + 1) + c)), .int .i64 (IntKind.i64.wrap (0 - k))] (· = rA (canonD x.neg (x.m / 2 ^ (s + 1) + c) (-k))) := by
    intro c hc
    have hcb := bitLen_add_le (x := x.m / 2 ^ (s + 1)) (y := c) (m := 8192) (by omega) (Nat.le_trans (bitLen_small (k := 1) (by omega)) (by omega))
    have cc := make2_c x.neg (m := x.m / 2 ^ (s + 1) + c) (e := IntKind.i64.wrap (0 - k)) (by omega) (by rw [wk]; omega)
    rwa [wk] at cc ⊢
  refine callT_E ((congrArg (fun z => callP Tryd.prog 57 [ints .u8 (bitsOf x.m), .int .i64 z] (· = ints .u8 (bitsOf (x.m / 2 ^ (s + 1))))) w1).mpr (rshr_c x.m (s + 1) (by omega) (by omega))) rfl ?_
  have w2 : IntKind.i64.wrap (IntKind.i64.wrap (IntKind.i64.wrap (0 - k) - x.e) - 1) = (s : Int) := by rw [w1, wi (by omega) (by omega)]; omega
  have hbit : ∀ a : Int, a = (s : Int) → ((bitsOf x.m).getD a.toNat 0 == 1) = decide (x.m / 2 ^ s % 2 = 1) := by
    rintro _ rfl
    rw [Int.toNat_natCast, bit_of]
    by_cases hq : x.m / 2 ^ s % 2 = 1
    · rw [hq, decide_eq_true rfl]; rfl
    · rw [decide_eq_false hq, beq_eq_false_iff_ne]
      omega
  cases near
  · repeat (first | refine branch_true ?_ | refine branch_false ?_ | refine branch_f' (bne_self_eq_false _) ?_ | refine branch_t' (beq_self_eq_true _) ?_ | refine branch_t' (decide_eq_true rfl) ?_)
    rw [if_neg (by simp)]
    refine callT_E (fin 0 (by omega)) rfl ?_
    show Eqv _ _
    exact .up (.up (.refl _))
  repeat (first | refine branch_true ?_ | refine branch_false ?_ | refine branch_f' (bne_self_eq_false _) ?_ | refine branch_t' (beq_self_eq_true _) ?_ | refine branch_t' (decide_eq_true rfl) ?_)
  apply branch_intro <;> intro h5
  · have h5 := of_decide_eq_true h5
    rw [w1] at h5
    repeat (first | refine branch_true ?_ | refine branch_false ?_ | refine branch_f' (bne_self_eq_false _) ?_ | refine branch_t' (beq_self_eq_true _) ?_ | refine branch_t' (decide_eq_true rfl) ?_)
    apply need_intro
    · rw [w2]; omega
    repeat (first | refine branch_true ?_ | refine branch_false ?_ | refine branch_f' (bne_self_eq_false _) ?_ | refine branch_t' (beq_self_eq_true _) ?_ | refine branch_t' (decide_eq_true rfl) ?_)
    apply branch_intro <;> intro h6
    · rw [hbit _ w2] at h6
      have h6 := of_decide_eq_true h6
      rw [if_pos ⟨rfl, h6⟩]
      refine callT_E (rof_c (n := 1) (by decide)) rfl ?_
      refine callT_E (radd_c (x.m / 2 ^ (s + 1)) 1 (by omega) (Nat.le_trans (bitLen_small (k := 1) (by decide)) (by omega))) rfl ?_
      refine callT_E (fin 1 (by omega)) rfl ?_
      show Eqv _ _
      exact .up (.up (.refl _))
    · rw [hbit _ w2] at h6
      have h6 := of_decide_eq_false h6
      rw [if_neg (fun c => h6 c.2)]
      refine callT_E (fin 0 (by omega)) rfl ?_
      show Eqv _ _
      exact .up (.up (.refl _))
  · have h5 := of_decide_eq_false h5
    rw [w1] at h5
    repeat (first | refine branch_true ?_ | refine branch_false ?_ | refine branch_f' (bne_self_eq_false _) ?_ | refine branch_t' (beq_self_eq_true _) ?_ | refine branch_t' (decide_eq_true rfl) ?_)
    have h0 : x.m / 2 ^ s = 0 := Nat.div_eq_of_lt (bitLen_le.1 (by omega))
    rw [if_neg (by intro c; rw [h0] at c; omega)]
    refine callT_E (fin 0 (by omega)) rfl ?_
    show Eqv _ _
    exact .up (.up (.refl _))
theorem roundD_bits {near : Bool} {x : Dy} (hx : x.fit) (k : Int) : bitLen (roundD near x k).m ≤ 8193 := by
  obtain ⟨f1, f2, f3⟩ := hx
  unfold roundD
  split
  · omega
  · have hq := bitLen_mono (Nat.div_le_self x.m (2 ^ (-k - x.e).toNat))
    refine Nat.le_trans (canonD_bits _ _ _) (bitLen_add_le (m := 8192) (by omega) ?_)
    split
    · exact Nat.le_trans (bitLen_small (k := 1) (by decide)) (by omega)
    · rw [bitLen_zero]; omega
theorem same_zero : callP Tryd.prog 19 [dyA .zero, dyZ] (· = .bool true) :=
  callP_arg (.cons (.up (.up (.refl _))) (.cons (.up eqv_dyZ) .nil)) (same_true rfl (by show bitLen 0 ≤ _; rw [bitLen_zero]; omega))
theorem resV_form2 (x : Dy) : ∃ d e, resV x = .tuple [dyA d, .int .i64 e] ∧ bitLen d.m ≤ bitLen x.m := by
  unfold resV
  split
  · exact ⟨_, _, rfl, Nat.le_refl _⟩
  · exact ⟨_, _, rfl, by show bitLen 0 ≤ _; rw [bitLen_zero]; omega⟩

set_option maxHeartbeats 4000000 in
theorem rounds_law (n : Bool) (l : List Int) (e : Int) (_ : l.length ≤ maxLen) (hl : Limbs l) (he : -9223372036854775808 ≤ e ∧ e ≤ 9223372036854775807) (k : Int) (hk : -9223372036854775808 ≤ k ∧ k ≤ 9223372036854775807) : callP Tryd.prog 3 [dyL n l e, .int .i64 k] (· = .bool true) := by
  refine callE_def env (fn := Tryd.f3) rfl (by decide) rfl ?_
  apply branch_intro <;> intro h
  · refine callT_E awake_c rfl ?_
    show Eqv _ _
    exact .up (.up (.refl _))
  have hlen : l.length ≤ 300 := by have := of_decide_eq_false h; omega
  have ha : ArgD l (val l) e := ⟨by omega, hl, rfl, he⟩
  generalize val l = m at ha
  have cr := round_c n ha hk
  have ct := trunc_c n ha hk
  have cv := rval_c n ha
  unfold rvalV at cv
  have hok := rvalD_ok (neg := n) (m := m) (e := e)
  generalize canonD n m e = x at *
  generalize rvalD n m e = y at *
  by_cases hkr : k < -8192 ∨ 8192 < k
  · rw [roundV, if_pos hkr] at cr ct
    refine callT_E cr rfl ?_
    refine callT_E ct rfl ?_
    refine callT_E cv rfl ?_
    apply branch_intro <;> intro h1
    · repeat (first | refine branch_true ?_ | refine branch_false ?_ | refine branch_f' (bne_self_eq_false _) ?_ | refine branch_t' (beq_self_eq_true _) ?_ | refine branch_t' (decide_eq_true rfl) ?_)
      refine callT_E same_zero rfl ?_
      repeat (first | refine branch_true ?_ | refine branch_false ?_ | refine branch_f' (bne_self_eq_false _) ?_ | refine branch_t' (beq_self_eq_true _) ?_ | refine branch_t' (decide_eq_true rfl) ?_)
      refine callT_E same_zero rfl ?_
      repeat (first | refine branch_true ?_ | refine branch_false ?_ | refine branch_f' (bne_self_eq_false _) ?_ | refine branch_t' (beq_self_eq_true _) ?_ | refine branch_t' (decide_eq_true rfl) ?_)
      refine callT_E awake_c rfl ?_
      repeat (first | refine branch_true ?_ | refine branch_false ?_ | refine branch_f' (bne_self_eq_false _) ?_ | refine branch_t' (beq_self_eq_true _) ?_ | refine branch_t' (decide_eq_true rfl) ?_)
      show Eqv _ _
      exact .up (.up (.refl _))
    · have h1 := of_decide_eq_false h1
      repeat (first | refine branch_true ?_ | refine branch_false ?_ | refine branch_f' (bne_self_eq_false _) ?_ | refine branch_t' (beq_self_eq_true _) ?_ | refine branch_t' (decide_eq_true rfl) ?_)
      refine branch_t' (decide_eq_true (by omega)) ?_
      repeat (first | refine branch_true ?_ | refine branch_false ?_ | refine branch_f' (bne_self_eq_false _) ?_ | refine branch_t' (beq_self_eq_true _) ?_ | refine branch_t' (decide_eq_true rfl) ?_)
      refine callT_E same_zero rfl ?_
      repeat (first | refine branch_true ?_ | refine branch_false ?_ | refine branch_f' (bne_self_eq_false _) ?_ | refine branch_t' (beq_self_eq_true _) ?_ | refine branch_t' (decide_eq_true rfl) ?_)
      refine callT_E same_zero rfl ?_
      repeat (first | refine branch_true ?_ | refine branch_false ?_ | refine branch_f' (bne_self_eq_false _) ?_ | refine branch_t' (beq_self_eq_true _) ?_ | refine branch_t' (decide_eq_true rfl) ?_)
      refine callT_E awake_c rfl ?_
      repeat (first | refine branch_true ?_ | refine branch_false ?_ | refine branch_f' (bne_self_eq_false _) ?_ | refine branch_t' (beq_self_eq_true _) ?_ | refine branch_t' (decide_eq_true rfl) ?_)
      show Eqv _ _
      exact .up (.up (.refl _))
  rw [roundV, if_neg hkr] at cr ct
  by_cases hx : x.within = true
  case neg =>
    rw [if_neg hx] at cr ct
    rw [Bool.not_eq_true] at hx
    rw [hx] at cv
    refine callT_E cr rfl ?_
    refine callT_E ct rfl ?_
    refine callT_E cv rfl ?_
    refine branch_f' (decide_eq_false (by omega)) ?_
    repeat (first | refine branch_true ?_ | refine branch_false ?_ | refine branch_f' (bne_self_eq_false _) ?_ | refine branch_t' (beq_self_eq_true _) ?_ | refine branch_t' (decide_eq_true rfl) ?_)
    refine branch_f' (decide_eq_false (by omega)) ?_
    repeat (first | refine branch_true ?_ | refine branch_false ?_ | refine branch_f' (bne_self_eq_false _) ?_ | refine branch_t' (beq_self_eq_true _) ?_ | refine branch_t' (decide_eq_true rfl) ?_)
    refine callT_E same_zero rfl ?_
    repeat (first | refine branch_true ?_ | refine branch_false ?_ | refine branch_f' (bne_self_eq_false _) ?_ | refine branch_t' (beq_self_eq_true _) ?_ | refine branch_t' (decide_eq_true rfl) ?_)
    refine callT_E same_zero rfl ?_
    repeat (first | refine branch_true ?_ | refine branch_false ?_ | refine branch_f' (bne_self_eq_false _) ?_ | refine branch_t' (beq_self_eq_true _) ?_ | refine branch_t' (decide_eq_true rfl) ?_)
    refine callT_E awake_c rfl ?_
    repeat (first | refine branch_true ?_ | refine branch_false ?_ | refine branch_f' (bne_self_eq_false _) ?_ | refine branch_t' (beq_self_eq_true _) ?_ | refine branch_t' (decide_eq_true rfl) ?_)
    show Eqv _ _
    exact .up (.up (.refl _))
  rw [if_pos hx] at cr ct
  rw [hx, hok hx] at cv
  have hf := within_fit hx
  have b1 := roundD_bits (near := true) hf k
  have b2 := roundD_bits (near := false) hf k
  have g1 := rround_c true hf (k := k) (by omega)
  have g2 := rround_c false hf (k := k) (by omega)
  generalize roundD true x k = r at *
  generalize roundD false x k = t at *
  obtain ⟨d1, e1, hr1, hd1⟩ := resV_form2 r
  obtain ⟨d2, e2, hr2, hd2⟩ := resV_form2 t
  rw [hr1] at cr
  rw [hr2] at ct
  refine callT_E cr rfl ?_
  refine callT_E ct rfl ?_
  refine callT_E cv rfl ?_
  refine branch_f' (decide_eq_false (by omega)) ?_
  repeat (first | refine branch_true ?_ | refine branch_false ?_ | refine branch_f' (bne_self_eq_false _) ?_ | refine branch_t' (beq_self_eq_true _) ?_ | refine branch_t' (decide_eq_true rfl) ?_)
  refine branch_f' (decide_eq_false (by omega)) ?_
  repeat (first | refine branch_true ?_ | refine branch_false ?_ | refine branch_f' (bne_self_eq_false _) ?_ | refine branch_t' (beq_self_eq_true _) ?_ | refine branch_t' (decide_eq_true rfl) ?_)
  refine draw_tree (picks [0, 1, 2, 3, 4, 5, 6, 7, 8, 9, 10, 11, 12, 13, 14, 15, 16, 17] .done) (by decide +kernel) ?_
  refine ⟨_, ⟨g1, rfl⟩, ?_⟩
  refine ⟨_, ⟨is_c (by omega) hr1 (by omega), rfl⟩, ?_⟩
  repeat (first | refine branch_true ?_ | refine branch_false ?_ | refine branch_f' (bne_self_eq_false _) ?_ | refine branch_t' (beq_self_eq_true _) ?_ | refine branch_t' (decide_eq_true rfl) ?_)
  refine ⟨_, ⟨g2, rfl⟩, ?_⟩
  repeat (first | refine branch_true ?_ | refine branch_false ?_ | refine branch_f' (bne_self_eq_false _) ?_ | refine branch_t' (beq_self_eq_true _) ?_ | refine branch_t' (decide_eq_true rfl) ?_)
  refine ⟨_, ⟨is_c (by omega) hr2 (by omega), rfl⟩, ?_⟩
  repeat (first | refine branch_true ?_ | refine branch_false ?_ | refine branch_f' (bne_self_eq_false _) ?_ | refine branch_t' (beq_self_eq_true _) ?_ | refine branch_t' (decide_eq_true rfl) ?_)
  refine ⟨_, ⟨awake_c, rfl⟩, ?_⟩
  repeat (first | refine branch_true ?_ | refine branch_false ?_ | refine branch_f' (bne_self_eq_false _) ?_ | refine branch_t' (beq_self_eq_true _) ?_ | refine branch_t' (decide_eq_true rfl) ?_)
  show Eqv _ _
  exact .up (.up (.refl _))
end Go.Proofs.N13
