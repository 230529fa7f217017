/- Chapter 14, part q: the reference's Text; the law of forms. -/
import Derived.Test.YtjdmcooghikhhaaDoorC10
set_option linter.unusedVariables false
set_option linter.unusedSimpArgs false
/-! Dq. -/
namespace Go.Proofs.N13
open Go.E
set_option maxRecDepth 8000

theorem rdec_c {n : Int} (h : -8192 ≤ n ∧ n ≤ 8192) : callP Tryd.prog 68 [.int .i64 n] (· = .str (eS n)) := by
  have hb : bitLen n.natAbs ≤ 64 := bitLen_small (by omega)
  have hs := decS_size n.natAbs
  refine callE_def env (fn := Tryd.f68) rfl (by decide) rfl ?_
  apply branch_intro <;> intro h0
  · have h0 := of_decide_eq_true h0
    have w : IntKind.u64.wrap (0 - IntKind.u64.wrap n) = (n.natAbs : Int) := by rw [IntKind.wrap_u64, IntKind.wrap_u64]; omega
    refine callT_E ((congrArg (fun z => callP Tryd.prog 59 [.int .u64 z] (· = ints .u8 (bitsOf n.natAbs))) w).mpr (rof_c (by omega))) rfl ?_
    refine callT_E (rdecimal_c n.natAbs (by omega)) rfl ?_
    apply need_intro
    · show ((1 + _ : Nat) : Int) ≤ 9223372036854775807
      omega
    rw [eS_neg h0]
    show Eqv _ _
    exact .up (.up (.refl _))
  · have h0 := of_decide_eq_false h0
    have w : IntKind.u64.wrap n = (n.natAbs : Int) := by rw [IntKind.wrap_u64]; omega
    refine callT_E ((congrArg (fun z => callP Tryd.prog 59 [.int .u64 z] (· = ints .u8 (bitsOf n.natAbs))) w).mpr (rof_c (by omega))) rfl ?_
    refine callT_E (rdecimal_c n.natAbs (by omega)) rfl ?_
    rw [eS_pos h0]
    show Eqv _ _
    exact .up (.up (.refl _))
theorem rtext_c {x : Dy} (hx : x.fit) : callP Tryd.prog 28 [rA x] (· = .str (textS x)) := by
  obtain ⟨f1, f2, f3⟩ := hx
  have s1 := decS_size x.m
  have s2 := eS_size (e := x.e) (by omega)
  have s3 : (⟨#[42, 50, 94]⟩ : ByteArray).size = 3 := rfl
  refine callE_def env (fn := Tryd.f28) rfl (by decide) rfl ?_
  refine draw_tree (picks [0, 1, 2, 3, 4, 5, 6, 7, 8] .done) (by decide +kernel) ?_
  refine ⟨_, ⟨rdecimal_c x.m (by omega), rfl⟩, ?_⟩
  apply need_intro
  · show _ ≤ (9223372036854775807 : Int)
    rw [s3]; omega
  refine ⟨_, ⟨rdec_c (n := x.e) (by omega), rfl⟩, ?_⟩
  apply need_intro
  · show _ ≤ (9223372036854775807 : Int)
    rw [ByteArray.size_append, s3]; omega
  apply branch_intro <;> intro hn
  · apply need_intro
    · show _ ≤ (9223372036854775807 : Int)
      rw [ByteArray.size_append, ByteArray.size_append, s3]
      show ((1 + _ : Nat) : Int) ≤ _
      omega
    rw [textS, if_pos hn]
    show Eqv _ _
    exact .up (.up (.refl _))
  · rw [textS, if_neg (by rw [hn]; simp)]
    show Eqv _ _
    exact .up (.up (.refl _))

set_option maxHeartbeats 4000000 in
theorem forms_law (s : Bool) (l : List Int) (e : Int) (_ : l.length ≤ maxLen) (hl : Limbs l) (he : -9223372036854775808 ≤ e ∧ e ≤ 9223372036854775807) (n : Int) (hn : -9223372036854775808 ≤ n ∧ n ≤ 9223372036854775807) (k : Int) (hk : -9223372036854775808 ≤ k ∧ k ≤ 9223372036854775807) : callP Tryd.prog 4 [dyL s l e, .int .i64 n, .int .i64 k] (· = .bool true) := by
  refine callE_def env (fn := Tryd.f4) rfl (by decide) rfl ?_
  apply branch_intro <;> intro h
  · repeat (first | refine branch_true ?_ | refine branch_false ?_ | refine branch_f' (bne_self_eq_false _) ?_ | refine branch_t' (beq_self_eq_true _) ?_ | refine branch_t' (decide_eq_true rfl) ?_)
    refine callT_E awake_c rfl ?_
    repeat (first | refine branch_true ?_ | refine branch_false ?_ | refine branch_f' (bne_self_eq_false _) ?_ | refine branch_t' (beq_self_eq_true _) ?_ | refine branch_t' (decide_eq_true rfl) ?_)
    show Eqv _ _
    exact .up (.up (.refl _))
  have h := of_decide_eq_false h
  have ha : ArgD l (val l) e := ⟨by omega, hl, rfl, he⟩
  generalize val l = m at ha
  have cc := canon_c s ha
  have cn := dneg_c s ha
  have ct := text_c s ha
  have cv := rval_c s ha
  unfold rvalV at cv
  have hok := rvalD_ok (neg := s) (m := m) (e := e)
  have kx := canonD_canon s m e
  generalize canonD s m e = x at *
  generalize rvalD s m e = x' at *
  have co := dof_c hn hk
  have cr := rofE_c hn hk
  unfold rvalV at cr
  have hok2 := rvalD_ok (neg := decide (n < 0)) (m := n.natAbs) (e := k)
  have hb2 := canonD_bits (decide (n < 0)) n.natAbs k
  have hb3 : bitLen n.natAbs ≤ 64 := bitLen_small (by omega)
  generalize canonD (decide (n < 0)) n.natAbs k = y at *
  generalize rvalD (decide (n < 0)) n.natAbs k = y' at *
  by_cases hy : y.within = true
  · rw [resV_in hy] at co
    rw [hok2 hy, hy] at cr
    refine callT_E co rfl ?_
    refine callT_E cr rfl ?_
    repeat (first | refine branch_true ?_ | refine branch_false ?_ | refine branch_f' (bne_self_eq_false _) ?_ | refine branch_t' (beq_self_eq_true _) ?_ | refine branch_t' (decide_eq_true rfl) ?_)
    refine callT_E (is_c (d := y) (w := y) (by omega) (resV_in hy) (by omega)) rfl ?_
    repeat (first | refine branch_true ?_ | refine branch_false ?_ | refine branch_f' (bne_self_eq_false _) ?_ | refine branch_t' (beq_self_eq_true _) ?_ | refine branch_t' (decide_eq_true rfl) ?_)
    by_cases hx : x.within = true
    case neg =>
      rw [resV_out hx] at cc
      rw [if_neg hx] at cn
      rw [textV, if_neg hx] at ct
      rw [Bool.not_eq_true] at hx
      rw [hx] at cv
      refine callT_E cc rfl ?_
      refine callT_E cn rfl ?_
      refine callT_E ct rfl ?_
      refine callT_E cv rfl ?_
      repeat (first | refine branch_true ?_ | refine branch_false ?_ | refine branch_f' (bne_self_eq_false _) ?_ | refine branch_t' (beq_self_eq_true _) ?_ | refine branch_t' (decide_eq_true rfl) ?_)
      refine callT_E same_zero rfl ?_
      repeat (first | refine branch_true ?_ | refine branch_false ?_ | refine branch_f' (bne_self_eq_false _) ?_ | refine branch_t' (beq_self_eq_true _) ?_ | refine branch_t' (decide_eq_true rfl) ?_)
      refine callT_E same_zero rfl ?_
      repeat (first | refine branch_true ?_ | refine branch_false ?_ | refine branch_f' (bne_self_eq_false _) ?_ | refine branch_t' (beq_self_eq_true _) ?_ | refine branch_t' (decide_eq_true rfl) ?_)
      refine callT_E awake_c rfl ?_
      repeat (first | refine branch_true ?_ | refine branch_false ?_ | refine branch_f' (bne_self_eq_false _) ?_ | refine branch_t' (beq_self_eq_true _) ?_ | refine branch_t' (decide_eq_true rfl) ?_)
      show Eqv _ _
      exact .up (.up (.refl _))
    have hwn : (negD x).within = true := hx
    have fx := within_fit hx
    have gt := rtext_c fx
    rw [resV_in hx] at cc
    rw [if_pos hx] at cn
    rw [textV, if_pos hx] at ct
    rw [hok hx, hx] at cv
    refine callT_E cc rfl ?_
    refine callT_E cn rfl ?_
    refine callT_E ct rfl ?_
    refine callT_E cv rfl ?_
    repeat (first | refine branch_true ?_ | refine branch_false ?_ | refine branch_f' (bne_self_eq_false _) ?_ | refine branch_t' (beq_self_eq_true _) ?_ | refine branch_t' (decide_eq_true rfl) ?_)
    refine draw_tree (picks [0, 1, 2, 3, 4, 5, 6, 7, 8, 9, 10, 11, 12, 13, 14, 15, 16, 17, 18, 19, 20, 21, 22, 23, 24] .done) (by decide +kernel) ?_
    refine ⟨_, ⟨is_c (d := x) (w := x) (by have := fx.1; omega) (resV_in hx) (by have := fx.1; omega), rfl⟩, ?_⟩
    repeat (first | refine branch_true ?_ | refine branch_false ?_ | refine branch_f' (bne_self_eq_false _) ?_ | refine branch_t' (beq_self_eq_true _) ?_ | refine branch_t' (decide_eq_true rfl) ?_)
    refine ⟨_, ⟨rneg_c kx, rfl⟩, ?_⟩
    repeat (first | refine branch_true ?_ | refine branch_false ?_ | refine branch_f' (bne_self_eq_false _) ?_ | refine branch_t' (beq_self_eq_true _) ?_ | refine branch_t' (decide_eq_true rfl) ?_)
    refine ⟨_, ⟨is_c (d := negD x) (w := negD x) (by have := fx.1; show bitLen x.m ≤ _; omega) (resV_in hwn) (by have := fx.1; show bitLen x.m ≤ _; omega), rfl⟩, ?_⟩
    repeat (first | refine branch_true ?_ | refine branch_false ?_ | refine branch_f' (bne_self_eq_false _) ?_ | refine branch_t' (beq_self_eq_true _) ?_ | refine branch_t' (decide_eq_true rfl) ?_)
    refine ⟨_, ⟨gt, rfl⟩, ?_⟩
    repeat (first | refine branch_true ?_ | refine branch_false ?_ | refine branch_f' (bne_self_eq_false _) ?_ | refine branch_t' (beq_self_eq_true _) ?_ | refine branch_t' (decide_eq_true rfl) ?_)
    refine ⟨_, ⟨awake_c, rfl⟩, ?_⟩
    repeat (first | refine branch_true ?_ | refine branch_false ?_ | refine branch_f' (bne_self_eq_false _) ?_ | refine branch_t' (beq_self_eq_true _) ?_ | refine branch_t' (decide_eq_true rfl) ?_)
    show Eqv _ _
    exact .up (.up (.refl _))
  · rw [resV_out hy] at co
    rw [Bool.not_eq_true] at hy
    rw [hy] at cr
    refine callT_E co rfl ?_
    refine callT_E cr rfl ?_
    repeat (first | refine branch_true ?_ | refine branch_false ?_ | refine branch_f' (bne_self_eq_false _) ?_ | refine branch_t' (beq_self_eq_true _) ?_ | refine branch_t' (decide_eq_true rfl) ?_)
    refine callT_E same_zero rfl ?_
    repeat (first | refine branch_true ?_ | refine branch_false ?_ | refine branch_f' (bne_self_eq_false _) ?_ | refine branch_t' (beq_self_eq_true _) ?_ | refine branch_t' (decide_eq_true rfl) ?_)
    by_cases hx : x.within = true
    case neg =>
      rw [resV_out hx] at cc
      rw [if_neg hx] at cn
      rw [textV, if_neg hx] at ct
      rw [Bool.not_eq_true] at hx
      rw [hx] at cv
      refine callT_E cc rfl ?_
      refine callT_E cn rfl ?_
      refine callT_E ct rfl ?_
      refine callT_E cv rfl ?_
      repeat (first | refine branch_true ?_ | refine branch_false ?_ | refine branch_f' (bne_self_eq_false _) ?_ | refine branch_t' (beq_self_eq_true _) ?_ | refine branch_t' (decide_eq_true rfl) ?_)
      refine callT_E same_zero rfl ?_
      repeat (first | refine branch_true ?_ | refine branch_false ?_ | refine branch_f' (bne_self_eq_false _) ?_ | refine branch_t' (beq_self_eq_true _) ?_ | refine branch_t' (decide_eq_true rfl) ?_)
      refine callT_E same_zero rfl ?_
      repeat (first | refine branch_true ?_ | refine branch_false ?_ | refine branch_f' (bne_self_eq_false _) ?_ | refine branch_t' (beq_self_eq_true _) ?_ | refine branch_t' (decide_eq_true rfl) ?_)
      refine callT_E awake_c rfl ?_
      repeat (first | refine branch_true ?_ | refine branch_false ?_ | refine branch_f' (bne_self_eq_false _) ?_ | refine branch_t' (beq_self_eq_true _) ?_ | refine branch_t' (decide_eq_true rfl) ?_)
      show Eqv _ _
      exact .up (.up (.refl _))
    have hwn : (negD x).within = true := hx
    have fx := within_fit hx
    have gt := rtext_c fx
    rw [resV_in hx] at cc
    rw [if_pos hx] at cn
    rw [textV, if_pos hx] at ct
    rw [hok hx, hx] at cv
    refine callT_E cc rfl ?_
    refine callT_E cn rfl ?_
    refine callT_E ct rfl ?_
    refine callT_E cv rfl ?_
    repeat (first | refine branch_true ?_ | refine branch_false ?_ | refine branch_f' (bne_self_eq_false _) ?_ | refine branch_t' (beq_self_eq_true _) ?_ | refine branch_t' (decide_eq_true rfl) ?_)
    refine draw_tree (picks [0, 1, 2, 3, 4, 5, 6, 7, 8, 9, 10, 11, 12, 13, 14, 15, 16, 17, 18, 19, 20, 21, 22, 23, 24] .done) (by decide +kernel) ?_
    refine ⟨_, ⟨is_c (d := x) (w := x) (by have := fx.1; omega) (resV_in hx) (by have := fx.1; omega), rfl⟩, ?_⟩
    repeat (first | refine branch_true ?_ | refine branch_false ?_ | refine branch_f' (bne_self_eq_false _) ?_ | refine branch_t' (beq_self_eq_true _) ?_ | refine branch_t' (decide_eq_true rfl) ?_)
    refine ⟨_, ⟨rneg_c kx, rfl⟩, ?_⟩
    repeat (first | refine branch_true ?_ | refine branch_false ?_ | refine branch_f' (bne_self_eq_false _) ?_ | refine branch_t' (beq_self_eq_true _) ?_ | refine branch_t' (decide_eq_true rfl) ?_)
    refine ⟨_, ⟨is_c (d := negD x) (w := negD x) (by have := fx.1; show bitLen x.m ≤ _; omega) (resV_in hwn) (by have := fx.1; show bitLen x.m ≤ _; omega), rfl⟩, ?_⟩
    repeat (first | refine branch_true ?_ | refine branch_false ?_ | refine branch_f' (bne_self_eq_false _) ?_ | refine branch_t' (beq_self_eq_true _) ?_ | refine branch_t' (decide_eq_true rfl) ?_)
    refine ⟨_, ⟨gt, rfl⟩, ?_⟩
    repeat (first | refine branch_true ?_ | refine branch_false ?_ | refine branch_f' (bne_self_eq_false _) ?_ | refine branch_t' (beq_self_eq_true _) ?_ | refine branch_t' (decide_eq_true rfl) ?_)
    refine ⟨_, ⟨awake_c, rfl⟩, ?_⟩
    repeat (first | refine branch_true ?_ | refine branch_false ?_ | refine branch_f' (bne_self_eq_false _) ?_ | refine branch_t' (beq_self_eq_true _) ?_ | refine branch_t' (decide_eq_true rfl) ?_)
    show Eqv _ _
    exact .up (.up (.refl _))
end Go.Proofs.N13
