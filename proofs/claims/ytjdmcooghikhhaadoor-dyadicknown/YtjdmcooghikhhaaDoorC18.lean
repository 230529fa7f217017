/- Chapter 14, part z: the law of the examples. -/
import Derived.Test.YtjdmcooghikhhaaDoorC17
set_option linter.unusedVariables false
set_option linter.unusedSimpArgs false
/-! Dz. -/
namespace Go.Proofs.N13
open Go.E
set_option maxRecDepth 8000

theorem sm_a (n : Bool) (m : Nat) (e : Int) (hm : m % 2 = 1) (hs : m < 4294967296) (he : -8192 ≤ e ∧ e ≤ 8192) : DArg (dyA ⟨n, m, e⟩) ⟨n, m, e⟩ := .self (.inr hm) (within_small _ hs he)
theorem kn1 : callP Tryd.prog 22 [.int .i64 (-12), .int .i64 (-3)] (· = .tuple [dyA ⟨true, 3, -1⟩, .int .i64 0]) := by
  have h := dof_c (n := -12) (e := -3) (by decide) (by decide)
  rw [show canonD (decide ((-12 : Int) < 0)) (-12 : Int).natAbs (-3) = canonD true 12 (-3) from rfl, twelve, resV_in (within_small _ (by decide) (by decide))] at h
  exact h
theorem kn2 : callP Tryd.prog 22 [.int .i64 0, .int .i64 99999] (· = .tuple [dyA .zero, .int .i64 0]) := by
  have h := dof_c (n := 0) (e := 99999) (by decide) (by decide)
  rw [show canonD (decide ((0 : Int) < 0)) (0 : Int).natAbs 99999 = .zero from rfl, resV_in zero_within] at h
  exact h
theorem kn3 : callP Tryd.prog 22 [.int .i64 2, .int .i64 8192] (· = .tuple [dyA .zero, .int .i64 4]) := by
  have h := dof_c (n := 2) (e := 8192) (by decide) (by decide)
  rw [show canonD (decide ((2 : Int) < 0)) (2 : Int).natAbs 8192 = ⟨false, 1, 8193⟩ from (canonD_shift false 1 1 8192).trans (canonD_odd rfl), resV_out (by rw [one_within]; decide)] at h
  exact h
theorem kn4 : callP Tryd.prog 22 [.int .i64 2, .int .i64 (-8193)] (· = .tuple [dyA ⟨false, 1, -8192⟩, .int .i64 0]) := by
  have h := dof_c (n := 2) (e := -8193) (by decide) (by decide)
  rw [show canonD (decide ((2 : Int) < 0)) (2 : Int).natAbs (-8193) = ⟨false, 1, -8192⟩ from (canonD_shift false 1 1 (-8193)).trans (canonD_odd rfl), resV_in (within_small _ (by decide) (by decide))] at h
  exact h
theorem kn5 : callP Tryd.prog 29 [dblA 8192 0] (· = dyA ⟨false, 1, -1⟩) := by
  have h := double_c (a := 8192) (b := 0) (by decide) (by decide)
  rw [show dblD 8192 0 = ⟨false, 1, -1⟩ from (show dblD 8192 0 = canonD false (2 ^ 27 * 1) (-28) from rfl).trans ((canonD_shift false 27 1 (-28)).trans (canonD_odd rfl))] at h
  exact h
theorem kn6 : callP Tryd.prog 29 [dblA 0 32766] (· = dyA ⟨true, 1, -28⟩) := by
  have h := double_c (a := 0) (b := 32766) (by decide) (by decide)
  rw [show dblD 0 32766 = ⟨true, 1, -28⟩ from (show dblD 0 32766 = canonD true 1 (-28) from rfl).trans (canonD_odd rfl)] at h
  exact h
theorem kn7 : callP Tryd.prog 29 [dblA 1 32766] (· = dyA ⟨false, 16383, -28⟩) := by
  have h := double_c (a := 1) (b := 32766) (by decide) (by decide)
  rw [show dblD 1 32766 = ⟨false, 16383, -28⟩ from (show dblD 1 32766 = canonD false 16383 (-28) from rfl).trans (canonD_odd rfl)] at h
  exact h
/-- The greatest power and the least one: their sum does not fit; the greatest less one has 256 limbs. -/
theorem big_sum (N : Nat) (hN : N = 8192) : ¬ (plusD ⟨false, 1, (N : Int)⟩ ⟨false, 1, -(N : Int)⟩).within = true := by
  intro h
  have hv : V N (plusD ⟨false, 1, (N : Int)⟩ ⟨false, 1, -(N : Int)⟩) = _ := V_plus (K := N) (by show -(N : Int) ≤ N; omega) (by show -(N : Int) ≤ -N; omega)
  have hc : (plusD ⟨false, 1, (N : Int)⟩ ⟨false, 1, -(N : Int)⟩).Canon := plusD_canon (.inr rfl) (.inr rfl)
  rw [V_one, V_one, show ((N : Int) + N).toNat = N + N by omega, show (-(N : Int) + N).toNat = 0 by omega] at hv
  generalize plusD ⟨false, 1, (N : Int)⟩ ⟨false, 1, -(N : Int)⟩ = z at *
  obtain ⟨h1, h2, h3⟩ := of_decide_eq_true h
  have hn := congrArg Int.natAbs hv
  rw [V_natAbs] at hn
  have hb : z.m < 2 ^ N := bitLen_le.1 (by rw [hN]; exact h1)
  have e1 : (((2 ^ (N + N) : Nat) : Int) + ((2 ^ 0 : Nat) : Int)).natAbs = 2 ^ (N + N) + 1 := by rw [← Int.natCast_add, Int.natAbs_natCast]
  rw [e1] at hn
  have hM : 2 ^ N ≤ 2 ^ (N + N) := Nat.pow_le_pow_right (by decide) (by omega)
  obtain ⟨N', hN'⟩ : ∃ N', N + N = N' + 1 := ⟨N + N - 1, by omega⟩
  rw [hN', Nat.pow_succ] at hn hM
  generalize hj : (z.e + (N : Int)).toNat = j at hn
  cases j with
  | zero => rw [Nat.pow_zero] at hn; omega
  | succ j =>
    rw [Nat.pow_succ, ← Nat.mul_assoc] at hn
    omega
theorem big_sub (N : Nat) (hN : N = 8192) : ∃ M : Nat, subD ⟨false, 1, (N : Int)⟩ ⟨false, 1, 0⟩ = ⟨false, M, 0⟩ ∧ (limbsOf M).length = 256 ∧ (⟨false, M, 0⟩ : Dy).within = true := by
  have hv : V 0 (subD ⟨false, 1, (N : Int)⟩ ⟨false, 1, 0⟩) = _ := V_sub (K := 0) (by show -((0 : Nat) : Int) ≤ N; omega) (by decide)
  have he : -((0 : Nat) : Int) ≤ (subD ⟨false, 1, (N : Int)⟩ ⟨false, 1, 0⟩).e := plusD_e (by show -((0 : Nat) : Int) ≤ N; omega) (by decide)
  have hc : (subD ⟨false, 1, (N : Int)⟩ ⟨false, 1, 0⟩).Canon := plusD_canon (.inr rfl) (.inr rfl)
  rw [V_one, V_one, show ((N : Int) + ((0 : Nat) : Int)).toNat = N by omega, show ((0 : Int) + ((0 : Nat) : Int)).toNat = 0 from rfl] at hv
  obtain ⟨N', hN'⟩ : ∃ N', N = N' + 1 := ⟨N - 1, by omega⟩
  have hp := Nat.two_pow_pos N'
  have hpe : 2 ^ N = 2 ^ N' * 2 := by rw [hN', Nat.pow_succ]
  have hb : bitLen (2 ^ N - 1) ≤ 8192 := by
    rw [← hN]
    exact bitLen_le.2 (by have := Nat.two_pow_pos N; omega)
  refine ⟨2 ^ N - 1, ?_, ?_, decide_eq_true ⟨hb, by show (-8192 : Int) ≤ 0; decide, by show (0 : Int) ≤ 8192; decide⟩⟩
  · refine V_inj (K := 0) hc (.inr ?_) he (by show -((0 : Nat) : Int) ≤ 0; decide) ?_
    · show (2 ^ N - 1) % 2 = 1
      omega
    · rw [hv]
      unfold V sgn
      show _ = if false = true then _ else (((2 ^ N - 1 : Nat) : Int) * ((2 ^ ((0 : Int) + ((0 : Nat) : Int)).toNat : Nat) : Int))
      rw [if_neg (by decide), show ((0 : Int) + ((0 : Nat) : Int)).toNat = 0 from rfl, Nat.pow_zero]
      omega
  · have h1 : (limbsOf (2 ^ N - 1)).length ≤ 256 := limbsOf_len_le (by omega)
    have h2 := val_lt (limbs_limbsOf (2 ^ N - 1))
    rw [val_limbsOf] at h2
    rcases Nat.lt_or_ge (limbsOf (2 ^ N - 1)).length 256 with h3 | h3
    · have h4 : 2 ^ (32 * (limbsOf (2 ^ N - 1)).length) ≤ 2 ^ N' := Nat.pow_le_pow_right (by decide) (by omega)
      omega
    · omega
theorem kn8 : callP Tryd.prog 39 [dyA ⟨false, 1, 8192⟩, dyA ⟨false, 1, -8192⟩] (· = .tuple [dyA .zero, .int .i64 4]) := by
  have h := dadd_c (n1 := false) (n2 := false) (arg_small (n := false) (m := 1) (e := 8192) (by decide) (by decide)) (arg_small (n := false) (m := 1) (e := -8192) (by decide) (by decide))
  rw [canonD_odd rfl, canonD_odd rfl, opV_ok (within_small _ (by decide) (by decide)) (within_small _ (by decide) (by decide)), resV_out (show ¬ (plusD ⟨false, 1, 8192⟩ ⟨false, 1, -8192⟩).within = true from big_sum 8192 rfl)] at h
  exact h
theorem kn9 : ∃ M : Nat, callP Tryd.prog 40 [dyA ⟨false, 1, 8192⟩, dyA ⟨false, 1, 0⟩] (· = .tuple [dyA ⟨false, M, 0⟩, .int .i64 0]) ∧ (limbsOf M).length = 256 := by
  obtain ⟨M, h1, h2, h3⟩ := big_sub 8192 rfl
  refine ⟨M, ?_, h2⟩
  have h := dsub_c (n1 := false) (n2 := false) (arg_small (n := false) (m := 1) (e := 8192) (by decide) (by decide)) (arg_small (n := false) (m := 1) (e := 0) (by decide) (by decide))
  rw [canonD_odd rfl, canonD_odd rfl, opV_ok (within_small _ (by decide) (by decide)) (within_small _ (by decide) (by decide)), show subD ⟨false, 1, 8192⟩ ⟨false, 1, 0⟩ = ⟨false, M, 0⟩ from h1, resV_in h3] at h
  exact h
theorem kn10 : callP Tryd.prog 48 [dyA ⟨false, 3, -1⟩, dyA ⟨true, 3, -1⟩] (· = dyA ⟨true, 9, -2⟩) := by
  have e : mulD ⟨false, 3, -1⟩ ⟨true, 3, -1⟩ = ⟨true, 9, -2⟩ := (show mulD ⟨false, 3, -1⟩ ⟨true, 3, -1⟩ = canonD true 9 (-2) from rfl).trans (canonD_odd rfl)
  have h := product_g (sm_a false 3 (-1) rfl (by decide) (by decide)) (sm_a true 3 (-1) rfl (by decide) (by decide)) (by rw [e]; exact within_small _ (by decide) (by decide))
  rwa [e] at h
theorem kn11 : callP Tryd.prog 36 [dyA ⟨false, 1, 0⟩, dyA ⟨false, 3, 0⟩] (· = dyA ⟨false, 1, 1⟩) := by
  have e : absD (subD ⟨false, 1, 0⟩ ⟨false, 3, 0⟩) = ⟨false, 1, 1⟩ := by
    rw [show subD ⟨false, 1, 0⟩ ⟨false, 3, 0⟩ = ⟨true, 1, 1⟩ from (show subD ⟨false, 1, 0⟩ ⟨false, 3, 0⟩ = canonD true (2 ^ 1 * 1) 0 from rfl).trans ((canonD_shift true 1 1 0).trans (canonD_odd rfl))]
    rfl
  have h := distance_g (sm_a false 1 0 rfl (by decide) (by decide)) (sm_a false 3 0 rfl (by decide) (by decide)) (by rw [e]; exact within_small _ (by decide) (by decide))
  rwa [e] at h
theorem kn12 : callP Tryd.prog 16 [dyA ⟨false, 5, -1⟩, .int .i64 0] (· = .tuple [dyA ⟨false, 3, 0⟩, .int .i64 0]) :=
  round_g (sm_a false 5 (-1) rfl (by decide) (by decide)) (by decide) ((show roundD true ⟨false, 5, -1⟩ 0 = canonD false 3 0 from rfl).trans (canonD_odd rfl)) (within_small _ (by decide) (by decide))
theorem kn13 : callP Tryd.prog 16 [dyA ⟨false, 1, -2⟩, .int .i64 0] (· = .tuple [dyA .zero, .int .i64 0]) :=
  round_g (sm_a false 1 (-2) rfl (by decide) (by decide)) (by decide) (show roundD true ⟨false, 1, -2⟩ 0 = canonD false 0 0 from rfl) zero_within
theorem kn14 : callP Tryd.prog 16 [dyA ⟨false, 3, 0⟩, .int .i64 (-2)] (· = .tuple [dyA ⟨false, 1, 2⟩, .int .i64 0]) :=
  round_g (sm_a false 3 0 rfl (by decide) (by decide)) (by decide) ((show roundD true ⟨false, 3, 0⟩ (-2) = canonD false 1 2 from rfl).trans (canonD_odd rfl)) (within_small _ (by decide) (by decide))
theorem kn15 : callP Tryd.prog 17 [dyA ⟨true, 5, -1⟩, .int .i64 0] (· = .tuple [dyA ⟨true, 1, 1⟩, .int .i64 0]) :=
  trunc_g (sm_a true 5 (-1) rfl (by decide) (by decide)) (by decide) ((show roundD false ⟨true, 5, -1⟩ 0 = canonD true (2 ^ 1 * 1) 0 from rfl).trans ((canonD_shift true 1 1 0).trans (canonD_odd rfl))) (within_small _ (by decide) (by decide))
theorem kn16 : callP Tryd.prog 17 [dyA ⟨false, 3, 0⟩, .int .i64 (-2)] (· = .tuple [dyA .zero, .int .i64 0]) :=
  trunc_g (sm_a false 3 0 rfl (by decide) (by decide)) (by decide) (show roundD false ⟨false, 3, 0⟩ (-2) = canonD false 0 2 from rfl) zero_within
theorem kn17 : callP Tryd.prog 16 [dyA ⟨false, 3, 0⟩, .int .i64 8193] (· = .tuple [dyA .zero, .int .i64 2]) := by
  have h := round_c false (arg_small (n := false) (m := 3) (e := 0) (by decide) (by decide)) (k := 8193) (by decide)
  rw [roundV, if_pos (by decide)] at h
  exact h
theorem kn18 : callP Tryd.prog 26 [.agg [.bool true, .nilslice, .int .i64 7]] (· = .tuple [.str ⟨#[48, 42, 50, 94, 48]⟩, .int .i64 0]) := by
  have h := text_c true (arg_small (n := true) (m := 0) (e := 7) (by decide) (by decide))
  have e : textS .zero = ⟨#[48, 42, 50, 94, 48]⟩ := by
    rw [textS, if_neg (by decide)]
    show decS 0 ++ _ ++ eS 0 = _
    rw [eS_pos (by decide)]
    show decS 0 ++ _ ++ decS 0 = _
    rw [decS, decD_small (by decide)]
    rfl
  rw [show canonD true 0 7 = .zero from rfl, textV, if_pos zero_within, e] at h
  refine callP_arg (.cons (.up ?_) .nil) h
  refine .agg (.cons (.refl _) (.cons ?_ (.cons (.refl _) .nil)))
  show Eqv0 _ (ints .u32 (limbsOf 0))
  rw [limbsOf_zero]
  exact .nil _ _
set_option maxHeartbeats 16000000 in
theorem known_law : callP Tryd.prog 14 [] (· = .bool true) := by
  obtain ⟨M, kn9, hM⟩ := kn9
  have nm := fun (n : Bool) (m : Nat) (e : Int) (h0 : m ≠ 0) (h : m < 4294967296) => num_n n (m := (m : Int)) (k := m) rfl e h0 h
  have s := fun (x : Dy) (h : x.m < 4294967296) => same_s h
  have hl : (((limbsOf M).length : Int) == 256) = true := by rw [hM]; rfl
  refine callE_def env (fn := Tryd.f14) rfl (by decide) rfl ?_
  refine callT_E kn1 rfl ?_
  refine callT_E kn2 rfl ?_
  refine callT_E kn3 rfl ?_
  refine callT_E kn4 rfl ?_
  refine draw_tree (picks [0, 1, 2, 3, 4, 5, 6, 7, 8, 9, 10, 11, 12, 13, 14, 15, 16, 17, 18, 19, 20, 21, 22, 23, 24, 25, 26, 27, 28, 29] .done) (by decide +kernel) ?_
  repeat (first | refine need_intro (by decide) ?_ | refine branch_true ?_ | refine branch_false ?_ | (refine branch_t' (decide_eq_true ?_) ?_; focus omega) | (refine branch_f' (decide_eq_false ?_) ?_; focus omega) | (refine branch_t' (beq_iff_eq.2 ?_) ?_; focus omega) | (refine branch_f' (beq_eq_false_iff_ne.2 ?_) ?_; focus omega) | (refine branch_t' (bne_iff_ne.2 ?_) ?_; focus omega) | (refine branch_f' (bne_eq_false_iff_eq.2 ?_) ?_; focus omega) | refine branch_t' (by assumption) ?_ | refine branch_f' (by assumption) ?_ | refine branch_f' (bne_self_eq_false _) ?_ | refine branch_t' (beq_self_eq_true _) ?_ | (refine branch_f' ?_ ?_; focus (simp; done)) | (refine branch_t' ?_ ?_; focus (simp; done)))
  refine ⟨_, ⟨nm true 3 (-1) (by decide) (by decide), rfl⟩, ?_⟩
  repeat (first | refine need_intro (by decide) ?_ | refine branch_true ?_ | refine branch_false ?_ | (refine branch_t' (decide_eq_true ?_) ?_; focus omega) | (refine branch_f' (decide_eq_false ?_) ?_; focus omega) | (refine branch_t' (beq_iff_eq.2 ?_) ?_; focus omega) | (refine branch_f' (beq_eq_false_iff_ne.2 ?_) ?_; focus omega) | (refine branch_t' (bne_iff_ne.2 ?_) ?_; focus omega) | (refine branch_f' (bne_eq_false_iff_eq.2 ?_) ?_; focus omega) | refine branch_t' (by assumption) ?_ | refine branch_f' (by assumption) ?_ | refine branch_f' (bne_self_eq_false _) ?_ | refine branch_t' (beq_self_eq_true _) ?_ | (refine branch_f' ?_ ?_; focus (simp; done)) | (refine branch_t' ?_ ?_; focus (simp; done)))
  refine ⟨_, ⟨s ⟨true, 3, -1⟩ (by decide), rfl⟩, ?_⟩
  repeat (first | refine need_intro (by decide) ?_ | refine branch_true ?_ | refine branch_false ?_ | (refine branch_t' (decide_eq_true ?_) ?_; focus omega) | (refine branch_f' (decide_eq_false ?_) ?_; focus omega) | (refine branch_t' (beq_iff_eq.2 ?_) ?_; focus omega) | (refine branch_f' (beq_eq_false_iff_ne.2 ?_) ?_; focus omega) | (refine branch_t' (bne_iff_ne.2 ?_) ?_; focus omega) | (refine branch_f' (bne_eq_false_iff_eq.2 ?_) ?_; focus omega) | refine branch_t' (by assumption) ?_ | refine branch_f' (by assumption) ?_ | refine branch_f' (bne_self_eq_false _) ?_ | refine branch_t' (beq_self_eq_true _) ?_ | (refine branch_f' ?_ ?_; focus (simp; done)) | (refine branch_t' ?_ ?_; focus (simp; done)))
  refine ⟨_, ⟨same_zero, rfl⟩, ?_⟩
  repeat (first | refine need_intro (by decide) ?_ | refine branch_true ?_ | refine branch_false ?_ | (refine branch_t' (decide_eq_true ?_) ?_; focus omega) | (refine branch_f' (decide_eq_false ?_) ?_; focus omega) | (refine branch_t' (beq_iff_eq.2 ?_) ?_; focus omega) | (refine branch_f' (beq_eq_false_iff_ne.2 ?_) ?_; focus omega) | (refine branch_t' (bne_iff_ne.2 ?_) ?_; focus omega) | (refine branch_f' (bne_eq_false_iff_eq.2 ?_) ?_; focus omega) | refine branch_t' (by assumption) ?_ | refine branch_f' (by assumption) ?_ | refine branch_f' (bne_self_eq_false _) ?_ | refine branch_t' (beq_self_eq_true _) ?_ | (refine branch_f' ?_ ?_; focus (simp; done)) | (refine branch_t' ?_ ?_; focus (simp; done)))
  refine ⟨_, ⟨nm false 1 (-8192) (by decide) (by decide), rfl⟩, ?_⟩
  repeat (first | refine need_intro (by decide) ?_ | refine branch_true ?_ | refine branch_false ?_ | (refine branch_t' (decide_eq_true ?_) ?_; focus omega) | (refine branch_f' (decide_eq_false ?_) ?_; focus omega) | (refine branch_t' (beq_iff_eq.2 ?_) ?_; focus omega) | (refine branch_f' (beq_eq_false_iff_ne.2 ?_) ?_; focus omega) | (refine branch_t' (bne_iff_ne.2 ?_) ?_; focus omega) | (refine branch_f' (bne_eq_false_iff_eq.2 ?_) ?_; focus omega) | refine branch_t' (by assumption) ?_ | refine branch_f' (by assumption) ?_ | refine branch_f' (bne_self_eq_false _) ?_ | refine branch_t' (beq_self_eq_true _) ?_ | (refine branch_f' ?_ ?_; focus (simp; done)) | (refine branch_t' ?_ ?_; focus (simp; done)))
  refine ⟨_, ⟨s ⟨false, 1, -8192⟩ (by decide), rfl⟩, ?_⟩
  repeat (first | refine need_intro (by decide) ?_ | refine branch_true ?_ | refine branch_false ?_ | (refine branch_t' (decide_eq_true ?_) ?_; focus omega) | (refine branch_f' (decide_eq_false ?_) ?_; focus omega) | (refine branch_t' (beq_iff_eq.2 ?_) ?_; focus omega) | (refine branch_f' (beq_eq_false_iff_ne.2 ?_) ?_; focus omega) | (refine branch_t' (bne_iff_ne.2 ?_) ?_; focus omega) | (refine branch_f' (bne_eq_false_iff_eq.2 ?_) ?_; focus omega) | refine branch_t' (by assumption) ?_ | refine branch_f' (by assumption) ?_ | refine branch_f' (bne_self_eq_false _) ?_ | refine branch_t' (beq_self_eq_true _) ?_ | (refine branch_f' ?_ ?_; focus (simp; done)) | (refine branch_t' ?_ ?_; focus (simp; done)))
  refine callT_E kn5 rfl ?_
  repeat (first | refine need_intro (by decide) ?_ | refine branch_true ?_ | refine branch_false ?_ | (refine branch_t' (decide_eq_true ?_) ?_; focus omega) | (refine branch_f' (decide_eq_false ?_) ?_; focus omega) | (refine branch_t' (beq_iff_eq.2 ?_) ?_; focus omega) | (refine branch_f' (beq_eq_false_iff_ne.2 ?_) ?_; focus omega) | (refine branch_t' (bne_iff_ne.2 ?_) ?_; focus omega) | (refine branch_f' (bne_eq_false_iff_eq.2 ?_) ?_; focus omega) | refine branch_t' (by assumption) ?_ | refine branch_f' (by assumption) ?_ | refine branch_f' (bne_self_eq_false _) ?_ | refine branch_t' (beq_self_eq_true _) ?_ | (refine branch_f' ?_ ?_; focus (simp; done)) | (refine branch_t' ?_ ?_; focus (simp; done)))
  refine callT_E (nm false 1 (-1) (by decide) (by decide)) rfl ?_
  refine callT_E (s ⟨false, 1, -1⟩ (by decide)) rfl ?_
  repeat (first | refine need_intro (by decide) ?_ | refine branch_true ?_ | refine branch_false ?_ | (refine branch_t' (decide_eq_true ?_) ?_; focus omega) | (refine branch_f' (decide_eq_false ?_) ?_; focus omega) | (refine branch_t' (beq_iff_eq.2 ?_) ?_; focus omega) | (refine branch_f' (beq_eq_false_iff_ne.2 ?_) ?_; focus omega) | (refine branch_t' (bne_iff_ne.2 ?_) ?_; focus omega) | (refine branch_f' (bne_eq_false_iff_eq.2 ?_) ?_; focus omega) | refine branch_t' (by assumption) ?_ | refine branch_f' (by assumption) ?_ | refine branch_f' (bne_self_eq_false _) ?_ | refine branch_t' (beq_self_eq_true _) ?_ | (refine branch_f' ?_ ?_; focus (simp; done)) | (refine branch_t' ?_ ?_; focus (simp; done)))
  refine callT_E kn6 rfl ?_
  repeat (first | refine need_intro (by decide) ?_ | refine branch_true ?_ | refine branch_false ?_ | (refine branch_t' (decide_eq_true ?_) ?_; focus omega) | (refine branch_f' (decide_eq_false ?_) ?_; focus omega) | (refine branch_t' (beq_iff_eq.2 ?_) ?_; focus omega) | (refine branch_f' (beq_eq_false_iff_ne.2 ?_) ?_; focus omega) | (refine branch_t' (bne_iff_ne.2 ?_) ?_; focus omega) | (refine branch_f' (bne_eq_false_iff_eq.2 ?_) ?_; focus omega) | refine branch_t' (by assumption) ?_ | refine branch_f' (by assumption) ?_ | refine branch_f' (bne_self_eq_false _) ?_ | refine branch_t' (beq_self_eq_true _) ?_ | (refine branch_f' ?_ ?_; focus (simp; done)) | (refine branch_t' ?_ ?_; focus (simp; done)))
  refine callT_E (nm true 1 (-28) (by decide) (by decide)) rfl ?_
  repeat (first | refine need_intro (by decide) ?_ | refine branch_true ?_ | refine branch_false ?_ | (refine branch_t' (decide_eq_true ?_) ?_; focus omega) | (refine branch_f' (decide_eq_false ?_) ?_; focus omega) | (refine branch_t' (beq_iff_eq.2 ?_) ?_; focus omega) | (refine branch_f' (beq_eq_false_iff_ne.2 ?_) ?_; focus omega) | (refine branch_t' (bne_iff_ne.2 ?_) ?_; focus omega) | (refine branch_f' (bne_eq_false_iff_eq.2 ?_) ?_; focus omega) | refine branch_t' (by assumption) ?_ | refine branch_f' (by assumption) ?_ | refine branch_f' (bne_self_eq_false _) ?_ | refine branch_t' (beq_self_eq_true _) ?_ | (refine branch_f' ?_ ?_; focus (simp; done)) | (refine branch_t' ?_ ?_; focus (simp; done)))
  refine callT_E (s ⟨true, 1, -28⟩ (by decide)) rfl ?_
  repeat (first | refine need_intro (by decide) ?_ | refine branch_true ?_ | refine branch_false ?_ | (refine branch_t' (decide_eq_true ?_) ?_; focus omega) | (refine branch_f' (decide_eq_false ?_) ?_; focus omega) | (refine branch_t' (beq_iff_eq.2 ?_) ?_; focus omega) | (refine branch_f' (beq_eq_false_iff_ne.2 ?_) ?_; focus omega) | (refine branch_t' (bne_iff_ne.2 ?_) ?_; focus omega) | (refine branch_f' (bne_eq_false_iff_eq.2 ?_) ?_; focus omega) | refine branch_t' (by assumption) ?_ | refine branch_f' (by assumption) ?_ | refine branch_f' (bne_self_eq_false _) ?_ | refine branch_t' (beq_self_eq_true _) ?_ | (refine branch_f' ?_ ?_; focus (simp; done)) | (refine branch_t' ?_ ?_; focus (simp; done)))
  refine callT_E kn7 rfl ?_
  repeat (first | refine need_intro (by decide) ?_ | refine branch_true ?_ | refine branch_false ?_ | (refine branch_t' (decide_eq_true ?_) ?_; focus omega) | (refine branch_f' (decide_eq_false ?_) ?_; focus omega) | (refine branch_t' (beq_iff_eq.2 ?_) ?_; focus omega) | (refine branch_f' (beq_eq_false_iff_ne.2 ?_) ?_; focus omega) | (refine branch_t' (bne_iff_ne.2 ?_) ?_; focus omega) | (refine branch_f' (bne_eq_false_iff_eq.2 ?_) ?_; focus omega) | refine branch_t' (by assumption) ?_ | refine branch_f' (by assumption) ?_ | refine branch_f' (bne_self_eq_false _) ?_ | refine branch_t' (beq_self_eq_true _) ?_ | (refine branch_f' ?_ ?_; focus (simp; done)) | (refine branch_t' ?_ ?_; focus (simp; done)))
  refine callT_E (nm false 16383 (-28) (by decide) (by decide)) rfl ?_
  repeat (first | refine need_intro (by decide) ?_ | refine branch_true ?_ | refine branch_false ?_ | (refine branch_t' (decide_eq_true ?_) ?_; focus omega) | (refine branch_f' (decide_eq_false ?_) ?_; focus omega) | (refine branch_t' (beq_iff_eq.2 ?_) ?_; focus omega) | (refine branch_f' (beq_eq_false_iff_ne.2 ?_) ?_; focus omega) | (refine branch_t' (bne_iff_ne.2 ?_) ?_; focus omega) | (refine branch_f' (bne_eq_false_iff_eq.2 ?_) ?_; focus omega) | refine branch_t' (by assumption) ?_ | refine branch_f' (by assumption) ?_ | refine branch_f' (bne_self_eq_false _) ?_ | refine branch_t' (beq_self_eq_true _) ?_ | (refine branch_f' ?_ ?_; focus (simp; done)) | (refine branch_t' ?_ ?_; focus (simp; done)))
  refine callT_E (s ⟨false, 16383, -28⟩ (by decide)) rfl ?_
  repeat (first | refine need_intro (by decide) ?_ | refine branch_true ?_ | refine branch_false ?_ | (refine branch_t' (decide_eq_true ?_) ?_; focus omega) | (refine branch_f' (decide_eq_false ?_) ?_; focus omega) | (refine branch_t' (beq_iff_eq.2 ?_) ?_; focus omega) | (refine branch_f' (beq_eq_false_iff_ne.2 ?_) ?_; focus omega) | (refine branch_t' (bne_iff_ne.2 ?_) ?_; focus omega) | (refine branch_f' (bne_eq_false_iff_eq.2 ?_) ?_; focus omega) | refine branch_t' (by assumption) ?_ | refine branch_f' (by assumption) ?_ | refine branch_f' (bne_self_eq_false _) ?_ | refine branch_t' (beq_self_eq_true _) ?_ | (refine branch_f' ?_ ?_; focus (simp; done)) | (refine branch_t' ?_ ?_; focus (simp; done)))
  refine callT_E (nm false 1 8192 (by decide) (by decide)) rfl ?_
  refine callT_E (nm false 1 (-8192) (by decide) (by decide)) rfl ?_
  refine callT_E kn8 rfl ?_
  refine callT_E (nm false 1 8192 (by decide) (by decide)) rfl ?_
  refine callT_E (nm false 1 0 (by decide) (by decide)) rfl ?_
  refine callT_E kn9 rfl ?_
  repeat (first | refine need_intro (by decide) ?_ | refine branch_true ?_ | refine branch_false ?_ | (refine branch_t' (decide_eq_true ?_) ?_; focus omega) | (refine branch_f' (decide_eq_false ?_) ?_; focus omega) | (refine branch_t' (beq_iff_eq.2 ?_) ?_; focus omega) | (refine branch_f' (beq_eq_false_iff_ne.2 ?_) ?_; focus omega) | (refine branch_t' (bne_iff_ne.2 ?_) ?_; focus omega) | (refine branch_f' (bne_eq_false_iff_eq.2 ?_) ?_; focus omega) | refine branch_t' (by assumption) ?_ | refine branch_f' (by assumption) ?_ | refine branch_f' (bne_self_eq_false _) ?_ | refine branch_t' (beq_self_eq_true _) ?_ | (refine branch_f' ?_ ?_; focus (simp; done)) | (refine branch_t' ?_ ?_; focus (simp; done)))
  refine callT_E (nm false 3 (-1) (by decide) (by decide)) rfl ?_
  repeat (first | refine need_intro (by decide) ?_ | refine branch_true ?_ | refine branch_false ?_ | (refine branch_t' (decide_eq_true ?_) ?_; focus omega) | (refine branch_f' (decide_eq_false ?_) ?_; focus omega) | (refine branch_t' (beq_iff_eq.2 ?_) ?_; focus omega) | (refine branch_f' (beq_eq_false_iff_ne.2 ?_) ?_; focus omega) | (refine branch_t' (bne_iff_ne.2 ?_) ?_; focus omega) | (refine branch_f' (bne_eq_false_iff_eq.2 ?_) ?_; focus omega) | refine branch_t' (by assumption) ?_ | refine branch_f' (by assumption) ?_ | refine branch_f' (bne_self_eq_false _) ?_ | refine branch_t' (beq_self_eq_true _) ?_ | (refine branch_f' ?_ ?_; focus (simp; done)) | (refine branch_t' ?_ ?_; focus (simp; done)))
  refine callT_E (nm true 3 (-1) (by decide) (by decide)) rfl ?_
  repeat (first | refine need_intro (by decide) ?_ | refine branch_true ?_ | refine branch_false ?_ | (refine branch_t' (decide_eq_true ?_) ?_; focus omega) | (refine branch_f' (decide_eq_false ?_) ?_; focus omega) | (refine branch_t' (beq_iff_eq.2 ?_) ?_; focus omega) | (refine branch_f' (beq_eq_false_iff_ne.2 ?_) ?_; focus omega) | (refine branch_t' (bne_iff_ne.2 ?_) ?_; focus omega) | (refine branch_f' (bne_eq_false_iff_eq.2 ?_) ?_; focus omega) | refine branch_t' (by assumption) ?_ | refine branch_f' (by assumption) ?_ | refine branch_f' (bne_self_eq_false _) ?_ | refine branch_t' (beq_self_eq_true _) ?_ | (refine branch_f' ?_ ?_; focus (simp; done)) | (refine branch_t' ?_ ?_; focus (simp; done)))
  refine callT_E kn10 rfl ?_
  repeat (first | refine need_intro (by decide) ?_ | refine branch_true ?_ | refine branch_false ?_ | (refine branch_t' (decide_eq_true ?_) ?_; focus omega) | (refine branch_f' (decide_eq_false ?_) ?_; focus omega) | (refine branch_t' (beq_iff_eq.2 ?_) ?_; focus omega) | (refine branch_f' (beq_eq_false_iff_ne.2 ?_) ?_; focus omega) | (refine branch_t' (bne_iff_ne.2 ?_) ?_; focus omega) | (refine branch_f' (bne_eq_false_iff_eq.2 ?_) ?_; focus omega) | refine branch_t' (by assumption) ?_ | refine branch_f' (by assumption) ?_ | refine branch_f' (bne_self_eq_false _) ?_ | refine branch_t' (beq_self_eq_true _) ?_ | (refine branch_f' ?_ ?_; focus (simp; done)) | (refine branch_t' ?_ ?_; focus (simp; done)))
  refine callT_E (nm true 9 (-2) (by decide) (by decide)) rfl ?_
  repeat (first | refine need_intro (by decide) ?_ | refine branch_true ?_ | refine branch_false ?_ | (refine branch_t' (decide_eq_true ?_) ?_; focus omega) | (refine branch_f' (decide_eq_false ?_) ?_; focus omega) | (refine branch_t' (beq_iff_eq.2 ?_) ?_; focus omega) | (refine branch_f' (beq_eq_false_iff_ne.2 ?_) ?_; focus omega) | (refine branch_t' (bne_iff_ne.2 ?_) ?_; focus omega) | (refine branch_f' (bne_eq_false_iff_eq.2 ?_) ?_; focus omega) | refine branch_t' (by assumption) ?_ | refine branch_f' (by assumption) ?_ | refine branch_f' (bne_self_eq_false _) ?_ | refine branch_t' (beq_self_eq_true _) ?_ | (refine branch_f' ?_ ?_; focus (simp; done)) | (refine branch_t' ?_ ?_; focus (simp; done)))
  refine callT_E (s ⟨true, 9, -2⟩ (by decide)) rfl ?_
  repeat (first | refine need_intro (by decide) ?_ | refine branch_true ?_ | refine branch_false ?_ | (refine branch_t' (decide_eq_true ?_) ?_; focus omega) | (refine branch_f' (decide_eq_false ?_) ?_; focus omega) | (refine branch_t' (beq_iff_eq.2 ?_) ?_; focus omega) | (refine branch_f' (beq_eq_false_iff_ne.2 ?_) ?_; focus omega) | (refine branch_t' (bne_iff_ne.2 ?_) ?_; focus omega) | (refine branch_f' (bne_eq_false_iff_eq.2 ?_) ?_; focus omega) | refine branch_t' (by assumption) ?_ | refine branch_f' (by assumption) ?_ | refine branch_f' (bne_self_eq_false _) ?_ | refine branch_t' (beq_self_eq_true _) ?_ | (refine branch_f' ?_ ?_; focus (simp; done)) | (refine branch_t' ?_ ?_; focus (simp; done)))
  refine callT_E (nm false 1 0 (by decide) (by decide)) rfl ?_
  repeat (first | refine need_intro (by decide) ?_ | refine branch_true ?_ | refine branch_false ?_ | (refine branch_t' (decide_eq_true ?_) ?_; focus omega) | (refine branch_f' (decide_eq_false ?_) ?_; focus omega) | (refine branch_t' (beq_iff_eq.2 ?_) ?_; focus omega) | (refine branch_f' (beq_eq_false_iff_ne.2 ?_) ?_; focus omega) | (refine branch_t' (bne_iff_ne.2 ?_) ?_; focus omega) | (refine branch_f' (bne_eq_false_iff_eq.2 ?_) ?_; focus omega) | refine branch_t' (by assumption) ?_ | refine branch_f' (by assumption) ?_ | refine branch_f' (bne_self_eq_false _) ?_ | refine branch_t' (beq_self_eq_true _) ?_ | (refine branch_f' ?_ ?_; focus (simp; done)) | (refine branch_t' ?_ ?_; focus (simp; done)))
  refine callT_E (nm false 3 0 (by decide) (by decide)) rfl ?_
  repeat (first | refine need_intro (by decide) ?_ | refine branch_true ?_ | refine branch_false ?_ | (refine branch_t' (decide_eq_true ?_) ?_; focus omega) | (refine branch_f' (decide_eq_false ?_) ?_; focus omega) | (refine branch_t' (beq_iff_eq.2 ?_) ?_; focus omega) | (refine branch_f' (beq_eq_false_iff_ne.2 ?_) ?_; focus omega) | (refine branch_t' (bne_iff_ne.2 ?_) ?_; focus omega) | (refine branch_f' (bne_eq_false_iff_eq.2 ?_) ?_; focus omega) | refine branch_t' (by assumption) ?_ | refine branch_f' (by assumption) ?_ | refine branch_f' (bne_self_eq_false _) ?_ | refine branch_t' (beq_self_eq_true _) ?_ | (refine branch_f' ?_ ?_; focus (simp; done)) | (refine branch_t' ?_ ?_; focus (simp; done)))
  refine callT_E kn11 rfl ?_
  repeat (first | refine need_intro (by decide) ?_ | refine branch_true ?_ | refine branch_false ?_ | (refine branch_t' (decide_eq_true ?_) ?_; focus omega) | (refine branch_f' (decide_eq_false ?_) ?_; focus omega) | (refine branch_t' (beq_iff_eq.2 ?_) ?_; focus omega) | (refine branch_f' (beq_eq_false_iff_ne.2 ?_) ?_; focus omega) | (refine branch_t' (bne_iff_ne.2 ?_) ?_; focus omega) | (refine branch_f' (bne_eq_false_iff_eq.2 ?_) ?_; focus omega) | refine branch_t' (by assumption) ?_ | refine branch_f' (by assumption) ?_ | refine branch_f' (bne_self_eq_false _) ?_ | refine branch_t' (beq_self_eq_true _) ?_ | (refine branch_f' ?_ ?_; focus (simp; done)) | (refine branch_t' ?_ ?_; focus (simp; done)))
  refine callT_E (nm false 1 1 (by decide) (by decide)) rfl ?_
  repeat (first | refine need_intro (by decide) ?_ | refine branch_true ?_ | refine branch_false ?_ | (refine branch_t' (decide_eq_true ?_) ?_; focus omega) | (refine branch_f' (decide_eq_false ?_) ?_; focus omega) | (refine branch_t' (beq_iff_eq.2 ?_) ?_; focus omega) | (refine branch_f' (beq_eq_false_iff_ne.2 ?_) ?_; focus omega) | (refine branch_t' (bne_iff_ne.2 ?_) ?_; focus omega) | (refine branch_f' (bne_eq_false_iff_eq.2 ?_) ?_; focus omega) | refine branch_t' (by assumption) ?_ | refine branch_f' (by assumption) ?_ | refine branch_f' (bne_self_eq_false _) ?_ | refine branch_t' (beq_self_eq_true _) ?_ | (refine branch_f' ?_ ?_; focus (simp; done)) | (refine branch_t' ?_ ?_; focus (simp; done)))
  refine callT_E (s ⟨false, 1, 1⟩ (by decide)) rfl ?_
  repeat (first | refine need_intro (by decide) ?_ | refine branch_true ?_ | refine branch_false ?_ | (refine branch_t' (decide_eq_true ?_) ?_; focus omega) | (refine branch_f' (decide_eq_false ?_) ?_; focus omega) | (refine branch_t' (beq_iff_eq.2 ?_) ?_; focus omega) | (refine branch_f' (beq_eq_false_iff_ne.2 ?_) ?_; focus omega) | (refine branch_t' (bne_iff_ne.2 ?_) ?_; focus omega) | (refine branch_f' (bne_eq_false_iff_eq.2 ?_) ?_; focus omega) | refine branch_t' (by assumption) ?_ | refine branch_f' (by assumption) ?_ | refine branch_f' (bne_self_eq_false _) ?_ | refine branch_t' (beq_self_eq_true _) ?_ | (refine branch_f' ?_ ?_; focus (simp; done)) | (refine branch_t' ?_ ?_; focus (simp; done)))
  refine callT_E (nm false 5 (-1) (by decide) (by decide)) rfl ?_
  refine callT_E kn12 rfl ?_
  refine callT_E (nm false 1 (-2) (by decide) (by decide)) rfl ?_
  refine callT_E kn13 rfl ?_
  refine callT_E (nm false 3 0 (by decide) (by decide)) rfl ?_
  refine callT_E kn14 rfl ?_
  refine callT_E (nm true 5 (-1) (by decide) (by decide)) rfl ?_
  refine callT_E kn15 rfl ?_
  refine callT_E (nm false 3 0 (by decide) (by decide)) rfl ?_
  refine callT_E kn16 rfl ?_
  refine callT_E (nm false 3 0 (by decide) (by decide)) rfl ?_
  refine callT_E kn17 rfl ?_
  refine callT_E kn18 rfl ?_
  refine draw_tree (picks [0, 1, 2, 3, 4, 5, 6, 7, 8, 9, 10, 11, 12, 13, 14, 15, 16, 17, 18, 19, 20, 21, 22, 23, 24, 25, 26, 27, 28, 29, 30, 31, 32, 33, 34, 35, 36, 37, 38, 39, 40, 41, 42, 43, 44, 45, 46, 47, 48, 49, 50, 51, 52, 53, 54, 55] .done) (by decide +kernel) ?_
  repeat (first | refine need_intro (by decide) ?_ | refine branch_true ?_ | refine branch_false ?_ | (refine branch_t' (decide_eq_true ?_) ?_; focus omega) | (refine branch_f' (decide_eq_false ?_) ?_; focus omega) | (refine branch_t' (beq_iff_eq.2 ?_) ?_; focus omega) | (refine branch_f' (beq_eq_false_iff_ne.2 ?_) ?_; focus omega) | (refine branch_t' (bne_iff_ne.2 ?_) ?_; focus omega) | (refine branch_f' (bne_eq_false_iff_eq.2 ?_) ?_; focus omega) | refine branch_t' (by assumption) ?_ | refine branch_f' (by assumption) ?_ | refine branch_f' (bne_self_eq_false _) ?_ | refine branch_t' (beq_self_eq_true _) ?_ | (refine branch_f' ?_ ?_; focus (simp; done)) | (refine branch_t' ?_ ?_; focus (simp; done)))
  refine ⟨_, ⟨nm false 3 0 (by decide) (by decide), rfl⟩, ?_⟩
  repeat (first | refine need_intro (by decide) ?_ | refine branch_true ?_ | refine branch_false ?_ | (refine branch_t' (decide_eq_true ?_) ?_; focus omega) | (refine branch_f' (decide_eq_false ?_) ?_; focus omega) | (refine branch_t' (beq_iff_eq.2 ?_) ?_; focus omega) | (refine branch_f' (beq_eq_false_iff_ne.2 ?_) ?_; focus omega) | (refine branch_t' (bne_iff_ne.2 ?_) ?_; focus omega) | (refine branch_f' (bne_eq_false_iff_eq.2 ?_) ?_; focus omega) | refine branch_t' (by assumption) ?_ | refine branch_f' (by assumption) ?_ | refine branch_f' (bne_self_eq_false _) ?_ | refine branch_t' (beq_self_eq_true _) ?_ | (refine branch_f' ?_ ?_; focus (simp; done)) | (refine branch_t' ?_ ?_; focus (simp; done)))
  refine ⟨_, ⟨s ⟨false, 3, 0⟩ (by decide), rfl⟩, ?_⟩
  repeat (first | refine need_intro (by decide) ?_ | refine branch_true ?_ | refine branch_false ?_ | (refine branch_t' (decide_eq_true ?_) ?_; focus omega) | (refine branch_f' (decide_eq_false ?_) ?_; focus omega) | (refine branch_t' (beq_iff_eq.2 ?_) ?_; focus omega) | (refine branch_f' (beq_eq_false_iff_ne.2 ?_) ?_; focus omega) | (refine branch_t' (bne_iff_ne.2 ?_) ?_; focus omega) | (refine branch_f' (bne_eq_false_iff_eq.2 ?_) ?_; focus omega) | refine branch_t' (by assumption) ?_ | refine branch_f' (by assumption) ?_ | refine branch_f' (bne_self_eq_false _) ?_ | refine branch_t' (beq_self_eq_true _) ?_ | (refine branch_f' ?_ ?_; focus (simp; done)) | (refine branch_t' ?_ ?_; focus (simp; done)))
  refine ⟨_, ⟨same_zero, rfl⟩, ?_⟩
  repeat (first | refine need_intro (by decide) ?_ | refine branch_true ?_ | refine branch_false ?_ | (refine branch_t' (decide_eq_true ?_) ?_; focus omega) | (refine branch_f' (decide_eq_false ?_) ?_; focus omega) | (refine branch_t' (beq_iff_eq.2 ?_) ?_; focus omega) | (refine branch_f' (beq_eq_false_iff_ne.2 ?_) ?_; focus omega) | (refine branch_t' (bne_iff_ne.2 ?_) ?_; focus omega) | (refine branch_f' (bne_eq_false_iff_eq.2 ?_) ?_; focus omega) | refine branch_t' (by assumption) ?_ | refine branch_f' (by assumption) ?_ | refine branch_f' (bne_self_eq_false _) ?_ | refine branch_t' (beq_self_eq_true _) ?_ | (refine branch_f' ?_ ?_; focus (simp; done)) | (refine branch_t' ?_ ?_; focus (simp; done)))
  refine ⟨_, ⟨nm false 1 2 (by decide) (by decide), rfl⟩, ?_⟩
  repeat (first | refine need_intro (by decide) ?_ | refine branch_true ?_ | refine branch_false ?_ | (refine branch_t' (decide_eq_true ?_) ?_; focus omega) | (refine branch_f' (decide_eq_false ?_) ?_; focus omega) | (refine branch_t' (beq_iff_eq.2 ?_) ?_; focus omega) | (refine branch_f' (beq_eq_false_iff_ne.2 ?_) ?_; focus omega) | (refine branch_t' (bne_iff_ne.2 ?_) ?_; focus omega) | (refine branch_f' (bne_eq_false_iff_eq.2 ?_) ?_; focus omega) | refine branch_t' (by assumption) ?_ | refine branch_f' (by assumption) ?_ | refine branch_f' (bne_self_eq_false _) ?_ | refine branch_t' (beq_self_eq_true _) ?_ | (refine branch_f' ?_ ?_; focus (simp; done)) | (refine branch_t' ?_ ?_; focus (simp; done)))
  refine ⟨_, ⟨s ⟨false, 1, 2⟩ (by decide), rfl⟩, ?_⟩
  repeat (first | refine need_intro (by decide) ?_ | refine branch_true ?_ | refine branch_false ?_ | (refine branch_t' (decide_eq_true ?_) ?_; focus omega) | (refine branch_f' (decide_eq_false ?_) ?_; focus omega) | (refine branch_t' (beq_iff_eq.2 ?_) ?_; focus omega) | (refine branch_f' (beq_eq_false_iff_ne.2 ?_) ?_; focus omega) | (refine branch_t' (bne_iff_ne.2 ?_) ?_; focus omega) | (refine branch_f' (bne_eq_false_iff_eq.2 ?_) ?_; focus omega) | refine branch_t' (by assumption) ?_ | refine branch_f' (by assumption) ?_ | refine branch_f' (bne_self_eq_false _) ?_ | refine branch_t' (beq_self_eq_true _) ?_ | (refine branch_f' ?_ ?_; focus (simp; done)) | (refine branch_t' ?_ ?_; focus (simp; done)))
  refine ⟨_, ⟨nm true 1 1 (by decide) (by decide), rfl⟩, ?_⟩
  repeat (first | refine need_intro (by decide) ?_ | refine branch_true ?_ | refine branch_false ?_ | (refine branch_t' (decide_eq_true ?_) ?_; focus omega) | (refine branch_f' (decide_eq_false ?_) ?_; focus omega) | (refine branch_t' (beq_iff_eq.2 ?_) ?_; focus omega) | (refine branch_f' (beq_eq_false_iff_ne.2 ?_) ?_; focus omega) | (refine branch_t' (bne_iff_ne.2 ?_) ?_; focus omega) | (refine branch_f' (bne_eq_false_iff_eq.2 ?_) ?_; focus omega) | refine branch_t' (by assumption) ?_ | refine branch_f' (by assumption) ?_ | refine branch_f' (bne_self_eq_false _) ?_ | refine branch_t' (beq_self_eq_true _) ?_ | (refine branch_f' ?_ ?_; focus (simp; done)) | (refine branch_t' ?_ ?_; focus (simp; done)))
  refine ⟨_, ⟨s ⟨true, 1, 1⟩ (by decide), rfl⟩, ?_⟩
  repeat (first | refine need_intro (by decide) ?_ | refine branch_true ?_ | refine branch_false ?_ | (refine branch_t' (decide_eq_true ?_) ?_; focus omega) | (refine branch_f' (decide_eq_false ?_) ?_; focus omega) | (refine branch_t' (beq_iff_eq.2 ?_) ?_; focus omega) | (refine branch_f' (beq_eq_false_iff_ne.2 ?_) ?_; focus omega) | (refine branch_t' (bne_iff_ne.2 ?_) ?_; focus omega) | (refine branch_f' (bne_eq_false_iff_eq.2 ?_) ?_; focus omega) | refine branch_t' (by assumption) ?_ | refine branch_f' (by assumption) ?_ | refine branch_f' (bne_self_eq_false _) ?_ | refine branch_t' (beq_self_eq_true _) ?_ | (refine branch_f' ?_ ?_; focus (simp; done)) | (refine branch_t' ?_ ?_; focus (simp; done)))
  refine ⟨_, ⟨same_zero, rfl⟩, ?_⟩
  repeat (first | refine need_intro (by decide) ?_ | refine branch_true ?_ | refine branch_false ?_ | (refine branch_t' (decide_eq_true ?_) ?_; focus omega) | (refine branch_f' (decide_eq_false ?_) ?_; focus omega) | (refine branch_t' (beq_iff_eq.2 ?_) ?_; focus omega) | (refine branch_f' (beq_eq_false_iff_ne.2 ?_) ?_; focus omega) | (refine branch_t' (bne_iff_ne.2 ?_) ?_; focus omega) | (refine branch_f' (bne_eq_false_iff_eq.2 ?_) ?_; focus omega) | refine branch_t' (by assumption) ?_ | refine branch_f' (by assumption) ?_ | refine branch_f' (bne_self_eq_false _) ?_ | refine branch_t' (beq_self_eq_true _) ?_ | (refine branch_f' ?_ ?_; focus (simp; done)) | (refine branch_t' ?_ ?_; focus (simp; done)))
  refine callT_E awake_c rfl ?_
  repeat (first | refine need_intro (by decide) ?_ | refine branch_true ?_ | refine branch_false ?_ | (refine branch_t' (decide_eq_true ?_) ?_; focus omega) | (refine branch_f' (decide_eq_false ?_) ?_; focus omega) | (refine branch_t' (beq_iff_eq.2 ?_) ?_; focus omega) | (refine branch_f' (beq_eq_false_iff_ne.2 ?_) ?_; focus omega) | (refine branch_t' (bne_iff_ne.2 ?_) ?_; focus omega) | (refine branch_f' (bne_eq_false_iff_eq.2 ?_) ?_; focus omega) | refine branch_t' (by assumption) ?_ | refine branch_f' (by assumption) ?_ | refine branch_f' (bne_self_eq_false _) ?_ | refine branch_t' (beq_self_eq_true _) ?_ | (refine branch_f' ?_ ?_; focus (simp; done)) | (refine branch_t' ?_ ?_; focus (simp; done)))
  show Eqv _ _
  exact eqv_of_eq (congrArg AVal.bool (beq_self_eq_true _))
end Go.Proofs.N13
