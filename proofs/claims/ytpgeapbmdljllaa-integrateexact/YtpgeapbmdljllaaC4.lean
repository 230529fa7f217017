/- Chapter 14, part g: Canon, Neg, Add, Sub, Mul, Cmp, Distance, Of. -/
import Derived.Test.YtpgeapbmdljllaaC3
import Derived.Test.YtpgeapbmdljllaaE5
set_option linter.unusedVariables false
set_option linter.unusedSimpArgs false
/-! Dg. -/
namespace Go.Proofs.N13
open Go.E
set_option maxRecDepth 8000

def negD (x : Dy) : Dy := ⟨!x.neg && decide (x.m ≠ 0), x.m, x.e⟩
def mulD (x y : Dy) : Dy := canonD (x.neg != y.neg) (x.m * y.m) (x.e + y.e)
def subD (x y : Dy) : Dy := plusD x (negD y)
def absD (x : Dy) : Dy := ⟨false, x.m, x.e⟩
def signD (x : Dy) : Int := if x.m = 0 then 0 else if x.neg = true then -1 else 1
theorem canonD_bits (n : Bool) (m : Nat) (e : Int) : bitLen (canonD n m e).m ≤ bitLen m := by
  unfold canonD
  split
  · simp [Dy.zero, bitLen_zero]
  · exact bitLen_mono (Nat.div_le_self _ _)
theorem plusD_bits {x y : Dy} (hx : x.fit) (hy : y.fit) : bitLen (plusD x y).m ≤ 30001 := by
  obtain ⟨a1, a2, a3⟩ := hx
  obtain ⟨b1, b2, b3⟩ := hy
  unfold plusD
  split
  · omega
  split
  · omega
  simp only
  have hd : (if y.e < x.e then y.e else x.e) ≤ x.e ∧ (if y.e < x.e then y.e else x.e) ≤ y.e ∧ -8192 ≤ (if y.e < x.e then y.e else x.e) ∧ (if y.e < x.e then y.e else x.e) ≤ 8192 := by split <;> omega
  have hp := bitLen_two_mul (x.e - if y.e < x.e then y.e else x.e).toNat x.m
  have hq := bitLen_two_mul (y.e - if y.e < x.e then y.e else x.e).toNat y.m
  have hp : bitLen (2 ^ (x.e - if y.e < x.e then y.e else x.e).toNat * x.m) ≤ 30000 := by omega
  have hq : bitLen (2 ^ (y.e - if y.e < x.e then y.e else x.e).toNat * y.m) ≤ 30000 := by omega
  generalize 2 ^ (x.e - if y.e < x.e then y.e else x.e).toNat * x.m = p at *
  generalize 2 ^ (y.e - if y.e < x.e then y.e else x.e).toNat * y.m = q at *
  split
  · exact Nat.le_trans (canonD_bits _ _ _) (bitLen_add_le hp hq)
  split
  · exact Nat.le_trans (canonD_bits _ _ _) (Nat.le_trans (bitLen_mono (show q - p ≤ q by omega)) (by omega))
  · exact Nat.le_trans (canonD_bits _ _ _) (Nat.le_trans (bitLen_mono (show p - q ≤ p by omega)) (by omega))
theorem within_fit {x : Dy} (h : x.within = true) : x.fit := fit_nat h
theorem neg_fit {x : Dy} (h : x.fit) : (negD x).fit := h

theorem resV_form (x : Dy) : ∃ d e, resV x = .tuple [dyA d, .int .i64 e] := by
  unfold resV
  split
  · exact ⟨_, _, rfl⟩
  · exact ⟨_, _, rfl⟩
/-- A result of two arguments. -/
def opV (x y : Dy) (r : AVal) : AVal := if x.within = true ∧ y.within = true then r else .tuple [dyA .zero, .int .i64 4]
theorem opV_closed {x y : Dy} {r : AVal} (h : r.closed2 = true) : (opV x y r).closed2 = true := by unfold opV; split; exact h; rfl
theorem opV_ok {x y : Dy} {r : AVal} (hx : x.within = true) (hy : y.within = true) : opV x y r = r := by rw [opV, if_pos ⟨hx, hy⟩]
theorem opV_no {x y : Dy} {r : AVal} (h : ¬ (x.within = true ∧ y.within = true)) : opV x y r = .tuple [dyA .zero, .int .i64 4] := by rw [opV, if_neg h]
theorem twoV_ok {x y : Dy} (hx : x.within = true) (hy : y.within = true) : twoV x y = .tuple [dyA x, dyA y, .int .i64 0] := by rw [twoV, if_pos hx, if_pos hy]
theorem twoV_no {x y : Dy} (h : ¬ (x.within = true ∧ y.within = true)) : ∃ a b, twoV x y = .tuple [dyA a, dyA b, .int .i64 4] := by
  unfold twoV
  split
  · split
    · exact absurd ⟨by assumption, by assumption⟩ h
    · exact ⟨_, _, rfl⟩
  · exact ⟨_, _, rfl⟩

theorem canon_c (n : Bool) {l : List Int} {m : Nat} {e : Int} (h : ArgD l m e) : callP Try.prog 94 [dyL n l e] (· = resV (canonD n m e)) := by
  have c1 := in_a n h
  generalize canonD n m e = x at *
  refine callE_def env (fn := Try.f94) rfl (by decide) (resV_closed _) ?_
  by_cases hx : x.within = true
  · rw [resV_in hx] at c1
    refine callT_E c1 rfl ?_
    repeat (first | refine branch_true ?_ | refine branch_false ?_ | refine branch_f' (bne_self_eq_false _) ?_ | refine branch_t' (beq_self_eq_true _) ?_ | refine branch_t' (decide_eq_true rfl) ?_)
    refine callT_E (by have := out_c x (by have := (within_fit hx).1; omega); rwa [resV_in hx] at this) rfl ?_
    rw [resV_in hx]
    show Eqv _ _
    exact .up (.up (.refl _))
  · rw [resV_out hx] at c1
    refine callT_E c1 rfl ?_
    repeat (first | refine branch_true ?_ | refine branch_false ?_ | refine branch_f' (bne_self_eq_false _) ?_ | refine branch_t' (beq_self_eq_true _) ?_ | refine branch_t' (decide_eq_true rfl) ?_)
    show Eqv _ _
    rw [resV_out hx]
    exact eqv_zero 4
section
variable (n1 n2 : Bool) {l1 l2 : List Int} {m1 m2 : Nat} {e1 e2 : Int}
theorem dadd_c (h1 : ArgD l1 m1 e1) (h2 : ArgD l2 m2 e2) : callP Try.prog 65 [dyL n1 l1 e1, dyL n2 l2 e2] (· = opV (canonD n1 m1 e1) (canonD n2 m2 e2) (resV (plusD (canonD n1 m1 e1) (canonD n2 m2 e2)))) := by
  have c1 := two_c n1 n2 h1 h2
  generalize canonD n1 m1 e1 = x at *
  generalize canonD n2 m2 e2 = y at *
  refine callE_def env (fn := Try.f65) rfl (by decide) (opV_closed (resV_closed _)) ?_
  by_cases hw : x.within = true ∧ y.within = true
  · obtain ⟨hx, hy⟩ := hw
    rw [twoV_ok hx hy] at c1
    rw [opV_ok hx hy]
    refine callT_E c1 rfl ?_
    repeat (first | refine branch_true ?_ | refine branch_false ?_ | refine branch_f' (bne_self_eq_false _) ?_ | refine branch_t' (beq_self_eq_true _) ?_ | refine branch_t' (decide_eq_true rfl) ?_)
    refine callT_E (plus_c x y (within_fit hx) (within_fit hy)) rfl ?_
    have hb := plusD_bits (within_fit hx) (within_fit hy)
    obtain ⟨d, e, hr⟩ := resV_form (plusD x y)
    have co := out_c (plusD x y) (by omega)
    rw [hr] at co ⊢
    refine callT_E co rfl ?_
    show Eqv _ _
    exact .up (.up (.refl _))
  · obtain ⟨a, b, hab⟩ := twoV_no hw
    rw [hab] at c1
    rw [opV_no hw]
    refine callT_E c1 rfl ?_
    repeat (first | refine branch_true ?_ | refine branch_false ?_ | refine branch_f' (bne_self_eq_false _) ?_ | refine branch_t' (beq_self_eq_true _) ?_ | refine branch_t' (decide_eq_true rfl) ?_)
    show Eqv _ _
    exact eqv_zero 4
theorem dsub_c (h1 : ArgD l1 m1 e1) (h2 : ArgD l2 m2 e2) : callP Try.prog 67 [dyL n1 l1 e1, dyL n2 l2 e2] (· = opV (canonD n1 m1 e1) (canonD n2 m2 e2) (resV (subD (canonD n1 m1 e1) (canonD n2 m2 e2)))) := by
  have c1 := two_c n1 n2 h1 h2
  generalize canonD n1 m1 e1 = x at *
  generalize canonD n2 m2 e2 = y at *
  refine callE_def env (fn := Try.f67) rfl (by decide) (opV_closed (resV_closed _)) ?_
  by_cases hw : x.within = true ∧ y.within = true
  · obtain ⟨hx, hy⟩ := hw
    rw [twoV_ok hx hy] at c1
    rw [opV_ok hx hy]
    refine callT_E c1 rfl ?_
    repeat (first | refine branch_true ?_ | refine branch_false ?_ | refine branch_f' (bne_self_eq_false _) ?_ | refine branch_t' (beq_self_eq_true _) ?_ | refine branch_t' (decide_eq_true rfl) ?_)
    refine draw_tree (picks [0, 1, 2, 3, 4, 5, 6, 7, 8] .done) (by decide +kernel) ?_
    refine ⟨_, ⟨negated_c y, rfl⟩, ?_⟩
    refine ⟨_, ⟨plus_c x (negD y) (within_fit hx) (within_fit hy), rfl⟩, ?_⟩
    have hb : bitLen (subD x y).m ≤ 30001 := plusD_bits (within_fit hx) (neg_fit (within_fit hy))
    obtain ⟨d, e, hr⟩ := resV_form (subD x y)
    have co := out_c (subD x y) (by omega)
    rw [hr] at co ⊢
    refine ⟨_, ⟨co, rfl⟩, ?_⟩
    show Eqv _ _
    exact .up (.up (.refl _))
  · obtain ⟨a, b, hab⟩ := twoV_no hw
    rw [hab] at c1
    rw [opV_no hw]
    refine callT_E c1 rfl ?_
    repeat (first | refine branch_true ?_ | refine branch_false ?_ | refine branch_f' (bne_self_eq_false _) ?_ | refine branch_t' (beq_self_eq_true _) ?_ | refine branch_t' (decide_eq_true rfl) ?_)
    show Eqv _ _
    exact eqv_zero 4
theorem dmul_c (h1 : ArgD l1 m1 e1) (h2 : ArgD l2 m2 e2) : callP Try.prog 63 [dyL n1 l1 e1, dyL n2 l2 e2] (· = opV (canonD n1 m1 e1) (canonD n2 m2 e2) (resV (mulD (canonD n1 m1 e1) (canonD n2 m2 e2)))) := by
  have c1 := two_c n1 n2 h1 h2
  generalize canonD n1 m1 e1 = x at *
  generalize canonD n2 m2 e2 = y at *
  refine callE_def env (fn := Try.f63) rfl (by decide) (opV_closed (resV_closed _)) ?_
  by_cases hw : x.within = true ∧ y.within = true
  · obtain ⟨hx, hy⟩ := hw
    rw [twoV_ok hx hy] at c1
    rw [opV_ok hx hy]
    refine callT_E c1 rfl ?_
    repeat (first | refine branch_true ?_ | refine branch_false ?_ | refine branch_f' (bne_self_eq_false _) ?_ | refine branch_t' (beq_self_eq_true _) ?_ | refine branch_t' (decide_eq_true rfl) ?_)
    have fx := within_fit hx
    have fy := within_fit hy
    obtain ⟨a1, a2, a3⟩ := fx
    obtain ⟨b1, b2, b3⟩ := fy
    have hm := bitLen_mul_le x.m y.m
    have cm := mul_c (a := limbsOf x.m) (b := limbsOf y.m) (small_nat (by omega)) (small_nat (by omega)) (limbs_limbsOf _) (limbs_limbsOf _)
    rw [val_limbsOf, val_limbsOf, limited_fits (by omega)] at cm
    refine callT_E cm rfl ?_
    have we : IntKind.i64.wrap (x.e + y.e) = x.e + y.e := wi (by omega) (by omega)
    have hb := canonD_bits (x.neg != y.neg) (x.m * y.m) (x.e + y.e)
    have hb : bitLen (mulD x y).m ≤ 30001 := by unfold mulD; omega
    have cc := canonical_c (x.neg != y.neg) (m := x.m * y.m) (e := IntKind.i64.wrap (x.e + y.e)) (by omega) (by rw [we]; omega)
    rw [we] at cc
    refine callT_E ((congrArg (fun z => callP Try.prog 98 [.bool (x.neg != y.neg), ints .u32 (limbsOf (x.m * y.m)), .int .i64 z] (· = dyA (canonD (x.neg != y.neg) (x.m * y.m) (x.e + y.e)))) we).mpr cc) rfl ?_
    have hmd : canonD (x.neg != y.neg) (x.m * y.m) (x.e + y.e) = mulD x y := rfl
    rw [hmd]
    obtain ⟨d, e, hr⟩ := resV_form (mulD x y)
    have co := out_c (mulD x y) (by omega)
    rw [hr] at co ⊢
    refine callT_E co rfl ?_
    show Eqv _ _
    exact .up (.up (.refl _))
  · obtain ⟨a, b, hab⟩ := twoV_no hw
    rw [hab] at c1
    rw [opV_no hw]
    refine callT_E c1 rfl ?_
    repeat (first | refine branch_true ?_ | refine branch_false ?_ | refine branch_f' (bne_self_eq_false _) ?_ | refine branch_t' (beq_self_eq_true _) ?_ | refine branch_t' (decide_eq_true rfl) ?_)
    show Eqv _ _
    exact eqv_zero 4
def cmpV (x y : Dy) : AVal := if x.within = true ∧ y.within = true then .tuple [.int .i64 (signD (subD x y)), .int .i64 0] else .tuple [.int .i64 0, .int .i64 4]
end
end Go.Proofs.N13
/-! Dh. -/
namespace Go.Proofs.N13
open Go.E
set_option maxRecDepth 8000

theorem bitLen_small {n k : Nat} (h : n < 2 ^ k) : bitLen n ≤ k := bitLen_le.2 h
theorem ArgD.nat {m : Nat} {e : Int} (h : bitLen m ≤ 9600) (he : -9223372036854775808 ≤ e ∧ e ≤ 9223372036854775807) : ArgD (limbsOf m) m e :=
  ⟨Nat.le_trans (limbsOf_len_le (k := 300) (by omega)) (by omega), limbs_limbsOf _, val_limbsOf _, he⟩
theorem dof_c {n e : Int} (hn : -9223372036854775808 ≤ n ∧ n ≤ 9223372036854775807) (he : -9223372036854775808 ≤ e ∧ e ≤ 9223372036854775807) : callP Try.prog 62 [.int .i64 n, .int .i64 e] (· = resV (canonD (decide (n < 0)) n.natAbs e)) := by
  have hb : bitLen n.natAbs ≤ 64 := bitLen_small (by omega)
  obtain ⟨d, e', hr⟩ := resV_form (canonD (decide (n < 0)) n.natAbs e)
  have cc := canon_c (decide (n < 0)) (ArgD.nat (m := n.natAbs) (e := e) (by omega) he)
  rw [hr] at cc ⊢
  refine callE_def env (fn := Try.f62) rfl (by decide) rfl ?_
  apply branch_intro <;> intro h
  · have h0 := of_decide_eq_true h
    have w : IntKind.u64.wrap (0 - IntKind.u64.wrap n) = (n.natAbs : Int) := by rw [IntKind.wrap_u64, IntKind.wrap_u64]; omega
    have hc := of_c n.natAbs (by omega)
    refine callT_E ((congrArg (fun z => callP Try.prog 95 [.int .u64 z] (· = ints .u32 (limbsOf n.natAbs))) w).mpr hc) rfl ?_
    refine callT_E cc rfl ?_
    show Eqv _ _
    exact .up (.up (.refl _))
  · have h0 := of_decide_eq_false h
    have w : IntKind.u64.wrap n = (n.natAbs : Int) := by rw [IntKind.wrap_u64]; omega
    have hc := of_c n.natAbs (by omega)
    refine callT_E ((congrArg (fun z => callP Try.prog 95 [.int .u64 z] (· = ints .u32 (limbsOf n.natAbs))) w).mpr hc) rfl ?_
    refine callT_E cc rfl ?_
    show Eqv _ _
    exact .up (.up (.refl _))

theorem branch_f' {b : Bool} {T E : Prop} (hb : b = false) (h : E) : branch b T E := branch_intro (fun h0 => by rw [hb] at h0; cases h0) (fun _ => h)
theorem branch_t' {b : Bool} {T E : Prop} (hb : b = true) (h : T) : branch b T E := branch_intro (fun _ => h) (fun h0 => by rw [hb] at h0; cases h0)
/-- A multiple of 2^-k. -/
def roundD (near : Bool) (x : Dy) (k : Int) : Dy :=
  if -k - x.e ≤ 0 ∨ x.m = 0 then x
  else canonD x.neg (x.m / 2 ^ (-k - x.e).toNat + if near = true ∧ x.m / 2 ^ ((-k - x.e).toNat - 1) % 2 = 1 then 1 else 0) (-k)
def roundV (near : Bool) (x : Dy) (k : Int) : AVal :=
  if k < -8192 ∨ 8192 < k then .tuple [dyA .zero, .int .i64 2] else if x.within = true then resV (roundD near x k) else .tuple [dyA .zero, .int .i64 4]
theorem roundV_closed (near : Bool) (x : Dy) (k : Int) : (roundV near x k).closed2 = true := by
  unfold roundV
  split
  · rfl
  split
  · exact resV_closed _
  · rfl

end Go.Proofs.N13
/-! Di. -/
namespace Go.Proofs.N13
open Go.E
set_option maxRecDepth 8000

abbrev rA (x : Dy) : AVal := .agg [.bool x.neg, ints .u8 (bitsOf x.m), .int .i64 x.e]
abbrev rZ : AVal := .agg [.bool false, .nilslice, .int .i64 0]
theorem eqv_rZ : Eqv1 rZ (rA .zero) := by
  refine .agg (.cons (.refl _) (.cons ?_ (.cons (.refl _) .nil)))
  show Eqv0 _ (ints .u8 (bitsOf 0))
  rw [bitsOf_zero]
  exact .nil _ _
theorem bits_len0 (n : Nat) : (bitsOf n).length = 0 ↔ n = 0 := by
  rw [bitsOf_len]
  constructor
  · intro h
    rcases Nat.eq_zero_or_pos n with h0 | h0
    · exact h0
    · rw [bitLen_pos (by omega)] at h; omega
  · rintro rfl; exact bitLen_zero
theorem bit_of (n i : Nat) : (bitsOf n).getD i 0 = ((n / 2 ^ i % 2 : Nat) : Int) := by
  have := bv_at (bin_bitsOf n) i
  rwa [bv_bitsOf] at this

set_option maxHeartbeats 1000000 in
theorem make2_c (neg : Bool) {m : Nat} {e : Int} (hm : bitLen m ≤ 1000000) (he : -1000000 ≤ e ∧ e ≤ 1000000) : callP Try.prog 84 [.bool neg, ints .u8 (bitsOf m), .int .i64 e] (· = rA (canonD neg m e)) := by
  refine callE_def env (fn := Try.f84) rfl (by decide) rfl ?_
  apply branch_intro <;> intro h
  · have h0 : m = 0 := (bits_len0 m).1 (by have := eq_of_beq h; omega)
    show Eqv _ _
    rw [canonD, if_pos h0]
    exact .up eqv_rZ
  have h0 : m ≠ 0 := fun c => by subst c; rw [bitsOf_zero] at h; simp at h
  have htz := tz_lt h0
  have hlen := bitsOf_len m
  refine loop_inv (keep 27 [0, 1, 2, 6, 7]) (fun z : Nat => slots 27 [(0, .bool neg), (1, ints .u8 (bitsOf m)), (2, .int .i64 e), (6, .ptr ⟨0, 0, 0⟩), (7, .int .i64 z)]) (fun _ => [.cells [.bool false, .nilslice, .int .i64 0]])
    (fun z => z ≤ tz m) (fun z => tz m - z) 0 (Nat.zero_le _) rfl rfl ?_
  intro z hz
  have hb : (bitsOf m).getD ((z : Int)).toNat 0 = ((m / 2 ^ z % 2 : Nat) : Int) := by rw [Int.toNat_natCast]; exact bit_of m z
  apply need_intro
  · rw [hlen]; omega
  apply branch_intro <;> intro h2
  · have h3 := eq_of_beq h2
    rw [hb] at h3
    have h4 : z < tz m := (tz_bit h0 hz).1 (by omega)
    refine ⟨z + 1, h4, by omega, ?_, rfl⟩
    show [_, _, _, _, _, _, _, _, _, _, _, _, _, _, _, _, _, _, _, _, _, _, _, _, _, _, _] = _
    rw [wi (x := (z : Int) + 1) (by omega) (by omega)]
    rfl
  · have h3 : ¬ z < tz m := fun c => by
      have h4 := (tz_bit h0 hz).2 c
      rw [h4] at hb
      exact absurd (beq_iff_eq.2 hb) (by rw [Bool.not_eq_true]; exact h2)
    obtain rfl : z = tz m := by omega
    refine callT_E (rshr_c m (tz m) (by omega) (by omega)) rfl ?_
    have hv : rA (canonD neg m e) = .agg [.bool neg, ints .u8 (bitsOf (m / 2 ^ tz m)), .int .i64 (IntKind.i64.wrap (e + tz m))] := by
      rw [canonD, if_neg h0, wi (by omega) (by omega)]
    show Eqv _ _
    rw [hv]
    exact .up (.up (.refl _))
theorem rwithin_c (x : Dy) : callP Try.prog 103 [rA x] (· = .bool x.within) := by
  have hl := bitsOf_len x.m
  refine callE_def env (fn := Try.f103) rfl (by decide) rfl ?_
  apply branch_intro <;> intro h1
  · have h1 := of_decide_eq_true h1
    repeat (first | refine branch_true ?_ | refine branch_false ?_ | refine branch_f' (bne_self_eq_false _) ?_ | refine branch_t' (beq_self_eq_true _) ?_ | refine branch_t' (decide_eq_true rfl) ?_)
    apply branch_intro <;> intro h2
    · have h2 := of_decide_eq_true h2
      repeat (first | refine branch_true ?_ | refine branch_false ?_ | refine branch_f' (bne_self_eq_false _) ?_ | refine branch_t' (beq_self_eq_true _) ?_ | refine branch_t' (decide_eq_true rfl) ?_)
      have e : x.within = decide (x.e ≤ 8192) := by
        unfold Dy.within
        simp only [decide_eq_decide]
        omega
      rw [e]
      show Eqv _ _
      exact .up (.up (.refl _))
    · have h2 := of_decide_eq_false h2
      repeat (first | refine branch_true ?_ | refine branch_false ?_ | refine branch_f' (bne_self_eq_false _) ?_ | refine branch_t' (beq_self_eq_true _) ?_ | refine branch_t' (decide_eq_true rfl) ?_)
      have e : x.within = false := by
        unfold Dy.within
        simp only [decide_eq_false_iff_not]
        omega
      rw [e]
      show Eqv _ _
      exact .up (.up (.refl _))
  · have h1 := of_decide_eq_false h1
    repeat (first | refine branch_true ?_ | refine branch_false ?_ | refine branch_f' (bne_self_eq_false _) ?_ | refine branch_t' (beq_self_eq_true _) ?_ | refine branch_t' (decide_eq_true rfl) ?_)
    have e : x.within = false := by
      unfold Dy.within
      simp only [decide_eq_false_iff_not]
      omega
    rw [e]
    show Eqv _ _
    exact .up (.up (.refl _))

/-- What the reference reads off an argument. -/
def rvalD (neg : Bool) (m : Nat) (e : Int) : Dy := if m = 0 then .zero else if 8192 < e ∨ e < -8192 - (bitLen m : Int) then .zero else canonD neg m e
def rvalV (neg : Bool) (m : Nat) (e : Int) : AVal := .tuple [rA (rvalD neg m e), .bool (canonD neg m e).within]
theorem rvalD_ok {neg : Bool} {m : Nat} {e : Int} (h : (canonD neg m e).within = true) : rvalD neg m e = canonD neg m e := by
  unfold rvalD
  split
  · rw [canonD, if_pos (by assumption)]
  split
  · rename_i h0 hc
    exfalso
    rw [canonD, if_neg h0] at h
    obtain ⟨a, b, c⟩ := fit_nat h
    simp only at b c
    have := tz_lt h0
    omega
  · rfl
set_option maxHeartbeats 1000000 in
theorem rval_c (neg : Bool) {l : List Int} {m : Nat} {e : Int} (h : ArgD l m e) : callP Try.prog 90 [dyL neg l e] (· = rvalV neg m e) := by
  have hbl := h.bits
  obtain ⟨h1, h2, h3, h4⟩ := h
  have hc := value_c (a := l) (by unfold Small; omega) h2
  rw [h3] at hc
  have hlen := bitsOf_len m
  refine callE_def env (fn := Try.f90) rfl (by decide) rfl ?_
  refine callT_E hc rfl ?_
  apply branch_intro <;> intro h
  · have h0 : m = 0 := (bits_len0 m).1 (by have := eq_of_beq h; omega)
    show Eqv _ _
    rw [rvalV, rvalD, if_pos h0, canonD, if_pos h0, zero_within]
    exact .tuple (.cons eqv_rZ (.cons (.up (.refl _)) .nil))
  have h0 : m ≠ 0 := fun c => by subst c; rw [bitsOf_zero] at h; simp at h
  have htz := tz_lt h0
  have hod := bitLen_odd h0
  have w1 : IntKind.i64.wrap ((-8192 : Int) - ((bitsOf m).length : Int)) = -8192 - (bitLen m : Int) := by rw [hlen]; exact wi (by omega) (by omega)
  have hz : (8192 < e ∨ e < -8192 - (bitLen m : Int)) → retE (rvalV neg m e) (.tuple [rZ, .bool false]) [] := by
    intro ho
    show Eqv _ _
    have hw : (canonD neg m e).within = false := by
      rw [canonD, if_neg h0, Dy.within]
      simp only [decide_eq_false_iff_not]
      omega
    rw [rvalV, rvalD, if_neg h0, if_pos ho, hw]
    exact .tuple (.cons eqv_rZ (.cons (.up (.refl _)) .nil))
  apply branch_intro <;> intro h5
  · have h5 := of_decide_eq_true h5
    repeat (first | refine branch_true ?_ | refine branch_false ?_ | refine branch_f' (bne_self_eq_false _) ?_ | refine branch_t' (beq_self_eq_true _) ?_ | refine branch_t' (decide_eq_true rfl) ?_)
    exact hz (.inl (by omega))
  have h5 := of_decide_eq_false h5
  repeat (first | refine branch_true ?_ | refine branch_false ?_ | refine branch_f' (bne_self_eq_false _) ?_ | refine branch_t' (beq_self_eq_true _) ?_ | refine branch_t' (decide_eq_true rfl) ?_)
  apply branch_intro <;> intro h6
  · have h6 := of_decide_eq_true h6
    rw [w1] at h6
    repeat (first | refine branch_true ?_ | refine branch_false ?_ | refine branch_f' (bne_self_eq_false _) ?_ | refine branch_t' (beq_self_eq_true _) ?_ | refine branch_t' (decide_eq_true rfl) ?_)
    exact hz (.inr h6)
  have h6 := of_decide_eq_false h6
  rw [w1] at h6
  repeat (first | refine branch_true ?_ | refine branch_false ?_ | refine branch_f' (bne_self_eq_false _) ?_ | refine branch_t' (beq_self_eq_true _) ?_ | refine branch_t' (decide_eq_true rfl) ?_)
  refine callT_E (make2_c neg (m := m) (e := e) (by omega) (by omega)) rfl ?_
  refine draw_tree (picks [0, 1, 2, 3, 4] .done) (by decide +kernel) ?_
  refine ⟨_, ⟨rwithin_c (canonD neg m e), rfl⟩, ?_⟩
  show Eqv _ _
  rw [rvalV, rvalD, if_neg h0, if_neg (by omega)]
  exact .up (.up (.refl _))
theorem rout_c (x : Dy) (hx : bitLen x.m ≤ 1000000) : callP Try.prog 70 [rA x] (· = resV x) := by
  refine callE_def env (fn := Try.f70) rfl (by decide) (resV_closed _) ?_
  refine callT_E (rwithin_c x) rfl ?_
  apply branch_intro <;> intro h
  · show Eqv _ _
    rw [resV_out (by intro c; rw [c] at h; cases h)]
    exact eqv_zero 4
  · refine draw_tree (picks [0, 1, 2, 3, 4, 5, 6, 7, 8, 9] .done) (by decide +kernel) ?_
    refine ⟨_, ⟨rnat_c x.m (by omega), rfl⟩, ?_⟩
    show Eqv _ _
    rw [resV_in (by revert h; cases x.within <;> simp)]
    exact .up (.up (.refl _))
theorem rofE_c {n e : Int} (hn : -9223372036854775808 ≤ n ∧ n ≤ 9223372036854775807) (he : -9223372036854775808 ≤ e ∧ e ≤ 9223372036854775807) : callP Try.prog 56 [.int .i64 n, .int .i64 e] (· = rvalV (decide (n < 0)) n.natAbs e) := by
  have hb : bitLen n.natAbs ≤ 64 := bitLen_small (by omega)
  have cc := rval_c (decide (n < 0)) (ArgD.nat (m := n.natAbs) (e := e) (by omega) he)
  have w0 : IntKind.u64.wrap n = ((n % 18446744073709551616).toNat : Int) := by rw [IntKind.wrap_u64]; omega
  have hc := rof_c (n := (n % 18446744073709551616).toNat) (by omega)
  refine callE_def env (fn := Try.f56) rfl (by decide) rfl ?_
  refine callT_E ((congrArg (fun z => callP Try.prog 89 [.int .u64 z] (· = ints .u8 (bitsOf (n % 18446744073709551616).toNat))) w0).mpr hc) rfl ?_
  apply branch_intro <;> intro h
  · have h0 := of_decide_eq_true h
    have w : IntKind.u64.wrap (0 - IntKind.u64.wrap n) = (n.natAbs : Int) := by rw [IntKind.wrap_u64, IntKind.wrap_u64]; omega
    refine callT_E ((congrArg (fun z => callP Try.prog 89 [.int .u64 z] (· = ints .u8 (bitsOf n.natAbs))) w).mpr (rof_c (by omega))) rfl ?_
    refine callT_E (rnat_c n.natAbs (by omega)) rfl ?_
    refine callT_E cc rfl ?_
    show Eqv _ _
    exact .up (.up (.refl _))
  · have h0 := of_decide_eq_false h
    have hm : (n % 18446744073709551616).toNat = n.natAbs := by omega
    rw [hm]
    refine callT_E (rnat_c n.natAbs (by omega)) rfl ?_
    refine callT_E cc rfl ?_
    show Eqv _ _
    exact .up (.up (.refl _))
end Go.Proofs.N13
/-! Dj. -/
namespace Go.Proofs.N13
open Go.E
set_option maxRecDepth 8000

theorem canonD_shift (n : Bool) (k m : Nat) (e : Int) : canonD n (2 ^ k * m) e = canonD n m (e + k) := by
  by_cases h0 : m = 0
  · subst h0; rw [Nat.mul_zero, canonD, if_pos rfl, canonD, if_pos rfl]
  obtain ⟨e1, e2⟩ := tz_spec m h0
  have h1 : 2 ^ k * m ≠ 0 := Nat.mul_ne_zero (Nat.pos_iff_ne_zero.1 (Nat.two_pow_pos k)) h0
  obtain ⟨t1, t2⟩ := tz_unique (n := 2 ^ k * m) (q := m / 2 ^ tz m) (k := k + tz m) e2 (by rw [Nat.pow_add, Nat.mul_assoc, ← e1])
  rw [canonD, if_neg h1, canonD, if_neg h0, t2, t1]
  congr 1
  omega
/-- The reference's sum. -/
def raddD (x y : Dy) : Dy :=
  let e := if y.e < x.e then y.e else x.e
  let p := 2 ^ (x.e - e).toNat * x.m
  let q := 2 ^ (y.e - e).toNat * y.m
  if x.neg = y.neg then canonD x.neg (p + q) e else if p < q then canonD y.neg (q - p) e else canonD x.neg (p - q) e
theorem canon_back {x : Dy} (hx : x.Canon) {e : Int} (h : e ≤ x.e) : canonD x.neg (2 ^ (x.e - e).toNat * x.m) e = x := by
  rw [canonD_shift, show e + ((x.e - e).toNat : Int) = x.e by omega]
  exact canonD_self hx
theorem canon_zero {x : Dy} (hx : x.Canon) (h : x.m = 0) : x = .zero := by
  rcases hx with h1 | h1
  · exact h1
  · omega
theorem raddD_eq {x y : Dy} (hx : x.Canon) (hy : y.Canon) : raddD x y = plusD x y := by
  unfold plusD
  by_cases h1 : x.m = 0
  · have := canon_zero hx h1
    subst this
    rw [if_pos h1]
    obtain ⟨E, hE⟩ : ∃ E, (if y.e < Dy.zero.e then y.e else Dy.zero.e) = E := ⟨_, rfl⟩
    have hle : E ≤ y.e := by rw [← hE]; show (if y.e < 0 then y.e else 0) ≤ y.e; split <;> omega
    have hb := canon_back hy hle
    have hr : raddD .zero y = if false = y.neg then canonD false (2 ^ (0 - E).toNat * 0 + 2 ^ (y.e - E).toNat * y.m) E else if 2 ^ (0 - E).toNat * 0 < 2 ^ (y.e - E).toNat * y.m then canonD y.neg (2 ^ (y.e - E).toNat * y.m - 2 ^ (0 - E).toNat * 0) E else canonD false (2 ^ (0 - E).toNat * 0 - 2 ^ (y.e - E).toNat * y.m) E := by
      rw [← hE]; rfl
    rw [hr, Nat.mul_zero, Nat.zero_add, Nat.sub_zero]
    cases hn : y.neg
    · rw [if_pos rfl]; rw [hn] at hb; exact hb
    · rw [if_neg (by simp)]
      have hm : 0 < y.m := by
        rcases Nat.eq_zero_or_pos y.m with h | h
        · rw [canon_zero hy h] at hn; cases hn
        · exact h
      rw [if_pos (Nat.mul_pos (Nat.two_pow_pos _) hm)]
      rw [hn] at hb; exact hb
  rw [if_neg h1]
  by_cases h2 : y.m = 0
  · have := canon_zero hy h2
    subst this
    rw [if_pos h2]
    obtain ⟨E, hE⟩ : ∃ E, (if Dy.zero.e < x.e then Dy.zero.e else x.e) = E := ⟨_, rfl⟩
    have hle : E ≤ x.e := by rw [← hE]; show (if 0 < x.e then 0 else x.e) ≤ x.e; split <;> omega
    have hb := canon_back hx hle
    have hr : raddD x .zero = if x.neg = false then canonD x.neg (2 ^ (x.e - E).toNat * x.m + 2 ^ (0 - E).toNat * 0) E else if 2 ^ (x.e - E).toNat * x.m < 2 ^ (0 - E).toNat * 0 then canonD false (2 ^ (0 - E).toNat * 0 - 2 ^ (x.e - E).toNat * x.m) E else canonD x.neg (2 ^ (x.e - E).toNat * x.m - 2 ^ (0 - E).toNat * 0) E := by
      rw [← hE]; rfl
    rw [hr, Nat.mul_zero, Nat.add_zero, Nat.sub_zero, if_neg (Nat.not_lt_zero _)]
    split <;> exact hb
  rw [if_neg h2]
  rfl
theorem plusD_canon {x y : Dy} (hx : x.Canon) (hy : y.Canon) : (plusD x y).Canon := by
  unfold plusD
  split
  · exact hy
  split
  · exact hx
  generalize (if y.e < x.e then y.e else x.e) = E
  simp only
  split
  · exact canonD_canon _ _ _
  split <;> exact canonD_canon _ _ _
theorem negD_canon {x : Dy} (hx : x.Canon) : (negD x).Canon := by
  rcases hx with rfl | h
  · exact .inl rfl
  · exact .inr h
theorem rneg_c {x : Dy} (hx : x.Canon) : callP Try.prog 52 [rA x] (· = rA (negD x)) := by
  have hl := bits_len0 x.m
  refine callE_def env (fn := Try.f52) rfl (by decide) rfl ?_
  apply branch_intro <;> intro h
  · have h0 : ¬ x.m = 0 := fun c => by have := of_decide_eq_true h; have := hl.2 c; omega
    have e : negD x = ⟨!x.neg, x.m, x.e⟩ := by rw [negD, decide_eq_true (p := x.m ≠ 0) h0, Bool.and_true]
    rw [e]
    show Eqv _ _
    exact .up (.up (.refl _))
  · have h0 : x.m = 0 := hl.1 (by have := of_decide_eq_false h; omega)
    have e := canon_zero hx h0
    have e2 : negD x = x := by rw [e]; rfl
    rw [e2]
    show Eqv _ _
    exact .up (.up (.refl _))

set_option maxHeartbeats 4000000 in
theorem radd14_c {x y : Dy} (cx : x.Canon) (cy : y.Canon) (hx : x.fit) (hy : y.fit) : callP Try.prog 51 [rA x, rA y] (· = rA (plusD x y)) := by
  rw [← raddD_eq cx cy]
  clear cx cy
  obtain ⟨n1, m1, e1⟩ := x
  obtain ⟨n2, m2, e2⟩ := y
  obtain ⟨hx1, hx2, hx3⟩ := hx
  obtain ⟨hy1, hy2, hy3⟩ := hy
  simp only at hx1 hx2 hx3 hy1 hy2 hy3
  have hd : (if e2 < e1 then e2 else e1) ≤ e1 ∧ (if e2 < e1 then e2 else e1) ≤ e2 ∧ -8192 ≤ (if e2 < e1 then e2 else e1) ∧ (if e2 < e1 then e2 else e1) ≤ 8192 := by split <;> omega
  have hpl : raddD ⟨n1, m1, e1⟩ ⟨n2, m2, e2⟩ = (let e := if e2 < e1 then e2 else e1
    let p := 2 ^ (e1 - e).toNat * m1
    let q := 2 ^ (e2 - e).toNat * m2
    if n1 = n2 then canonD n1 (p + q) e else if p < q then canonD n2 (q - p) e else canonD n1 (p - q) e) := rfl
  have cA := rshl_c m1 (e1 - if e2 < e1 then e2 else e1).toNat (by omega) (by omega)
  have cB := rshl_c m2 (e2 - if e2 < e1 then e2 else e1).toNat (by omega) (by omega)
  have hp := bitLen_two_mul (e1 - if e2 < e1 then e2 else e1).toNat m1
  have hq := bitLen_two_mul (e2 - if e2 < e1 then e2 else e1).toNat m2
  have hp : bitLen (2 ^ (e1 - if e2 < e1 then e2 else e1).toNat * m1) ≤ 30000 := by omega
  have hq : bitLen (2 ^ (e2 - if e2 < e1 then e2 else e1).toNat * m2) ≤ 30000 := by omega
  have wA : IntKind.i64.wrap (e1 - if e2 < e1 then e2 else e1) = ((e1 - if e2 < e1 then e2 else e1).toNat : Int) := by rw [wi (by omega) (by omega)]; omega
  have wB : IntKind.i64.wrap (e2 - if e2 < e1 then e2 else e1) = ((e2 - if e2 < e1 then e2 else e1).toNat : Int) := by rw [wi (by omega) (by omega)]; omega
  simp only at hpl
  rw [hpl]
  clear hpl
  rw [← wA] at cA
  rw [← wB] at cB
  generalize 2 ^ (e1 - if e2 < e1 then e2 else e1).toNat * m1 = p at *
  generalize 2 ^ (e2 - if e2 < e1 then e2 else e1).toNat * m2 = q at *
  have hs := bitLen_add_le hp hq
  refine callE_def env (fn := Try.f51) rfl (by decide) rfl ?_
  refine callT_E cA rfl ?_
  refine callT_E cB rfl ?_
  clear cA cB
  apply branch_intro <;> intro h3
  · have h3 : n1 = n2 := by simpa using h3
    rw [if_pos h3]
    refine draw_tree (picks [0, 1, 2, 3, 4, 5, 6, 7] .done) (by decide +kernel) ?_
    refine ⟨_, ⟨radd_c p q (by omega) (by omega), rfl⟩, ?_⟩
    refine ⟨_, ⟨make2_c n1 (m := p + q) (e := if e2 < e1 then e2 else e1) (by omega) (by omega), rfl⟩, ?_⟩
    show Eqv _ _
    exact .up (.up (.refl _))
  have h3 : ¬ n1 = n2 := by simpa using h3
  rw [if_neg h3]
  refine callT_E (rcmp_c p q (by omega) (by omega)) rfl ?_
  apply branch_intro <;> intro h4
  · have h4 : p < q := by
      have := of_decide_eq_true h4
      unfold cmpN at this
      split at this
      · assumption
      · split at this <;> omega
    rw [if_pos h4]
    have := bitLen_mono (show q - p ≤ q by omega)
    refine draw_tree (picks [0, 1, 2, 3, 4, 5, 6, 7] .done) (by decide +kernel) ?_
    refine ⟨_, ⟨rsub_c q p (by omega) (by omega), rfl⟩, ?_⟩
    refine ⟨_, ⟨make2_c n2 (m := q - p) (e := if e2 < e1 then e2 else e1) (by omega) (by omega), rfl⟩, ?_⟩
    show Eqv _ _
    exact .up (.up (.refl _))
  · have h4 : ¬ p < q := by
      intro hlt
      have := of_decide_eq_false h4
      rw [cmpN, if_pos hlt] at this
      omega
    rw [if_neg h4]
    have := bitLen_mono (show p - q ≤ p by omega)
    refine draw_tree (picks [0, 1, 2, 3, 4, 5, 6, 7] .done) (by decide +kernel) ?_
    refine ⟨_, ⟨rsub_c p q (by omega) (by omega), rfl⟩, ?_⟩
    refine ⟨_, ⟨make2_c n1 (m := p - q) (e := if e2 < e1 then e2 else e1) (by omega) (by omega), rfl⟩, ?_⟩
    show Eqv _ _
    exact .up (.up (.refl _))
theorem rmul14_c {x y : Dy} (hx : x.fit) (hy : y.fit) : callP Try.prog 53 [rA x, rA y] (· = rA (mulD x y)) := by
  obtain ⟨a1, a2, a3⟩ := hx
  obtain ⟨b1, b2, b3⟩ := hy
  have hm := bitLen_mul_le x.m y.m
  have we : IntKind.i64.wrap (x.e + y.e) = x.e + y.e := wi (by omega) (by omega)
  refine callE_def env (fn := Try.f53) rfl (by decide) rfl ?_
  refine draw_tree (picks [0, 1, 2, 3, 4, 5, 6, 7, 8, 9, 10, 11, 12, 13, 14, 15, 16] .done) (by decide +kernel) ?_
  refine ⟨_, ⟨rmul_c x.m y.m (by omega) (by omega), rfl⟩, ?_⟩
  have cc := make2_c (x.neg != y.neg) (m := x.m * y.m) (e := IntKind.i64.wrap (x.e + y.e)) (by omega) (by rw [we]; omega)
  refine ⟨_, ⟨cc, rfl⟩, ?_⟩
  rw [we]
  show Eqv _ _
  exact .up (.up (.refl _))
theorem rsign_c (x : Dy) : callP Try.prog 92 [rA x] (· = .int .i64 (signD x)) := by
  have hl := bits_len0 x.m
  refine callE_def env (fn := Try.f92) rfl (by decide) rfl ?_
  apply branch_intro <;> intro h
  · have h0 : x.m = 0 := hl.1 (by have := eq_of_beq h; omega)
    rw [signD, if_pos h0]
    show Eqv _ _
    exact .up (.up (.refl _))
  have h0 : ¬ x.m = 0 := fun c => by have := hl.2 c; rw [this] at h; simp at h
  rw [signD, if_neg h0]
  apply branch_intro <;> intro hn
  · rw [if_pos hn]
    show Eqv _ _
    exact .up (.up (.refl _))
  · rw [if_neg (by rw [hn]; simp)]
    show Eqv _ _
    exact .up (.up (.refl _))
theorem rcmp14_c {x y : Dy} (cx : x.Canon) (cy : y.Canon) (hx : x.fit) (hy : y.fit) : callP Try.prog 57 [rA x, rA y] (· = .int .i64 (signD (subD x y))) := by
  refine callE_def env (fn := Try.f57) rfl (by decide) rfl ?_
  refine draw_tree (picks [0, 1, 2, 3, 4, 5] .done) (by decide +kernel) ?_
  refine ⟨_, ⟨rneg_c cy, rfl⟩, ?_⟩
  refine ⟨_, ⟨radd14_c cx (negD_canon cy) hx (neg_fit hy), rfl⟩, ?_⟩
  refine ⟨_, ⟨rsign_c (plusD x (negD y)), rfl⟩, ?_⟩
  show Eqv _ _
  exact .up (.up (.refl _))
theorem rabs_c (x : Dy) : callP Try.prog 55 [rA x] (· = rA (absD x)) := by
  refine callE_def env (fn := Try.f55) rfl (by decide) rfl ?_
  show Eqv _ _
  exact .up (.up (.refl _))
theorem limbsOf_inj {a b : Nat} : limbsOf a = limbsOf b ↔ a = b := ⟨fun h => by have := congrArg val h; rwa [val_limbsOf, val_limbsOf] at this, fun h => by rw [h]⟩
theorem dsame_c (x y : Dy) (hx : bitLen x.m ≤ 1000000) : callP Try.prog 33 [dyA x, dyA y] (· = .bool (decide (x = y))) := by
  have hs := same_c (a := limbsOf x.m) (b := limbsOf y.m) (small_nat hx).short
  obtain ⟨n1, m1, e1⟩ := x
  obtain ⟨n2, m2, e2⟩ := y
  refine callE_def env (fn := Try.f33) rfl (by decide) rfl ?_
  apply branch_intro <;> intro h
  · have h1 : n1 = n2 := by simpa using h
    repeat (first | refine branch_true ?_ | refine branch_false ?_ | refine branch_f' (bne_self_eq_false _) ?_ | refine branch_t' (beq_self_eq_true _) ?_ | refine branch_t' (decide_eq_true rfl) ?_)
    apply branch_intro <;> intro h'
    · have h2 : e1 = e2 := by simpa using h'
      repeat (first | refine branch_true ?_ | refine branch_false ?_ | refine branch_f' (bne_self_eq_false _) ?_ | refine branch_t' (beq_self_eq_true _) ?_ | refine branch_t' (decide_eq_true rfl) ?_)
      refine callT_E hs rfl ?_
      repeat (first | refine branch_true ?_ | refine branch_false ?_ | refine branch_f' (bne_self_eq_false _) ?_ | refine branch_t' (beq_self_eq_true _) ?_ | refine branch_t' (decide_eq_true rfl) ?_)
      have e : decide ((⟨n1, m1, e1⟩ : Dy) = ⟨n2, m2, e2⟩) = decide (limbsOf m1 = limbsOf m2) := by
        simp only [decide_eq_decide, limbsOf_inj, Dy.mk.injEq]
        exact ⟨fun h => h.2.1, fun h => ⟨h1, h, h2⟩⟩
      rw [e]
      show Eqv _ _
      exact .up (.up (.refl _))
    · have h2 : ¬ e1 = e2 := by simpa using h'
      repeat (first | refine branch_true ?_ | refine branch_false ?_ | refine branch_f' (bne_self_eq_false _) ?_ | refine branch_t' (beq_self_eq_true _) ?_ | refine branch_t' (decide_eq_true rfl) ?_)
      have e : decide ((⟨n1, m1, e1⟩ : Dy) = ⟨n2, m2, e2⟩) = false := by
        simp only [decide_eq_false_iff_not, Dy.mk.injEq]
        exact fun h => h2 h.2.2
      rw [e]
      show Eqv _ _
      exact .up (.up (.refl _))
  · have h1 : ¬ n1 = n2 := by simpa using h
    repeat (first | refine branch_true ?_ | refine branch_false ?_ | refine branch_f' (bne_self_eq_false _) ?_ | refine branch_t' (beq_self_eq_true _) ?_ | refine branch_t' (decide_eq_true rfl) ?_)
    have e : decide ((⟨n1, m1, e1⟩ : Dy) = ⟨n2, m2, e2⟩) = false := by
      simp only [decide_eq_false_iff_not, Dy.mk.injEq]
      exact fun h => h1 h.1
    rw [e]
    show Eqv _ _
    exact .up (.up (.refl _))
theorem same_true {x y : Dy} (h : x = y) (hx : bitLen x.m ≤ 1000000) : callP Try.prog 33 [dyA x, dyA y] (· = .bool true) := by
  have := dsame_c x y hx
  rwa [decide_eq_true h] at this
end Go.Proofs.N13
/-! Dn. -/
namespace Go.Proofs.N13
open Go.E
set_option maxRecDepth 8000

theorem wu16 {x : Int} (h0 : 0 ≤ x) (h1 : x < 65536) : IntKind.u16.wrap x = x := by
  rw [IntKind.wrap_u16]; omega
def wordV (w : Int) : Int := if w % 32768 ≥ 16384 then w % 32768 - 32767 else w % 32768
theorem word_b {w : Int} : -16383 ≤ wordV w ∧ wordV w ≤ 16383 := by
  unfold wordV; split <;> omega
theorem eqv_of_eq {v w : AVal} (h : v = w) : Eqv v w := by subst h; exact .up (.up (.refl _))
theorem mask16 {x : Int} {m : Nat} (hm : m ≤ 16) (h0 : 0 ≤ x) (h1 : x < 65536) :
    IntKind.u16.wrap ((BitVec.ofInt IntKind.u16.bits x &&& BitVec.ofInt IntKind.u16.bits (2 ^ m - 1)).toNat : Int) = x % 2 ^ m := by
  obtain ⟨n, rfl⟩ := Int.eq_ofNat_of_zero_le h0
  have hp : 2 ^ m ≤ 2 ^ 16 := Nat.pow_le_pow_right (by decide) hm
  have h2 : 0 < 2 ^ m := Nat.pow_pos (by decide)
  have e1 : (BitVec.ofInt IntKind.u16.bits (n : Int)).toNat = n := by
    rw [show IntKind.u16.bits = 16 from rfl, BitVec.ofInt_natCast, BitVec.toNat_ofNat]
    exact Nat.mod_eq_of_lt (by omega)
  have em : ((2 : Int) ^ m - 1) = ((2 ^ m - 1 : Nat) : Int) := by
    have : ((2 ^ m : Nat) : Int) = 2 ^ m := by simp
    omega
  have e2 : (BitVec.ofInt IntKind.u16.bits (2 ^ m - 1)).toNat = 2 ^ m - 1 := by
    rw [em, show IntKind.u16.bits = 16 from rfl, BitVec.ofInt_natCast, BitVec.toNat_ofNat]
    exact Nat.mod_eq_of_lt (by omega)
  rw [BitVec.toNat_and, e1, e2, Nat.and_two_pow_sub_one_eq_mod]
  have hlt2 : n % 2 ^ m < 2 ^ 16 := Nat.lt_of_lt_of_le (Nat.mod_lt _ h2) hp
  rw [wu16 (by omega) (by omega)]
  simp
theorem bit14 {x : Int} (h0 : 0 ≤ x) (h1 : x < 32768) :
    (IntKind.u16.wrap ((BitVec.ofInt IntKind.u16.bits x &&& BitVec.ofInt IntKind.u16.bits 16384).toNat : Int) != 0) = decide (16384 ≤ x) := by
  obtain ⟨n, rfl⟩ := Int.eq_ofNat_of_zero_le h0
  have e1 : (BitVec.ofInt IntKind.u16.bits (n : Int)).toNat = n := by
    rw [show IntKind.u16.bits = 16 from rfl, BitVec.ofInt_natCast, BitVec.toNat_ofNat]
    exact Nat.mod_eq_of_lt (by omega)
  have e2 : (BitVec.ofInt IntKind.u16.bits 16384).toNat = 2 ^ 14 := by decide
  have h3 : n.testBit 14 = decide (n / 2 ^ 14 % 2 = 1) := Nat.testBit_eq_decide_div_mod_eq
  rw [BitVec.toNat_and, e1, e2]
  by_cases h : 16384 ≤ n
  · rw [decide_eq_true (p := n / 2 ^ 14 % 2 = 1) (by omega)] at h3
    have h4 : n &&& 2 ^ 14 = 2 ^ 14 := Nat.eq_of_testBit_eq fun j => by
      rw [Nat.testBit_and, Nat.testBit_two_pow]
      by_cases hj : 14 = j
      · subst hj; rw [h3]; rfl
      · rw [decide_eq_false hj, Bool.and_false]
    rw [h4, decide_eq_true (by omega)]; rfl
  · rw [decide_eq_false (p := n / 2 ^ 14 % 2 = 1) (by omega)] at h3
    have h4 : n &&& 2 ^ 14 = 0 := Nat.eq_of_testBit_eq fun j => by
      rw [Nat.testBit_and, Nat.testBit_two_pow, Nat.zero_testBit]
      by_cases hj : 14 = j
      · subst hj; rw [h3]; rfl
      · rw [decide_eq_false hj, Bool.and_false]
    rw [h4, decide_eq_false (by omega)]; rfl
theorem word_c {w : Int} (h0 : 0 ≤ w) (h1 : w < 65536) : callP Try.prog 102 [.int .u16 w] (· = .int .i64 (wordV w)) := by
  refine callE_def env (fn := Try.f102) rfl (by decide) rfl ?_
  have e1 : IntKind.u16.wrap ((BitVec.ofInt IntKind.u16.bits w &&& BitVec.ofInt IntKind.u16.bits 32767).toNat : Int) = w % 32768 := mask16 (m := 15) (by decide) h0 h1
  have e2 := bit14 (x := w % 32768) (by omega) (by omega)
  apply branch_intro <;> intro h
  · rw [e1, e2] at h
    have h := of_decide_eq_true h
    show Eqv _ _
    refine eqv_of_eq (congrArg (AVal.int _) ?_)
    rw [e1, wu16 (by omega) (by omega), wi (x := 32767 - w % 32768) (by omega) (by omega), wi (by omega) (by omega), wordV, if_pos (by omega)]
    omega
  · rw [e1, e2] at h
    have h := of_decide_eq_false h
    show Eqv _ _
    refine eqv_of_eq (congrArg (AVal.int _) ?_)
    rw [e1, wordV, if_neg (by omega), wi (by omega) (by omega)]
theorem rword_c {w : Int} (h0 : 0 ≤ w) (h1 : w < 65536) : callP Try.prog 82 [.int .u16 w] (· = .int .i64 (wordV w)) := by
  refine callE_def env (fn := Try.f82) rfl (by decide) rfl ?_
  refine need_intro (by decide) ?_
  have e1 : w.tmod 32768 = w % 32768 := Int.tmod_eq_emod_of_nonneg h0
  have e2 : IntKind.i64.wrap (w % 32768) = w % 32768 := wi (by omega) (by omega)
  apply branch_intro <;> intro h
  · rw [e1, e2] at h
    have h := of_decide_eq_true h
    show Eqv _ _
    refine eqv_of_eq (congrArg (AVal.int _) ?_)
    rw [e1, e2, wi (by omega) (by omega), wordV, if_pos (by omega)]
  · rw [e1, e2] at h
    have h := of_decide_eq_false h
    show Eqv _ _
    refine eqv_of_eq (congrArg (AVal.int _) ?_)
    rw [e1, e2, wordV, if_neg (by omega)]
abbrev dblA (a b : Int) : AVal := .agg [.int .u16 a, .int .u16 b]
def dblV (a b : Int) : Int := wordV a * 16384 + wordV b
theorem dblV_b (a b : Int) : -300000000 ≤ dblV a b ∧ dblV a b ≤ 300000000 := by
  have := @word_b a; have := @word_b b
  unfold dblV; omega
def dblD (a b : Int) : Dy := canonD (decide (dblV a b < 0)) (dblV a b).natAbs (-28)
theorem dblD_fit (a b : Int) : (dblD a b).fit ∧ (dblD a b).within = true := by
  have h := dblV_b a b
  have h1 : bitLen (dblV a b).natAbs ≤ 32 := bitLen_small (by omega)
  have h2 := canonD_bits (decide (dblV a b < 0)) (dblV a b).natAbs (-28)
  have h3 : -8192 ≤ (dblD a b).e ∧ (dblD a b).e ≤ 8192 := by
    unfold dblD canonD
    split
    · exact ⟨by decide, by decide⟩
    · have := tz_lt (n := (dblV a b).natAbs) (by assumption)
      simp only
      omega
  have h4 : (dblD a b).fit := ⟨by unfold dblD; omega, h3⟩
  exact ⟨h4, decide_eq_true h4⟩
theorem double_c {a b : Int} (ha : 0 ≤ a ∧ a < 65536) (hb : 0 ≤ b ∧ b < 65536) : callP Try.prog 68 [dblA a b] (· = dyA (dblD a b)) := by
  have h1 := @word_b a
  have h2 := @word_b b
  have hv := dblV_b a b
  have w1 : IntKind.i64.wrap (wordV a * 2 ^ 14) = wordV a * 16384 := by rw [show (2 : Int) ^ 14 = 16384 from rfl, wi (by omega) (by omega)]
  have w2 : IntKind.i64.wrap (IntKind.i64.wrap (wordV a * 2 ^ 14) + wordV b) = dblV a b := by rw [w1, wi (by omega) (by omega)]; rfl
  refine callE_def env (fn := Try.f68) rfl (by decide) rfl ?_
  refine draw_tree (picks [0, 1, 2, 3, 4, 5, 6, 7, 8, 9, 10, 11, 12, 13, 14] .done) (by decide +kernel) ?_
  repeat (refine need_intro (by decide) ?_)
  refine ⟨_, ⟨word_c ha.1 ha.2, rfl⟩, ?_⟩
  repeat (refine need_intro (by decide) ?_)
  refine ⟨_, ⟨word_c hb.1 hb.2, rfl⟩, ?_⟩
  have cc : ∀ n' : Int, n' = dblV a b → callP Try.prog 62 [.int .i64 n', .int .i64 (-28)] (· = .tuple [dyA (dblD a b), .int .i64 0]) := by
    rintro _ rfl
    have := dof_c (n := dblV a b) (e := -28) (by omega) (by decide)
    rwa [show canonD (decide (dblV a b < 0)) (dblV a b).natAbs (-28) = dblD a b from rfl, resV_in (dblD_fit a b).2] at this
  refine ⟨_, ⟨cc _ w2, rfl⟩, ?_⟩
  show Eqv _ _
  exact .up (.up (.refl _))
end Go.Proofs.N13
/-! Dp. -/
namespace Go.Proofs.N13
open Go.E
set_option maxRecDepth 8000

theorem rdouble_c {a b : Int} (ha : 0 ≤ a ∧ a < 65536) (hb : 0 ≤ b ∧ b < 65536) : callP Try.prog 50 [dblA a b] (· = rA (dblD a b)) := by
  have h1 := @word_b a
  have h2 := @word_b b
  have hv := dblV_b a b
  have w1 : IntKind.i64.wrap (wordV a * 16384) = wordV a * 16384 := wi (by omega) (by omega)
  have w2 : IntKind.i64.wrap (IntKind.i64.wrap (wordV a * 16384) + wordV b) = dblV a b := by rw [w1, wi (by omega) (by omega)]; rfl
  refine callE_def env (fn := Try.f50) rfl (by decide) rfl ?_
  refine draw_tree (picks [0, 1, 2, 3, 4, 5, 6, 7, 8, 9, 10, 11, 12, 13, 14] .done) (by decide +kernel) ?_
  repeat (refine need_intro (by decide) ?_)
  refine ⟨_, ⟨rword_c ha.1 ha.2, rfl⟩, ?_⟩
  repeat (refine need_intro (by decide) ?_)
  refine ⟨_, ⟨rword_c hb.1 hb.2, rfl⟩, ?_⟩
  have cc : ∀ n' : Int, n' = dblV a b → callP Try.prog 56 [.int .i64 n', .int .i64 (-28)] (· = .tuple [rA (dblD a b), .bool true]) := by
    rintro _ rfl
    have := rofE_c (n := dblV a b) (e := -28) (by omega) (by decide)
    rwa [rvalV, rvalD_ok (dblD_fit a b).2, show canonD (decide (dblV a b < 0)) (dblV a b).natAbs (-28) = dblD a b from rfl, (dblD_fit a b).2] at this
  refine ⟨_, ⟨cc _ w2, rfl⟩, ?_⟩
  show Eqv _ _
  exact .up (.up (.refl _))
theorem mulD_bits {x y : Dy} (hx : x.fit) (hy : y.fit) : bitLen (mulD x y).m ≤ 20000 := by
  obtain ⟨a1, a2, a3⟩ := hx
  obtain ⟨b1, b2, b3⟩ := hy
  have hm := bitLen_mul_le x.m y.m
  have hb := canonD_bits (x.neg != y.neg) (x.m * y.m) (x.e + y.e)
  unfold mulD; omega
end Go.Proofs.N13
/-! Dr. -/
namespace Go.Proofs.N13
open Go.E
set_option maxRecDepth 8000

/-- A whole number, or its negative. -/
def sgn (n : Bool) (v : Int) : Int := if n = true then -v else v
/-- The value in units of 2^-K. -/
def V (K : Nat) (x : Dy) : Int := sgn x.neg ((x.m : Int) * ((2 ^ (x.e + K).toNat : Nat) : Int))
theorem sgn_zero (n : Bool) : sgn n 0 = 0 := by cases n <;> rfl
theorem sgn_add (n : Bool) (a b : Int) : sgn n (a + b) = sgn n a + sgn n b := by cases n <;> simp only [sgn] <;> simp <;> omega
theorem sgn_mul (n : Bool) (a b : Int) : sgn n (a * b) = sgn n a * b := by cases n <;> simp [sgn, Int.neg_mul]
theorem V_zero (K : Nat) : V K .zero = 0 := by
  show sgn false ((0 : Nat) * _) = 0
  rw [show ((0 : Nat) : Int) = 0 from rfl, Int.zero_mul]; rfl
theorem V_m0 {K : Nat} {x : Dy} (h : x.m = 0) : V K x = 0 := by
  unfold V
  rw [h, show ((0 : Nat) : Int) = 0 from rfl, Int.zero_mul, sgn_zero]
theorem V_canonD (K : Nat) (n : Bool) (m : Nat) {e : Int} (he : -(K : Int) ≤ e) : V K (canonD n m e) = sgn n ((m : Int) * ((2 ^ (e + K).toNat : Nat) : Int)) := by
  by_cases h0 : m = 0
  · rw [canonD, if_pos h0, V_zero, h0, show ((0 : Nat) : Int) = 0 from rfl, Int.zero_mul, sgn_zero]
  · obtain ⟨e1, e2⟩ := tz_spec m h0
    rw [canonD, if_neg h0]
    unfold V
    simp only
    have h1 : (e + (tz m : Int) + K).toNat = tz m + (e + K).toNat := by omega
    rw [h1]
    congr 1
    rw [← Int.natCast_mul, ← Int.natCast_mul]
    congr 1
    rw [Nat.pow_add, ← Nat.mul_assoc, Nat.mul_comm (m / 2 ^ tz m), ← e1]
theorem canonD_e (K : Nat) (n : Bool) (m : Nat) {e : Int} (he : -(K : Int) ≤ e) : -(K : Int) ≤ (canonD n m e).e := by
  unfold canonD
  split
  · show -(K : Int) ≤ 0; omega
  · simp only; omega
theorem V_shift (K d : Nat) {x : Dy} (he : -(K : Int) ≤ x.e) : V (K + d) x = V K x * ((2 ^ d : Nat) : Int) := by
  unfold V
  rw [← sgn_mul, show (x.e + ((K + d : Nat) : Int)).toNat = (x.e + K).toNat + d by omega, Nat.pow_add, Int.natCast_mul, Int.mul_assoc]
theorem plusD_e {K : Nat} {x y : Dy} (hx : -(K : Int) ≤ x.e) (hy : -(K : Int) ≤ y.e) : -(K : Int) ≤ (plusD x y).e := by
  unfold plusD
  split
  · exact hy
  split
  · exact hx
  have hE : -(K : Int) ≤ (if y.e < x.e then y.e else x.e) := by split <;> assumption
  generalize (if y.e < x.e then y.e else x.e) = E at *
  simp only
  split
  · exact canonD_e K _ _ hE
  split
  · exact canonD_e K _ _ hE
  · exact canonD_e K _ _ hE
theorem V_plus {K : Nat} {x y : Dy} (hx : -(K : Int) ≤ x.e) (hy : -(K : Int) ≤ y.e) : V K (plusD x y) = V K x + V K y := by
  unfold plusD
  split
  · rename_i h; rw [V_m0 h, Int.zero_add]
  split
  · rename_i h; rw [V_m0 h, Int.add_zero]
  have hE : -(K : Int) ≤ (if y.e < x.e then y.e else x.e) := by split <;> assumption
  have hE2 : (if y.e < x.e then y.e else x.e) ≤ x.e ∧ (if y.e < x.e then y.e else x.e) ≤ y.e := by split <;> omega
  generalize (if y.e < x.e then y.e else x.e) = E at *
  have vx : V K x = sgn x.neg (((2 ^ (x.e - E).toNat * x.m : Nat) : Int) * ((2 ^ (E + K).toNat : Nat) : Int)) := by
    unfold V
    rw [show (x.e + K).toNat = (x.e - E).toNat + (E + K).toNat by omega, Nat.pow_add, ← Int.natCast_mul, ← Int.natCast_mul]
    congr 2
    rw [Nat.mul_comm (2 ^ _) x.m, Nat.mul_assoc]
  have vy : V K y = sgn y.neg (((2 ^ (y.e - E).toNat * y.m : Nat) : Int) * ((2 ^ (E + K).toNat : Nat) : Int)) := by
    unfold V
    rw [show (y.e + K).toNat = (y.e - E).toNat + (E + K).toNat by omega, Nat.pow_add, ← Int.natCast_mul, ← Int.natCast_mul]
    congr 2
    rw [Nat.mul_comm (2 ^ _) y.m, Nat.mul_assoc]
  rw [vx, vy]
  clear vx vy
  simp only
  generalize 2 ^ (x.e - E).toNat * x.m = p
  generalize 2 ^ (y.e - E).toNat * y.m = q
  split
  · rename_i h
    rw [V_canonD K _ _ hE, h, ← sgn_add, Int.natCast_add, Int.add_mul]
  · rename_i h
    split
    · rename_i hlt
      rw [V_canonD K _ _ hE, Int.ofNat_sub (by omega)]
      generalize hw : ((2 ^ (E + K).toNat : Nat) : Int) = w
      rw [Int.sub_mul]
      generalize (p : Int) * w = a
      generalize (q : Int) * w = b
      revert h
      cases x.neg <;> cases y.neg <;> simp [sgn] <;> omega
    · rename_i hlt
      rw [V_canonD K _ _ hE, Int.ofNat_sub (by omega)]
      generalize hw : ((2 ^ (E + K).toNat : Nat) : Int) = w
      rw [Int.sub_mul]
      generalize (p : Int) * w = a
      generalize (q : Int) * w = b
      revert h
      cases x.neg <;> cases y.neg <;> simp [sgn] <;> omega
theorem V_mul {K L : Nat} {x y : Dy} (hx : -(K : Int) ≤ x.e) (hy : -(L : Int) ≤ y.e) : V (K + L) (mulD x y) = V K x * V L y := by
  unfold mulD
  rw [V_canonD (K + L) _ _ (by omega), show (x.e + y.e + ((K + L : Nat) : Int)).toNat = (x.e + K).toNat + (y.e + L).toNat by omega, Nat.pow_add]
  unfold V
  simp only [Int.natCast_mul]
  have e : ((x.m : Int) * y.m) * (((2 ^ (x.e + K).toNat : Nat) : Int) * ((2 ^ (y.e + L).toNat : Nat) : Int)) = ((x.m : Int) * ((2 ^ (x.e + K).toNat : Nat) : Int)) * ((y.m : Int) * ((2 ^ (y.e + L).toNat : Nat) : Int)) := by
    simp only [Int.mul_assoc, Int.mul_left_comm]
  rw [e]
  cases x.neg <;> cases y.neg <;> simp [sgn, Int.neg_mul, Int.mul_neg]
theorem mulD_e {K L : Nat} {x y : Dy} (hx : -(K : Int) ≤ x.e) (hy : -(L : Int) ≤ y.e) : -((K + L : Nat) : Int) ≤ (mulD x y).e := canonD_e (K + L) _ _ (by omega)
theorem V_neg (K : Nat) (x : Dy) : V K (negD x) = - V K x := by
  by_cases h : x.m = 0
  · rw [V_m0 h, V_m0 (x := negD x) h]; rfl
  · unfold V negD
    rw [decide_eq_true (p := x.m ≠ 0) h, Bool.and_true]
    cases x.neg <;> simp [sgn]
theorem V_sub {K : Nat} {x y : Dy} (hx : -(K : Int) ≤ x.e) (hy : -(K : Int) ≤ y.e) : V K (subD x y) = V K x - V K y := by
  unfold subD
  rw [V_plus (y := negD y) hx hy, V_neg]; omega
theorem V_pos (K : Nat) (x : Dy) (h : x.m ≠ 0) : 0 < (x.m : Int) * ((2 ^ (x.e + K).toNat : Nat) : Int) := Int.mul_pos (by omega) (Int.ofNat_lt.2 (Nat.two_pow_pos _))
theorem V_abs (K : Nat) (x : Dy) : V K (absD x) = ((V K x).natAbs : Int) := by
  unfold V absD
  have h : 0 ≤ (x.m : Int) * ((2 ^ (x.e + K).toNat : Nat) : Int) := Int.mul_nonneg (Int.natCast_nonneg _) (Int.natCast_nonneg _)
  generalize (x.m : Int) * ((2 ^ (x.e + K).toNat : Nat) : Int) = v at *
  cases x.neg <;> simp [sgn] <;> omega
/-- The sign of a whole number. -/
def sg (z : Int) : Int := if z = 0 then 0 else if z < 0 then -1 else 1
theorem V_sign (K : Nat) (x : Dy) : signD x = sg (V K x) := by
  unfold signD sg
  by_cases h : x.m = 0
  · rw [if_pos h, V_m0 h]; rfl
  · have hp := V_pos K x h
    rw [if_neg h]
    unfold V
    generalize (x.m : Int) * ((2 ^ (x.e + K).toNat : Nat) : Int) = v at *
    cases x.neg
    · simp only [sgn, Bool.false_eq_true, if_false]
      rw [if_neg (by omega), if_neg (by omega)]
    · simp only [sgn, if_true]
      rw [if_neg (by omega), if_pos (by omega)]
/-- One value, one form. -/
theorem V_inj {K : Nat} {x y : Dy} (cx : x.Canon) (cy : y.Canon) (hx : -(K : Int) ≤ x.e) (hy : -(K : Int) ≤ y.e) (h : V K x = V K y) : x = y := by
  by_cases h0 : x.m = 0
  · have hs : signD y = 0 := by rw [V_sign K, ← h, V_m0 h0]; rfl
    have hy0 : y.m = 0 := by
      unfold signD at hs
      split at hs
      · assumption
      · split at hs <;> omega
    rw [canon_zero cx h0, canon_zero cy hy0]
  · have hs : signD x = signD y := by rw [V_sign K, V_sign K, h]
    have hy0 : ¬ y.m = 0 := by
      intro c
      unfold signD at hs
      rw [if_neg h0, if_pos c] at hs
      split at hs <;> omega
    have hn : x.neg = y.neg := by
      unfold signD at hs
      rw [if_neg h0, if_neg hy0] at hs
      revert hs
      cases x.neg <;> cases y.neg <;> simp
    have ox : x.m % 2 = 1 := by rcases cx with rfl | h1; exact absurd rfl h0; exact h1
    have oy : y.m % 2 = 1 := by rcases cy with rfl | h1; exact absurd rfl hy0; exact h1
    have hm : 2 ^ (x.e + K).toNat * x.m = 2 ^ (y.e + K).toNat * y.m := by
      unfold V at h
      rw [hn] at h
      have h2 : (x.m : Int) * ((2 ^ (x.e + K).toNat : Nat) : Int) = (y.m : Int) * ((2 ^ (y.e + K).toNat : Nat) : Int) := by
        revert h
        generalize (x.m : Int) * ((2 ^ (x.e + K).toNat : Nat) : Int) = v
        generalize (y.m : Int) * ((2 ^ (y.e + K).toNat : Nat) : Int) = w
        cases y.neg <;> simp [sgn]
      rw [← Int.natCast_mul, ← Int.natCast_mul] at h2
      rw [Nat.mul_comm, Nat.mul_comm _ y.m]
      exact Int.ofNat_inj.1 h2
    obtain ⟨t1, t2⟩ := tz_unique (n := 2 ^ (x.e + K).toNat * x.m) ox rfl
    obtain ⟨s1, s2⟩ := tz_unique (n := 2 ^ (x.e + K).toNat * x.m) oy hm
    have hme : x.m = y.m := t2.symm.trans s2
    have hee : (x.e + K).toNat = (y.e + K).toNat := t1.symm.trans s1
    obtain ⟨a, b, c⟩ := x
    obtain ⟨a', b', c'⟩ := y
    simp only at *
    rw [hn, hme, show c = c' by omega]
end Go.Proofs.N13
/-! Ds. -/
namespace Go.Proofs.N13
open Go.E
set_option maxRecDepth 8000

/-- Canonical, with at least 2^-K for its last bit, and less than 2^L. -/
structure Bd (K L : Nat) (x : Dy) : Prop where
  canon : x.Canon
  exp : -(K : Int) ≤ x.e
  val : (V K x).natAbs < 2 ^ (K + L)
theorem sgn_abs (n : Bool) (v : Int) : (sgn n v).natAbs = v.natAbs := by cases n <;> simp [sgn]
theorem V_natAbs (K : Nat) (x : Dy) : (V K x).natAbs = x.m * 2 ^ (x.e + K).toNat := by
  unfold V
  rw [sgn_abs, ← Int.natCast_mul, Int.natAbs_natCast]
theorem Bd.within {K L : Nat} {x : Dy} (h : Bd K L x) (hk : K ≤ 8192) (hl : L ≤ 8192) (hb : K + L ≤ 8192) : x.within = true := by
  obtain ⟨h1, h2, h3⟩ := h
  rw [V_natAbs] at h3
  have hm : x.m ≤ x.m * 2 ^ (x.e + K).toNat := Nat.le_mul_of_pos_right _ (Nat.two_pow_pos _)
  have hbl : bitLen x.m ≤ K + L := bitLen_le.2 (Nat.lt_of_le_of_lt hm h3)
  refine decide_eq_true ⟨by omega, by omega, ?_⟩
  by_cases h0 : x.m = 0
  · rw [canon_zero h1 h0]; decide
  · have h4 : 2 ^ (x.e + K).toNat ≤ x.m * 2 ^ (x.e + K).toNat := Nat.le_mul_of_pos_left _ (by omega)
    have h5 : (x.e + K).toNat < K + L := (Nat.pow_lt_pow_iff_right (by decide)).1 (Nat.lt_of_le_of_lt h4 h3)
    omega
theorem Bd.mono {K L L' : Nat} {x : Dy} (h : Bd K L x) (hl : L ≤ L') : Bd K L' x :=
  ⟨h.canon, h.exp, Nat.lt_of_lt_of_le h.val (Nat.pow_le_pow_right (by decide) (by omega))⟩
theorem Bd.wider {K L : Nat} {x : Dy} (d : Nat) (h : Bd K L x) : Bd (K + d) L x := by
  refine ⟨h.canon, by have := h.exp; omega, ?_⟩
  rw [V_shift K d h.exp, Int.natAbs_mul, Int.natAbs_natCast, show K + d + L = (K + L) + d by omega, Nat.pow_add]
  exact Nat.mul_lt_mul_of_pos_right h.val (Nat.two_pow_pos d)
theorem Bd.plus {K L : Nat} {x y : Dy} (hx : Bd K L x) (hy : Bd K L y) : Bd K (L + 1) (plusD x y) := by
  refine ⟨plusD_canon hx.canon hy.canon, plusD_e hx.exp hy.exp, ?_⟩
  rw [V_plus hx.exp hy.exp, ← Nat.add_assoc, Nat.pow_succ]
  have := hx.val; have := hy.val
  omega
theorem Bd.neg {K L : Nat} {x : Dy} (hx : Bd K L x) : Bd K L (negD x) := by
  refine ⟨negD_canon hx.canon, hx.exp, ?_⟩
  rw [V_neg]
  have := hx.val
  omega
theorem Bd.sub {K L : Nat} {x y : Dy} (hx : Bd K L x) (hy : Bd K L y) : Bd K (L + 1) (subD x y) := hx.plus hy.neg
theorem absD_canon {x : Dy} (h : x.Canon) : (absD x).Canon := by
  rcases h with rfl | h
  · exact .inl rfl
  · exact .inr h
theorem Bd.abs {K L : Nat} {x : Dy} (hx : Bd K L x) : Bd K L (absD x) := by
  refine ⟨absD_canon hx.canon, hx.exp, ?_⟩
  rw [V_abs]
  have := hx.val
  omega
theorem mulD_canon (x y : Dy) : (mulD x y).Canon := canonD_canon _ _ _
theorem Bd.mul {K L K' L' : Nat} {x y : Dy} (hx : Bd K L x) (hy : Bd K' L' y) : Bd (K + K') (L + L') (mulD x y) := by
  refine ⟨mulD_canon x y, mulD_e hx.exp hy.exp, ?_⟩
  rw [V_mul hx.exp hy.exp, Int.natAbs_mul, show K + K' + (L + L') = (K + L) + (K' + L') by omega, Nat.pow_add]
  exact Nat.mul_lt_mul'' hx.val hy.val
theorem Bd.zero (K L : Nat) : Bd K L .zero := ⟨.inl rfl, by show -(K : Int) ≤ 0; omega, by rw [V_zero]; exact Nat.two_pow_pos _⟩
theorem Bd.of {K L : Nat} (n : Bool) {m : Nat} {e : Int} (he : -(K : Int) ≤ e) (hm : m * 2 ^ (e + K).toNat < 2 ^ (K + L)) : Bd K L (canonD n m e) := by
  refine ⟨canonD_canon _ _ _, canonD_e K n m he, ?_⟩
  rw [V_canonD K n m he, sgn_abs, ← Int.natCast_mul, Int.natAbs_natCast]
  exact hm

theorem pow_lt {a b c d : Nat} (h : a < 2 ^ c) (h2 : b ≤ 2 ^ d) : a * b < 2 ^ (c + d) := by
  rw [Nat.pow_add]
  exact Nat.lt_of_le_of_lt (Nat.mul_le_mul_left a h2) (Nat.mul_lt_mul_of_pos_right h (Nat.two_pow_pos d))
theorem pow_fit {v k c d K L : Nat} (hv : v < 2 ^ c) (hk : k ≤ d) (h : c + d = K + L) : v * 2 ^ k < 2 ^ (K + L) := by
  rw [← h]
  exact pow_lt hv (Nat.pow_le_pow_right (by decide) hk)
theorem Bd.of2 {K L c d : Nat} (n : Bool) {m : Nat} {e : Int} (he : -(K : Int) ≤ e) (hm : m < 2 ^ c) (hk : (e + K).toNat ≤ d) (h : c + d = K + L) : Bd K L (canonD n m e) := Bd.of n he (pow_fit hm hk h)

/-- A value that stands for a number within the limits. -/
structure DArg (v : AVal) (x : Dy) : Prop where
  ex : ∃ n l m e, v = dyL n l e ∧ ArgD l m e ∧ canonD n m e = x
  fits : x.within = true
theorem DArg.self {x : Dy} (hc : x.Canon) (h : x.within = true) : DArg (dyA x) x := ⟨⟨x.neg, limbsOf x.m, x.m, x.e, rfl, ArgD.of h, canonD_self hc⟩, h⟩
theorem zero_right {f : FuncId} {u : AVal} {R : AVal → Prop} (h : callP Try.prog f [u, dyA .zero] R) : callP Try.prog f [u, dyZ] R :=
  callP_arg (.cons (.up (.up (.refl _))) (.cons (.up eqv_dyZ) .nil)) h
theorem zero_arg : DArg (dyA .zero) .zero := .self (.inl rfl) zero_within

/-- The small numbers of the laws. -/
abbrev kSm : List IntKind := [.u32, .u32, .u32, .u32, .i16]
theorem has_i16 {n : Int} (h : IntKind.i16.has n) : -32768 ≤ n ∧ n < 32768 := by
  simp [IntKind.has, IntKind.min, IntKind.max, IntKind.signed, IntKind.bits] at h
  omega
theorem has_u32 {n : Int} (h : IntKind.u32.has n) : 0 ≤ n ∧ n < 4294967296 := by
  simp [IntKind.has, IntKind.min, IntKind.max, IntKind.signed, IntKind.bits] at h
  omega
abbrev smL (f : Nat → Int) : List Int := [f 0, f 1, f 2, f 3]
abbrev smE (f : Nat → Int) : Int := (f 4).tmod 1000
abbrev smA (n : Bool) (f : Nat → Int) : AVal := .agg (.bool n :: aggL f kSm 0)
abbrev smD (n : Bool) (f : Nat → Int) : Dy := canonD n (val (smL f)) (smE f)
theorem tmod_b (z : Int) {k : Int} (hk : 0 < k) : -k < z.tmod k ∧ z.tmod k < k := by
  rcases Int.le_total 0 z with h | h
  · rw [Int.tmod_eq_emod_of_nonneg h]
    have := Int.emod_nonneg z (Int.ne_of_gt hk)
    have := Int.emod_lt_of_pos z hk
    omega
  · obtain ⟨w, rfl⟩ : ∃ w, z = -w := ⟨-z, by omega⟩
    rw [Int.neg_tmod, Int.tmod_eq_emod_of_nonneg (by omega)]
    have := Int.emod_nonneg w (Int.ne_of_gt hk)
    have := Int.emod_lt_of_pos w hk
    omega
theorem sm_limbs {f : Nat → Int} (hf : HasL kSm f) : Limbs (smL f) := fun x hx => by
  have h0 := has_u32 (hf 0 (by decide))
  have h1 := has_u32 (hf 1 (by decide))
  have h2 := has_u32 (hf 2 (by decide))
  have h3 := has_u32 (hf 3 (by decide))
  simp only [List.mem_cons, List.not_mem_nil, or_false] at hx
  rcases hx with rfl | rfl | rfl | rfl <;> assumption
theorem sm_bd (n : Bool) {f : Nat → Int} (hf : HasL kSm f) : Bd 999 1127 (smD n f) := by
  have he := tmod_b (f 4) (k := 1000) (by decide)
  have hv := val_lt (sm_limbs hf)
  have hv : val (smL f) < 2 ^ 128 := hv
  exact Bd.of2 (c := 128) (d := 1998) n (by show -((999 : Nat) : Int) ≤ (f 4).tmod 1000; omega) hv (by show ((f 4).tmod 1000 + ((999 : Nat) : Int)).toNat ≤ 1998; omega) (by decide)
theorem sm_arg (n : Bool) {f : Nat → Int} (hf : HasL kSm f) : DArg (dyL n (smL f) (smE f)) (smD n f) := by
  have he := tmod_b (f 4) (k := 1000) (by decide)
  exact ⟨⟨n, smL f, _, smE f, rfl, ⟨by simp, sm_limbs hf, rfl, by show _ ≤ (f 4).tmod 1000 ∧ (f 4).tmod 1000 ≤ _; omega⟩, rfl⟩, (sm_bd n hf).within (by decide) (by decide) (by decide)⟩
end Go.Proofs.N13
