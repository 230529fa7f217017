/- Chapter 14, part r: what a dyadic number is worth. -/
import Derived.Test.YtjdmcooghikhhaaDoorC11
set_option linter.unusedVariables false
set_option linter.unusedSimpArgs false
/-! Dr. -/
namespace Go.Proofs.N13
open Go.E
set_option maxRecDepth 8000

/-- A whole number, or its negative. -/
def sgn (n : Bool) (v : Int) : Int := if n = true then -v else v
/-- The value in units of 2^-K. -/
def V (K : Nat) (x : Dy) : Int := sgn x.neg ((x.m : Int) * ((2 ^ (x.e + K).toNat : Nat) : Int))
theorem sgn_zero (n : Bool) : sgn n 0 = 0 := by cases n <;> rfl
theorem sgn_add (n : Bool) (a b : Int) : sgn n (a + b) = sgn n a + sgn n b := by cases n <;> simp only [sgn] <;> simp <;> omega
theorem sgn_mul (n : Bool) (a b : Int) : sgn n (a * b) = sgn n a * b := by cases n <;> simp [sgn, Int.neg_mul]
theorem V_zero (K : Nat) : V K .zero = 0 := by
  show sgn false ((0 : Nat) * _) = 0
  rw [show ((0 : Nat) : Int) = 0 from rfl, Int.zero_mul]; rfl
theorem V_m0 {K : Nat} {x : Dy} (h : x.m = 0) : V K x = 0 := by
  unfold V
  rw [h, show ((0 : Nat) : Int) = 0 from rfl, Int.zero_mul, sgn_zero]
theorem V_canonD (K : Nat) (n : Bool) (m : Nat) {e : Int} (he : -(K : Int) ≤ e) : V K (canonD n m e) = sgn n ((m : Int) * ((2 ^ (e + K).toNat : Nat) : Int)) := by
  by_cases h0 : m = 0
  · rw [canonD, if_pos h0, V_zero, h0, show ((0 : Nat) : Int) = 0 from rfl, Int.zero_mul, sgn_zero]
  · obtain ⟨e1, e2⟩ := tz_spec m h0
    rw [canonD, if_neg h0]
    unfold V
    simp only
    have h1 : (e + (tz m : Int) + K).toNat = tz m + (e + K).toNat := by omega
    rw [h1]
    congr 1
    rw [← Int.natCast_mul, ← Int.natCast_mul]
    congr 1
    rw [Nat.pow_add, ← Nat.mul_assoc, Nat.mul_comm (m / 2 ^ tz m), ← e1]
theorem canonD_e (K : Nat) (n : Bool) (m : Nat) {e : Int} (he : -(K : Int) ≤ e) : -(K : Int) ≤ (canonD n m e).e := by
  unfold canonD
  split
  · show -(K : Int) ≤ 0; omega
  · simp only; omega
theorem V_shift (K d : Nat) {x : Dy} (he : -(K : Int) ≤ x.e) : V (K + d) x = V K x * ((2 ^ d : Nat) : Int) := by
  unfold V
  rw [← sgn_mul, show (x.e + ((K + d : Nat) : Int)).toNat = (x.e + K).toNat + d by omega, Nat.pow_add, Int.natCast_mul, Int.mul_assoc]
theorem plusD_e {K : Nat} {x y : Dy} (hx : -(K : Int) ≤ x.e) (hy : -(K : Int) ≤ y.e) : -(K : Int) ≤ (plusD x y).e := by
  unfold plusD
  split
  · exact hy
  split
  · exact hx
  have hE : -(K : Int) ≤ (if y.e < x.e then y.e else x.e) := by split <;> assumption
  generalize (if y.e < x.e then y.e else x.e) = E at *
  simp only
  split
  · exact canonD_e K _ _ hE
  split
  · exact canonD_e K _ _ hE
  · exact canonD_e K _ _ hE
theorem V_plus {K : Nat} {x y : Dy} (hx : -(K : Int) ≤ x.e) (hy : -(K : Int) ≤ y.e) : V K (plusD x y) = V K x + V K y := by
  unfold plusD
  split
  · rename_i h; rw [V_m0 h, Int.zero_add]
  split
  · rename_i h; rw [V_m0 h, Int.add_zero]
  have hE : -(K : Int) ≤ (if y.e < x.e then y.e else x.e) := by split <;> assumption
  have hE2 : (if y.e < x.e then y.e else x.e) ≤ x.e ∧ (if y.e < x.e then y.e else x.e) ≤ y.e := by split <;> omega
  generalize (if y.e < x.e then y.e else x.e) = E at *
  have vx : V K x = sgn x.neg (((2 ^ (x.e - E).toNat * x.m : Nat) : Int) * ((2 ^ (E + K).toNat : Nat) : Int)) := by
    unfold V
    rw [show (x.e + K).toNat = (x.e - E).toNat + (E + K).toNat by omega, Nat.pow_add, ← Int.natCast_mul, ← Int.natCast_mul]
    congr 2
    rw [Nat.mul_comm (2 ^ _) x.m, Nat.mul_assoc]
  have vy : V K y = sgn y.neg (((2 ^ (y.e - E).toNat * y.m : Nat) : Int) * ((2 ^ (E + K).toNat : Nat) : Int)) := by
    unfold V
    rw [show (y.e + K).toNat = (y.e - E).toNat + (E + K).toNat by omega, Nat.pow_add, ← Int.natCast_mul, ← Int.natCast_mul]
    congr 2
    rw [Nat.mul_comm (2 ^ _) y.m, Nat.mul_assoc]
  rw [vx, vy]
  clear vx vy
  simp only
  generalize 2 ^ (x.e - E).toNat * x.m = p
  generalize 2 ^ (y.e - E).toNat * y.m = q
  split
  · rename_i h
    rw [V_canonD K _ _ hE, h, ← sgn_add, Int.natCast_add, Int.add_mul]
  · rename_i h
    split
    · rename_i hlt
      rw [V_canonD K _ _ hE, Int.ofNat_sub (by omega)]
      generalize hw : ((2 ^ (E + K).toNat : Nat) : Int) = w
      rw [Int.sub_mul]
      generalize (p : Int) * w = a
      generalize (q : Int) * w = b
      revert h
      cases x.neg <;> cases y.neg <;> simp [sgn] <;> omega
    · rename_i hlt
      rw [V_canonD K _ _ hE, Int.ofNat_sub (by omega)]
      generalize hw : ((2 ^ (E + K).toNat : Nat) : Int) = w
      rw [Int.sub_mul]
      generalize (p : Int) * w = a
      generalize (q : Int) * w = b
      revert h
      cases x.neg <;> cases y.neg <;> simp [sgn] <;> omega
theorem V_mul {K L : Nat} {x y : Dy} (hx : -(K : Int) ≤ x.e) (hy : -(L : Int) ≤ y.e) : V (K + L) (mulD x y) = V K x * V L y := by
  unfold mulD
  rw [V_canonD (K + L) _ _ (by omega), show (x.e + y.e + ((K + L : Nat) : Int)).toNat = (x.e + K).toNat + (y.e + L).toNat by omega, Nat.pow_add]
  unfold V
  simp only [Int.natCast_mul]
  have e : ((x.m : Int) * y.m) * (((2 ^ (x.e + K).toNat : Nat) : Int) * ((2 ^ (y.e + L).toNat : Nat) : Int)) = ((x.m : Int) * ((2 ^ (x.e + K).toNat : Nat) : Int)) * ((y.m : Int) * ((2 ^ (y.e + L).toNat : Nat) : Int)) := by
    simp only [Int.mul_assoc, Int.mul_left_comm]
  rw [e]
  cases x.neg <;> cases y.neg <;> simp [sgn, Int.neg_mul, Int.mul_neg]
theorem mulD_e {K L : Nat} {x y : Dy} (hx : -(K : Int) ≤ x.e) (hy : -(L : Int) ≤ y.e) : -((K + L : Nat) : Int) ≤ (mulD x y).e := canonD_e (K + L) _ _ (by omega)
theorem V_neg (K : Nat) (x : Dy) : V K (negD x) = - V K x := by
  by_cases h : x.m = 0
  · rw [V_m0 h, V_m0 (x := negD x) h]; rfl
  · unfold V negD
    rw [decide_eq_true (p := x.m ≠ 0) h, Bool.and_true]
    cases x.neg <;> simp [sgn]
theorem V_sub {K : Nat} {x y : Dy} (hx : -(K : Int) ≤ x.e) (hy : -(K : Int) ≤ y.e) : V K (subD x y) = V K x - V K y := by
  unfold subD
  rw [V_plus (y := negD y) hx hy, V_neg]; omega
theorem V_pos (K : Nat) (x : Dy) (h : x.m ≠ 0) : 0 < (x.m : Int) * ((2 ^ (x.e + K).toNat : Nat) : Int) := Int.mul_pos (by omega) (Int.ofNat_lt.2 (Nat.two_pow_pos _))
theorem V_abs (K : Nat) (x : Dy) : V K (absD x) = ((V K x).natAbs : Int) := by
  unfold V absD
  have h : 0 ≤ (x.m : Int) * ((2 ^ (x.e + K).toNat : Nat) : Int) := Int.mul_nonneg (Int.natCast_nonneg _) (Int.natCast_nonneg _)
  generalize (x.m : Int) * ((2 ^ (x.e + K).toNat : Nat) : Int) = v at *
  cases x.neg <;> simp [sgn] <;> omega
/-- The sign of a whole number. -/
def sg (z : Int) : Int := if z = 0 then 0 else if z < 0 then -1 else 1
theorem V_sign (K : Nat) (x : Dy) : signD x = sg (V K x) := by
  unfold signD sg
  by_cases h : x.m = 0
  · rw [if_pos h, V_m0 h]; rfl
  · have hp := V_pos K x h
    rw [if_neg h]
    unfold V
    generalize (x.m : Int) * ((2 ^ (x.e + K).toNat : Nat) : Int) = v at *
    cases x.neg
    · simp only [sgn, Bool.false_eq_true, if_false]
      rw [if_neg (by omega), if_neg (by omega)]
    · simp only [sgn, if_true]
      rw [if_neg (by omega), if_pos (by omega)]
/-- One value, one form. -/
theorem V_inj {K : Nat} {x y : Dy} (cx : x.Canon) (cy : y.Canon) (hx : -(K : Int) ≤ x.e) (hy : -(K : Int) ≤ y.e) (h : V K x = V K y) : x = y := by
  by_cases h0 : x.m = 0
  · have hs : signD y = 0 := by rw [V_sign K, ← h, V_m0 h0]; rfl
    have hy0 : y.m = 0 := by
      unfold signD at hs
      split at hs
      · assumption
      · split at hs <;> omega
    rw [canon_zero cx h0, canon_zero cy hy0]
  · have hs : signD x = signD y := by rw [V_sign K, V_sign K, h]
    have hy0 : ¬ y.m = 0 := by
      intro c
      unfold signD at hs
      rw [if_neg h0, if_pos c] at hs
      split at hs <;> omega
    have hn : x.neg = y.neg := by
      unfold signD at hs
      rw [if_neg h0, if_neg hy0] at hs
      revert hs
      cases x.neg <;> cases y.neg <;> simp
    have ox : x.m % 2 = 1 := by rcases cx with rfl | h1; exact absurd rfl h0; exact h1
    have oy : y.m % 2 = 1 := by rcases cy with rfl | h1; exact absurd rfl hy0; exact h1
    have hm : 2 ^ (x.e + K).toNat * x.m = 2 ^ (y.e + K).toNat * y.m := by
      unfold V at h
      rw [hn] at h
      have h2 : (x.m : Int) * ((2 ^ (x.e + K).toNat : Nat) : Int) = (y.m : Int) * ((2 ^ (y.e + K).toNat : Nat) : Int) := by
        revert h
        generalize (x.m : Int) * ((2 ^ (x.e + K).toNat : Nat) : Int) = v
        generalize (y.m : Int) * ((2 ^ (y.e + K).toNat : Nat) : Int) = w
        cases y.neg <;> simp [sgn]
      rw [← Int.natCast_mul, ← Int.natCast_mul] at h2
      rw [Nat.mul_comm, Nat.mul_comm _ y.m]
      exact Int.ofNat_inj.1 h2
    obtain ⟨t1, t2⟩ := tz_unique (n := 2 ^ (x.e + K).toNat * x.m) ox rfl
    obtain ⟨s1, s2⟩ := tz_unique (n := 2 ^ (x.e + K).toNat * x.m) oy hm
    have hme : x.m = y.m := t2.symm.trans s2
    have hee : (x.e + K).toNat = (y.e + K).toNat := t1.symm.trans s1
    obtain ⟨a, b, c⟩ := x
    obtain ⟨a', b', c'⟩ := y
    simp only at *
    rw [hn, hme, show c = c' by omega]
end Go.Proofs.N13
/-! Ds. -/
namespace Go.Proofs.N13
open Go.E
set_option maxRecDepth 8000

/-- Canonical, with at least 2^-K for its last bit, and less than 2^L. -/
structure Bd (K L : Nat) (x : Dy) : Prop where
  canon : x.Canon
  exp : -(K : Int) ≤ x.e
  val : (V K x).natAbs < 2 ^ (K + L)
theorem sgn_abs (n : Bool) (v : Int) : (sgn n v).natAbs = v.natAbs := by cases n <;> simp [sgn]
theorem V_natAbs (K : Nat) (x : Dy) : (V K x).natAbs = x.m * 2 ^ (x.e + K).toNat := by
  unfold V
  rw [sgn_abs, ← Int.natCast_mul, Int.natAbs_natCast]
theorem Bd.within {K L : Nat} {x : Dy} (h : Bd K L x) (hk : K ≤ 8192) (hl : L ≤ 8192) (hb : K + L ≤ 8192) : x.within = true := by
  obtain ⟨h1, h2, h3⟩ := h
  rw [V_natAbs] at h3
  have hm : x.m ≤ x.m * 2 ^ (x.e + K).toNat := Nat.le_mul_of_pos_right _ (Nat.two_pow_pos _)
  have hbl : bitLen x.m ≤ K + L := bitLen_le.2 (Nat.lt_of_le_of_lt hm h3)
  refine decide_eq_true ⟨by omega, by omega, ?_⟩
  by_cases h0 : x.m = 0
  · rw [canon_zero h1 h0]; decide
  · have h4 : 2 ^ (x.e + K).toNat ≤ x.m * 2 ^ (x.e + K).toNat := Nat.le_mul_of_pos_left _ (by omega)
    have h5 : (x.e + K).toNat < K + L := (Nat.pow_lt_pow_iff_right (by decide)).1 (Nat.lt_of_le_of_lt h4 h3)
    omega
theorem Bd.mono {K L L' : Nat} {x : Dy} (h : Bd K L x) (hl : L ≤ L') : Bd K L' x :=
  ⟨h.canon, h.exp, Nat.lt_of_lt_of_le h.val (Nat.pow_le_pow_right (by decide) (by omega))⟩
theorem Bd.wider {K L : Nat} {x : Dy} (d : Nat) (h : Bd K L x) : Bd (K + d) L x := by
  refine ⟨h.canon, by have := h.exp; omega, ?_⟩
  rw [V_shift K d h.exp, Int.natAbs_mul, Int.natAbs_natCast, show K + d + L = (K + L) + d by omega, Nat.pow_add]
  exact Nat.mul_lt_mul_of_pos_right h.val (Nat.two_pow_pos d)
theorem Bd.plus {K L : Nat} {x y : Dy} (hx : Bd K L x) (hy : Bd K L y) : Bd K (L + 1) (plusD x y) := by
  refine ⟨plusD_canon hx.canon hy.canon, plusD_e hx.exp hy.exp, ?_⟩
  rw [V_plus hx.exp hy.exp, ← Nat.add_assoc, Nat.pow_succ]
  have := hx.val; have := hy.val
  omega
theorem Bd.neg {K L : Nat} {x : Dy} (hx : Bd K L x) : Bd K L (negD x) := by
  refine ⟨negD_canon hx.canon, hx.exp, ?_⟩
  rw [V_neg]
  have := hx.val
  omega
theorem Bd.sub {K L : Nat} {x y : Dy} (hx : Bd K L x) (hy : Bd K L y) : Bd K (L + 1) (subD x y) := hx.plus hy.neg
theorem absD_canon {x : Dy} (h : x.Canon) : (absD x).Canon := by
  rcases h with rfl | h
  · exact .inl rfl
  · exact .inr h
theorem Bd.abs {K L : Nat} {x : Dy} (hx : Bd K L x) : Bd K L (absD x) := by
  refine ⟨absD_canon hx.canon, hx.exp, ?_⟩
  rw [V_abs]
  have := hx.val
  omega
theorem mulD_canon (x y : Dy) : (mulD x y).Canon := canonD_canon _ _ _
theorem Bd.mul {K L K' L' : Nat} {x y : Dy} (hx : Bd K L x) (hy : Bd K' L' y) : Bd (K + K') (L + L') (mulD x y) := by
  refine ⟨mulD_canon x y, mulD_e hx.exp hy.exp, ?_⟩
  rw [V_mul hx.exp hy.exp, Int.natAbs_mul, show K + K' + (L + L') = (K + L) + (K' + L') by omega, Nat.pow_add]
  exact Nat.mul_lt_mul'' hx.val hy.val
theorem Bd.zero (K L : Nat) : Bd K L .zero := ⟨.inl rfl, by show -(K : Int) ≤ 0; omega, by rw [V_zero]; exact Nat.two_pow_pos _⟩
theorem Bd.of {K L : Nat} (n : Bool) {m : Nat} {e : Int} (he : -(K : Int) ≤ e) (hm : m * 2 ^ (e + K).toNat < 2 ^ (K + L)) : Bd K L (canonD n m e) := by
  refine ⟨canonD_canon _ _ _, canonD_e K n m he, ?_⟩
  rw [V_canonD K n m he, sgn_abs, ← Int.natCast_mul, Int.natAbs_natCast]
  exact hm

theorem pow_lt {a b c d : Nat} (h : a < 2 ^ c) (h2 : b ≤ 2 ^ d) : a * b < 2 ^ (c + d) := by
  rw [Nat.pow_add]
  exact Nat.lt_of_le_of_lt (Nat.mul_le_mul_left a h2) (Nat.mul_lt_mul_of_pos_right h (Nat.two_pow_pos d))
theorem pow_fit {v k c d K L : Nat} (hv : v < 2 ^ c) (hk : k ≤ d) (h : c + d = K + L) : v * 2 ^ k < 2 ^ (K + L) := by
  rw [← h]
  exact pow_lt hv (Nat.pow_le_pow_right (by decide) hk)
theorem Bd.of2 {K L c d : Nat} (n : Bool) {m : Nat} {e : Int} (he : -(K : Int) ≤ e) (hm : m < 2 ^ c) (hk : (e + K).toNat ≤ d) (h : c + d = K + L) : Bd K L (canonD n m e) := Bd.of n he (pow_fit hm hk h)

/-- A value that stands for a number within the limits. -/
structure DArg (v : AVal) (x : Dy) : Prop where
  ex : ∃ n l m e, v = dyL n l e ∧ ArgD l m e ∧ canonD n m e = x
  fits : x.within = true
theorem DArg.self {x : Dy} (hc : x.Canon) (h : x.within = true) : DArg (dyA x) x := ⟨⟨x.neg, limbsOf x.m, x.m, x.e, rfl, ArgD.of h, canonD_self hc⟩, h⟩
theorem sum_g {u v : AVal} {x y : Dy} (hu : DArg u x) (hv : DArg v y) (hz : (plusD x y).within = true) : callP Tryd.prog 34 [u, v] (· = dyA (plusD x y)) := by
  obtain ⟨⟨n1, l1, m1, e1, rfl, h1, rfl⟩, hx⟩ := hu
  obtain ⟨⟨n2, l2, m2, e2, rfl, h2, rfl⟩, hy⟩ := hv
  have c := dadd_c n1 n2 h1 h2
  rw [opV_ok hx hy, resV_in hz] at c
  refine callE_def env (fn := Tryd.f34) rfl (by decide) rfl ?_
  refine callT_E c rfl ?_
  show Eqv _ _
  exact .up (.up (.refl _))
theorem less_g {u v : AVal} {x y : Dy} (hu : DArg u x) (hv : DArg v y) (hz : (subD x y).within = true) : callP Tryd.prog 33 [u, v] (· = dyA (subD x y)) := by
  obtain ⟨⟨n1, l1, m1, e1, rfl, h1, rfl⟩, hx⟩ := hu
  obtain ⟨⟨n2, l2, m2, e2, rfl, h2, rfl⟩, hy⟩ := hv
  have c := dsub_c n1 n2 h1 h2
  rw [opV_ok hx hy, resV_in hz] at c
  refine callE_def env (fn := Tryd.f33) rfl (by decide) rfl ?_
  refine callT_E c rfl ?_
  show Eqv _ _
  exact .up (.up (.refl _))
theorem product_g {u v : AVal} {x y : Dy} (hu : DArg u x) (hv : DArg v y) (hz : (mulD x y).within = true) : callP Tryd.prog 48 [u, v] (· = dyA (mulD x y)) := by
  obtain ⟨⟨n1, l1, m1, e1, rfl, h1, rfl⟩, hx⟩ := hu
  obtain ⟨⟨n2, l2, m2, e2, rfl, h2, rfl⟩, hy⟩ := hv
  have c := dmul_c n1 n2 h1 h2
  rw [opV_ok hx hy, resV_in hz] at c
  refine callE_def env (fn := Tryd.f48) rfl (by decide) rfl ?_
  refine callT_E c rfl ?_
  show Eqv _ _
  exact .up (.up (.refl _))
theorem distance_g {u v : AVal} {x y : Dy} (hu : DArg u x) (hv : DArg v y) (hz : (absD (subD x y)).within = true) : callP Tryd.prog 36 [u, v] (· = dyA (absD (subD x y))) := by
  obtain ⟨⟨n1, l1, m1, e1, rfl, h1, rfl⟩, hx⟩ := hu
  obtain ⟨⟨n2, l2, m2, e2, rfl, h2, rfl⟩, hy⟩ := hv
  have c := dist_c n1 n2 h1 h2
  rw [opV_ok hx hy, resV_in hz] at c
  refine callE_def env (fn := Tryd.f36) rfl (by decide) rfl ?_
  refine callT_E c rfl ?_
  show Eqv _ _
  exact .up (.up (.refl _))
theorem order_g {u v : AVal} {x y : Dy} (hu : DArg u x) (hv : DArg v y) : callP Tryd.prog 32 [u, v] (· = .int .i64 (signD (subD x y))) := by
  obtain ⟨⟨n1, l1, m1, e1, rfl, h1, rfl⟩, hx⟩ := hu
  obtain ⟨⟨n2, l2, m2, e2, rfl, h2, rfl⟩, hy⟩ := hv
  have c := dcmp_c n1 n2 h1 h2
  rw [cmpV, if_pos ⟨hx, hy⟩] at c
  refine callE_def env (fn := Tryd.f32) rfl (by decide) rfl ?_
  refine callT_E c rfl ?_
  show Eqv _ _
  exact .up (.up (.refl _))
theorem canon_g {u : AVal} {x : Dy} (hu : DArg u x) : callP Tryd.prog 35 [u] (· = dyA x) := by
  obtain ⟨⟨n1, l1, m1, e1, rfl, h1, rfl⟩, hx⟩ := hu
  have c := canon_c n1 h1
  rw [resV_in hx] at c
  refine callE_def env (fn := Tryd.f35) rfl (by decide) rfl ?_
  refine callT_E c rfl ?_
  show Eqv _ _
  exact .up (.up (.refl _))
theorem negated_g {u : AVal} {x : Dy} (hu : DArg u x) : callP Tryd.prog 47 [u] (· = dyA (negD x)) := by
  obtain ⟨⟨n1, l1, m1, e1, rfl, h1, rfl⟩, hx⟩ := hu
  have c := dneg_c n1 h1
  rw [if_pos hx] at c
  refine callE_def env (fn := Tryd.f47) rfl (by decide) rfl ?_
  refine callT_E c rfl ?_
  show Eqv _ _
  exact .up (.up (.refl _))
theorem zero_right {f : FuncId} {u : AVal} {R : AVal → Prop} (h : callP Tryd.prog f [u, dyA .zero] R) : callP Tryd.prog f [u, dyZ] R :=
  callP_arg (.cons (.up (.up (.refl _))) (.cons (.up eqv_dyZ) .nil)) h
theorem zero_arg : DArg (dyA .zero) .zero := .self (.inl rfl) zero_within

/-- The small numbers of the laws. -/
abbrev kSm : List IntKind := [.u32, .u32, .u32, .u32, .i16]
theorem has_i16 {n : Int} (h : IntKind.i16.has n) : -32768 ≤ n ∧ n < 32768 := by
  simp [IntKind.has, IntKind.min, IntKind.max, IntKind.signed, IntKind.bits] at h
  omega
theorem has_u32 {n : Int} (h : IntKind.u32.has n) : 0 ≤ n ∧ n < 4294967296 := by
  simp [IntKind.has, IntKind.min, IntKind.max, IntKind.signed, IntKind.bits] at h
  omega
abbrev smL (f : Nat → Int) : List Int := [f 0, f 1, f 2, f 3]
abbrev smE (f : Nat → Int) : Int := (f 4).tmod 1000
abbrev smA (n : Bool) (f : Nat → Int) : AVal := .agg (.bool n :: aggL f kSm 0)
abbrev smD (n : Bool) (f : Nat → Int) : Dy := canonD n (val (smL f)) (smE f)
theorem tmod_b (z : Int) {k : Int} (hk : 0 < k) : -k < z.tmod k ∧ z.tmod k < k := by
  rcases Int.le_total 0 z with h | h
  · rw [Int.tmod_eq_emod_of_nonneg h]
    have := Int.emod_nonneg z (Int.ne_of_gt hk)
    have := Int.emod_lt_of_pos z hk
    omega
  · obtain ⟨w, rfl⟩ : ∃ w, z = -w := ⟨-z, by omega⟩
    rw [Int.neg_tmod, Int.tmod_eq_emod_of_nonneg (by omega)]
    have := Int.emod_nonneg w (Int.ne_of_gt hk)
    have := Int.emod_lt_of_pos w hk
    omega
theorem of_c14 (n : Bool) {f : Nat → Int} (hf : HasL kSm f) : callP Tryd.prog 31 [smA n f] (· = dyL n (smL f) (smE f)) := by
  have h4 := has_i16 (hf 4 (by decide))
  refine callE_def env (fn := Tryd.f31) rfl (by decide) rfl ?_
  have w : IntKind.i64.wrap (f 4) = f 4 := wi (by omega) (by omega)
  repeat (refine need_intro (by decide) ?_)
  apply choice_l
  repeat (refine need_intro (by decide) ?_)
  have e : dyL n (smL f) (smE f) = .agg [.bool n, ints .u32 (smL f), .int .i64 ((IntKind.i64.wrap (f 4)).tmod 1000)] := by rw [w]
  rw [e]
  show Eqv _ _
  exact .up (.up (.refl _))
theorem sm_limbs {f : Nat → Int} (hf : HasL kSm f) : Limbs (smL f) := fun x hx => by
  have h0 := has_u32 (hf 0 (by decide))
  have h1 := has_u32 (hf 1 (by decide))
  have h2 := has_u32 (hf 2 (by decide))
  have h3 := has_u32 (hf 3 (by decide))
  simp only [List.mem_cons, List.not_mem_nil, or_false] at hx
  rcases hx with rfl | rfl | rfl | rfl <;> assumption
theorem sm_bd (n : Bool) {f : Nat → Int} (hf : HasL kSm f) : Bd 999 1127 (smD n f) := by
  have he := tmod_b (f 4) (k := 1000) (by decide)
  have hv := val_lt (sm_limbs hf)
  have hv : val (smL f) < 2 ^ 128 := hv
  exact Bd.of2 (c := 128) (d := 1998) n (by show -((999 : Nat) : Int) ≤ (f 4).tmod 1000; omega) hv (by show ((f 4).tmod 1000 + ((999 : Nat) : Int)).toNat ≤ 1998; omega) (by decide)
theorem sm_arg (n : Bool) {f : Nat → Int} (hf : HasL kSm f) : DArg (dyL n (smL f) (smE f)) (smD n f) := by
  have he := tmod_b (f 4) (k := 1000) (by decide)
  exact ⟨⟨n, smL f, _, smE f, rfl, ⟨by simp, sm_limbs hf, rfl, by show _ ≤ (f 4).tmod 1000 ∧ (f 4).tmod 1000 ≤ _; omega⟩, rfl⟩, (sm_bd n hf).within (by decide) (by decide) (by decide)⟩
end Go.Proofs.N13
