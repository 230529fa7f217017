/- Chapter 33: rounding, and how far the rounded recursion is from the exact one (plain). -/
import Derived.Test.YtpgeapbmdljllaaC7
import Derived.Test.YtpgeapbmdljllaaC4
set_option linter.unusedVariables false
set_option linter.unusedSimpArgs false
/-! Ea. -/
namespace Go.Proofs
open Go.E
set_option maxRecDepth 8000

theorem mulL {k a b : Int} (hk : 0 ≤ k) (h : a ≤ b) : k * a ≤ k * b := Int.mul_le_mul_of_nonneg_left h hk
theorem err_g {s R X a K G ρ : Int} (hs : 0 < s) (ha : 0 ≤ a) (h1 : R * s - X ≤ a * s) (h2 : -(a * s) ≤ R * s - X) (hK : 0 ≤ K) (hK' : K ≤ 268435456)
    (r1 : R * K - ρ * 268435456 ≤ 134217728) (r2 : -134217728 ≤ R * K - ρ * 268435456) :
    2 * ((G - ρ) * (s * 268435456) - (G * (s * 268435456) - K * X)) ≤ (2 * a + 1) * (s * 268435456) ∧ -((2 * a + 1) * (s * 268435456)) ≤ 2 * ((G - ρ) * (s * 268435456) - (G * (s * 268435456) - K * X)) := by
  have e1 := mulL hK h1
  have e2 := mulL hK h2
  have e3 := mulL (Int.le_of_lt hs) r1
  have e4 := mulL (Int.le_of_lt hs) r2
  have has : 0 ≤ a * s := Int.mul_nonneg ha (Int.le_of_lt hs)
  have e5 := mulL has hK'
  constructor <;> grind
theorem err_r {s R X V Y a b g Gx d T ρ1 ρ2 ρ3 ua ub : Int} (hs : 0 < s) (hT : 1 ≤ T)
    (h1 : R * s - X ≤ a * s) (h2 : -(a * s) ≤ R * s - X) (h3 : V * s - Y ≤ b * s) (h4 : -(b * s) ≤ V * s - Y)
    (g1 : 2 * (g * (s * 268435456) - Gx) ≤ (2 * a + 1) * (s * 268435456)) (g2 : -((2 * a + 1) * (s * 268435456)) ≤ 2 * (g * (s * 268435456) - Gx))
    (p1 : 2 * (ρ1 * T - V) ≤ T) (p2 : -T ≤ 2 * (ρ1 * T - V)) (q1 : 2 * (ρ2 * (2 * T) - d) ≤ 2 * T) (q2 : -(2 * T) ≤ 2 * (ρ2 * (2 * T) - d))
    (w1 : 2 * (ρ3 * (2 * T * T) - g) ≤ 2 * T * T) (w2 : -(2 * T * T) ≤ 2 * (ρ3 * (2 * T * T) - g)) (hua : a ≤ ua * (2 * T * T)) (hub : b ≤ ub * T) :
    (R + ρ1 + ρ2 + ρ3) * (s * 268435456 * (2 * T * T)) - (X * (268435456 * (2 * T * T)) + Y * (268435456 * (2 * T)) + d * (s * 268435456 * T) + Gx) ≤ (a + ua + ub + 2) * (s * 268435456 * (2 * T * T)) ∧
    -((a + ua + ub + 2) * (s * 268435456 * (2 * T * T))) ≤ (R + ρ1 + ρ2 + ρ3) * (s * 268435456 * (2 * T * T)) - (X * (268435456 * (2 * T * T)) + Y * (268435456 * (2 * T)) + d * (s * 268435456 * T) + Gx) := by
  have hT0 : 0 ≤ T := by omega
  have hTT : 0 ≤ T * T := Int.mul_nonneg hT0 hT0
  have hs0 : 0 ≤ s := by omega
  have hsT : 0 ≤ s * T := Int.mul_nonneg hs0 hT0
  have a1 := mulL hTT h1
  have a2 := mulL hTT h2
  have a3 := mulL hsT p1
  have a4 := mulL hsT p2
  have a5 := mulL hT0 h3
  have a6 := mulL hT0 h4
  have a7 := mulL hsT hub
  have a8 := mulL hsT q1
  have a9 := mulL hsT q2
  have b1 := mulL hs0 w1
  have b2 := mulL hs0 w2
  have b3 := mulL hs0 hua
  have b4 := mulL hsT hT
  have b5 := mulL hs0 hT
  constructor <;> grind
theorem err_v {s S V Y a a' b g h Gx Hx d T U σ1 σ2 uv : Int} (hs : 0 < s) (hT : 1 ≤ T) (hU : 0 < U) (hS : S = s * 268435456 * U)
    (h3 : V * s - Y ≤ b * s) (h4 : -(b * s) ≤ V * s - Y)
    (g1 : 2 * (g * (s * 268435456) - Gx) ≤ (2 * a + 1) * (s * 268435456)) (g2 : -((2 * a + 1) * (s * 268435456)) ≤ 2 * (g * (s * 268435456) - Gx))
    (k1 : 2 * (h * (S * 268435456) - Hx) ≤ (2 * a' + 1) * (S * 268435456)) (k2 : -((2 * a' + 1) * (S * 268435456)) ≤ 2 * (h * (S * 268435456) - Hx))
    (q1 : 2 * (σ1 * (2 * T) - g) ≤ 2 * T) (q2 : -(2 * T) ≤ 2 * (σ1 * (2 * T) - g)) (w1 : 2 * (σ2 * (2 * T) - h) ≤ 2 * T) (w2 : -(2 * T) ≤ 2 * (σ2 * (2 * T) - h)) (huv : a + a' + 1 ≤ uv * (2 * T)) :
    (V + d + σ1 + σ2) * (S * 268435456 * (2 * T)) - (Y * (268435456 * U * 268435456 * (2 * T)) + d * (S * 268435456 * (2 * T)) + Gx * (U * 268435456) + Hx) ≤ (b + uv + 1) * (S * 268435456 * (2 * T)) ∧
    -((b + uv + 1) * (S * 268435456 * (2 * T))) ≤ (V + d + σ1 + σ2) * (S * 268435456 * (2 * T)) - (Y * (268435456 * U * 268435456 * (2 * T)) + d * (S * 268435456 * (2 * T)) + Gx * (U * 268435456) + Hx) := by
  subst hS
  have hT0 : 0 ≤ T := by omega
  have hs0 : 0 ≤ s := by omega
  have hU0 : 0 ≤ U := by omega
  have hUT : 0 ≤ U * T := Int.mul_nonneg hU0 hT0
  have hsU : 0 ≤ s * U := Int.mul_nonneg hs0 hU0
  have a1 := mulL hUT h3
  have a2 := mulL hUT h4
  have a3 := mulL hU0 g1
  have a4 := mulL hU0 g2
  have a5 := mulL hsU q1
  have a6 := mulL hsU q2
  have a7 := mulL hsU w1
  have a8 := mulL hsU w2
  have a9 := mulL hsU huv
  constructor <;> grind
/-- Rounding is off by at most a half. -/
theorem rnd_off {p q : Int} (hq : 0 < q) : 2 * (rnd p q * q - p) ≤ q ∧ -q ≤ 2 * (rnd p q * q - p) := by
  have h1 := Int.emod_add_mul_ediv p q
  have h2 := Int.emod_nonneg p (Int.ne_of_gt hq)
  have h3 := Int.emod_lt_of_pos p hq
  unfold rnd
  generalize p % q = m at *
  generalize p / q = d at *
  split
  · rw [Int.add_mul, Int.one_mul, Int.mul_comm d q]
    generalize q * d = w at *
    omega
  · rw [Int.add_zero, Int.mul_comm d q]
    generalize q * d = w at *
    omega
theorem round_off {p q : Int} (hq : 0 < q) : 2 * (roundV p q * q - p) ≤ q ∧ -q ≤ 2 * (roundV p q * q - p) := by
  unfold roundV
  split
  · have := rnd_off (p := -p) hq
    rw [Int.neg_mul]
    generalize rnd (-p) q * q = w at *
    omega
  · exact rnd_off hq

theorem or3_at {o : Nat → Bool} (h : or3 o = false) {i : Nat} (hi : i < 3) : o i = false := by
  simp only [or3, Bool.or_eq_false_iff] at h
  match i, hi with
  | 0, _ => exact h.1.1
  | 1, _ => exact h.1.2
  | 2, _ => exact h.2
theorem clamp_of {v : Int} (h : outV v = false) : clampV v = v := by
  simp only [outV, Bool.or_eq_false_iff, decide_eq_false_iff_not] at h
  unfold clampV
  rw [if_neg (by omega), if_neg (by omega)]
theorem field_at {g r : Nat → Int} {k : Int} (hk : Fit k) (h : fieldO g r k = false) {i : Nat} (hi : i < 3) : fieldF g r k i = cv g i - roundV (cv r i * k) 268435456 := by
  have h1 := or3_at h hi
  unfold subO at h1
  have h2 := clamp_of h1
  rw [cv_dv (scaleF_fit r hk) hi] at h2
  unfold fieldF subF
  rw [cv_dv (scaleF_fit r hk) hi]
  exact h2
theorem sum_at {f x y z : Nat → Int} (h : sumO f x y z = false) {i : Nat} (hi : i < 3) : sum3 f x y z i = cv f i + cv x i + cv y i + cv z i := by
  simp only [sumO, Bool.or_eq_false_iff] at h
  have h1 := clamp_of (or3_at h.1.1 hi)
  have h2 := clamp_of (or3_at h.1.2 hi)
  have h3 := clamp_of (or3_at h.2 hi)
  rw [cv_dv (addF_fit _ _) hi] at h2
  rw [cv_dv (show FV (sum2 f x y) from addF_fit _ _) hi] at h3
  show clampV (cv (dv (sum2 f x y)) i + cv z i) = _
  rw [cv_dv (show FV (sum2 f x y) from addF_fit _ _) hi, h3]
  show clampV (cv (dv (addF f x)) i + cv y i) + cv z i = _
  rw [cv_dv (addF_fit _ _) hi, h2]
  show clampV (cv f i + cv x i) + cv y i + cv z i = _
  rw [h1]
/-- A step in which nothing saturates, component by component. -/
theorem step_at {g r v d : Nat → Int} {k : Int} {p : Nat} (hk : Fit k) (hp : 4 ≤ p ∧ p ≤ 14) (h : stepO g r v d k p = false) {i : Nat} (hi : i < 3) :
    ∃ G H R' V', G = cv g i - roundV (cv r i * k) 268435456 ∧ R' = cv r i + roundV (cv v i) (2 ^ p) + roundV (cv d i) (2 ^ (p + 1)) + roundV G (2 ^ (2 * p + 1)) ∧
      H = cv g i - roundV (R' * k) 268435456 ∧ V' = cv v i + cv d i + roundV G (2 ^ (p + 1)) + roundV H (2 ^ (p + 1)) ∧ cv (dv (stepR g r v d k p)) i = R' ∧ cv (dv (stepV g r v d k p)) i = V' := by
  simp only [stepO, Bool.or_eq_false_iff] at h
  obtain ⟨⟨⟨h1, h2⟩, h3⟩, h4⟩ := h
  have e1 := field_at hk h1 hi
  have eR : cv (dv (stepR g r v d k p)) i = cv r i + roundV (cv v i) (2 ^ p) + roundV (cv d i) (2 ^ (p + 1)) + roundV (fieldF g r k i) (2 ^ (2 * p + 1)) := by
    rw [cv_dv (stepR_fit _ _ _ _ _ _) hi]
    show sum3 _ _ _ _ i = _
    rw [sum_at h2 hi, cv_dv (shiftF_fit v (by omega) (by omega)) hi, cv_dv (shiftF_fit d (by omega) (by omega)) hi, cv_dv (shiftF_fit _ (by omega) (by omega)) hi]
    show _ + roundV (cv v i) _ + roundV (cv d i) _ + roundV (cv (dv (fieldF g r k)) i) _ = _
    rw [cv_dv (field_fit _ _ _) hi]
  have e3 := field_at hk h3 hi
  have eV : cv (dv (stepV g r v d k p)) i = cv v i + cv d i + roundV (fieldF g r k i) (2 ^ (p + 1)) + roundV (fieldF g (dv (stepR g r v d k p)) k i) (2 ^ (p + 1)) := by
    rw [cv_dv (stepV_fit _ _ _ _ _ _) hi]
    show sum3 _ _ _ _ i = _
    rw [sum_at h4 hi, cv_dv (shiftF_fit _ (by omega) (by omega)) hi, cv_dv (shiftF_fit _ (by omega) (by omega)) hi]
    show _ + roundV (cv (dv (fieldF g r k)) i) _ + roundV (cv (dv (fieldF g (dv (stepR g r v d k p)) k)) i) _ = _
    rw [cv_dv (field_fit _ _ _) hi, cv_dv (field_fit _ _ _) hi]
  rw [e1] at eR
  rw [e1, e3, eR] at eV
  exact ⟨_, _, _, _, rfl, rfl, rfl, rfl, eR, eV⟩
end Go.Proofs
/-! Eb. -/
namespace Go.Proofs
open Go.E
set_option maxRecDepth 8000

theorem up_ge {x : Int} {k : Nat} : x ≤ upV x k * 2 ^ k := by
  unfold upV
  have hq : (0 : Int) < 2 ^ k := Int.pow_pos (by decide)
  generalize (2 : Int) ^ k = q at *
  have h1 := Int.emod_add_mul_ediv (x + q - 1) q
  have h2 := Int.emod_lt_of_pos (x + q - 1) hq
  rw [Int.mul_comm] at h1
  generalize (x + q - 1) / q * q = w at *
  omega
theorem pow_p1 (p : Nat) : (2 : Int) ^ (p + 1) = 2 * 2 ^ p := by rw [Int.pow_succ, Int.mul_comm]
theorem pow_2p1 (p : Nat) : (2 : Int) ^ (2 * p + 1) = 2 * 2 ^ p * 2 ^ p := by
  rw [pow_p1, Nat.two_mul, Int.pow_add, Int.mul_assoc]
theorem upV_nn {x : Int} {k : Nat} (h : 0 ≤ x) : 0 ≤ upV x k := by
  unfold upV
  have hq : (0 : Int) < 2 ^ k := Int.pow_pos (by decide)
  exact Int.ediv_nonneg (by omega) (by omega)

theorem err_step {p : Nat} {s R V X Y a b G0 k d G H R' V' T Gx X1 Hx Y1 : Int} (hs : 0 < s) (ha : 0 ≤ a) (hb : 0 ≤ b) (hk : 0 ≤ k) (hk' : k ≤ 268435456)
    (h1 : R * s - X ≤ a * s) (h2 : -(a * s) ≤ R * s - X) (h3 : V * s - Y ≤ b * s) (h4 : -(b * s) ≤ V * s - Y)
    (eG : G = G0 - roundV (R * k) 268435456) (eR : R' = R + roundV V (2 ^ p) + roundV d (2 ^ (p + 1)) + roundV G (2 ^ (2 * p + 1)))
    (eH : H = G0 - roundV (R' * k) 268435456) (eV : V' = V + d + roundV G (2 ^ (p + 1)) + roundV H (2 ^ (p + 1)))
    (eT : T = 2 ^ p) (eGx : Gx = G0 * (s * 268435456) - k * X) (eX : X1 = X * (268435456 * (2 * T * T)) + Y * (268435456 * (2 * T)) + d * (s * 268435456 * T) + Gx)
    (eHx : Hx = G0 * (s * 268435456 * (2 * T * T) * 268435456) - k * X1)
    (eY : Y1 = Y * (268435456 * (2 * T * T) * 268435456 * (2 * T)) + d * (s * 268435456 * (2 * T * T) * 268435456 * (2 * T)) + Gx * (2 * T * T * 268435456) + Hx)
    {a' b' S : Int} (ea : a' = a + upV a (2 * p + 1) + upV b p + 2) (eb : b' = b + (upV (a + a' + 1) (p + 1) + 1)) (eS : S = s * 268435456 * (2 * T * T) * 268435456 * (2 * T)) :
    0 < S ∧ 0 ≤ a' ∧ 0 ≤ b' ∧ R' * S - X1 * (268435456 * (2 * T)) ≤ a' * S ∧ -(a' * S) ≤ R' * S - X1 * (268435456 * (2 * T)) ∧ V' * S - Y1 ≤ b' * S ∧ -(b' * S) ≤ V' * S - Y1 := by
  have hT : 1 ≤ T := by rw [eT]; exact Int.pow_pos (by decide)
  have hT0 : 0 < T := hT
  have hU : 0 < 2 * T * T := Int.mul_pos (by omega) hT0
  have ha' : 0 ≤ a' := by
    have := upV_nn (k := 2 * p + 1) ha
    have := upV_nn (k := p) hb
    omega
  have hb' : 0 ≤ b' := by
    have := upV_nn (x := a + a' + 1) (k := p + 1) (by omega)
    omega
  have hS2 : 0 < s * 268435456 * (2 * T * T) := Int.mul_pos (Int.mul_pos hs (by decide)) hU
  have r1 := round_off (p := R * k) (q := 268435456) (by decide)
  have g := err_g (G := G0) (ρ := roundV (R * k) 268435456) hs ha h1 h2 hk hk' (by omega) (by omega)
  rw [← eG, ← eGx] at g
  have p1 := round_off (p := V) (q := T) hT0
  have q1 := round_off (p := d) (q := 2 * T) (by omega)
  have w1 := round_off (p := G) (q := 2 * T * T) hU
  have ua := up_ge (x := a) (k := 2 * p + 1)
  have ub := up_ge (x := b) (k := p)
  rw [pow_2p1, ← eT] at ua
  rw [← eT] at ub
  have x := err_r (s := s) (d := d) (Gx := Gx) hs hT h1 h2 h3 h4 g.1 g.2 p1.1 p1.2 q1.1 q1.2 w1.1 w1.2 ua ub
  rw [pow_p1, pow_2p1, ← eT] at eR
  rw [← eR, ← eX, ← ea] at x
  have r2 := round_off (p := R' * k) (q := 268435456) (by decide)
  have k1 := err_g (G := G0) (ρ := roundV (R' * k) 268435456) hS2 ha' x.1 x.2 hk hk' (by omega) (by omega)
  rw [← eH, ← eHx] at k1
  have q2 := round_off (p := G) (q := 2 * T) (by omega)
  have w2 := round_off (p := H) (q := 2 * T) (by omega)
  have uv := up_ge (x := a + a' + 1) (k := p + 1)
  rw [pow_p1, ← eT] at uv
  have y := err_v (S := s * 268435456 * (2 * T * T)) (d := d) (Gx := Gx) (Hx := Hx) (U := 2 * T * T) hs hT hU rfl h3 h4 g.1 g.2 k1.1 k1.2 q2.1 q2.2 w2.1 w2.2 uv
  rw [pow_p1, ← eT] at eV
  rw [← eV, ← eY, ← eS, show b + upV (a + a' + 1) (p + 1) + 1 = b' by omega] at y
  have hS : 0 < S := by rw [eS]; exact Int.mul_pos (Int.mul_pos hS2 (by decide)) (by omega)
  have hm : 0 ≤ 268435456 * (2 * T) := by omega
  have x1 := mulL hm x.1
  have x2 := mulL hm x.2
  refine ⟨hS, ha', hb', ?_, ?_, y.1, y.2⟩
  · rw [eS]
    clear y w2 q2 k1 g p1 q1 w1 ua ub uv
    grind
  · rw [eS]
    clear y w2 q2 k1 g p1 q1 w1 ua ub uv
    grind
end Go.Proofs
/-! Ec. -/
namespace Go.Proofs.N13
open Go.E
set_option maxRecDepth 8000

def pwD (n : Nat) : Dy := canonD false 1 (-(n : Int))
theorem V_wide {K K' : Nat} {x : Dy} (h : K ≤ K') (he : -(K : Int) ≤ x.e) : V K' x = V K x * 2 ^ (K' - K) := by
  have := V_shift K (K' - K) he
  rw [show K + (K' - K) = K' by omega] at this
  rw [this]
  congr 1
theorem pwD_V (n : Nat) : V n (pwD n) = 1 := by
  unfold pwD
  rw [V_canonD n false 1 (by omega), show (-(n : Int) + n).toNat = 0 by omega]
  rfl
theorem pwD_e (n : Nat) : -(n : Int) ≤ (pwD n).e := canonD_e n false 1 (by omega)
theorem pwD_bd (n : Nat) : Bd n 1 (pwD n) := by
  refine ⟨canonD_canon _ _ _, pwD_e n, ?_⟩
  rw [pwD_V]
  exact Nat.one_lt_two_pow (by omega)
theorem V_pw {n L : Nat} {x : Dy} (hx : -(L : Int) ≤ x.e) : V (n + L) (mulD (pwD n) x) = V L x := by
  rw [V_mul (pwD_e n) hx, pwD_V, Int.one_mul]
theorem Bd.wide {K K' L : Nat} {x : Dy} (h : Bd K L x) (hk : K ≤ K') : Bd K' L x := by
  have := h.wider (K' - K)
  rwa [show K + (K' - K) = K' by omega] at this
theorem Bd.pw {K L n : Nat} {x : Dy} (h : Bd K L x) {K' : Nat} (hk : n + K ≤ K') : Bd K' (L + 1) (mulD (pwD n) x) := by
  have := (pwD_bd n).mul h
  rw [Nat.add_comm 1 L] at this
  exact this.wide hk

def axG (G k x : Dy) : Dy := plusD G (negD (mulD k x))
def axX (p : Nat) (x y d g : Dy) : Dy := plusD (plusD (plusD x (mulD (pwD p) y)) (mulD (pwD (p + 1)) d)) (mulD (pwD (2 * p + 1)) g)
def axY (p : Nat) (y d g h : Dy) : Dy := plusD (plusD y d) (mulD (pwD (p + 1)) (plusD g h))
/-- The exact recursion. -/
def axT (p : Nat) (G k : Dy) (d : Nat → Dy) (x0 y0 : Dy) : Nat → Dy × Dy
  | 0 => (x0, y0)
  | n + 1 => (axX p (axT p G k d x0 y0 n).1 (axT p G k d x0 y0 n).2 (d n) (axG G k (axT p G k d x0 y0 n).1),
      axY p (axT p G k d x0 y0 n).2 (d n) (axG G k (axT p G k d x0 y0 n).1)
        (axG G k (axX p (axT p G k d x0 y0 n).1 (axT p G k d x0 y0 n).2 (d n) (axG G k (axT p G k d x0 y0 n).1))))

section
variable {p K L : Nat} {G k x y d : Dy}
theorem axG_bd (hG : Bd 28 0 G) (hk : Bd 28 0 k) (hx : Bd K L x) : Bd (28 + K) (L + 1) (axG G k x) := by
  have h1 := (hk.mul hx).neg
  rw [Nat.zero_add] at h1
  exact ((hG.wide (by omega)).mono (Nat.zero_le L)).plus h1
theorem axX_bd (hG : Bd 28 0 G) (hk : Bd 28 0 k) (hd : Bd 28 0 d) (hx : Bd K L x) (hy : Bd K L y) (hK : 28 ≤ K) : Bd (28 + K + (2 * p + 1)) (L + 5) (axX p x y d (axG G k x)) := by
  have hg := axG_bd hG hk hx
  have a1 := ((hx.wide (K' := 28 + K + (2 * p + 1)) (by omega)).mono (Nat.le_succ L)).plus (hy.pw (n := p) (K' := 28 + K + (2 * p + 1)) (by omega))
  have a2 := a1.plus ((hd.pw (n := p + 1) (K' := 28 + K + (2 * p + 1)) (by omega)).mono (show 0 + 1 ≤ L + 1 + 1 by omega))
  exact (a2.mono (show L + 1 + 1 + 1 ≤ L + 4 by omega)).plus ((hg.pw (n := 2 * p + 1) (K' := 28 + K + (2 * p + 1)) (by omega)).mono (by omega))
theorem axY_bd {g h : Dy} {K' : Nat} (hd : Bd 28 0 d) (hy : Bd K L y) (hg : Bd K' (L + 6) g) (hh : Bd K' (L + 6) h) (hK : 28 ≤ K) (hK' : K ≤ K') : Bd (K' + (p + 1)) (L + 10) (axY p y d g h) := by
  have b1 := ((hy.wide (K' := K' + (p + 1)) (by omega)).plus ((hd.wide (K' := K' + (p + 1)) (by omega)).mono (Nat.zero_le L))).mono (show L + 1 ≤ L + 9 by omega)
  have b2 := ((hg.plus hh).pw (n := p + 1) (K' := K' + (p + 1)) (by omega)).mono (show L + 6 + 1 + 1 ≤ L + 9 by omega)
  exact b1.plus b2

theorem V_axG (hG : Bd 28 0 G) (hk : Bd 28 0 k) {m : Nat} (hx : Bd (28 + m) L x) : V (28 + (28 + m)) (axG G k x) = V 28 G * (2 ^ m * 268435456) - V 28 k * V (28 + m) x := by
  unfold axG
  rw [V_plus (hG.wide (by omega)).exp (hk.mul hx).neg.exp, V_neg, V_mul hk.exp hx.exp, V_wide (K := 28) (by omega) hG.exp, show 28 + (28 + m) - 28 = m + 28 by omega, Int.pow_add]
  rfl
theorem V_axX (hG : Bd 28 0 G) (hk : Bd 28 0 k) (hd : Bd 28 0 d) {m : Nat} (hx : Bd (28 + m) L x) (hy : Bd (28 + m) L y) :
    V (28 + (28 + m) + (2 * p + 1)) (axX p x y d (axG G k x)) = V (28 + m) x * (268435456 * (2 * 2 ^ p * 2 ^ p)) + V (28 + m) y * (268435456 * (2 * 2 ^ p)) + V 28 d * (2 ^ m * 268435456 * 2 ^ p) + V (28 + (28 + m)) (axG G k x) := by
  have hg := axG_bd hG hk hx
  have k1 := hx.wide (K' := 28 + (28 + m) + (2 * p + 1)) (by omega)
  have k2 := hy.pw (n := p) (K' := 28 + (28 + m) + (2 * p + 1)) (by omega)
  have k3 := hd.pw (n := p + 1) (K' := 28 + (28 + m) + (2 * p + 1)) (by omega)
  have k4 := hg.pw (n := 2 * p + 1) (K' := 28 + (28 + m) + (2 * p + 1)) (by omega)
  have s1 := k1.mono (Nat.le_succ L) |>.plus k2
  have s2 := s1.plus (k3.mono (show 0 + 1 ≤ L + 1 + 1 by omega))
  unfold axX
  rw [V_plus s2.exp k4.exp, V_plus s1.exp k3.exp, V_plus k1.exp k2.exp]
  have e1 : V (28 + (28 + m) + (2 * p + 1)) x = V (28 + m) x * (268435456 * (2 * 2 ^ p * 2 ^ p)) := by
    rw [V_wide (K := 28 + m) (by omega) hx.exp, show 28 + (28 + m) + (2 * p + 1) - (28 + m) = 28 + (2 * p + 1) by omega, Int.pow_add, pow_2p1]
    rfl
  have e2 : V (28 + (28 + m) + (2 * p + 1)) (mulD (pwD p) y) = V (28 + m) y * (268435456 * (2 * 2 ^ p)) := by
    rw [show 28 + (28 + m) + (2 * p + 1) = p + (28 + m + (28 + (p + 1))) by omega, V_pw (hy.wide (by omega)).exp, V_wide (K := 28 + m) (by omega) hy.exp,
      show 28 + m + (28 + (p + 1)) - (28 + m) = 28 + (p + 1) by omega, Int.pow_add, pow_p1 p]
    rfl
  have e3 : V (28 + (28 + m) + (2 * p + 1)) (mulD (pwD (p + 1)) d) = V 28 d * (2 ^ m * 268435456 * 2 ^ p) := by
    rw [show 28 + (28 + m) + (2 * p + 1) = p + 1 + (28 + (m + 28 + p)) by omega, V_pw (hd.wide (by omega)).exp, V_wide (K := 28) (by omega) hd.exp,
      show 28 + (m + 28 + p) - 28 = m + 28 + p by omega, Int.pow_add, Int.pow_add]
    rfl
  have e4 : V (28 + (28 + m) + (2 * p + 1)) (mulD (pwD (2 * p + 1)) (axG G k x)) = V (28 + (28 + m)) (axG G k x) := by
    rw [show 28 + (28 + m) + (2 * p + 1) = 2 * p + 1 + (28 + (28 + m)) by omega, V_pw hg.exp]
  rw [e1, e2, e3, e4]
end
end Go.Proofs.N13
/-! Ed. -/
namespace Go.Proofs.N13
open Go.E
set_option maxRecDepth 8000

section
variable {p L : Nat} {G k x y d : Dy}
theorem V_axY (hG : Bd 28 0 G) (hk : Bd 28 0 k) (hd : Bd 28 0 d) {m : Nat} (hx : Bd (28 + m) L x) (hy : Bd (28 + m) L y) :
    V (28 + (28 + (28 + m) + (2 * p + 1)) + (p + 1)) (axY p y d (axG G k x) (axG G k (axX p x y d (axG G k x)))) =
      V (28 + m) y * (268435456 * (2 * 2 ^ p * 2 ^ p) * 268435456 * (2 * 2 ^ p)) + V 28 d * (2 ^ m * 268435456 * (2 * 2 ^ p * 2 ^ p) * 268435456 * (2 * 2 ^ p)) +
        V (28 + (28 + m)) (axG G k x) * (2 * 2 ^ p * 2 ^ p * 268435456) + V (28 + (28 + (28 + m) + (2 * p + 1))) (axG G k (axX p x y d (axG G k x))) := by
  have hX := axX_bd (p := p) hG hk hd hx hy (by omega)
  have hg := axG_bd hG hk hx
  have hh := axG_bd hG hk hX
  have k1 := hy.wide (K' := 28 + (28 + (28 + m) + (2 * p + 1)) + (p + 1)) (by omega)
  have k2 := hd.wide (K' := 28 + (28 + (28 + m) + (2 * p + 1)) + (p + 1)) (by omega)
  have k3 := hg.wide (K' := 28 + (28 + (28 + m) + (2 * p + 1))) (by omega)
  have k4 := (k3.mono (show L + 1 ≤ L + 5 + 1 by omega)).plus hh
  have k5 := k4.pw (n := p + 1) (K' := 28 + (28 + (28 + m) + (2 * p + 1)) + (p + 1)) (by omega)
  unfold axY
  rw [V_plus (k1.plus (k2.mono (Nat.zero_le L))).exp k5.exp, V_plus k1.exp k2.exp]
  have e1 : V (28 + (28 + (28 + m) + (2 * p + 1)) + (p + 1)) y = V (28 + m) y * (268435456 * (2 * 2 ^ p * 2 ^ p) * 268435456 * (2 * 2 ^ p)) := by
    rw [V_wide (K := 28 + m) (by omega) hy.exp, show 28 + (28 + (28 + m) + (2 * p + 1)) + (p + 1) - (28 + m) = 28 + (2 * p + 1) + 28 + (p + 1) by omega, Int.pow_add, Int.pow_add, Int.pow_add, pow_2p1, pow_p1 p]
    rfl
  have e2 : V (28 + (28 + (28 + m) + (2 * p + 1)) + (p + 1)) d = V 28 d * (2 ^ m * 268435456 * (2 * 2 ^ p * 2 ^ p) * 268435456 * (2 * 2 ^ p)) := by
    rw [V_wide (K := 28) (by omega) hd.exp, show 28 + (28 + (28 + m) + (2 * p + 1)) + (p + 1) - 28 = m + 28 + (2 * p + 1) + 28 + (p + 1) by omega, Int.pow_add, Int.pow_add, Int.pow_add, Int.pow_add, pow_2p1, pow_p1 p]
    rfl
  have e3 : V (28 + (28 + (28 + m) + (2 * p + 1)) + (p + 1)) (mulD (pwD (p + 1)) (plusD (axG G k x) (axG G k (axX p x y d (axG G k x))))) =
      V (28 + (28 + m)) (axG G k x) * (2 * 2 ^ p * 2 ^ p * 268435456) + V (28 + (28 + (28 + m) + (2 * p + 1))) (axG G k (axX p x y d (axG G k x))) := by
    rw [show 28 + (28 + (28 + m) + (2 * p + 1)) + (p + 1) = p + 1 + (28 + (28 + (28 + m) + (2 * p + 1))) by omega, V_pw k4.exp, V_plus k3.exp hh.exp, V_wide (K := 28 + (28 + m)) (by omega) hg.exp,
      show 28 + (28 + (28 + m) + (2 * p + 1)) - (28 + (28 + m)) = (2 * p + 1) + 28 by omega, Int.pow_add, pow_2p1]
    rfl
  rw [e1, e2, e3, Int.add_assoc]
  rw [Int.add_assoc, Int.add_assoc]
end

/-- How much the scale grows in n steps. -/
def axM (p n : Nat) : Nat := n * (3 * p + 58)
theorem axM_succ (p n : Nat) : 28 + axM p (n + 1) = 28 + (28 + (28 + axM p n) + (2 * p + 1)) + (p + 1) := by
  unfold axM
  rw [Nat.succ_mul]
  omega
theorem axT_bd {p : Nat} {G k x0 y0 : Dy} {d : Nat → Dy} (hG : Bd 28 0 G) (hk : Bd 28 0 k) (hd : ∀ n, Bd 28 0 (d n)) (hx : Bd 28 0 x0) (hy : Bd 28 0 y0) :
    ∀ n, Bd (28 + axM p n) (10 * n) (axT p G k d x0 y0 n).1 ∧ Bd (28 + axM p n) (10 * n) (axT p G k d x0 y0 n).2
  | 0 => by
    unfold axM
    rw [Nat.zero_mul]
    exact ⟨hx, hy⟩
  | n + 1 => by
    obtain ⟨h1, h2⟩ := axT_bd hG hk hd hx hy n
    have hX := axX_bd (p := p) hG hk (hd n) h1 h2 (by omega)
    have hg := axG_bd hG hk h1
    have hh := axG_bd hG hk hX
    have hY := axY_bd (p := p) (hd n) h2 ((hg.wide (K' := 28 + (28 + (28 + axM p n) + (2 * p + 1))) (by omega)).mono (show 10 * n + 1 ≤ 10 * n + 6 by omega)) (hh.mono (show 10 * n + 5 + 1 ≤ 10 * n + 6 by omega)) (by omega) (by omega)
    rw [axM_succ]
    exact ⟨(hX.wide (by omega)).mono (by omega), hY.mono (by omega)⟩
theorem dblV_V (a b : Int) : V 28 (dblD a b) = dblV a b := by
  unfold dblD
  rw [V_canonD 28 _ _ (by decide), show ((-28 : Int) + (28 : Nat)).toNat = 0 by decide]
  show sgn _ (_ * (1 : Int)) = _
  rw [Int.mul_one]
  unfold sgn
  split
  · rename_i h
    have := of_decide_eq_true h
    omega
  · rename_i h
    have : ¬ dblV a b < 0 := by simpa using h
    omega
theorem dbl_bd (a b : Int) : Bd 28 0 (dblD a b) := by
  refine ⟨canonD_canon _ _ _, canonD_e 28 _ _ (by decide), ?_⟩
  rw [dblV_V]
  have h1 := word_b (w := a)
  have h2 := word_b (w := b)
  unfold dblV
  show _ < 268435456
  omega
end Go.Proofs.N13
/-! Ee. -/
namespace Go.Proofs
open Go.E
set_option maxRecDepth 8000

/-- One component, without rounding. -/
def axC (p : Nat) (g : Nat → Int) (k0 k1 : Int) (D : Nat → Nat → Int) (r v : Nat → Int) (i n : Nat) : N13.Dy × N13.Dy :=
  N13.axT p (N13.dblD (g (2 * i)) (g (2 * i + 1))) (N13.dblD k0 k1) (fun j => N13.dblD (D j (2 * i)) (D j (2 * i + 1))) (N13.dblD (r (2 * i)) (r (2 * i + 1))) (N13.dblD (v (2 * i)) (v (2 * i + 1))) n
theorem dbl_val (a b : Int) : N13.V 28 (N13.dblD a b) = valD a b := N13.dblV_V a b
theorem axC_bd (p : Nat) (g : Nat → Int) (k0 k1 : Int) (D : Nat → Nat → Int) (r v : Nat → Int) (i n : Nat) :
    N13.Bd (28 + N13.axM p n) (10 * n) (axC p g k0 k1 D r v i n).1 ∧ N13.Bd (28 + N13.axM p n) (10 * n) (axC p g k0 k1 D r v i n).2 :=
  N13.axT_bd (N13.dbl_bd _ _) (N13.dbl_bd _ _) (fun _ => N13.dbl_bd _ _) (N13.dbl_bd _ _) (N13.dbl_bd _ _) n

theorem err_all {g r v : Nat → Int} {k0 k1 : Int} {p : Nat} {D : Nat → Nat → Int} (hp : 4 ≤ p ∧ p ≤ 14) (hk : 0 ≤ valD k0 k1) {i : Nat} (hi : i < 3) :
    ∀ n, (runT g (valD k0 k1) p D r v n).2.2 = false →
      cv (runT g (valD k0 k1) p D r v n).1 i * 2 ^ N13.axM p n - N13.V (28 + N13.axM p n) (axC p g k0 k1 D r v i n).1 ≤ (bnd p n).1 * 2 ^ N13.axM p n ∧
      -((bnd p n).1 * 2 ^ N13.axM p n) ≤ cv (runT g (valD k0 k1) p D r v n).1 i * 2 ^ N13.axM p n - N13.V (28 + N13.axM p n) (axC p g k0 k1 D r v i n).1 ∧
      cv (runT g (valD k0 k1) p D r v n).2.1 i * 2 ^ N13.axM p n - N13.V (28 + N13.axM p n) (axC p g k0 k1 D r v i n).2 ≤ (bnd p n).2 * 2 ^ N13.axM p n ∧
      -((bnd p n).2 * 2 ^ N13.axM p n) ≤ cv (runT g (valD k0 k1) p D r v n).2.1 i * 2 ^ N13.axM p n - N13.V (28 + N13.axM p n) (axC p g k0 k1 D r v i n).2
  | 0, _ => by
    have e0 : N13.axM p 0 = 0 := by unfold N13.axM; omega
    rw [e0]
    have e1 : N13.V (28 + 0) (axC p g k0 k1 D r v i 0).1 = cv r i := dbl_val _ _
    have e2 : N13.V (28 + 0) (axC p g k0 k1 D r v i 0).2 = cv v i := dbl_val _ _
    have e3 : cv (runT g (valD k0 k1) p D r v 0).1 i = cv r i := cv_dv (cv_fit r) hi
    have e4 : cv (runT g (valD k0 k1) p D r v 0).2.1 i = cv v i := cv_dv (cv_fit v) hi
    rw [e1, e2, e3, e4, Int.pow_zero, Int.mul_one, Int.mul_one]
    simp [bnd]
  | n + 1, h => by
    have hb : (runT g (valD k0 k1) p D r v n).2.2 = false ∧ stepO g (runT g (valD k0 k1) p D r v n).1 (runT g (valD k0 k1) p D r v n).2.1 (D n) (valD k0 k1) p = false := by
      have : ((runT g (valD k0 k1) p D r v n).2.2 || stepO g (runT g (valD k0 k1) p D r v n).1 (runT g (valD k0 k1) p D r v n).2.1 (D n) (valD k0 k1) p) = false := h
      simpa using this
    obtain ⟨q1, q2, q3, q4⟩ := err_all hp hk hi n hb.1
    obtain ⟨b1, b2⟩ := axC_bd p g k0 k1 D r v i n
    have bb := bnd_b hp.1 n
    have fk : Fit (valD k0 k1) := valD_fit
    obtain ⟨G, H, R', V', eG, eR, eH, eV, zR, zV⟩ := step_at (d := D n) fk hp hb.2 hi
    have hG := N13.dbl_bd (g (2 * i)) (g (2 * i + 1))
    have hK := N13.dbl_bd k0 k1
    have hD := N13.dbl_bd (D n (2 * i)) (D n (2 * i + 1))
    have vG := N13.V_axG hG hK b1
    have vX := N13.V_axX (p := p) hG hK hD b1 b2
    have vH := N13.V_axG (m := 28 + N13.axM p n + (2 * p + 1)) hG hK (by
      have := N13.axX_bd (p := p) hG hK hD b1 b2 (by omega)
      rwa [show 28 + (28 + N13.axM p n) + (2 * p + 1) = 28 + (28 + N13.axM p n + (2 * p + 1)) by omega] at this)
    have vY := N13.V_axY (p := p) hG hK hD b1 b2
    rw [dbl_val, dbl_val] at vG vH
    rw [dbl_val] at vX vY
    rw [show 28 + (28 + (28 + N13.axM p n + (2 * p + 1))) = 28 + (28 + (28 + N13.axM p n) + (2 * p + 1)) by omega, show 28 + (28 + N13.axM p n + (2 * p + 1)) = 28 + (28 + N13.axM p n) + (2 * p + 1) by omega,
      show 28 + N13.axM p n + (2 * p + 1) = N13.axM p n + 28 + (2 * p + 1) by omega, Int.pow_add, Int.pow_add, pow_2p1] at vH
    have hs : (0 : Int) < 2 ^ N13.axM p n := Int.pow_pos (by decide)
    have fin := err_step (p := p) (s := 2 ^ N13.axM p n) (R := cv (runT g (valD k0 k1) p D r v n).1 i) (V := cv (runT g (valD k0 k1) p D r v n).2.1 i)
      (G0 := cv g i) (k := valD k0 k1) (d := cv (D n) i) hs bb.1 bb.2.2.1 hk (by unfold Fit at fk; omega) q1 q2 q3 q4 eG eR eH eV rfl vG vX vH vY rfl rfl rfl
    obtain ⟨_, _, _, f1, f2, f3, f4⟩ := fin
    have eS : (2 : Int) ^ N13.axM p (n + 1) = 2 ^ N13.axM p n * 268435456 * (2 * 2 ^ p * 2 ^ p) * 268435456 * (2 * 2 ^ p) := by
      rw [show N13.axM p (n + 1) = N13.axM p n + 28 + (2 * p + 1) + 28 + (p + 1) by unfold N13.axM; rw [Nat.succ_mul]; omega, Int.pow_add, Int.pow_add, Int.pow_add, Int.pow_add, pow_2p1, pow_p1 p]
      rfl
    have hX := N13.axX_bd (p := p) hG hK hD b1 b2 (by omega)
    have eX : N13.V (28 + N13.axM p (n + 1)) (axC p g k0 k1 D r v i (n + 1)).1 = N13.V (28 + (28 + N13.axM p n) + (2 * p + 1)) (N13.axX p (axC p g k0 k1 D r v i n).1 (axC p g k0 k1 D r v i n).2 (N13.dblD (D n (2 * i)) (D n (2 * i + 1))) (N13.axG (N13.dblD (g (2 * i)) (g (2 * i + 1))) (N13.dblD k0 k1) (axC p g k0 k1 D r v i n).1)) * (268435456 * (2 * 2 ^ p)) := by
      rw [N13.axM_succ]
      refine (N13.V_wide (K := 28 + (28 + N13.axM p n) + (2 * p + 1)) (K' := 28 + (28 + (28 + N13.axM p n) + (2 * p + 1)) + (p + 1)) (by omega) hX.exp).trans ?_
      rw [show 28 + (28 + (28 + N13.axM p n) + (2 * p + 1)) + (p + 1) - (28 + (28 + N13.axM p n) + (2 * p + 1)) = 28 + (p + 1) by omega, Int.pow_add, pow_p1 p]
      rfl
    have eY : N13.V (28 + N13.axM p (n + 1)) (axC p g k0 k1 D r v i (n + 1)).2 = N13.V (28 + (28 + (28 + N13.axM p n) + (2 * p + 1)) + (p + 1)) (N13.axY p (axC p g k0 k1 D r v i n).2 (N13.dblD (D n (2 * i)) (D n (2 * i + 1))) (N13.axG (N13.dblD (g (2 * i)) (g (2 * i + 1))) (N13.dblD k0 k1) (axC p g k0 k1 D r v i n).1)
        (N13.axG (N13.dblD (g (2 * i)) (g (2 * i + 1))) (N13.dblD k0 k1) (N13.axX p (axC p g k0 k1 D r v i n).1 (axC p g k0 k1 D r v i n).2 (N13.dblD (D n (2 * i)) (D n (2 * i + 1))) (N13.axG (N13.dblD (g (2 * i)) (g (2 * i + 1))) (N13.dblD k0 k1) (axC p g k0 k1 D r v i n).1)))) := by
      rw [N13.axM_succ]
      rfl
    have zR' : cv (runT g (valD k0 k1) p D r v (n + 1)).1 i = R' := zR
    have zV' : cv (runT g (valD k0 k1) p D r v (n + 1)).2.1 i = V' := zV
    rw [eX, eY, zR', zV', eS]
    exact ⟨f1, f2, f3, f4⟩
end Go.Proofs
