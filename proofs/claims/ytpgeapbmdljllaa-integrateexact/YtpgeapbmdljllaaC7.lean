/- Chapter 33, part h: bounds. -/
import Derived.Test.YtpgeapbmdljllaaC6
import Derived.Test.YtpgeapbmdljllaaE5
set_option linter.unusedVariables false
set_option linter.unusedSimpArgs false
/-! Ih. -/
namespace Go.Proofs
open Go.E
set_option maxRecDepth 8000

def upV (x : Int) (k : Nat) : Int := (x + 2 ^ k - 1) / 2 ^ k
theorem up_b {x : Int} {k : Nat} (h0 : 0 ≤ x) (hk : 4 ≤ k) : 0 ≤ upV x k ∧ upV x k ≤ x / 16 + 1 := by
  have hq : (16 : Int) ≤ 2 ^ k := by
    have h1 : (2 : Nat) ^ 4 ≤ 2 ^ k := Nat.pow_le_pow_right (by decide) hk
    have e : ((2 ^ k : Nat) : Int) = 2 ^ k := by simp
    have : (2 : Nat) ^ 4 = 16 := by decide
    omega
  unfold upV
  generalize (2 : Int) ^ k = q at hq ⊢
  refine ⟨Int.ediv_nonneg (by omega) (by omega), ?_⟩
  have h1 : q * ((x + q - 1) / q) ≤ x + q - 1 := Int.mul_ediv_self_le (by omega)
  generalize (x + q - 1) / q = u at h1 ⊢
  by_cases hu : u ≤ 1
  · omega
  have h2 : 16 * (u - 1) ≤ q * (u - 1) := Int.mul_le_mul_of_nonneg_right hq (by omega)
  rw [Int.mul_sub, Int.mul_sub] at h2
  generalize q * u = m at *
  omega
theorem up_c {x : Int} {k : Nat} (h0 : 0 ≤ x) (hx : x ≤ 1152921504606846976) (hk : k ≤ 56) : callP Try.prog 46 [.int .i64 x, .int .i64 k] (· = .int .i64 (upV x k)) := by
  have hp := pow_b hk
  refine callE_def env (fn := Try.f46) rfl (by decide) rfl ?_
  apply need_intro
  · show (0 : Int) ≤ (k : Int); omega
  apply need_intro
  · show (0 : Int) ≤ (k : Int); omega
  show Eqv _ _
  refine eqv_of_eq (congrArg (AVal.int _) ?_)
  have m1 : min ((k : Int)).toNat IntKind.i64.bits = k := by
    show min ((k : Int)).toNat 64 = k
    rw [Int.toNat_natCast]
    omega
  rw [m1, Int.one_mul, wi (x := 2 ^ k) (by omega) (by omega), wi (x := x + 2 ^ k) (by omega) (by omega), wi (by omega) (by omega), Int.fdiv_eq_ediv_of_nonneg _ (by omega)]
  rfl
theorem rup_c {x : Int} {k : Nat} (h0 : 0 ≤ x) (hx : x ≤ 1152921504606846976) (hk : k ≤ 56) : callP Try.prog 47 [.int .i64 x, .int .i64 k] (· = .int .i64 (upV x k)) := by
  refine callE_def env (fn := Try.f47) rfl (by decide) rfl ?_
  refine loop_inv (keep 20 [0, 1, 4, 5, 6]) (fun s : RsSt => slots 20 [(0, .int .i64 x), (1, .int .i64 k), (4, .int .i64 0), (5, .int .i64 (2 ^ s.i)), (6, .int .i64 s.i)])
    (fun _ => []) (fun s => s.i ≤ k) (fun s => k - s.i) ⟨0⟩ (Nat.zero_le _) rfl rfl ?_
  rintro ⟨i⟩ hi
  simp only at hi
  have hp := pow_b (n := i) (by omega)
  apply branch_intro <;> intro h <;> simp at h
  · refine ⟨⟨i + 1⟩, h, by simp only; omega, ?_, rfl⟩
    show [_, _, _, _, _, _, _, _, _, _, _, _, _, _, _, _, _, _, _, _] = _
    have e2 : IntKind.i64.wrap (2 * 2 ^ i) = 2 ^ (i + 1) := by rw [wi (by omega) (by omega), Int.pow_succ]; omega
    have e3 : IntKind.i64.wrap ((i : Int) + 1) = ((i + 1 : Nat) : Int) := by rw [wi (by omega) (by omega)]; rfl
    rw [e2, e3]
    rfl
  · have : i = k := by omega
    subst this
    apply need_intro
    · simp only; omega
    show Eqv _ _
    refine eqv_of_eq (congrArg (AVal.int _) ?_)
    have hb : 0 ≤ (x + 2 ^ i - 1) / 2 ^ i := Int.ediv_nonneg (by omega) (by omega)
    have hb2 : (x + 2 ^ i - 1) / 2 ^ i ≤ x + 2 ^ i - 1 := Int.ediv_le_self _ (by omega)
    show IntKind.i64.wrap (Int.tdiv (IntKind.i64.wrap (IntKind.i64.wrap (x + 2 ^ i) - 1)) (2 ^ i)) = _
    rw [wi (x := x + 2 ^ i) (by omega) (by omega), wi (x := x + 2 ^ i - 1) (by omega) (by omega), tdiv_pos (by omega), wi (by omega) (by omega)]
    rfl

/-- The recursion of the bounds. -/
def bnd (p : Nat) : Nat → Int × Int
  | 0 => (0, 0)
  | n + 1 => ((bnd p n).1 + upV (bnd p n).1 (2 * p + 1) + upV (bnd p n).2 p + 2,
      (bnd p n).2 + (upV ((bnd p n).1 + ((bnd p n).1 + upV (bnd p n).1 (2 * p + 1) + upV (bnd p n).2 p + 2) + 1) (p + 1) + 1))
def topM : Nat → Nat
  | 0 => 0
  | n + 1 => topM n + topM n / 4 + 8
theorem topM_mono {n : Nat} : ∀ m, topM n ≤ topM (n + m)
  | 0 => Nat.le_refl _
  | m + 1 => by
    have := topM_mono (n := n) m
    show topM n ≤ topM (n + m) + topM (n + m) / 4 + 8
    omega
theorem topM_b {n : Nat} (hn : n ≤ 100) : topM n ≤ 1099511627776 := by
  have h1 := topM_mono (n := n) (100 - n)
  rw [show n + (100 - n) = 100 by omega] at h1
  have h2 : topM 100 ≤ 1099511627776 := by decide +kernel
  omega
theorem bnd_b {p : Nat} (hp : 4 ≤ p) : ∀ n, 0 ≤ (bnd p n).1 ∧ (bnd p n).1 ≤ topM n ∧ 0 ≤ (bnd p n).2 ∧ (bnd p n).2 ≤ topM n
  | 0 => by simp [bnd, topM]
  | n + 1 => by
    obtain ⟨h1, h2, h3, h4⟩ := bnd_b hp n
    have u1 := up_b (k := 2 * p + 1) h1 (by omega)
    have u2 := up_b (k := p) h3 (by omega)
    have u3 := up_b (x := (bnd p n).1 + ((bnd p n).1 + upV (bnd p n).1 (2 * p + 1) + upV (bnd p n).2 p + 2) + 1) (k := p + 1) (by omega) (by omega)
    simp only [bnd, topM]
    omega
theorem bound_bad {p n : Int} (h : p < 4 ∨ p > 14 ∨ n < 0) : callP Try.prog 19 [.int .i64 p, .int .i64 n] (· = .tuple [.int .i64 0, .int .i64 0, .int .i64 2]) := by
  refine callE_def env (fn := Try.f19) rfl (by decide) rfl ?_
  apply branch_intro <;> intro a
  · repeat (first | refine branch_true ?_ | refine branch_false ?_ | refine branch_f' (bne_self_eq_false _) ?_ | refine branch_t' (beq_self_eq_true _) ?_ | refine branch_t' (decide_eq_true rfl) ?_)
    show Eqv _ _
    exact .up (.up (.refl _))
  repeat (first | refine branch_true ?_ | refine branch_false ?_ | refine branch_f' (bne_self_eq_false _) ?_ | refine branch_t' (beq_self_eq_true _) ?_ | refine branch_t' (decide_eq_true rfl) ?_)
  apply branch_intro <;> intro b
  · repeat (first | refine branch_true ?_ | refine branch_false ?_ | refine branch_f' (bne_self_eq_false _) ?_ | refine branch_t' (beq_self_eq_true _) ?_ | refine branch_t' (decide_eq_true rfl) ?_)
    show Eqv _ _
    exact .up (.up (.refl _))
  repeat (first | refine branch_true ?_ | refine branch_false ?_ | refine branch_f' (bne_self_eq_false _) ?_ | refine branch_t' (beq_self_eq_true _) ?_ | refine branch_t' (decide_eq_true rfl) ?_)
  apply branch_intro <;> intro c
  · show Eqv _ _
    exact .up (.up (.refl _))
  · exfalso
    simp at a b c
    omega
theorem bound_over {p n : Int} (hp : 4 ≤ p ∧ p ≤ 14) (hn : 100 < n) : callP Try.prog 19 [.int .i64 p, .int .i64 n] (· = .tuple [.int .i64 0, .int .i64 0, .int .i64 4]) := by
  refine callE_def env (fn := Try.f19) rfl (by decide) rfl ?_
  repeat (first | refine branch_true ?_ | refine branch_false ?_ | refine branch_t' (decide_eq_true (by omega)) ?_ | refine branch_f' (decide_eq_false (by omega)) ?_)
  show Eqv _ _
  exact .up (.up (.refl _))
set_option maxHeartbeats 1000000 in
theorem bound_c {p n : Nat} (hp : 4 ≤ p ∧ p ≤ 14) (hn : n ≤ 100) : callP Try.prog 19 [.int .i64 p, .int .i64 n] (· = .tuple [.int .i64 (bnd p n).1, .int .i64 (bnd p n).2, .int .i64 0]) := by
  refine callE_def env (fn := Try.f19) rfl (by decide) rfl ?_
  repeat (first | refine branch_true ?_ | refine branch_false ?_ | refine branch_t' (decide_eq_true (by omega)) ?_ | refine branch_f' (decide_eq_false (by omega)) ?_)
  refine loop_inv (keep 55 [0, 4, 5, 6, 7, 8, 9, 23, 24]) (fun s : RsSt => slots 55 [(0, .int .i64 p), (4, .int .i64 0), (5, .int .i64 0), (6, .int .i64 0), (7, .fn (.func 46) [] []), (8, .int .i64 (bnd p s.i).1), (9, .int .i64 (bnd p s.i).2), (23, .int .i64 n), (24, .int .i64 s.i)])
    (fun _ => []) (fun s => s.i ≤ n) (fun s => n - s.i) ⟨0⟩ (Nat.zero_le _) rfl rfl ?_
  rintro ⟨i⟩ hi
  simp only at hi
  obtain ⟨h1, h2, h3, h4⟩ := bnd_b hp.1 i
  have ht := topM_b (n := i) (by omega)
  have u1 := up_b (k := 2 * p + 1) h1 (by omega)
  have u2 := up_b (k := p) h3 (by omega)
  have u3 := up_b (x := (bnd p i).1 + ((bnd p i).1 + upV (bnd p i).1 (2 * p + 1) + upV (bnd p i).2 p + 2) + 1) (k := p + 1) (by omega) (by omega)
  have e1 := ep1 hp.2
  have e2 := ep2 hp.2
  have e3 : IntKind.i64.wrap ((i : Int) + 1) = ((i + 1 : Nat) : Int) := by rw [wi (by omega) (by omega)]; rfl
  have x1 : IntKind.i64.wrap ((bnd p i).1 + upV (bnd p i).1 (2 * p + 1)) = (bnd p i).1 + upV (bnd p i).1 (2 * p + 1) := wi (by omega) (by omega)
  have x2 : IntKind.i64.wrap ((bnd p i).1 + upV (bnd p i).1 (2 * p + 1) + upV (bnd p i).2 p) = (bnd p i).1 + upV (bnd p i).1 (2 * p + 1) + upV (bnd p i).2 p := wi (by omega) (by omega)
  have x3 : IntKind.i64.wrap ((bnd p i).1 + upV (bnd p i).1 (2 * p + 1) + upV (bnd p i).2 p + 2) = (bnd p i).1 + upV (bnd p i).1 (2 * p + 1) + upV (bnd p i).2 p + 2 := wi (by omega) (by omega)
  have y1 : IntKind.i64.wrap ((bnd p i).1 + ((bnd p i).1 + upV (bnd p i).1 (2 * p + 1) + upV (bnd p i).2 p + 2)) = (bnd p i).1 + ((bnd p i).1 + upV (bnd p i).1 (2 * p + 1) + upV (bnd p i).2 p + 2) := wi (by omega) (by omega)
  have y2 : IntKind.i64.wrap ((bnd p i).1 + ((bnd p i).1 + upV (bnd p i).1 (2 * p + 1) + upV (bnd p i).2 p + 2) + 1) = (bnd p i).1 + ((bnd p i).1 + upV (bnd p i).1 (2 * p + 1) + upV (bnd p i).2 p + 2) + 1 := wi (by omega) (by omega)
  apply branch_intro <;> intro h <;> simp at h
  · refine callT_E (by rw [e2]; exact up_c (x := (bnd p i).1) h1 (by omega) (by omega)) rfl ?_
    refine callT_E (up_c (x := (bnd p i).2) h3 (by omega) (by omega)) rfl ?_
    refine callT_E (by rw [x1, x2, x3, y1, y2, e1]; exact up_c (x := (bnd p i).1 + ((bnd p i).1 + upV (bnd p i).1 (2 * p + 1) + upV (bnd p i).2 p + 2) + 1) (by omega) (by omega) (by omega)) rfl ?_
    refine ⟨⟨i + 1⟩, h, by simp only; omega, ?_, rfl⟩
    show [_, _, _, _, _, _, _, _, _, _, _, _, _, _, _, _, _, _, _, _, _, _, _, _, _, _, _, _, _, _, _, _, _, _, _, _, _, _, _, _, _, _, _, _, _, _, _, _, _, _, _, _, _, _, _] = _
    rw [x1, x2, x3, e3, wi (x := upV _ (p + 1) + 1) (by omega) (by omega), wi (x := (bnd p i).2 + _) (by omega) (by omega)]
    rfl
  · have : i = n := by omega
    subst this
    show Eqv _ _
    exact .up (.up (.refl _))
set_option maxHeartbeats 1000000 in
theorem rbound_c {p n : Nat} (hp : 4 ≤ p ∧ p ≤ 14) (hn : n ≤ 100) : callP Try.prog 20 [.int .i64 p, .int .i64 n] (· = .tuple [.int .i64 (bnd p n).1, .int .i64 (bnd p n).2]) := by
  refine callE_def env (fn := Try.f20) rfl (by decide) rfl ?_
  refine loop_inv (keep 40 [0, 1, 4, 5, 6, 7, 8]) (fun s : RsSt => slots 40 [(0, .int .i64 p), (1, .int .i64 n), (4, .int .i64 0), (5, .int .i64 0), (6, .int .i64 (bnd p s.i).1), (7, .int .i64 (bnd p s.i).2), (8, .int .i64 s.i)])
    (fun _ => []) (fun s => s.i ≤ n) (fun s => n - s.i) ⟨0⟩ (Nat.zero_le _) rfl rfl ?_
  rintro ⟨i⟩ hi
  simp only at hi
  obtain ⟨h1, h2, h3, h4⟩ := bnd_b hp.1 i
  have ht := topM_b (n := i) (by omega)
  have u1 := up_b (k := 2 * p + 1) h1 (by omega)
  have u2 := up_b (k := p) h3 (by omega)
  have u3 := up_b (x := (bnd p i).1 + ((bnd p i).1 + upV (bnd p i).1 (2 * p + 1) + upV (bnd p i).2 p + 2) + 1) (k := p + 1) (by omega) (by omega)
  have e1 := ep1 hp.2
  have e2 := ep2 hp.2
  have e3 : IntKind.i64.wrap ((i : Int) + 1) = ((i + 1 : Nat) : Int) := by rw [wi (by omega) (by omega)]; rfl
  have x1 : IntKind.i64.wrap ((bnd p i).1 + upV (bnd p i).1 (2 * p + 1)) = (bnd p i).1 + upV (bnd p i).1 (2 * p + 1) := wi (by omega) (by omega)
  have x2 : IntKind.i64.wrap ((bnd p i).1 + upV (bnd p i).1 (2 * p + 1) + upV (bnd p i).2 p) = (bnd p i).1 + upV (bnd p i).1 (2 * p + 1) + upV (bnd p i).2 p := wi (by omega) (by omega)
  have x3 : IntKind.i64.wrap ((bnd p i).1 + upV (bnd p i).1 (2 * p + 1) + upV (bnd p i).2 p + 2) = (bnd p i).1 + upV (bnd p i).1 (2 * p + 1) + upV (bnd p i).2 p + 2 := wi (by omega) (by omega)
  have y1 : IntKind.i64.wrap ((bnd p i).1 + ((bnd p i).1 + upV (bnd p i).1 (2 * p + 1) + upV (bnd p i).2 p + 2)) = (bnd p i).1 + ((bnd p i).1 + upV (bnd p i).1 (2 * p + 1) + upV (bnd p i).2 p + 2) := wi (by omega) (by omega)
  have y2 : IntKind.i64.wrap ((bnd p i).1 + ((bnd p i).1 + upV (bnd p i).1 (2 * p + 1) + upV (bnd p i).2 p + 2) + 1) = (bnd p i).1 + ((bnd p i).1 + upV (bnd p i).1 (2 * p + 1) + upV (bnd p i).2 p + 2) + 1 := wi (by omega) (by omega)
  apply branch_intro <;> intro h <;> simp at h
  · refine callT_E (by rw [e2]; exact rup_c (x := (bnd p i).1) h1 (by omega) (by omega)) rfl ?_
    refine callT_E (rup_c (x := (bnd p i).2) h3 (by omega) (by omega)) rfl ?_
    refine callT_E (by rw [x1, x2, x3, y1, y2, e1]; exact rup_c (x := (bnd p i).1 + ((bnd p i).1 + upV (bnd p i).1 (2 * p + 1) + upV (bnd p i).2 p + 2) + 1) (by omega) (by omega) (by omega)) rfl ?_
    refine ⟨⟨i + 1⟩, h, by simp only; omega, ?_, rfl⟩
    show [_, _, _, _, _, _, _, _, _, _, _, _, _, _, _, _, _, _, _, _, _, _, _, _, _, _, _, _, _, _, _, _, _, _, _, _, _, _, _, _] = _
    rw [x1, x2, x3, e3, wi (x := (bnd p i).2 + _) (by omega) (by omega), wi (x := (bnd p i).2 + _ + 1) (by omega) (by omega), Int.add_assoc (bnd p i).2]
    rfl
  · have : i = n := by omega
    subst this
    show Eqv _ _
    exact .up (.up (.refl _))
end Go.Proofs
/-! Ii. -/
namespace Go.Proofs
open Go.E
set_option maxRecDepth 8000

def of3 (x y z : Int) (i : Nat) : Int := match i with
  | 0 => x
  | 1 => y
  | _ => z
theorem ofV_c {x y z : Int} (hx : Fit x) (hy : Fit y) (hz : Fit z) : callP Try.prog 30 [.int .i64 x, .int .i64 y, .int .i64 z] (· = vecA (dv (of3 x y z))) := by
  refine callE_def env (fn := Try.f30) rfl (by decide) rfl ?_
  refine callT_E (rdouble_c hx) rfl ?_
  refine callT_E (rdouble_c hy) rfl ?_
  refine callT_E (rdouble_c hz) rfl ?_
  show Eqv _ _
  exact .up (.up (.refl _))
theorem of3_fit {x y z : Int} (hx : Fit x) (hy : Fit y) (hz : Fit z) : FV (of3 x y z) := fun i hi => by
  match i, hi with
  | 0, _ => exact hx
  | 1, _ => exact hy
  | 2, _ => exact hz
theorem fit_lit {x : Int} (h : (decide (-268435455 ≤ x) && decide (x ≤ 268435455)) = true) : Fit x := by
  simp at h
  exact h
theorem w_zero : W16 0 := by unfold W16; omega
set_option maxHeartbeats 2000000 in
theorem lives_c : callP Try.prog 12 [] (· = .bool true) := by
  refine callE_def env (fn := Try.f12) rfl (by decide) rfl ?_
  have fa : FV (of3 0 0 (-134217728)) := of3_fit (fit_lit rfl) (fit_lit rfl) (fit_lit rfl)
  have fb : FV (of3 134217728 0 0) := of3_fit (fit_lit rfl) (fit_lit rfl) (fit_lit rfl)
  refine callT_E (ofV_c (fit_lit rfl) (fit_lit rfl) (fit_lit rfl)) rfl ?_
  refine callT_E (step_c (g := dv (of3 0 0 (-134217728))) (r := zeroV) (v := zeroV) (d := zeroV) (k0 := 0) (k1 := 0) (p := 4) (dv_w fa) zero_w zero_w zero_w w_zero w_zero (by decide +kernel)) rfl ?_
  refine callT_E (ofV_c (fit_lit rfl) (fit_lit rfl) (fit_lit rfl)) rfl ?_
  refine callT_E (step_c (g := zeroV) (r := zeroV) (v := dv (of3 134217728 0 0)) (d := zeroV) (k0 := 0) (k1 := 0) (p := 4) zero_w zero_w (dv_w fb) zero_w w_zero w_zero (by decide +kernel)) rfl ?_
  refine callT_E (bound_c (p := 4) (n := 2) (by decide) (by decide)) rfl ?_
  refine callT_E (step_bad (g := zeroV) (r := zeroV) (v := zeroV) (d := zeroV) (k0 := 0) (k1 := 0) (p := 3) w_zero w_zero (by decide +kernel)) rfl ?_
  refine draw_tree (picks [0, 1, 2, 3, 4, 5, 6, 7, 8, 9, 10, 11, 12, 13, 14, 15, 16, 17, 18, 19, 20, 21, 22, 23, 24, 25, 26, 27, 28, 29, 30, 31, 32, 33, 34, 35, 36, 37, 38, 39, 40, 41, 42, 43, 44] .done) (by decide +kernel) ?_
  repeat (first | refine branch_t' (by decide +kernel) ?_ | refine branch_f' (by decide +kernel) ?_)
  refine ⟨_, ⟨ofV_c (fit_lit rfl) (fit_lit rfl) (fit_lit rfl), rfl⟩, ?_⟩
  repeat (first | refine branch_t' (by decide +kernel) ?_ | refine branch_f' (by decide +kernel) ?_)
  refine ⟨_, ⟨ofV_c (fit_lit rfl) (fit_lit rfl) (fit_lit rfl), rfl⟩, ?_⟩
  repeat (first | refine branch_t' (by decide +kernel) ?_ | refine branch_f' (by decide +kernel) ?_)
  refine ⟨_, ⟨ofV_c (fit_lit rfl) (fit_lit rfl) (fit_lit rfl), rfl⟩, ?_⟩
  repeat (first | refine branch_t' (by decide +kernel) ?_ | refine branch_f' (by decide +kernel) ?_)
  refine ⟨_, ⟨ofV_c (fit_lit rfl) (fit_lit rfl) (fit_lit rfl), rfl⟩, ?_⟩
  repeat (first | refine branch_t' (by decide +kernel) ?_ | refine branch_f' (by decide +kernel) ?_)
  show Eqv _ _
  exact .up (.up (.refl _))
end Go.Proofs
/-! Ik. -/
namespace Go.Proofs
open Go.E
set_option maxRecDepth 8000

abbrev kG : List IntKind := [.u16, .u16, .u16, .u16, .u16, .u16, .u16, .u16, .i64]
abbrev kS : List IntKind := [.u16, .u16, .u16, .u16, .u16, .u16, .u16, .u16, .u16, .u16, .u16, .u16]
abbrev kV : List IntKind := [.u16, .u16, .u16, .u16, .u16, .u16]
theorem g_w {m : Nat → Int} (h : HasL kG m) : WV m ∧ W16 (m 6) ∧ W16 (m 7) ∧ (-9223372036854775808 ≤ m 8 ∧ m 8 ≤ 9223372036854775807) :=
  ⟨fun j hj => by
    match j, hj with
    | 0, _ => exact has_u16 (h 0 (by decide))
    | 1, _ => exact has_u16 (h 1 (by decide))
    | 2, _ => exact has_u16 (h 2 (by decide))
    | 3, _ => exact has_u16 (h 3 (by decide))
    | 4, _ => exact has_u16 (h 4 (by decide))
    | 5, _ => exact has_u16 (h 5 (by decide)), has_u16 (h 6 (by decide)), has_u16 (h 7 (by decide)), has_i64 (h 8 (by decide))⟩
abbrev hiV (s : Nat → Int) (i : Nat) : Int := s (i + 6)
theorem s_w {s : Nat → Int} (h : HasL kS s) : WV s ∧ WV (hiV s) :=
  ⟨fun j hj => by
    match j, hj with
    | 0, _ => exact has_u16 (h 0 (by decide))
    | 1, _ => exact has_u16 (h 1 (by decide))
    | 2, _ => exact has_u16 (h 2 (by decide))
    | 3, _ => exact has_u16 (h 3 (by decide))
    | 4, _ => exact has_u16 (h 4 (by decide))
    | 5, _ => exact has_u16 (h 5 (by decide)), fun j hj => by
    match j, hj with
    | 0, _ => exact has_u16 (h 6 (by decide))
    | 1, _ => exact has_u16 (h 7 (by decide))
    | 2, _ => exact has_u16 (h 8 (by decide))
    | 3, _ => exact has_u16 (h 9 (by decide))
    | 4, _ => exact has_u16 (h 10 (by decide))
    | 5, _ => exact has_u16 (h 11 (by decide))⟩
theorem v_w {s : Nat → Int} (h : HasL kV s) : WV s := fun j hj => by
    match j, hj with
    | 0, _ => exact has_u16 (h 0 (by decide))
    | 1, _ => exact has_u16 (h 1 (by decide))
    | 2, _ => exact has_u16 (h 2 (by decide))
    | 3, _ => exact has_u16 (h 3 (by decide))
    | 4, _ => exact has_u16 (h 4 (by decide))
    | 5, _ => exact has_u16 (h 5 (by decide))

set_option maxHeartbeats 2000000 in
theorem steps_law (m : Nat → Int) (hm : HasL kG m) (s : Nat → Int) (hs : HasL kS s) (d : Nat → Int) (hd : HasL kV d) : callP Try.prog 3 [.agg (aggL m kG 0), .agg (aggL s kS 0), .agg (aggL d kV 0)] (· = .bool true) := by
  obtain ⟨wm, w6, w7, w8⟩ := g_w hm
  obtain ⟨wr, wv⟩ := s_w hs
  have wd := v_w hd
  show callP Try.prog 3 [gravA m (m 6) (m 7) (m 8), stateA s (hiV s), vecA d] (· = .bool true)
  refine callE_def env (fn := Try.f3) rfl (by decide) rfl ?_
  refine callT_E lives_c rfl ?_
  repeat (first | refine branch_true ?_ | refine branch_false ?_ | refine branch_f' (bne_self_eq_false _) ?_ | refine branch_t' (beq_self_eq_true _) ?_ | refine branch_t' (decide_eq_true rfl) ?_)
  refine callT_E (field_c (p := m 8) wm wr w6 w7) rfl ?_
  refine callT_E (rfield_c (p := m 8) wm wr w6 w7) rfl ?_
  by_cases hv : validB (m 6) (m 7) (m 8) = true
  · obtain ⟨p, hp⟩ : ∃ p : Nat, m 8 = p := ⟨(m 8).toNat, by
      unfold validB at hv; simp at hv; omega⟩
    rw [hp] at hv ⊢
    refine callT_E (step_c wm wr wv wd w6 w7 hv) rfl ?_
    refine draw_tree (picks [0, 1, 2, 3, 4, 5, 6, 7, 8, 9, 10, 11, 12, 13, 14] .done) (by decide +kernel) ?_
    repeat (first | refine branch_true ?_ | refine branch_false ?_ | (refine branch_f' ?_ ?_; focus (simp; done)) | (refine branch_t' ?_ ?_; focus (simp; done)))
    refine ⟨_, ⟨valid_c w6 w7, rfl⟩, ?_⟩
    repeat (first | refine branch_true ?_ | refine branch_false ?_ | (refine branch_f' ?_ ?_; focus (simp; done)) | (refine branch_t' ?_ ?_; focus (simp; done)))
    refine ⟨_, ⟨rvalid_c w6 w7, rfl⟩, ?_⟩
    repeat (first | refine branch_true ?_ | refine branch_false ?_ | (refine branch_f' ?_ ?_; focus (simp; done)) | (refine branch_t' ?_ ?_; focus (simp; done)))
    refine callT_E (rvalid_c w6 w7) rfl ?_
    refine branch_f' (by rw [hv]; rfl) ?_
    refine callT_E (rstep_c wm wr wv wd w6 w7 (by unfold validB at hv; simp at hv; omega) (by unfold validB at hv; simp at hv; omega)) rfl ?_
    repeat (first | refine branch_true ?_ | refine branch_false ?_ | (refine branch_f' ?_ ?_; focus (simp; done)) | (refine branch_t' ?_ ?_; focus (simp; done)))
    show Eqv _ _
    simp only [beq_self_eq_true]
    show Eqv _ _
    exact .up (.up (.refl _))
  · have hv := Bool.eq_false_iff.2 hv
    refine callT_E (step_bad w6 w7 hv) rfl ?_
    refine draw_tree (picks [0, 1, 2, 3, 4, 5, 6, 7, 8, 9, 10, 11, 12, 13, 14] .done) (by decide +kernel) ?_
    repeat (first | refine branch_true ?_ | refine branch_false ?_ | (refine branch_f' ?_ ?_; focus (simp; done)) | (refine branch_t' ?_ ?_; focus (simp; done)))
    refine ⟨_, ⟨valid_c w6 w7, rfl⟩, ?_⟩
    repeat (first | refine branch_true ?_ | refine branch_false ?_ | (refine branch_f' ?_ ?_; focus (simp; done)) | (refine branch_t' ?_ ?_; focus (simp; done)))
    refine ⟨_, ⟨rvalid_c w6 w7, rfl⟩, ?_⟩
    repeat (first | refine branch_true ?_ | refine branch_false ?_ | (refine branch_f' ?_ ?_; focus (simp; done)) | (refine branch_t' ?_ ?_; focus (simp; done)))
    refine callT_E (rvalid_c w6 w7) rfl ?_
    refine branch_t' (by rw [hv]; rfl) ?_
    repeat (first | refine branch_true ?_ | refine branch_false ?_ | (refine branch_f' ?_ ?_; focus (simp; done)) | (refine branch_t' ?_ ?_; focus (simp; done)))
    show Eqv _ _
    exact .up (.up (.refl _))
end Go.Proofs
/-! Il. -/
namespace Go.Proofs
open Go.E
set_option maxRecDepth 8000

/-- A list of vectors. -/
abbrev vecs (n : Nat) (D : Nat → Nat → Int) : AVal := .ro 6 n (fun i => [.int .u16 (D i 0), .int .u16 (D i 1), .int .u16 (D i 2), .int .u16 (D i 3), .int .u16 (D i 4), .int .u16 (D i 5)])
def runT (g : Nat → Int) (k : Int) (p : Nat) (D : Nat → Nat → Int) (r v : Nat → Int) : Nat → (Nat → Int) × (Nat → Int) × Bool
  | 0 => (dv (cv r), dv (cv v), false)
  | n + 1 => (dv (stepR g (runT g k p D r v n).1 (runT g k p D r v n).2.1 (D n) k p), dv (stepV g (runT g k p D r v n).1 (runT g k p D r v n).2.1 (D n) k p),
      (runT g k p D r v n).2.2 || stepO g (runT g k p D r v n).1 (runT g k p D r v n).2.1 (D n) k p)
theorem runT_w (g : Nat → Int) (k : Int) (p : Nat) (D : Nat → Nat → Int) (r v : Nat → Int) : ∀ n, WV (runT g k p D r v n).1 ∧ WV (runT g k p D r v n).2.1
  | 0 => ⟨dv_w (cv_fit r), dv_w (cv_fit v)⟩
  | _ + 1 => ⟨dv_w (stepR_fit _ _ _ _ _ _), dv_w (stepV_fit _ _ _ _ _ _)⟩
def cn (r : Nat → Int) (i j : Nat) : Int := match Nat.blt j (2 * i) with | true => dv (cv r) j | false => r j
abbrev scells (r v : Nat → Int) : List AVal := [.int .u16 (r 0), .int .u16 (r 1), .int .u16 (r 2), .int .u16 (r 3), .int .u16 (r 4), .int .u16 (r 5), .int .u16 (v 0), .int .u16 (v 1), .int .u16 (v 2), .int .u16 (v 3), .int .u16 (v 4), .int .u16 (v 5)]
abbrev gcells (g : Nat → Int) (k0 k1 p : Int) : List AVal := [.int .u16 (g 0), .int .u16 (g 1), .int .u16 (g 2), .int .u16 (g 3), .int .u16 (g 4), .int .u16 (g 5), .int .u16 k0, .int .u16 k1, .int .i64 p]
def zV (_ : Nat) : Int := 0
theorem run_bad {g r v : Nat → Int} {k0 k1 p : Int} {n : Nat} {D : Nat → Nat → Int} (h0 : W16 k0) (h1 : W16 k1) (hv : validB k0 k1 p = false) :
    callP Try.prog 21 [gravA g k0 k1 p, stateA r v, vecs n D] (· = .tuple [stateA zV zV, .bool false, .int .i64 2]) := by
  refine callE_def env (fn := Try.f21) rfl (by decide) rfl ?_
  have c := valid_c (g := g) (p := p) h0 h1
  rw [hv] at c
  refine callT_E c rfl ?_
  repeat (first | refine branch_true ?_ | refine branch_false ?_ | refine branch_f' (bne_self_eq_false _) ?_ | refine branch_t' (beq_self_eq_true _) ?_ | refine branch_t' (decide_eq_true rfl) ?_)
  show Eqv _ _
  exact .up (.up (.refl _))
theorem run_over {g r v : Nat → Int} {k0 k1 p : Int} {n : Nat} {D : Nat → Nat → Int} (h0 : W16 k0) (h1 : W16 k1) (hv : validB k0 k1 p = true) (hn : 100 < n) :
    callP Try.prog 21 [gravA g k0 k1 p, stateA r v, vecs n D] (· = .tuple [stateA zV zV, .bool false, .int .i64 4]) := by
  refine callE_def env (fn := Try.f21) rfl (by decide) rfl ?_
  have c := valid_c (g := g) (p := p) h0 h1
  rw [hv] at c
  refine callT_E c rfl ?_
  repeat (first | refine branch_true ?_ | refine branch_false ?_ | refine branch_f' (bne_self_eq_false _) ?_ | refine branch_t' (beq_self_eq_true _) ?_ | refine branch_t' (decide_eq_true rfl) ?_)
  repeat (first | refine branch_true ?_ | refine branch_false ?_ | refine branch_t' (decide_eq_true (by omega)) ?_ | refine branch_f' (decide_eq_false (by omega)) ?_)
  show Eqv _ _
  exact .up (.up (.refl _))
set_option maxHeartbeats 2000000 in
theorem run_c {g r v : Nat → Int} {k0 k1 : Int} {p n : Nat} {D : Nat → Nat → Int} (hg : WV g) (hr : WV r) (hw : WV v) (hD : ∀ i, i < n → WV (D i)) (h0 : W16 k0) (h1 : W16 k1) (hv : validB k0 k1 p = true) (hn : n ≤ 100) :
    callP Try.prog 21 [gravA g k0 k1 p, stateA r v, vecs n D] (· = .tuple [stateA (runT g (valD k0 k1) p D r v n).1 (runT g (valD k0 k1) p D r v n).2.1, .bool (runT g (valD k0 k1) p D r v n).2.2, .int .i64 0]) := by
  refine callE_def env (fn := Try.f21) rfl (by decide) rfl ?_
  have c := valid_c (g := g) (p := p) h0 h1
  rw [hv] at c
  refine callT_E c rfl ?_
  repeat (first | refine branch_true ?_ | refine branch_false ?_ | refine branch_f' (bne_self_eq_false _) ?_ | refine branch_t' (beq_self_eq_true _) ?_ | refine branch_t' (decide_eq_true rfl) ?_)
  repeat (first | refine branch_true ?_ | refine branch_false ?_ | refine branch_t' (decide_eq_true (by omega)) ?_ | refine branch_f' (decide_eq_false (by omega)) ?_)
  refine loop_weak (fun i : Nat => slots 66 [(2, vecs n D), (3, .ptr ⟨0, 0, 0⟩), (4, .ptr ⟨1, 0, 0⟩), (6, .ptr ⟨2, 0, 0⟩), (7, .bool false), (8, .int .i64 0), (24, .int .i64 i)])
    (fun i => [.cells (gcells g k0 k1 p), .cells (scells (cn r i) (cn v i)), .cells (scells zV zV)])
    (fun i => i ≤ 3) (fun i => 3 - i) 0 (Nat.zero_le _) (weak_keep (keep 66 [2, 3, 4, 6, 7, 8, 24]) [0, 1, 2] rfl rfl rfl) ?_
  intro i hi
  match i, hi with
  | 0, _ =>
    refine branch_true ?_
    refine draw_tree (picks [0, 1, 2, 3, 4, 5, 6, 7, 8, 9, 10, 11, 12, 13, 14, 15, 16, 17] .done) (by decide +kernel) ?_
    repeat (refine need_intro (by decide) ?_)
    refine ⟨_, ⟨canon_c (hr 0 (by decide)) (hr 1 (by decide)), rfl⟩, ?_⟩
    repeat (refine need_intro (by decide) ?_)
    refine ⟨_, ⟨canon_c (hw 0 (by decide)) (hw 1 (by decide)), rfl⟩, ?_⟩
    repeat (refine need_intro (by decide) ?_)
    exact ⟨1, by decide, by decide, weak_keep (keep 66 [2, 3, 4, 6, 7, 8, 24]) [0, 1, 2] rfl rfl rfl⟩
  | 1, _ =>
    refine branch_true ?_
    refine draw_tree (picks [0, 1, 2, 3, 4, 5, 6, 7, 8, 9, 10, 11, 12, 13, 14, 15, 16, 17] .done) (by decide +kernel) ?_
    repeat (refine need_intro (by decide) ?_)
    refine ⟨_, ⟨canon_c (hr 2 (by decide)) (hr 3 (by decide)), rfl⟩, ?_⟩
    repeat (refine need_intro (by decide) ?_)
    refine ⟨_, ⟨canon_c (hw 2 (by decide)) (hw 3 (by decide)), rfl⟩, ?_⟩
    repeat (refine need_intro (by decide) ?_)
    exact ⟨2, by decide, by decide, weak_keep (keep 66 [2, 3, 4, 6, 7, 8, 24]) [0, 1, 2] rfl rfl rfl⟩
  | 2, _ =>
    refine branch_true ?_
    refine draw_tree (picks [0, 1, 2, 3, 4, 5, 6, 7, 8, 9, 10, 11, 12, 13, 14, 15, 16, 17] .done) (by decide +kernel) ?_
    repeat (refine need_intro (by decide) ?_)
    refine ⟨_, ⟨canon_c (hr 4 (by decide)) (hr 5 (by decide)), rfl⟩, ?_⟩
    repeat (refine need_intro (by decide) ?_)
    refine ⟨_, ⟨canon_c (hw 4 (by decide)) (hw 5 (by decide)), rfl⟩, ?_⟩
    repeat (refine need_intro (by decide) ?_)
    exact ⟨3, by decide, by decide, weak_keep (keep 66 [2, 3, 4, 6, 7, 8, 24]) [0, 1, 2] rfl rfl rfl⟩
  | 3, _ =>
    refine branch_false ?_
    refine loop_weak (fun i : Nat => slots 66 [(3, .ptr ⟨0, 0, 0⟩), (4, .ptr ⟨1, 0, 0⟩), (6, .ptr ⟨2, 0, 0⟩), (7, .bool false), (8, .int .i64 0), (10, .bool (runT g (valD k0 k1) p D r v i).2.2), (44, vecs n D), (45, .int .i64 n), (46, .int .i64 i)])
      (fun i => [.cells (gcells g k0 k1 p), .cells (scells (runT g (valD k0 k1) p D r v i).1 (runT g (valD k0 k1) p D r v i).2.1), .cells (scells zV zV)])
      (fun i => i ≤ n) (fun i => n - i) 0 (Nat.zero_le _) (weak_keep (keep 66 [3, 4, 6, 7, 8, 10, 44, 45, 46]) [0, 1, 2] rfl rfl rfl) ?_
    intro i hi
    apply branch_intro <;> intro h <;> simp at h
    · apply need_intro
      · omega
      have et : ((i : Int)).toNat = i := Int.toNat_natCast i
      obtain ⟨wr, ww⟩ := runT_w g (valD k0 k1) p D r v i
      have ei : IntKind.i64.wrap ((i : Int) + 1) = ((i + 1 : Nat) : Int) := by rw [wi (by omega) (by omega)]; rfl
      refine callT_E ((congrArg (fun j => callP Try.prog 15 [gravA g k0 k1 p, stateA (runT g (valD k0 k1) p D r v i).1 (runT g (valD k0 k1) p D r v i).2.1, vecA (D j)] (· = _)) et).mpr (step_c hg wr ww (hD i h) h0 h1 hv)) rfl ?_
      apply branch_intro <;> intro hb
      · repeat (first | refine branch_true ?_ | refine branch_false ?_ | refine branch_f' (bne_self_eq_false _) ?_ | refine branch_t' (beq_self_eq_true _) ?_ | refine branch_t' (decide_eq_true rfl) ?_)
        refine ⟨i + 1, h, by omega, weak_keep (keep 66 [3, 4, 6, 7, 8, 10, 44, 45, 46]) [0, 1, 2] rfl ?_ rfl⟩
        show [_, _, _, _, _, _, _, _, _, _, _, _, _, _, _, _, _, _, _, _, _, _, _, _, _, _, _, _, _, _, _, _, _, _, _, _, _, _, _, _, _, _, _, _, _, _, _, _, _, _, _, _, _, _, _, _, _, _, _, _, _, _, _, _, _, _] = _
        have : (runT g (valD k0 k1) p D r v (i + 1)).2.2 = true := by show (_ || _) = true; rw [hb]; rfl
        rw [ei, this]
        rfl
      · repeat (first | refine branch_true ?_ | refine branch_false ?_ | refine branch_f' (bne_self_eq_false _) ?_ | refine branch_t' (beq_self_eq_true _) ?_ | refine branch_t' (decide_eq_true rfl) ?_)
        refine ⟨i + 1, h, by omega, weak_keep (keep 66 [3, 4, 6, 7, 8, 10, 44, 45, 46]) [0, 1, 2] rfl ?_ rfl⟩
        show [_, _, _, _, _, _, _, _, _, _, _, _, _, _, _, _, _, _, _, _, _, _, _, _, _, _, _, _, _, _, _, _, _, _, _, _, _, _, _, _, _, _, _, _, _, _, _, _, _, _, _, _, _, _, _, _, _, _, _, _, _, _, _, _, _, _] = _
        have : (runT g (valD k0 k1) p D r v (i + 1)).2.2 = stepO g (runT g (valD k0 k1) p D r v i).1 (runT g (valD k0 k1) p D r v i).2.1 (D i) (valD k0 k1) p := by show (_ || _) = _; rw [hb]; rfl
        rw [ei, this]
        rfl
    · have : i = n := by omega
      subst this
      show Eqv _ _
      exact .up (.up (.refl _))
end Go.Proofs
/-! Im. -/
namespace Go.Proofs
open Go.E
set_option maxRecDepth 8000

theorem cv_zero (i : Nat) : cv zeroV i = 0 := rfl
theorem add_zero (r : Nat → Int) : dv (addF r zeroV) = dv (cv r) := dv_congr fun i hi => by
  show clampV (cv r i + cv zeroV i) = _
  rw [cv_zero, Int.add_zero, clamp_id (cv_fit r i hi)]
theorem rcanon_c {r v : Nat → Int} (hr : WV r) (hw : WV v) : callP Try.prog 49 [stateA r v] (· = stateA (dv (cv r)) (dv (cv v))) := by
  rw [← add_zero r, ← add_zero v]
  refine callE_def env (fn := Try.f49) rfl (by decide) rfl ?_
  refine callT_E (rsum_c (b := zeroV) hr zero_w) rfl ?_
  refine callT_E (rsum_c (b := zeroV) hw zero_w) rfl ?_
  show Eqv _ _
  exact .up (.up (.refl _))
set_option maxHeartbeats 2000000 in
theorem rrun_c {g r v : Nat → Int} {k0 k1 : Int} {p n : Nat} {D : Nat → Nat → Int} (hg : WV g) (hr : WV r) (hw : WV v) (hD : ∀ i, i < n → WV (D i)) (h0 : W16 k0) (h1 : W16 k1) (hp : 0 < p) (hp' : p ≤ 14) (hn : n ≤ 100) :
    callP Try.prog 22 [gravA g k0 k1 p, stateA r v, vecs n D] (· = .tuple [stateA (runT g (valD k0 k1) p D r v n).1 (runT g (valD k0 k1) p D r v n).2.1, .bool (runT g (valD k0 k1) p D r v n).2.2]) := by
  refine callE_def env (fn := Try.f22) rfl (by decide) rfl ?_
  refine callT_E (rcanon_c hr hw) rfl ?_
  refine loop_weak (fun i : Nat => slots 38 [(2, vecs n D), (3, .ptr ⟨0, 0, 0⟩), (6, .ptr ⟨1, 0, 0⟩), (7, .bool false), (8, .ptr ⟨2, 0, 0⟩), (9, .bool (runT g (valD k0 k1) p D r v i).2.2), (10, .int .i64 i)])
    (fun i => [.cells (gcells g k0 k1 p), .cells (scells zV zV), .cells (scells (runT g (valD k0 k1) p D r v i).1 (runT g (valD k0 k1) p D r v i).2.1)])
    (fun i => i ≤ n) (fun i => n - i) 0 (Nat.zero_le _) (weak_keep (keep 38 [2, 3, 6, 7, 8, 9, 10]) [0, 2, 3] rfl rfl rfl) ?_
  intro i hi
  apply branch_intro <;> intro h <;> simp at h
  · have et : ((i : Int)).toNat = i := Int.toNat_natCast i
    obtain ⟨wr, ww⟩ := runT_w g (valD k0 k1) p D r v i
    have ei : IntKind.i64.wrap ((i : Int) + 1) = ((i + 1 : Nat) : Int) := by rw [wi (by omega) (by omega)]; rfl
    refine draw_tree (picks [0, 1, 2, 3, 4, 5, 6, 7, 8, 9, 10, 11, 12] .done) (by decide +kernel) ?_
    apply need_intro
    · omega
    refine ⟨_, ⟨(congrArg (fun j => callP Try.prog 18 [gravA g k0 k1 p, stateA (runT g (valD k0 k1) p D r v i).1 (runT g (valD k0 k1) p D r v i).2.1, vecA (D j)] (· = _)) et).mpr (rstep_c hg wr ww (hD i h) h0 h1 hp hp'), rfl⟩, ?_⟩
    apply branch_intro <;> intro hb
    · repeat (first | refine branch_true ?_ | refine branch_false ?_ | refine branch_f' (bne_self_eq_false _) ?_ | refine branch_t' (beq_self_eq_true _) ?_ | refine branch_t' (decide_eq_true rfl) ?_)
      refine ⟨i + 1, h, by omega, weak_keep (keep 38 [2, 3, 6, 7, 8, 9, 10]) [0, 1, 2] rfl ?_ rfl⟩
      show [_, _, _, _, _, _, _, _, _, _, _, _, _, _, _, _, _, _, _, _, _, _, _, _, _, _, _, _, _, _, _, _, _, _, _, _, _, _] = _
      have : (runT g (valD k0 k1) p D r v (i + 1)).2.2 = true := by show (_ || _) = true; rw [hb]; rfl
      rw [ei, this]
      rfl
    · repeat (first | refine branch_true ?_ | refine branch_false ?_ | refine branch_f' (bne_self_eq_false _) ?_ | refine branch_t' (beq_self_eq_true _) ?_ | refine branch_t' (decide_eq_true rfl) ?_)
      refine ⟨i + 1, h, by omega, weak_keep (keep 38 [2, 3, 6, 7, 8, 9, 10]) [0, 1, 2] rfl ?_ rfl⟩
      show [_, _, _, _, _, _, _, _, _, _, _, _, _, _, _, _, _, _, _, _, _, _, _, _, _, _, _, _, _, _, _, _, _, _, _, _, _, _] = _
      have : (runT g (valD k0 k1) p D r v (i + 1)).2.2 = stepO g (runT g (valD k0 k1) p D r v i).1 (runT g (valD k0 k1) p D r v i).2.1 (D i) (valD k0 k1) p := by show (_ || _) = _; rw [hb]; rfl
      rw [ei, this]
      rfl
  · have : i = n := by omega
    subst this
    show Eqv _ _
    exact .up (.up (.refl _))
def HasR (n : Nat) (D : Nat → Nat → Int) : Prop := ∀ i, i < n → HasL kV (D i)
theorem nat_valid {k0 k1 p : Int} (hv : validB k0 k1 p = true) : ∃ q : Nat, p = q ∧ 4 ≤ q ∧ q ≤ 14 := ⟨p.toNat, by
  unfold validB at hv; simp at hv; omega⟩
set_option maxHeartbeats 2000000 in
theorem runs_law (m : Nat → Int) (hm : HasL kG m) (s : Nat → Int) (hs : HasL kS s) (n : Nat) (D : Nat → Nat → Int) (hn : n ≤ maxLen) (hD : HasR n D) : callP Try.prog 5 [.agg (aggL m kG 0), .agg (aggL s kS 0), vecs n D] (· = .bool true) := by
  obtain ⟨wm, w6, w7, w8⟩ := g_w hm
  obtain ⟨wr, wv⟩ := s_w hs
  show callP Try.prog 5 [gravA m (m 6) (m 7) (m 8), stateA s (hiV s), vecs n D] (· = .bool true)
  refine callE_def env (fn := Try.f5) rfl (by decide) rfl ?_
  refine callT_E lives_c rfl ?_
  repeat (first | refine branch_true ?_ | refine branch_false ?_ | refine branch_f' (bne_self_eq_false _) ?_ | refine branch_t' (beq_self_eq_true _) ?_ | refine branch_t' (decide_eq_true rfl) ?_)
  apply branch_intro <;> intro h2
  · show Eqv _ _
    exact .up (.up (.refl _))
  have h200 : n ≤ 200 := by simp at h2; omega
  cases hv : validB (m 6) (m 7) (m 8) with
  | false =>
    refine callT_E (run_bad w6 w7 hv) rfl ?_
    refine callT_E (rvalid_c w6 w7) rfl ?_
    refine branch_t' (by rw [hv]; rfl) ?_
    repeat (first | refine branch_true ?_ | refine branch_false ?_ | (refine branch_f' ?_ ?_; focus (simp; done)) | (refine branch_t' ?_ ?_; focus (simp; done)))
    show Eqv _ _
    exact .up (.up (.refl _))
  | true =>
    by_cases h1 : 100 < n
    · refine callT_E (run_over w6 w7 hv h1) rfl ?_
      refine callT_E (rvalid_c w6 w7) rfl ?_
      refine branch_f' (by rw [hv]; rfl) ?_
      repeat (first | refine branch_true ?_ | refine branch_false ?_ | refine branch_t' (decide_eq_true (by omega)) ?_ | refine branch_f' (decide_eq_false (by omega)) ?_)
      repeat (first | refine branch_true ?_ | refine branch_false ?_ | (refine branch_f' ?_ ?_; focus (simp; done)) | (refine branch_t' ?_ ?_; focus (simp; done)))
      show Eqv _ _
      exact .up (.up (.refl _))
    · obtain ⟨p, hp, hp4, hp14⟩ := nat_valid hv
      rw [hp] at hv ⊢
      refine callT_E (run_c wm wr wv (fun i hi => v_w (hD i hi)) w6 w7 hv (by omega)) rfl ?_
      refine callT_E (rvalid_c w6 w7) rfl ?_
      refine branch_f' (by rw [hv]; rfl) ?_
      repeat (first | refine branch_true ?_ | refine branch_false ?_ | refine branch_t' (decide_eq_true (by omega)) ?_ | refine branch_f' (decide_eq_false (by omega)) ?_)
      refine callT_E (rrun_c wm wr wv (fun i hi => v_w (hD i hi)) w6 w7 (by omega) hp14 (by omega)) rfl ?_
      repeat (first | refine branch_true ?_ | refine branch_false ?_ | (refine branch_f' ?_ ?_; focus (simp; done)) | (refine branch_t' ?_ ?_; focus (simp; done)))
      show Eqv _ _
      simp only [beq_self_eq_true]
      show Eqv _ _
      exact .up (.up (.refl _))
end Go.Proofs
