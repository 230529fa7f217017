/- Chapter 33, part e: gravity, sums, steps. -/
import Derived.Test.YtpgeapbmdljllaaC5
set_option linter.unusedVariables false
set_option linter.unusedSimpArgs false
/-! Ie. -/
namespace Go.Proofs
open Go.E
set_option maxRecDepth 8000

abbrev gravA (g : Nat → Int) (k0 k1 p : Int) : AVal := .agg [.int .u16 (g 0), .int .u16 (g 1), .int .u16 (g 2), .int .u16 (g 3), .int .u16 (g 4), .int .u16 (g 5), .int .u16 k0, .int .u16 k1, .int .i64 p]
abbrev stateA (r v : Nat → Int) : AVal := .agg [.int .u16 (r 0), .int .u16 (r 1), .int .u16 (r 2), .int .u16 (r 3), .int .u16 (r 4), .int .u16 (r 5), .int .u16 (v 0), .int .u16 (v 1), .int .u16 (v 2), .int .u16 (v 3), .int .u16 (v 4), .int .u16 (v 5)]
def fieldF (g r : Nat → Int) (k : Int) : Nat → Int := subF g (dv (scaleF r k))
def fieldO (g r : Nat → Int) (k : Int) : Bool := or3 (subO g (dv (scaleF r k)))
theorem field_fit (g r : Nat → Int) (k : Int) : FV (fieldF g r k) := subF_fit _ _
theorem field_c {g r : Nat → Int} {k0 k1 p : Int} (hg : WV g) (hr : WV r) (h0 : W16 k0) (h1 : W16 k1) : callP Try.prog 13 [gravA g k0 k1 p, vecA r] (· = .tuple [vecA (dv (fieldF g r (valD k0 k1))), .bool (fieldO g r (valD k0 k1))]) := by
  refine callE_def env (fn := Try.f13) rfl (by decide) rfl ?_
  refine draw_intro [0, 1, 2, 3, 4, 5, 6, 7, 8, 9, 10] (by decide +kernel) ?_
  refine ⟨_, ⟨vscale_c hr h0 h1, rfl⟩, ?_⟩
  refine ⟨_, ⟨vsub_c hg (dv_w (scaleF_fit r valD_fit)), rfl⟩, ?_⟩
  show Eqv _ _
  exact .up (.up (.refl _))
theorem rfield_c {g r : Nat → Int} {k0 k1 p : Int} (hg : WV g) (hr : WV r) (h0 : W16 k0) (h1 : W16 k1) : callP Try.prog 14 [gravA g k0 k1 p, vecA r] (· = .tuple [vecA (dv (fieldF g r (valD k0 k1))), .bool (fieldO g r (valD k0 k1))]) := by
  refine callE_def env (fn := Try.f14) rfl (by decide) rfl ?_
  refine draw_intro [0, 1, 2, 3, 4, 5, 6, 7, 8, 9, 10] (by decide +kernel) ?_
  refine ⟨_, ⟨rscale_c hr h0 h1, rfl⟩, ?_⟩
  refine ⟨_, ⟨rsub_c hg (dv_w (scaleF_fit r valD_fit)), rfl⟩, ?_⟩
  show Eqv _ _
  exact .up (.up (.refl _))
/-- Sums of four vectors. -/
def sum2 (f x y : Nat → Int) : Nat → Int := addF (dv (addF f x)) y
def sum3 (f x y z : Nat → Int) : Nat → Int := addF (dv (sum2 f x y)) z
def sumO (f x y z : Nat → Int) : Bool := or3 (addO f x) || or3 (addO (dv (addF f x)) y) || or3 (addO (dv (sum2 f x y)) z)
theorem rsum4_c {f x y z : Nat → Int} (hf : WV f) (hx : WV x) (hy : WV y) (hz : WV z) : callP Try.prog 44 [vecA f, vecA x, vecA y, vecA z] (· = .tuple [vecA (dv (sum3 f x y z)), .bool (sumO f x y z)]) := by
  refine callE_def env (fn := Try.f44) rfl (by decide) rfl ?_
  refine callT_E (rsum_c hf hx) rfl ?_
  refine callT_E (rsum_c (dv_w (addF_fit f x)) hy) rfl ?_
  refine callT_E (rsum_c (dv_w (addF_fit _ y)) hz) rfl ?_
  apply branch_intro <;> intro h0
  · repeat (first | refine branch_true ?_ | refine branch_false ?_ | refine branch_f' (bne_self_eq_false _) ?_ | refine branch_t' (beq_self_eq_true _) ?_ | refine branch_t' (decide_eq_true rfl) ?_)
    show Eqv _ _
    refine eqv_of_eq ?_
    show AVal.tuple [_, .bool true] = AVal.tuple [_, .bool (or3 (addO f x) || _ || _)]
    rw [h0]
    rfl
  repeat (first | refine branch_true ?_ | refine branch_false ?_ | refine branch_f' (bne_self_eq_false _) ?_ | refine branch_t' (beq_self_eq_true _) ?_ | refine branch_t' (decide_eq_true rfl) ?_)
  apply branch_intro <;> intro h1
  · repeat (first | refine branch_true ?_ | refine branch_false ?_ | refine branch_f' (bne_self_eq_false _) ?_ | refine branch_t' (beq_self_eq_true _) ?_ | refine branch_t' (decide_eq_true rfl) ?_)
    show Eqv _ _
    refine eqv_of_eq ?_
    show AVal.tuple [_, .bool true] = AVal.tuple [_, .bool (or3 (addO f x) || or3 (addO (dv (addF f x)) y) || _)]
    rw [h0, h1]
    rfl
  · repeat (first | refine branch_true ?_ | refine branch_false ?_ | refine branch_f' (bne_self_eq_false _) ?_ | refine branch_t' (beq_self_eq_true _) ?_ | refine branch_t' (decide_eq_true rfl) ?_)
    show Eqv _ _
    refine eqv_of_eq ?_
    show AVal.tuple [_, .bool _] = AVal.tuple [_, .bool (or3 (addO f x) || or3 (addO (dv (addF f x)) y) || _)]
    rw [h0, h1]
    rfl
theorem less_c {a : Nat → Int} (ha : WV a) {n : Nat} (hn : 0 < n) (hn' : n ≤ 56) : callP Try.prog 39 [vecA a, .int .i64 n] (· = vecA (dv (shiftF a n))) := by
  have e : IntKind.i64.wrap (0 - (n : Int)) = -(n : Int) := by rw [wi (by omega) (by omega)]; omega
  have c := vshift_c ha hn hn'
  rw [← e] at c
  refine callE_def env (fn := Try.f39) rfl (by decide) rfl ?_
  refine callT_E c rfl ?_
  show Eqv _ _
  exact .up (.up (.refl _))
theorem rless_c {a : Nat → Int} (ha : WV a) {n : Nat} (hn : 0 < n) (hn' : n ≤ 56) : callP Try.prog 45 [vecA a, .int .i64 n] (· = vecA (dv (shiftF a n))) := by
  have e : IntKind.i64.wrap (0 - (n : Int)) = -(n : Int) := by rw [wi (by omega) (by omega)]; omega
  have c := rshift_c ha hn hn'
  rw [← e] at c
  refine callE_def env (fn := Try.f45) rfl (by decide) rfl ?_
  refine callT_E c rfl ?_
  show Eqv _ _
  exact .up (.up (.refl _))
def validB (k0 k1 p : Int) : Bool := decide (valD k0 k1 ≥ 0) && decide (p ≥ 4) && decide (p ≤ 14)
theorem valid_c {g : Nat → Int} {k0 k1 p : Int} (h0 : W16 k0) (h1 : W16 k1) : callP Try.prog 16 [gravA g k0 k1 p] (· = .bool (validB k0 k1 p)) := by
  refine callE_def env (fn := Try.f16) rfl (by decide) rfl ?_
  refine callT_E (value_c h0 h1) rfl ?_
  unfold validB
  apply branch_intro <;> intro a
  · repeat (first | refine branch_true ?_ | refine branch_false ?_ | refine branch_f' (bne_self_eq_false _) ?_ | refine branch_t' (beq_self_eq_true _) ?_ | refine branch_t' (decide_eq_true rfl) ?_)
    apply branch_intro <;> intro b
    · repeat (first | refine branch_true ?_ | refine branch_false ?_ | refine branch_f' (bne_self_eq_false _) ?_ | refine branch_t' (beq_self_eq_true _) ?_ | refine branch_t' (decide_eq_true rfl) ?_)
      show Eqv _ _
      rw [a, b]
      show Eqv _ _
      exact .up (.up (.refl _))
    · repeat (first | refine branch_true ?_ | refine branch_false ?_ | refine branch_f' (bne_self_eq_false _) ?_ | refine branch_t' (beq_self_eq_true _) ?_ | refine branch_t' (decide_eq_true rfl) ?_)
      show Eqv _ _
      rw [a, b]
      show Eqv _ _
      exact .up (.up (.refl _))
  · repeat (first | refine branch_true ?_ | refine branch_false ?_ | refine branch_f' (bne_self_eq_false _) ?_ | refine branch_t' (beq_self_eq_true _) ?_ | refine branch_t' (decide_eq_true rfl) ?_)
    show Eqv _ _
    rw [a]
    show Eqv _ _
    exact .up (.up (.refl _))
theorem rvalid_c {g : Nat → Int} {k0 k1 p : Int} (h0 : W16 k0) (h1 : W16 k1) : callP Try.prog 17 [gravA g k0 k1 p] (· = .bool (validB k0 k1 p)) := by
  refine callE_def env (fn := Try.f17) rfl (by decide) rfl ?_
  refine callT_E (rvalue_c h0 h1) rfl ?_
  unfold validB
  apply branch_intro <;> intro a
  · repeat (first | refine branch_true ?_ | refine branch_false ?_ | refine branch_f' (bne_self_eq_false _) ?_ | refine branch_t' (beq_self_eq_true _) ?_ | refine branch_t' (decide_eq_true rfl) ?_)
    apply branch_intro <;> intro b
    · repeat (first | refine branch_true ?_ | refine branch_false ?_ | refine branch_f' (bne_self_eq_false _) ?_ | refine branch_t' (beq_self_eq_true _) ?_ | refine branch_t' (decide_eq_true rfl) ?_)
      show Eqv _ _
      rw [a, b]
      show Eqv _ _
      exact .up (.up (.refl _))
    · repeat (first | refine branch_true ?_ | refine branch_false ?_ | refine branch_f' (bne_self_eq_false _) ?_ | refine branch_t' (beq_self_eq_true _) ?_ | refine branch_t' (decide_eq_true rfl) ?_)
      show Eqv _ _
      rw [a, b]
      show Eqv _ _
      exact .up (.up (.refl _))
  · repeat (first | refine branch_true ?_ | refine branch_false ?_ | refine branch_f' (bne_self_eq_false _) ?_ | refine branch_t' (beq_self_eq_true _) ?_ | refine branch_t' (decide_eq_true rfl) ?_)
    show Eqv _ _
    rw [a]
    show Eqv _ _
    exact .up (.up (.refl _))
end Go.Proofs
/-! If. -/
namespace Go.Proofs
open Go.E
set_option maxRecDepth 8000

abbrev rows3 (x y z : Nat → Int) : List AVal := [.int .u16 (x 0), .int .u16 (x 1), .int .u16 (x 2), .int .u16 (x 3), .int .u16 (x 4), .int .u16 (x 5), .int .u16 (y 0), .int .u16 (y 1), .int .u16 (y 2), .int .u16 (y 3), .int .u16 (y 4), .int .u16 (y 5), .int .u16 (z 0), .int .u16 (z 1), .int .u16 (z 2), .int .u16 (z 3), .int .u16 (z 4), .int .u16 (z 5)]
def ps (f x y z : Nat → Int) (i : Nat) : Nat → Int := match i with
  | 0 => f
  | 1 => dv (addF f x)
  | 2 => dv (sum2 f x y)
  | _ => dv (sum3 f x y z)
def po (f x y z : Nat → Int) (i : Nat) : Bool := match i with
  | 0 => false
  | 1 => or3 (addO f x)
  | 2 => or3 (addO f x) || or3 (addO (dv (addF f x)) y)
  | _ => sumO f x y z
set_option maxHeartbeats 1000000 in
theorem sum_c {f x y z : Nat → Int} (hf : WV f) (hx : WV x) (hy : WV y) (hz : WV z) : callP Try.prog 41 [vecA f, .ro 6 3 (chunk 6 (rows3 x y z))] (· = .tuple [vecA (dv (sum3 f x y z)), .bool (sumO f x y z)]) := by
  refine callE_def env (fn := Try.f41) rfl (by decide) rfl ?_
  refine loop_weak (fun i : Nat => slots 31 [(2, .ptr ⟨0, 0, 0⟩), (4, .ptr ⟨1, 0, 0⟩), (5, .bool false), (6, .bool (po f x y z i)), (11, .ro 6 3 (chunk 6 (rows3 x y z))), (12, .int .i64 3), (13, .int .i64 i)])
    (fun i => [.cells (vcells (ps f x y z i)), .cells [.int .u16 0, .int .u16 0, .int .u16 0, .int .u16 0, .int .u16 0, .int .u16 0]])
    (fun i => i ≤ 3) (fun i => 3 - i) 0 (Nat.zero_le _) (weak_keep (keep 31 [2, 4, 5, 6, 11, 12, 13]) [0, 1] rfl rfl rfl) ?_
  intro i hi
  match i, hi with
  | 0, _ =>
    refine branch_true ?_
    repeat (refine need_intro (by decide) ?_)
    refine callT_E (vadd_c hf hx) rfl ?_
    repeat (first | refine branch_true ?_ | refine branch_false ?_ | refine branch_f' (bne_self_eq_false _) ?_ | refine branch_t' (beq_self_eq_true _) ?_ | refine branch_t' (decide_eq_true rfl) ?_)
    exact ⟨1, by decide, by decide, weak_keep (keep 31 [2, 4, 5, 6, 11, 12, 13]) [0, 1] rfl rfl rfl⟩
  | 1, _ =>
    refine branch_true ?_
    repeat (refine need_intro (by decide) ?_)
    refine callT_E (vadd_c (dv_w (addF_fit f x)) hy) rfl ?_
    apply branch_intro <;> intro hb
    · repeat (first | refine branch_true ?_ | refine branch_false ?_ | refine branch_f' (bne_self_eq_false _) ?_ | refine branch_t' (beq_self_eq_true _) ?_ | refine branch_t' (decide_eq_true rfl) ?_)
      refine ⟨2, by decide, by decide, weak_keep (keep 31 [2, 4, 5, 6, 11, 12, 13]) [0, 1] rfl ?_ rfl⟩
      have : po f x y z 2 = true := by show (po f x y z 1 || _) = true; rw [show po f x y z 1 = true from hb]; rfl
      show _ = slots 31 [(2, _), (4, _), (5, _), (6, .bool (po f x y z 2)), (11, _), (12, _), (13, _)]
      rw [this]
      rfl
    · repeat (first | refine branch_true ?_ | refine branch_false ?_ | refine branch_f' (bne_self_eq_false _) ?_ | refine branch_t' (beq_self_eq_true _) ?_ | refine branch_t' (decide_eq_true rfl) ?_)
      refine ⟨2, by decide, by decide, weak_keep (keep 31 [2, 4, 5, 6, 11, 12, 13]) [0, 1] rfl ?_ rfl⟩
      have : po f x y z 2 = or3 (addO (ps f x y z 1) y) := by show (po f x y z 1 || _) = _; rw [show po f x y z 1 = false from hb]; rfl
      show _ = slots 31 [(2, _), (4, _), (5, _), (6, .bool (po f x y z 2)), (11, _), (12, _), (13, _)]
      rw [this]
      rfl
  | 2, _ =>
    refine branch_true ?_
    repeat (refine need_intro (by decide) ?_)
    refine callT_E (vadd_c (dv_w (addF_fit _ y)) hz) rfl ?_
    apply branch_intro <;> intro hb
    · repeat (first | refine branch_true ?_ | refine branch_false ?_ | refine branch_f' (bne_self_eq_false _) ?_ | refine branch_t' (beq_self_eq_true _) ?_ | refine branch_t' (decide_eq_true rfl) ?_)
      refine ⟨3, by decide, by decide, weak_keep (keep 31 [2, 4, 5, 6, 11, 12, 13]) [0, 1] rfl ?_ rfl⟩
      have : po f x y z 3 = true := by show (po f x y z 2 || _) = true; rw [show po f x y z 2 = true from hb]; rfl
      show _ = slots 31 [(2, _), (4, _), (5, _), (6, .bool (po f x y z 3)), (11, _), (12, _), (13, _)]
      rw [this]
      rfl
    · repeat (first | refine branch_true ?_ | refine branch_false ?_ | refine branch_f' (bne_self_eq_false _) ?_ | refine branch_t' (beq_self_eq_true _) ?_ | refine branch_t' (decide_eq_true rfl) ?_)
      refine ⟨3, by decide, by decide, weak_keep (keep 31 [2, 4, 5, 6, 11, 12, 13]) [0, 1] rfl ?_ rfl⟩
      have : po f x y z 3 = or3 (addO (ps f x y z 2) z) := by show (po f x y z 2 || _) = _; rw [show po f x y z 2 = false from hb]; rfl
      show _ = slots 31 [(2, _), (4, _), (5, _), (6, .bool (po f x y z 3)), (11, _), (12, _), (13, _)]
      rw [this]
      rfl
  | 3, _ =>
    refine branch_false ?_
    show Eqv _ _
    exact .up (.up (.refl _))
end Go.Proofs
/-! Ig. -/
namespace Go.Proofs
open Go.E
set_option maxRecDepth 8000

def stepR (g r v d : Nat → Int) (k : Int) (p : Nat) : Nat → Int := sum3 r (dv (shiftF v p)) (dv (shiftF d (p + 1))) (dv (shiftF (dv (fieldF g r k)) (2 * p + 1)))
def stepV (g r v d : Nat → Int) (k : Int) (p : Nat) : Nat → Int :=
  sum3 v d (dv (shiftF (dv (fieldF g r k)) (p + 1))) (dv (shiftF (dv (fieldF g (dv (stepR g r v d k p)) k)) (p + 1)))
def stepO (g r v d : Nat → Int) (k : Int) (p : Nat) : Bool :=
  fieldO g r k || sumO r (dv (shiftF v p)) (dv (shiftF d (p + 1))) (dv (shiftF (dv (fieldF g r k)) (2 * p + 1))) || fieldO g (dv (stepR g r v d k p)) k ||
    sumO v d (dv (shiftF (dv (fieldF g r k)) (p + 1))) (dv (shiftF (dv (fieldF g (dv (stepR g r v d k p)) k)) (p + 1)))
theorem sum3_fit (f x y z : Nat → Int) : FV (sum3 f x y z) := addF_fit _ _
theorem stepR_fit (g r v d : Nat → Int) (k : Int) (p : Nat) : FV (stepR g r v d k p) := sum3_fit _ _ _ _
theorem stepV_fit (g r v d : Nat → Int) (k : Int) (p : Nat) : FV (stepV g r v d k p) := sum3_fit _ _ _ _
/-- A model that is not valid. -/
theorem step_bad {g r v d : Nat → Int} {k0 k1 p : Int} (h0 : W16 k0) (h1 : W16 k1) (hv : validB k0 k1 p = false) :
    callP Try.prog 15 [gravA g k0 k1 p, stateA r v, vecA d] (· = .tuple [stateA (fun _ => 0) (fun _ => 0), .bool false, .int .i64 2]) := by
  refine callE_def env (fn := Try.f15) rfl (by decide) rfl ?_
  have c := valid_c (g := g) (p := p) h0 h1
  rw [hv] at c
  refine callT_E c rfl ?_
  repeat (first | refine branch_true ?_ | refine branch_false ?_ | refine branch_f' (bne_self_eq_false _) ?_ | refine branch_t' (beq_self_eq_true _) ?_ | refine branch_t' (decide_eq_true rfl) ?_)
  show Eqv _ _
  exact .up (.up (.refl _))
theorem ep1 {p : Nat} (hp : p ≤ 14) : IntKind.i64.wrap ((p : Int) + 1) = ((p + 1 : Nat) : Int) := by rw [wi (by omega) (by omega)]; omega
theorem ep2 {p : Nat} (hp : p ≤ 14) : IntKind.i64.wrap (IntKind.i64.wrap (2 * (p : Int)) + 1) = ((2 * p + 1 : Nat) : Int) := by rw [wi (x := 2 * (p : Int)) (by omega) (by omega), wi (by omega) (by omega)]; omega
set_option maxHeartbeats 2000000 in
theorem rstep_c {g r v d : Nat → Int} {k0 k1 : Int} {p : Nat} (hg : WV g) (hr : WV r) (hv : WV v) (hd : WV d) (h0 : W16 k0) (h1 : W16 k1) (hp : 0 < p) (hp' : p ≤ 14) :
    callP Try.prog 18 [gravA g k0 k1 p, stateA r v, vecA d] (· = .tuple [stateA (dv (stepR g r v d (valD k0 k1) p)) (dv (stepV g r v d (valD k0 k1) p)), .bool (stepO g r v d (valD k0 k1) p)]) := by
  have e1 := ep1 hp'
  have e2 := ep2 hp'
  have wg := dv_w (field_fit g r (valD k0 k1))
  have wh := dv_w (field_fit g (dv (stepR g r v d (valD k0 k1) p)) (valD k0 k1))
  refine callE_def env (fn := Try.f18) rfl (by decide) rfl ?_
  refine callT_E (rfield_c hg hr h0 h1) rfl ?_
  refine draw_intro [0, 1, 2, 3, 4, 5, 6, 7, 8, 9, 10, 11, 12, 13, 14, 15, 16, 17, 18, 19, 20, 21, 22, 23, 24] (by decide +kernel) ?_
  refine ⟨_, ⟨rless_c hv hp (by omega), rfl⟩, ?_⟩
  refine ⟨_, ⟨by rw [e1]; exact rless_c hd (by omega) (by omega), rfl⟩, ?_⟩
  refine ⟨_, ⟨by rw [e2]; exact rless_c wg (by omega) (by omega), rfl⟩, ?_⟩
  refine ⟨_, ⟨rsum4_c hr (dv_w (shiftF_fit v hp (by omega))) (dv_w (shiftF_fit d (by omega) (by omega))) (dv_w (shiftF_fit _ (by omega) (by omega))), rfl⟩, ?_⟩
  refine callT_E (rfield_c hg (dv_w (sum3_fit _ _ _ _)) h0 h1) rfl ?_
  refine draw_intro [0, 1, 2, 3, 4, 5, 6, 7, 8, 9, 10, 11, 12, 13, 14, 15, 16, 17, 18, 19] (by decide +kernel) ?_
  refine ⟨_, ⟨by rw [e1]; exact rless_c wg (by omega) (by omega), rfl⟩, ?_⟩
  refine ⟨_, ⟨by rw [e1]; exact rless_c wh (by omega) (by omega), rfl⟩, ?_⟩
  refine ⟨_, ⟨rsum4_c hv hd (dv_w (shiftF_fit _ (by omega) (by omega))) (dv_w (shiftF_fit _ (by omega) (by omega))), rfl⟩, ?_⟩
  apply branch_intro <;> intro a0
  · repeat (first | refine branch_true ?_ | refine branch_false ?_ | refine branch_f' (bne_self_eq_false _) ?_ | refine branch_t' (beq_self_eq_true _) ?_ | refine branch_t' (decide_eq_true rfl) ?_)
    show Eqv _ _
    refine eqv_of_eq ?_
    show AVal.tuple (_ :: .bool true :: _) = AVal.tuple (_ :: .bool (fieldO g r (valD k0 k1) || _ || _ || _) :: _)
    rw [a0]
    rfl
  repeat (first | refine branch_true ?_ | refine branch_false ?_ | refine branch_f' (bne_self_eq_false _) ?_ | refine branch_t' (beq_self_eq_true _) ?_ | refine branch_t' (decide_eq_true rfl) ?_)
  apply branch_intro <;> intro a1
  · repeat (first | refine branch_true ?_ | refine branch_false ?_ | refine branch_f' (bne_self_eq_false _) ?_ | refine branch_t' (beq_self_eq_true _) ?_ | refine branch_t' (decide_eq_true rfl) ?_)
    show Eqv _ _
    refine eqv_of_eq ?_
    show AVal.tuple (_ :: .bool true :: _) = AVal.tuple (_ :: .bool (fieldO g r (valD k0 k1) || sumO _ _ _ _ || _ || _) :: _)
    rw [a0, a1]
    rfl
  repeat (first | refine branch_true ?_ | refine branch_false ?_ | refine branch_f' (bne_self_eq_false _) ?_ | refine branch_t' (beq_self_eq_true _) ?_ | refine branch_t' (decide_eq_true rfl) ?_)
  apply branch_intro <;> intro a2
  · repeat (first | refine branch_true ?_ | refine branch_false ?_ | refine branch_f' (bne_self_eq_false _) ?_ | refine branch_t' (beq_self_eq_true _) ?_ | refine branch_t' (decide_eq_true rfl) ?_)
    show Eqv _ _
    refine eqv_of_eq ?_
    show AVal.tuple (_ :: .bool true :: _) = AVal.tuple (_ :: .bool (fieldO g r (valD k0 k1) || sumO _ _ _ _ || fieldO _ _ _ || _) :: _)
    rw [a0, a1, show fieldO g (dv (stepR g r v d (valD k0 k1) p)) (valD k0 k1) = _ from a2]
    rfl
  · repeat (first | refine branch_true ?_ | refine branch_false ?_ | refine branch_f' (bne_self_eq_false _) ?_ | refine branch_t' (beq_self_eq_true _) ?_ | refine branch_t' (decide_eq_true rfl) ?_)
    show Eqv _ _
    refine eqv_of_eq ?_
    show AVal.tuple (_ :: .bool _ :: _) = AVal.tuple (_ :: .bool (fieldO g r (valD k0 k1) || sumO _ _ _ _ || fieldO _ _ _ || _) :: _)
    rw [a0, a1, show fieldO g (dv (stepR g r v d (valD k0 k1) p)) (valD k0 k1) = _ from a2]
    rfl
set_option maxHeartbeats 2000000 in
theorem step_c {g r v d : Nat → Int} {k0 k1 : Int} {p : Nat} (hg : WV g) (hr : WV r) (hv : WV v) (hd : WV d) (h0 : W16 k0) (h1 : W16 k1) (hp : validB k0 k1 p = true) :
    callP Try.prog 15 [gravA g k0 k1 p, stateA r v, vecA d] (· = .tuple [stateA (dv (stepR g r v d (valD k0 k1) p)) (dv (stepV g r v d (valD k0 k1) p)), .bool (stepO g r v d (valD k0 k1) p), .int .i64 0]) := by
  have c := valid_c (g := g) (p := p) h0 h1
  rw [hp] at c
  have hp0 : 4 ≤ p ∧ p ≤ 14 := by
    unfold validB at hp
    simp at hp
    omega
  have hp' := hp0.2
  have hp : 0 < p := by omega
  have e1 := ep1 hp'
  have e2 := ep2 hp'
  have wg := dv_w (field_fit g r (valD k0 k1))
  have wh := dv_w (field_fit g (dv (stepR g r v d (valD k0 k1) p)) (valD k0 k1))
  refine callE_def env (fn := Try.f15) rfl (by decide) rfl ?_
  refine callT_E c rfl ?_
  repeat (first | refine branch_true ?_ | refine branch_false ?_ | refine branch_f' (bne_self_eq_false _) ?_ | refine branch_t' (beq_self_eq_true _) ?_ | refine branch_t' (decide_eq_true rfl) ?_)
  refine callT_E (field_c hg hr h0 h1) rfl ?_
  refine draw_tree (picks [0, 1, 2, 3, 4, 5, 6, 7, 8, 9, 10, 11, 12, 13, 14, 15, 16, 17, 18, 19, 20] (.fork 21 26 (picks [22, 23, 24, 25, 26, 27, 28] .done) (picks [21, 22, 23, 24, 25, 27, 28] .done))) (by decide +kernel) ?_
  refine ⟨_, ⟨less_c hv hp (by omega), rfl⟩, ?_⟩
  refine ⟨_, ⟨by rw [e1]; exact less_c hd (by omega) (by omega), rfl⟩, ?_⟩
  refine ⟨_, ⟨by rw [e2]; exact less_c wg (by omega) (by omega), rfl⟩, ?_⟩
  have cs := sum_c (f := r) (x := dv (shiftF v p)) (y := dv (shiftF d (p + 1))) (z := dv (shiftF (dv (fieldF g r (valD k0 k1))) (2 * p + 1))) hr (dv_w (shiftF_fit v hp (by omega))) (dv_w (shiftF_fit d (by omega) (by omega))) (dv_w (shiftF_fit _ (by omega) (by omega)))
  have ct := sum_c (f := v) (x := d) (y := dv (shiftF (dv (fieldF g r (valD k0 k1))) (p + 1))) (z := dv (shiftF (dv (fieldF g (dv (stepR g r v d (valD k0 k1) p)) (valD k0 k1))) (p + 1))) hv hd (dv_w (shiftF_fit _ (by omega) (by omega))) (dv_w (shiftF_fit _ (by omega) (by omega)))
  refine ⟨?_, ?_⟩
  · apply choice_l
    refine ⟨_, ⟨cs, rfl⟩, ?_⟩
    refine callT_E (field_c hg (dv_w (sum3_fit _ _ _ _)) h0 h1) rfl ?_
    refine draw_tree (picks [0, 1, 2, 3, 4, 5, 6, 7, 8, 9, 10, 11, 12, 13, 14] (.fork 15 20 (picks [16, 17, 18, 19, 20, 21, 22] .done) (picks [15, 16, 17, 18, 19, 21, 22] .done))) (by decide +kernel) ?_
    refine ⟨_, ⟨by rw [e1]; exact less_c wg (by omega) (by omega), rfl⟩, ?_⟩
    refine ⟨_, ⟨by rw [e1]; exact less_c wh (by omega) (by omega), rfl⟩, ?_⟩
    refine ⟨?_, ?_⟩
    · apply choice_l
      refine ⟨_, ⟨ct, rfl⟩, ?_⟩
      apply branch_intro <;> intro a0
      · repeat (first | refine branch_true ?_ | refine branch_false ?_ | refine branch_f' (bne_self_eq_false _) ?_ | refine branch_t' (beq_self_eq_true _) ?_ | refine branch_t' (decide_eq_true rfl) ?_)
        show Eqv _ _
        refine eqv_of_eq ?_
        show AVal.tuple (_ :: .bool true :: _) = AVal.tuple (_ :: .bool (fieldO g r (valD k0 k1) || _ || _ || _) :: _)
        rw [a0]
        rfl
      repeat (first | refine branch_true ?_ | refine branch_false ?_ | refine branch_f' (bne_self_eq_false _) ?_ | refine branch_t' (beq_self_eq_true _) ?_ | refine branch_t' (decide_eq_true rfl) ?_)
      apply branch_intro <;> intro a1
      · repeat (first | refine branch_true ?_ | refine branch_false ?_ | refine branch_f' (bne_self_eq_false _) ?_ | refine branch_t' (beq_self_eq_true _) ?_ | refine branch_t' (decide_eq_true rfl) ?_)
        show Eqv _ _
        refine eqv_of_eq ?_
        show AVal.tuple (_ :: .bool true :: _) = AVal.tuple (_ :: .bool (fieldO g r (valD k0 k1) || sumO _ _ _ _ || _ || _) :: _)
        rw [a0, a1]
        rfl
      repeat (first | refine branch_true ?_ | refine branch_false ?_ | refine branch_f' (bne_self_eq_false _) ?_ | refine branch_t' (beq_self_eq_true _) ?_ | refine branch_t' (decide_eq_true rfl) ?_)
      apply branch_intro <;> intro a2
      · repeat (first | refine branch_true ?_ | refine branch_false ?_ | refine branch_f' (bne_self_eq_false _) ?_ | refine branch_t' (beq_self_eq_true _) ?_ | refine branch_t' (decide_eq_true rfl) ?_)
        show Eqv _ _
        refine eqv_of_eq ?_
        show AVal.tuple (_ :: .bool true :: _) = AVal.tuple (_ :: .bool (fieldO g r (valD k0 k1) || sumO _ _ _ _ || fieldO _ _ _ || _) :: _)
        rw [a0, a1, show fieldO g (dv (stepR g r v d (valD k0 k1) p)) (valD k0 k1) = _ from a2]
        rfl
      · repeat (first | refine branch_true ?_ | refine branch_false ?_ | refine branch_f' (bne_self_eq_false _) ?_ | refine branch_t' (beq_self_eq_true _) ?_ | refine branch_t' (decide_eq_true rfl) ?_)
        show Eqv _ _
        refine eqv_of_eq ?_
        show AVal.tuple (_ :: .bool _ :: _) = AVal.tuple (_ :: .bool (fieldO g r (valD k0 k1) || sumO _ _ _ _ || fieldO _ _ _ || _) :: _)
        rw [a0, a1, show fieldO g (dv (stepR g r v d (valD k0 k1) p)) (valD k0 k1) = _ from a2]
        rfl
    · apply choice_l
      refine ⟨_, ⟨ct, rfl⟩, ?_⟩
      apply branch_intro <;> intro a0
      · repeat (first | refine branch_true ?_ | refine branch_false ?_ | refine branch_f' (bne_self_eq_false _) ?_ | refine branch_t' (beq_self_eq_true _) ?_ | refine branch_t' (decide_eq_true rfl) ?_)
        show Eqv _ _
        refine eqv_of_eq ?_
        show AVal.tuple (_ :: .bool true :: _) = AVal.tuple (_ :: .bool (fieldO g r (valD k0 k1) || _ || _ || _) :: _)
        rw [a0]
        rfl
      repeat (first | refine branch_true ?_ | refine branch_false ?_ | refine branch_f' (bne_self_eq_false _) ?_ | refine branch_t' (beq_self_eq_true _) ?_ | refine branch_t' (decide_eq_true rfl) ?_)
      apply branch_intro <;> intro a1
      · repeat (first | refine branch_true ?_ | refine branch_false ?_ | refine branch_f' (bne_self_eq_false _) ?_ | refine branch_t' (beq_self_eq_true _) ?_ | refine branch_t' (decide_eq_true rfl) ?_)
        show Eqv _ _
        refine eqv_of_eq ?_
        show AVal.tuple (_ :: .bool true :: _) = AVal.tuple (_ :: .bool (fieldO g r (valD k0 k1) || sumO _ _ _ _ || _ || _) :: _)
        rw [a0, a1]
        rfl
      repeat (first | refine branch_true ?_ | refine branch_false ?_ | refine branch_f' (bne_self_eq_false _) ?_ | refine branch_t' (beq_self_eq_true _) ?_ | refine branch_t' (decide_eq_true rfl) ?_)
      apply branch_intro <;> intro a2
      · repeat (first | refine branch_true ?_ | refine branch_false ?_ | refine branch_f' (bne_self_eq_false _) ?_ | refine branch_t' (beq_self_eq_true _) ?_ | refine branch_t' (decide_eq_true rfl) ?_)
        show Eqv _ _
        refine eqv_of_eq ?_
        show AVal.tuple (_ :: .bool true :: _) = AVal.tuple (_ :: .bool (fieldO g r (valD k0 k1) || sumO _ _ _ _ || fieldO _ _ _ || _) :: _)
        rw [a0, a1, show fieldO g (dv (stepR g r v d (valD k0 k1) p)) (valD k0 k1) = _ from a2]
        rfl
      · repeat (first | refine branch_true ?_ | refine branch_false ?_ | refine branch_f' (bne_self_eq_false _) ?_ | refine branch_t' (beq_self_eq_true _) ?_ | refine branch_t' (decide_eq_true rfl) ?_)
        show Eqv _ _
        refine eqv_of_eq ?_
        show AVal.tuple (_ :: .bool _ :: _) = AVal.tuple (_ :: .bool (fieldO g r (valD k0 k1) || sumO _ _ _ _ || fieldO _ _ _ || _) :: _)
        rw [a0, a1, show fieldO g (dv (stepR g r v d (valD k0 k1) p)) (valD k0 k1) = _ from a2]
        rfl
  · apply choice_l
    refine ⟨_, ⟨cs, rfl⟩, ?_⟩
    refine callT_E (field_c hg (dv_w (sum3_fit _ _ _ _)) h0 h1) rfl ?_
    refine draw_tree (picks [0, 1, 2, 3, 4, 5, 6, 7, 8, 9, 10, 11, 12, 13, 14] (.fork 15 20 (picks [16, 17, 18, 19, 20, 21, 22] .done) (picks [15, 16, 17, 18, 19, 21, 22] .done))) (by decide +kernel) ?_
    refine ⟨_, ⟨by rw [e1]; exact less_c wg (by omega) (by omega), rfl⟩, ?_⟩
    refine ⟨_, ⟨by rw [e1]; exact less_c wh (by omega) (by omega), rfl⟩, ?_⟩
    refine ⟨?_, ?_⟩
    · apply choice_l
      refine ⟨_, ⟨ct, rfl⟩, ?_⟩
      apply branch_intro <;> intro a0
      · repeat (first | refine branch_true ?_ | refine branch_false ?_ | refine branch_f' (bne_self_eq_false _) ?_ | refine branch_t' (beq_self_eq_true _) ?_ | refine branch_t' (decide_eq_true rfl) ?_)
        show Eqv _ _
        refine eqv_of_eq ?_
        show AVal.tuple (_ :: .bool true :: _) = AVal.tuple (_ :: .bool (fieldO g r (valD k0 k1) || _ || _ || _) :: _)
        rw [a0]
        rfl
      repeat (first | refine branch_true ?_ | refine branch_false ?_ | refine branch_f' (bne_self_eq_false _) ?_ | refine branch_t' (beq_self_eq_true _) ?_ | refine branch_t' (decide_eq_true rfl) ?_)
      apply branch_intro <;> intro a1
      · repeat (first | refine branch_true ?_ | refine branch_false ?_ | refine branch_f' (bne_self_eq_false _) ?_ | refine branch_t' (beq_self_eq_true _) ?_ | refine branch_t' (decide_eq_true rfl) ?_)
        show Eqv _ _
        refine eqv_of_eq ?_
        show AVal.tuple (_ :: .bool true :: _) = AVal.tuple (_ :: .bool (fieldO g r (valD k0 k1) || sumO _ _ _ _ || _ || _) :: _)
        rw [a0, a1]
        rfl
      repeat (first | refine branch_true ?_ | refine branch_false ?_ | refine branch_f' (bne_self_eq_false _) ?_ | refine branch_t' (beq_self_eq_true _) ?_ | refine branch_t' (decide_eq_true rfl) ?_)
      apply branch_intro <;> intro a2
      · repeat (first | refine branch_true ?_ | refine branch_false ?_ | refine branch_f' (bne_self_eq_false _) ?_ | refine branch_t' (beq_self_eq_true _) ?_ | refine branch_t' (decide_eq_true rfl) ?_)
        show Eqv _ _
        refine eqv_of_eq ?_
        show AVal.tuple (_ :: .bool true :: _) = AVal.tuple (_ :: .bool (fieldO g r (valD k0 k1) || sumO _ _ _ _ || fieldO _ _ _ || _) :: _)
        rw [a0, a1, show fieldO g (dv (stepR g r v d (valD k0 k1) p)) (valD k0 k1) = _ from a2]
        rfl
      · repeat (first | refine branch_true ?_ | refine branch_false ?_ | refine branch_f' (bne_self_eq_false _) ?_ | refine branch_t' (beq_self_eq_true _) ?_ | refine branch_t' (decide_eq_true rfl) ?_)
        show Eqv _ _
        refine eqv_of_eq ?_
        show AVal.tuple (_ :: .bool _ :: _) = AVal.tuple (_ :: .bool (fieldO g r (valD k0 k1) || sumO _ _ _ _ || fieldO _ _ _ || _) :: _)
        rw [a0, a1, show fieldO g (dv (stepR g r v d (valD k0 k1) p)) (valD k0 k1) = _ from a2]
        rfl
    · apply choice_l
      refine ⟨_, ⟨ct, rfl⟩, ?_⟩
      apply branch_intro <;> intro a0
      · repeat (first | refine branch_true ?_ | refine branch_false ?_ | refine branch_f' (bne_self_eq_false _) ?_ | refine branch_t' (beq_self_eq_true _) ?_ | refine branch_t' (decide_eq_true rfl) ?_)
        show Eqv _ _
        refine eqv_of_eq ?_
        show AVal.tuple (_ :: .bool true :: _) = AVal.tuple (_ :: .bool (fieldO g r (valD k0 k1) || _ || _ || _) :: _)
        rw [a0]
        rfl
      repeat (first | refine branch_true ?_ | refine branch_false ?_ | refine branch_f' (bne_self_eq_false _) ?_ | refine branch_t' (beq_self_eq_true _) ?_ | refine branch_t' (decide_eq_true rfl) ?_)
      apply branch_intro <;> intro a1
      · repeat (first | refine branch_true ?_ | refine branch_false ?_ | refine branch_f' (bne_self_eq_false _) ?_ | refine branch_t' (beq_self_eq_true _) ?_ | refine branch_t' (decide_eq_true rfl) ?_)
        show Eqv _ _
        refine eqv_of_eq ?_
        show AVal.tuple (_ :: .bool true :: _) = AVal.tuple (_ :: .bool (fieldO g r (valD k0 k1) || sumO _ _ _ _ || _ || _) :: _)
        rw [a0, a1]
        rfl
      repeat (first | refine branch_true ?_ | refine branch_false ?_ | refine branch_f' (bne_self_eq_false _) ?_ | refine branch_t' (beq_self_eq_true _) ?_ | refine branch_t' (decide_eq_true rfl) ?_)
      apply branch_intro <;> intro a2
      · repeat (first | refine branch_true ?_ | refine branch_false ?_ | refine branch_f' (bne_self_eq_false _) ?_ | refine branch_t' (beq_self_eq_true _) ?_ | refine branch_t' (decide_eq_true rfl) ?_)
        show Eqv _ _
        refine eqv_of_eq ?_
        show AVal.tuple (_ :: .bool true :: _) = AVal.tuple (_ :: .bool (fieldO g r (valD k0 k1) || sumO _ _ _ _ || fieldO _ _ _ || _) :: _)
        rw [a0, a1, show fieldO g (dv (stepR g r v d (valD k0 k1) p)) (valD k0 k1) = _ from a2]
        rfl
      · repeat (first | refine branch_true ?_ | refine branch_false ?_ | refine branch_f' (bne_self_eq_false _) ?_ | refine branch_t' (beq_self_eq_true _) ?_ | refine branch_t' (decide_eq_true rfl) ?_)
        show Eqv _ _
        refine eqv_of_eq ?_
        show AVal.tuple (_ :: .bool _ :: _) = AVal.tuple (_ :: .bool (fieldO g r (valD k0 k1) || sumO _ _ _ _ || fieldO _ _ _ || _) :: _)
        rw [a0, a1, show fieldO g (dv (stepR g r v d (valD k0 k1) p)) (valD k0 k1) = _ from a2]
        rfl
end Go.Proofs
