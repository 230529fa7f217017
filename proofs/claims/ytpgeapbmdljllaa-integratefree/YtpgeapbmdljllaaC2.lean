/- Chapter 33, part e: gravity, sums, steps. -/
import Derived.Test.YtpgeapbmdljllaaC1
set_option linter.unusedVariables false
set_option linter.unusedSimpArgs false
/-! Ie. -/
namespace Go.Proofs
open Go.E
set_option maxRecDepth 8000

abbrev gravA (g : Nat → Int) (k0 k1 p : Int) : AVal := .agg [.int .u16 (g 0), .int .u16 (g 1), .int .u16 (g 2), .int .u16 (g 3), .int .u16 (g 4), .int .u16 (g 5), .int .u16 k0, .int .u16 k1, .int .i64 p]
abbrev stateA (r v : Nat → Int) : AVal := .agg [.int .u16 (r 0), .int .u16 (r 1), .int .u16 (r 2), .int .u16 (r 3), .int .u16 (r 4), .int .u16 (r 5), .int .u16 (v 0), .int .u16 (v 1), .int .u16 (v 2), .int .u16 (v 3), .int .u16 (v 4), .int .u16 (v 5)]
def fieldF (g r : Nat → Int) (k : Int) : Nat → Int := subF g (dv (scaleF r k))
def fieldO (g r : Nat → Int) (k : Int) : Bool := or3 (subO g (dv (scaleF r k)))
theorem field_fit (g r : Nat → Int) (k : Int) : FV (fieldF g r k) := subF_fit _ _
theorem field_c {g r : Nat → Int} {k0 k1 p : Int} (hg : WV g) (hr : WV r) (h0 : W16 k0) (h1 : W16 k1) : callP Try.prog 13 [gravA g k0 k1 p, vecA r] (· = .tuple [vecA (dv (fieldF g r (valD k0 k1))), .bool (fieldO g r (valD k0 k1))]) := by
  refine callE_def env (fn := Try.f13) rfl (by decide) rfl ?_
  refine draw_intro [0, 1, 2, 3, 4, 5, 6, 7, 8, 9, 10] (by decide +kernel) ?_
  refine ⟨_, ⟨vscale_c hr h0 h1, rfl⟩, ?_⟩
  refine ⟨_, ⟨vsub_c hg (dv_w (scaleF_fit r valD_fit)), rfl⟩, ?_⟩
  show Eqv _ _
  exact .up (.up (.refl _))
theorem rfield_c {g r : Nat → Int} {k0 k1 p : Int} (hg : WV g) (hr : WV r) (h0 : W16 k0) (h1 : W16 k1) : callP Try.prog 14 [gravA g k0 k1 p, vecA r] (· = .tuple [vecA (dv (fieldF g r (valD k0 k1))), .bool (fieldO g r (valD k0 k1))]) := by
  refine callE_def env (fn := Try.f14) rfl (by decide) rfl ?_
  refine draw_intro [0, 1, 2, 3, 4, 5, 6, 7, 8, 9, 10] (by decide +kernel) ?_
  refine ⟨_, ⟨rscale_c hr h0 h1, rfl⟩, ?_⟩
  refine ⟨_, ⟨rsub_c hg (dv_w (scaleF_fit r valD_fit)), rfl⟩, ?_⟩
  show Eqv _ _
  exact .up (.up (.refl _))
/-- Sums of four vectors. -/
def sum2 (f x y : Nat → Int) : Nat → Int := addF (dv (addF f x)) y
def sum3 (f x y z : Nat → Int) : Nat → Int := addF (dv (sum2 f x y)) z
def sumO (f x y z : Nat → Int) : Bool := or3 (addO f x) || or3 (addO (dv (addF f x)) y) || or3 (addO (dv (sum2 f x y)) z)
theorem rsum4_c {f x y z : Nat → Int} (hf : WV f) (hx : WV x) (hy : WV y) (hz : WV z) : callP Try.prog 44 [vecA f, vecA x, vecA y, vecA z] (· = .tuple [vecA (dv (sum3 f x y z)), .bool (sumO f x y z)]) := by
  refine callE_def env (fn := Try.f44) rfl (by decide) rfl ?_
  refine callT_E (rsum_c hf hx) rfl ?_
  refine callT_E (rsum_c (dv_w (addF_fit f x)) hy) rfl ?_
  refine callT_E (rsum_c (dv_w (addF_fit _ y)) hz) rfl ?_
  apply branch_intro <;> intro h0
  · repeat (first | refine branch_true ?_ | refine branch_false ?_ | refine branch_f' (bne_self_eq_false _) ?_ | refine branch_t' (beq_self_eq_true _) ?_ | refine branch_t' (decide_eq_true rfl) ?_)
    show Eqv _ _
    refine eqv_of_eq ?_
    show AVal.tuple [_, .bool true] = AVal.tuple [_, .bool (or3 (addO f x) || _ || _)]
    rw [h0]
    rfl
  repeat (first | refine branch_true ?_ | refine branch_false ?_ | refine branch_f' (bne_self_eq_false _) ?_ | refine branch_t' (beq_self_eq_true _) ?_ | refine branch_t' (decide_eq_true rfl) ?_)
  apply branch_intro <;> intro h1
  · repeat (first | refine branch_true ?_ | refine branch_false ?_ | refine branch_f' (bne_self_eq_false _) ?_ | refine branch_t' (beq_self_eq_true _) ?_ | refine branch_t' (decide_eq_true rfl) ?_)
    show Eqv _ _
    refine eqv_of_eq ?_
    show AVal.tuple [_, .bool true] = AVal.tuple [_, .bool (or3 (addO f x) || or3 (addO (dv (addF f x)) y) || _)]
    rw [h0, h1]
    rfl
  · repeat (first | refine branch_true ?_ | refine branch_false ?_ | refine branch_f' (bne_self_eq_false _) ?_ | refine branch_t' (beq_self_eq_true _) ?_ | refine branch_t' (decide_eq_true rfl) ?_)
    show Eqv _ _
    refine eqv_of_eq ?_
    show AVal.tuple [_, .bool _] = AVal.tuple [_, .bool (or3 (addO f x) || or3 (addO (dv (addF f x)) y) || _)]
    rw [h0, h1]
    rfl
theorem less_c {a : Nat → Int} (ha : WV a) {n : Nat} (hn : 0 < n) (hn' : n ≤ 56) : callP Try.prog 39 [vecA a, .int .i64 n] (· = vecA (dv (shiftF a n))) := by
  have e : IntKind.i64.wrap (0 - (n : Int)) = -(n : Int) := by rw [wi (by omega) (by omega)]; omega
  have c := vshift_c ha hn hn'
  rw [← e] at c
  refine callE_def env (fn := Try.f39) rfl (by decide) rfl ?_
  refine callT_E c rfl ?_
  show Eqv _ _
  exact .up (.up (.refl _))
theorem rless_c {a : Nat → Int} (ha : WV a) {n : Nat} (hn : 0 < n) (hn' : n ≤ 56) : callP Try.prog 45 [vecA a, .int .i64 n] (· = vecA (dv (shiftF a n))) := by
  have e : IntKind.i64.wrap (0 - (n : Int)) = -(n : Int) := by rw [wi (by omega) (by omega)]; omega
  have c := rshift_c ha hn hn'
  rw [← e] at c
  refine callE_def env (fn := Try.f45) rfl (by decide) rfl ?_
  refine callT_E c rfl ?_
  show Eqv _ _
  exact .up (.up (.refl _))
def validB (k0 k1 p : Int) : Bool := decide (valD k0 k1 ≥ 0) && decide (p ≥ 4) && decide (p ≤ 14)
theorem valid_c {g : Nat → Int} {k0 k1 p : Int} (h0 : W16 k0) (h1 : W16 k1) : callP Try.prog 16 [gravA g k0 k1 p] (· = .bool (validB k0 k1 p)) := by
  refine callE_def env (fn := Try.f16) rfl (by decide) rfl ?_
  refine callT_E (value_c h0 h1) rfl ?_
  unfold validB
  apply branch_intro <;> intro a
  · repeat (first | refine branch_true ?_ | refine branch_false ?_ | refine branch_f' (bne_self_eq_false _) ?_ | refine branch_t' (beq_self_eq_true _) ?_ | refine branch_t' (decide_eq_true rfl) ?_)
    apply branch_intro <;> intro b
    · repeat (first | refine branch_true ?_ | refine branch_false ?_ | refine branch_f' (bne_self_eq_false _) ?_ | refine branch_t' (beq_self_eq_true _) ?_ | refine branch_t' (decide_eq_true rfl) ?_)
      show Eqv _ _
      rw [a, b]
      show Eqv _ _
      exact .up (.up (.refl _))
    · repeat (first | refine branch_true ?_ | refine branch_false ?_ | refine branch_f' (bne_self_eq_false _) ?_ | refine branch_t' (beq_self_eq_true _) ?_ | refine branch_t' (decide_eq_true rfl) ?_)
      show Eqv _ _
      rw [a, b]
      show Eqv _ _
      exact .up (.up (.refl _))
  · repeat (first | refine branch_true ?_ | refine branch_false ?_ | refine branch_f' (bne_self_eq_false _) ?_ | refine branch_t' (beq_self_eq_true _) ?_ | refine branch_t' (decide_eq_true rfl) ?_)
    show Eqv _ _
    rw [a]
    show Eqv _ _
    exact .up (.up (.refl _))
theorem rvalid_c {g : Nat → Int} {k0 k1 p : Int} (h0 : W16 k0) (h1 : W16 k1) : callP Try.prog 17 [gravA g k0 k1 p] (· = .bool (validB k0 k1 p)) := by
  refine callE_def env (fn := Try.f17) rfl (by decide) rfl ?_
  refine callT_E (rvalue_c h0 h1) rfl ?_
  unfold validB
  apply branch_intro <;> intro a
  · repeat (first | refine branch_true ?_ | refine branch_false ?_ | refine branch_f' (bne_self_eq_false _) ?_ | refine branch_t' (beq_self_eq_true _) ?_ | refine branch_t' (decide_eq_true rfl) ?_)
    apply branch_intro <;> intro b
    · repeat (first | refine branch_true ?_ | refine branch_false ?_ | refine branch_f' (bne_self_eq_false _) ?_ | refine branch_t' (beq_self_eq_true _) ?_ | refine branch_t' (decide_eq_true rfl) ?_)
      show Eqv _ _
      rw [a, b]
      show Eqv _ _
      exact .up (.up (.refl _))
    · repeat (first | refine branch_true ?_ | refine branch_false ?_ | refine branch_f' (bne_self_eq_false _) ?_ | refine branch_t' (beq_self_eq_true _) ?_ | refine branch_t' (decide_eq_true rfl) ?_)
      show Eqv _ _
      rw [a, b]
      show Eqv _ _
      exact .up (.up (.refl _))
  · repeat (first | refine branch_true ?_ | refine branch_false ?_ | refine branch_f' (bne_self_eq_false _) ?_ | refine branch_t' (beq_self_eq_true _) ?_ | refine branch_t' (decide_eq_true rfl) ?_)
    show Eqv _ _
    rw [a]
    show Eqv _ _
    exact .up (.up (.refl _))
end Go.Proofs
/-! If. -/
namespace Go.Proofs
open Go.E
set_option maxRecDepth 8000

abbrev rows3 (x y z : Nat → Int) : List AVal := [.int .u16 (x 0), .int .u16 (x 1), .int .u16 (x 2), .int .u16 (x 3), .int .u16 (x 4), .int .u16 (x 5), .int .u16 (y 0), .int .u16 (y 1), .int .u16 (y 2), .int .u16 (y 3), .int .u16 (y 4), .int .u16 (y 5), .int .u16 (z 0), .int .u16 (z 1), .int .u16 (z 2), .int .u16 (z 3), .int .u16 (z 4), .int .u16 (z 5)]
def ps (f x y z : Nat → Int) (i : Nat) : Nat → Int := match i with
  | 0 => f
  | 1 => dv (addF f x)
  | 2 => dv (sum2 f x y)
  | _ => dv (sum3 f x y z)
def po (f x y z : Nat → Int) (i : Nat) : Bool := match i with
  | 0 => false
  | 1 => or3 (addO f x)
  | 2 => or3 (addO f x) || or3 (addO (dv (addF f x)) y)
  | _ => sumO f x y z
set_option maxHeartbeats 1000000 in
theorem sum_c {f x y z : Nat → Int} (hf : WV f) (hx : WV x) (hy : WV y) (hz : WV z) : callP Try.prog 41 [vecA f, .ro 6 3 (chunk 6 (rows3 x y z))] (· = .tuple [vecA (dv (sum3 f x y z)), .bool (sumO f x y z)]) := by
  refine callE_def env (fn := Try.f41) rfl (by decide) rfl ?_
  refine loop_weak (fun i : Nat => slots 31 [(2, .ptr ⟨0, 0, 0⟩), (4, .ptr ⟨1, 0, 0⟩), (5, .bool false), (6, .bool (po f x y z i)), (11, .ro 6 3 (chunk 6 (rows3 x y z))), (12, .int .i64 3), (13, .int .i64 i)])
    (fun i => [.cells (vcells (ps f x y z i)), .cells [.int .u16 0, .int .u16 0, .int .u16 0, .int .u16 0, .int .u16 0, .int .u16 0]])
    (fun i => i ≤ 3) (fun i => 3 - i) 0 (Nat.zero_le _) (weak_keep (keep 31 [2, 4, 5, 6, 11, 12, 13]) [0, 1] rfl rfl rfl) ?_
  intro i hi
  match i, hi with
  | 0, _ =>
    refine branch_true ?_
    repeat (refine need_intro (by decide) ?_)
    refine callT_E (vadd_c hf hx) rfl ?_
    repeat (first | refine branch_true ?_ | refine branch_false ?_ | refine branch_f' (bne_self_eq_false _) ?_ | refine branch_t' (beq_self_eq_true _) ?_ | refine branch_t' (decide_eq_true rfl) ?_)
    exact ⟨1, by decide, by decide, weak_keep (keep 31 [2, 4, 5, 6, 11, 12, 13]) [0, 1] rfl rfl rfl⟩
  | 1, _ =>
    refine branch_true ?_
    repeat (refine need_intro (by decide) ?_)
    refine callT_E (vadd_c (dv_w (addF_fit f x)) hy) rfl ?_
    apply branch_intro <;> intro hb
    · repeat (first | refine branch_true ?_ | refine branch_false ?_ | refine branch_f' (bne_self_eq_false _) ?_ | refine branch_t' (beq_self_eq_true _) ?_ | refine branch_t' (decide_eq_true rfl) ?_)
      refine ⟨2, by decide, by decide, weak_keep (keep 31 [2, 4, 5, 6, 11, 12, 13]) [0, 1] rfl ?_ rfl⟩
      have : po f x y z 2 = true := by show (po f x y z 1 || _) = true; rw [show po f x y z 1 = true from hb]; rfl
      show _ = slots 31 [(2, _), (4, _), (5, _), (6, .bool (po f x y z 2)), (11, _), (12, _), (13, _)]
      rw [this]
      rfl
    · repeat (first | refine branch_true ?_ | refine branch_false ?_ | refine branch_f' (bne_self_eq_false _) ?_ | refine branch_t' (beq_self_eq_true _) ?_ | refine branch_t' (decide_eq_true rfl) ?_)
      refine ⟨2, by decide, by decide, weak_keep (keep 31 [2, 4, 5, 6, 11, 12, 13]) [0, 1] rfl ?_ rfl⟩
      have : po f x y z 2 = or3 (addO (ps f x y z 1) y) := by show (po f x y z 1 || _) = _; rw [show po f x y z 1 = false from hb]; rfl
      show _ = slots 31 [(2, _), (4, _), (5, _), (6, .bool (po f x y z 2)), (11, _), (12, _), (13, _)]
      rw [this]
      rfl
  | 2, _ =>
    refine branch_true ?_
    repeat (refine need_intro (by decide) ?_)
    refine callT_E (vadd_c (dv_w (addF_fit _ y)) hz) rfl ?_
    apply branch_intro <;> intro hb
    · repeat (first | refine branch_true ?_ | refine branch_false ?_ | refine branch_f' (bne_self_eq_false _) ?_ | refine branch_t' (beq_self_eq_true _) ?_ | refine branch_t' (decide_eq_true rfl) ?_)
      refine ⟨3, by decide, by decide, weak_keep (keep 31 [2, 4, 5, 6, 11, 12, 13]) [0, 1] rfl ?_ rfl⟩
      have : po f x y z 3 = true := by show (po f x y z 2 || _) = true; rw [show po f x y z 2 = true from hb]; rfl
      show _ = slots 31 [(2, _), (4, _), (5, _), (6, .bool (po f x y z 3)), (11, _), (12, _), (13, _)]
      rw [this]
      rfl
    · repeat (first | refine branch_true ?_ | refine branch_false ?_ | refine branch_f' (bne_self_eq_false _) ?_ | refine branch_t' (beq_self_eq_true _) ?_ | refine branch_t' (decide_eq_true rfl) ?_)
      refine ⟨3, by decide, by decide, weak_keep (keep 31 [2, 4, 5, 6, 11, 12, 13]) [0, 1] rfl ?_ rfl⟩
      have : po f x y z 3 = or3 (addO (ps f x y z 2) z) := by show (po f x y z 2 || _) = _; rw [show po f x y z 2 = false from hb]; rfl
      show _ = slots 31 [(2, _), (4, _), (5, _), (6, .bool (po f x y z 3)), (11, _), (12, _), (13, _)]
      rw [this]
      rfl
  | 3, _ =>
    refine branch_false ?_
    show Eqv _ _
    exact .up (.up (.refl _))
end Go.Proofs
/-! Ig. -/
namespace Go.Proofs
open Go.E
set_option maxRecDepth 8000

def stepR (g r v d : Nat → Int) (k : Int) (p : Nat) : Nat → Int := sum3 r (dv (shiftF v p)) (dv (shiftF d (p + 1))) (dv (shiftF (dv (fieldF g r k)) (2 * p + 1)))
def stepV (g r v d : Nat → Int) (k : Int) (p : Nat) : Nat → Int :=
  sum3 v d (dv (shiftF (dv (fieldF g r k)) (p + 1))) (dv (shiftF (dv (fieldF g (dv (stepR g r v d k p)) k)) (p + 1)))
def stepO (g r v d : Nat → Int) (k : Int) (p : Nat) : Bool :=
  fieldO g r k || sumO r (dv (shiftF v p)) (dv (shiftF d (p + 1))) (dv (shiftF (dv (fieldF g r k)) (2 * p + 1))) || fieldO g (dv (stepR g r v d k p)) k ||
    sumO v d (dv (shiftF (dv (fieldF g r k)) (p + 1))) (dv (shiftF (dv (fieldF g (dv (stepR g r v d k p)) k)) (p + 1)))
theorem sum3_fit (f x y z : Nat → Int) : FV (sum3 f x y z) := addF_fit _ _
theorem stepR_fit (g r v d : Nat → Int) (k : Int) (p : Nat) : FV (stepR g r v d k p) := sum3_fit _ _ _ _
theorem stepV_fit (g r v d : Nat → Int) (k : Int) (p : Nat) : FV (stepV g r v d k p) := sum3_fit _ _ _ _
/-- A model that is not valid. -/
theorem step_bad {g r v d : Nat → Int} {k0 k1 p : Int} (h0 : W16 k0) (h1 : W16 k1) (hv : validB k0 k1 p = false) :
    callP Try.prog 15 [gravA g k0 k1 p, stateA r v, vecA d] (· = .tuple [stateA (fun _ => 0) (fun _ => 0), .bool false, .int .i64 2]) := by
  refine callE_def env (fn := Try.f15) rfl (by decide) rfl ?_
  have c := valid_c (g := g) (p := p) h0 h1
  rw [hv] at c
  refine callT_E c rfl ?_
  repeat (first | refine branch_true ?_ | refine branch_false ?_ | refine branch_f' (bne_self_eq_false _) ?_ | refine branch_t' (beq_self_eq_true _) ?_ | refine branch_t' (decide_eq_true rfl) ?_)
  show Eqv _ _
  exact .up (.up (.refl _))
theorem ep1 {p : Nat} (hp : p ≤ 14) : IntKind.i64.wrap ((p : Int) + 1) = ((p + 1 : Nat) : Int) := by rw [wi (by omega) (by omega)]; omega
theorem ep2 {p : Nat} (hp : p ≤ 14) : IntKind.i64.wrap (IntKind.i64.wrap (2 * (p : Int)) + 1) = ((2 * p + 1 : Nat) : Int) := by rw [wi (x := 2 * (p : Int)) (by omega) (by omega), wi (by omega) (by omega)]; omega
set_option maxHeartbeats 2000000 in
theorem rstep_c {g r v d : Nat → Int} {k0 k1 : Int} {p : Nat} (hg : WV g) (hr : WV r) (hv : WV v) (hd : WV d) (h0 : W16 k0) (h1 : W16 k1) (hp : 0 < p) (hp' : p ≤ 14) :
    callP Try.prog 18 [gravA g k0 k1 p, stateA r v, vecA d] (· = .tuple [stateA (dv (stepR g r v d (valD k0 k1) p)) (dv (stepV g r v d (valD k0 k1) p)), .bool (stepO g r v d (valD k0 k1) p)]) := by
  have e1 := ep1 hp'
  have e2 := ep2 hp'
  have wg := dv_w (field_fit g r (valD k0 k1))
  have wh := dv_w (field_fit g (dv (stepR g r v d (valD k0 k1) p)) (valD k0 k1))
  refine callE_def env (fn := Try.f18) rfl (by decide) rfl ?_
  refine callT_E (rfield_c hg hr h0 h1) rfl ?_
  refine draw_intro [0, 1, 2, 3, 4, 5, 6, 7, 8, 9, 10, 11, 12, 13, 14, 15, 16, 17, 18, 19, 20, 21, 22, 23, 24] (by decide +kernel) ?_
  refine ⟨_, ⟨rless_c hv hp (by omega), rfl⟩, ?_⟩
  refine ⟨_, ⟨by rw [e1]; exact rless_c hd (by omega) (by omega), rfl⟩, ?_⟩
  refine ⟨_, ⟨by rw [e2]; exact rless_c wg (by omega) (by omega), rfl⟩, ?_⟩
  refine ⟨_, ⟨rsum4_c hr (dv_w (shiftF_fit v hp (by omega))) (dv_w (shiftF_fit d (by omega) (by omega))) (dv_w (shiftF_fit _ (by omega) (by omega))), rfl⟩, ?_⟩
  refine callT_E (rfield_c hg (dv_w (sum3_fit _ _ _ _)) h0 h1) rfl ?_
  refine draw_intro [0, 1, 2, 3, 4, 5, 6, 7, 8, 9, 10, 11, 12, 13, 14, 15, 16, 17, 18, 19] (by decide +kernel) ?_
  refine ⟨_, ⟨by rw [e1]; exact rless_c wg (by omega) (by omega), rfl⟩, ?_⟩
  refine ⟨_, ⟨by rw [e1]; exact rless_c wh (by omega) (by omega), rfl⟩, ?_⟩
  refine ⟨_, ⟨rsum4_c hv hd (dv_w (shiftF_fit _ (by omega) (by omega))) (dv_w (shiftF_fit _ (by omega) (by omega))), rfl⟩, ?_⟩
  apply branch_intro <;> intro a0
  · repeat (first | refine branch_true ?_ | refine branch_false ?_ | refine branch_f' (bne_self_eq_false _) ?_ | refine branch_t' (beq_self_eq_true _) ?_ | refine branch_t' (decide_eq_true rfl) ?_)
    show Eqv _ _
    refine eqv_of_eq ?_
    show AVal.tuple (_ :: .bool true :: _) = AVal.tuple (_ :: .bool (fieldO g r (valD k0 k1) || _ || _ || _) :: _)
    rw [a0]
    rfl
  repeat (first | refine branch_true ?_ | refine branch_false ?_ | refine branch_f' (bne_self_eq_false _) ?_ | refine branch_t' (beq_self_eq_true _) ?_ | refine branch_t' (decide_eq_true rfl) ?_)
  apply branch_intro <;> intro a1
  · repeat (first | refine branch_true ?_ | refine branch_false ?_ | refine branch_f' (bne_self_eq_false _) ?_ | refine branch_t' (beq_self_eq_true _) ?_ | refine branch_t' (decide_eq_true rfl) ?_)
    show Eqv _ _
    refine eqv_of_eq ?_
    show AVal.tuple (_ :: .bool true :: _) = AVal.tuple (_ :: .bool (fieldO g r (valD k0 k1) || sumO _ _ _ _ || _ || _) :: _)
    rw [a0, a1]
    rfl
  repeat (first | refine branch_true ?_ | refine branch_false ?_ | refine branch_f' (bne_self_eq_false _) ?_ | refine branch_t' (beq_self_eq_true _) ?_ | refine branch_t' (decide_eq_true rfl) ?_)
  apply branch_intro <;> intro a2
  · repeat (first | refine branch_true ?_ | refine branch_false ?_ | refine branch_f' (bne_self_eq_false _) ?_ | refine branch_t' (beq_self_eq_true _) ?_ | refine branch_t' (decide_eq_true rfl) ?_)
    show Eqv _ _
    refine eqv_of_eq ?_
    show AVal.tuple (_ :: .bool true :: _) = AVal.tuple (_ :: .bool (fieldO g r (valD k0 k1) || sumO _ _ _ _ || fieldO _ _ _ || _) :: _)
    rw [a0, a1, show fieldO g (dv (stepR g r v d (valD k0 k1) p)) (valD k0 k1) = _ from a2]
    rfl
  · repeat (first | refine branch_true ?_ | refine branch_false ?_ | refine branch_f' (bne_self_eq_false _) ?_ | refine branch_t' (beq_self_eq_true _) ?_ | refine branch_t' (decide_eq_true rfl) ?_)
    show Eqv _ _
    refine eqv_of_eq ?_
    show AVal.tuple (_ :: .bool _ :: _) = AVal.tuple (_ :: .bool (fieldO g r (valD k0 k1) || sumO _ _ _ _ || fieldO _ _ _ || _) :: _)
    rw [a0, a1, show fieldO g (dv (stepR g r v d (valD k0 k1) p)) (valD k0 k1) = _ from a2]
    rfl
set_option maxHeartbeats 2000000 in
theorem step_c {g r v d : Nat → Int} {k0 k1 : Int} {p : Nat} (hg : WV g) (hr : WV r) (hv : WV v) (hd : WV d) (h0 : W16 k0) (h1 : W16 k1) (hp : validB k0 k1 p = true) :
    callP Try.prog 15 [gravA g k0 k1 p, stateA r v, vecA d] (· = .tuple [stateA (dv (stepR g r v d (valD k0 k1) p)) (dv (stepV g r v d (valD k0 k1) p)), .bool (stepO g r v d (valD k0 k1) p), .int .i64 0]) := by
  have c := valid_c (g := g) (p := p) h0 h1
  rw [hp] at c
  have hp0 : 4 ≤ p ∧ p ≤ 14 := by
    unfold validB at hp
    simp at hp
    omega
  have hp' := hp0.2
  have hp : 0 < p := by omega
  have e1 := ep1 hp'
  have e2 := ep2 hp'
  have wg := dv_w (field_fit g r (valD k0 k1))
  have wh := dv_w (field_fit g (dv (stepR g r v d (valD k0 k1) p)) (valD k0 k1))
  refine callE_def env (fn := Try.f15) rfl (by decide) rfl ?_
  refine callT_E c rfl ?_
  repeat (first | refine branch_true ?_ | refine branch_false ?_ | refine branch_f' (bne_self_eq_false _) ?_ | refine branch_t' (beq_self_eq_true _) ?_ | refine branch_t' (decide_eq_true rfl) ?_)
  refine callT_E (field_c hg hr h0 h1) rfl ?_
  refine draw_tree (picks [0, 1, 2, 3, 4, 5, 6, 7, 8, 9, 10, 11, 12, 13, 14, 15, 16, 17, 18, 19, 20] (.fork 21 26 (picks [22, 23, 24, 25, 26, 27, 28] .done) (picks [21, 22, 23, 24, 25, 27, 28] .done))) (by decide +kernel) ?_
  refine ⟨_, ⟨less_c hv hp (by omega), rfl⟩, ?_⟩
  refine ⟨_, ⟨by rw [e1]; exact less_c hd (by omega) (by omega), rfl⟩, ?_⟩
  refine ⟨_, ⟨by rw [e2]; exact less_c wg (by omega) (by omega), rfl⟩, ?_⟩
  have cs := sum_c (f := r) (x := dv (shiftF v p)) (y := dv (shiftF d (p + 1))) (z := dv (shiftF (dv (fieldF g r (valD k0 k1))) (2 * p + 1))) hr (dv_w (shiftF_fit v hp (by omega))) (dv_w (shiftF_fit d (by omega) (by omega))) (dv_w (shiftF_fit _ (by omega) (by omega)))
  have ct := sum_c (f := v) (x := d) (y := dv (shiftF (dv (fieldF g r (valD k0 k1))) (p + 1))) (z := dv (shiftF (dv (fieldF g (dv (stepR g r v d (valD k0 k1) p)) (valD k0 k1))) (p + 1))) hv hd (dv_w (shiftF_fit _ (by omega) (by omega))) (dv_w (shiftF_fit _ (by omega) (by omega)))
  refine ⟨?_, ?_⟩
  · apply choice_l
    refine ⟨_, ⟨cs, rfl⟩, ?_⟩
    refine callT_E (field_c hg (dv_w (sum3_fit _ _ _ _)) h0 h1) rfl ?_
    refine draw_tree (picks [0, 1, 2, 3, 4, 5, 6, 7, 8, 9, 10, 11, 12, 13, 14] (.fork 15 20 (picks [16, 17, 18, 19, 20, 21, 22] .done) (picks [15, 16, 17, 18, 19, 21, 22] .done))) (by decide +kernel) ?_
    refine ⟨_, ⟨by rw [e1]; exact less_c wg (by omega) (by omega), rfl⟩, ?_⟩
    refine ⟨_, ⟨by rw [e1]; exact less_c wh (by omega) (by omega), rfl⟩, ?_⟩
    refine ⟨?_, ?_⟩
    · apply choice_l
      refine ⟨_, ⟨ct, rfl⟩, ?_⟩
      apply branch_intro <;> intro a0
      · repeat (first | refine branch_true ?_ | refine branch_false ?_ | refine branch_f' (bne_self_eq_false _) ?_ | refine branch_t' (beq_self_eq_true _) ?_ | refine branch_t' (decide_eq_true rfl) ?_)
        show Eqv _ _
        refine eqv_of_eq ?_
        show AVal.tuple (_ :: .bool true :: _) = AVal.tuple (_ :: .bool (fieldO g r (valD k0 k1) || _ || _ || _) :: _)
        rw [a0]
        rfl
      repeat (first | refine branch_true ?_ | refine branch_false ?_ | refine branch_f' (bne_self_eq_false _) ?_ | refine branch_t' (beq_self_eq_true _) ?_ | refine branch_t' (decide_eq_true rfl) ?_)
      apply branch_intro <;> intro a1
      · repeat (first | refine branch_true ?_ | refine branch_false ?_ | refine branch_f' (bne_self_eq_false _) ?_ | refine branch_t' (beq_self_eq_true _) ?_ | refine branch_t' (decide_eq_true rfl) ?_)
        show Eqv _ _
        refine eqv_of_eq ?_
        show AVal.tuple (_ :: .bool true :: _) = AVal.tuple (_ :: .bool (fieldO g r (valD k0 k1) || sumO _ _ _ _ || _ || _) :: _)
        rw [a0, a1]
        rfl
      repeat (first | refine branch_true ?_ | refine branch_false ?_ | refine branch_f' (bne_self_eq_false _) ?_ | refine branch_t' (beq_self_eq_true _) ?_ | refine branch_t' (decide_eq_true rfl) ?_)
      apply branch_intro <;> intro a2
      · repeat (first | refine branch_true ?_ | refine branch_false ?_ | refine branch_f' (bne_self_eq_false _) ?_ | refine branch_t' (beq_self_eq_true _) ?_ | refine branch_t' (decide_eq_true rfl) ?_)
        show Eqv _ _
        refine eqv_of_eq ?_
        show AVal.tuple (_ :: .bool true :: _) = AVal.tuple (_ :: .bool (fieldO g r (valD k0 k1) || sumO _ _ _ _ || fieldO _ _ _ || _) :: _)
        rw [a0, a1, show fieldO g (dv (stepR g r v d (valD k0 k1) p)) (valD k0 k1) = _ from a2]
        rfl
      · repeat (first | refine branch_true ?_ | refine branch_false ?_ | refine branch_f' (bne_self_eq_false _) ?_ | refine branch_t' (beq_self_eq_true _) ?_ | refine branch_t' (decide_eq_true rfl) ?_)
        show Eqv _ _
        refine eqv_of_eq ?_
        show AVal.tuple (_ :: .bool _ :: _) = AVal.tuple (_ :: .bool (fieldO g r (valD k0 k1) || sumO _ _ _ _ || fieldO _ _ _ || _) :: _)
        rw [a0, a1, show fieldO g (dv (stepR g r v d (valD k0 k1) p)) (valD k0 k1) = _ from a2]
        rfl
    · apply choice_l
      refine ⟨_, ⟨ct, rfl⟩, ?_⟩
      apply branch_intro <;> intro a0
      · repeat (first | refine branch_true ?_ | refine branch_false ?_ | refine branch_f' (bne_self_eq_false _) ?_ | refine branch_t' (beq_self_eq_true _) ?_ | refine branch_t' (decide_eq_true rfl) ?_)
        show Eqv _ _
        refine eqv_of_eq ?_
        show AVal.tuple (_ :: .bool true :: _) = AVal.tuple (_ :: .bool (fieldO g r (valD k0 k1) || _ || _ || _) :: _)
        rw [a0]
        rfl
      repeat (first | refine branch_true ?_ | refine branch_false ?_ | refine branch_f' (bne_self_eq_false _) ?_ | refine branch_t' (beq_self_eq_true _) ?_ | refine branch_t' (decide_eq_true rfl) ?_)
      apply branch_intro <;> intro a1
      · repeat (first | refine branch_true ?_ | refine branch_false ?_ | refine branch_f' (bne_self_eq_false _) ?_ | refine branch_t' (beq_self_eq_true _) ?_ | refine branch_t' (decide_eq_true rfl) ?_)
        show Eqv _ _
        refine eqv_of_eq ?_
        show AVal.tuple (_ :: .bool true :: _) = AVal.tuple (_ :: .bool (fieldO g r (valD k0 k1) || sumO _ _ _ _ || _ || _) :: _)
        rw [a0, a1]
        rfl
      repeat (first | refine branch_true ?_ | refine branch_false ?_ | refine branch_f' (bne_self_eq_false _) ?_ | refine branch_t' (beq_self_eq_true _) ?_ | refine branch_t' (decide_eq_true rfl) ?_)
      apply branch_intro <;> intro a2
      · repeat (first | refine branch_true ?_ | refine branch_false ?_ | refine branch_f' (bne_self_eq_false _) ?_ | refine branch_t' (beq_self_eq_true _) ?_ | refine branch_t' (decide_eq_true rfl) ?_)
        show Eqv _ _
        refine eqv_of_eq ?_
        show AVal.tuple (_ :: .bool true :: _) = AVal.tuple (_ :: .bool (fieldO g r (valD k0 k1) || sumO _ _ _ _ || fieldO _ _ _ || _) :: _)
        rw [a0, a1, show fieldO g (dv (stepR g r v d (valD k0 k1) p)) (valD k0 k1) = _ from a2]
        rfl
      · repeat (first | refine branch_true ?_ | refine branch_false ?_ | refine branch_f' (bne_self_eq_false _) ?_ | refine branch_t' (beq_self_eq_true _) ?_ | refine branch_t' (decide_eq_true rfl) ?_)
        show Eqv _ _
        refine eqv_of_eq ?_
        show AVal.tuple (_ :: .bool _ :: _) = AVal.tuple (_ :: .bool (fieldO g r (valD k0 k1) || sumO _ _ _ _ || fieldO _ _ _ || _) :: _)
        rw [a0, a1, show fieldO g (dv (stepR g r v d (valD k0 k1) p)) (valD k0 k1) = _ from a2]
        rfl
  · apply choice_l
    refine ⟨_, ⟨cs, rfl⟩, ?_⟩
    refine callT_E (field_c hg (dv_w (sum3_fit _ _ _ _)) h0 h1) rfl ?_
    refine draw_tree (picks [0, 1, 2, 3, 4, 5, 6, 7, 8, 9, 10, 11, 12, 13, 14] (.fork 15 20 (picks [16, 17, 18, 19, 20, 21, 22] .done) (picks [15, 16, 17, 18, 19, 21, 22] .done))) (by decide +kernel) ?_
    refine ⟨_, ⟨by rw [e1]; exact less_c wg (by omega) (by omega), rfl⟩, ?_⟩
    refine ⟨_, ⟨by rw [e1]; exact less_c wh (by omega) (by omega), rfl⟩, ?_⟩
    refine ⟨?_, ?_⟩
    · apply choice_l
      refine ⟨_, ⟨ct, rfl⟩, ?_⟩
      apply branch_intro <;> intro a0
      · repeat (first | refine branch_true ?_ | refine branch_false ?_ | refine branch_f' (bne_self_eq_false _) ?_ | refine branch_t' (beq_self_eq_true _) ?_ | refine branch_t' (decide_eq_true rfl) ?_)
        show Eqv _ _
        refine eqv_of_eq ?_
        show AVal.tuple (_ :: .bool true :: _) = AVal.tuple (_ :: .bool (fieldO g r (valD k0 k1) || _ || _ || _) :: _)
        rw [a0]
        rfl
      repeat (first | refine branch_true ?_ | refine branch_false ?_ | refine branch_f' (bne_self_eq_false _) ?_ | refine branch_t' (beq_self_eq_true _) ?_ | refine branch_t' (decide_eq_true rfl) ?_)
      apply branch_intro <;> intro a1
      · repeat (first | refine branch_true ?_ | refine branch_false ?_ | refine branch_f' (bne_self_eq_false _) ?_ | refine branch_t' (beq_self_eq_true _) ?_ | refine branch_t' (decide_eq_true rfl) ?_)
        show Eqv _ _
        refine eqv_of_eq ?_
        show AVal.tuple (_ :: .bool true :: _) = AVal.tuple (_ :: .bool (fieldO g r (valD k0 k1) || sumO _ _ _ _ || _ || _) :: _)
        rw [a0, a1]
        rfl
      repeat (first | refine branch_true ?_ | refine branch_false ?_ | refine branch_f' (bne_self_eq_false _) ?_ | refine branch_t' (beq_self_eq_true _) ?_ | refine branch_t' (decide_eq_true rfl) ?_)
      apply branch_intro <;> intro a2
      · repeat (first | refine branch_true ?_ | refine branch_false ?_ | refine branch_f' (bne_self_eq_false _) ?_ | refine branch_t' (beq_self_eq_true _) ?_ | refine branch_t' (decide_eq_true rfl) ?_)
        show Eqv _ _
        refine eqv_of_eq ?_
        show AVal.tuple (_ :: .bool true :: _) = AVal.tuple (_ :: .bool (fieldO g r (valD k0 k1) || sumO _ _ _ _ || fieldO _ _ _ || _) :: _)
        rw [a0, a1, show fieldO g (dv (stepR g r v d (valD k0 k1) p)) (valD k0 k1) = _ from a2]
        rfl
      · repeat (first | refine branch_true ?_ | refine branch_false ?_ | refine branch_f' (bne_self_eq_false _) ?_ | refine branch_t' (beq_self_eq_true _) ?_ | refine branch_t' (decide_eq_true rfl) ?_)
        show Eqv _ _
        refine eqv_of_eq ?_
        show AVal.tuple (_ :: .bool _ :: _) = AVal.tuple (_ :: .bool (fieldO g r (valD k0 k1) || sumO _ _ _ _ || fieldO _ _ _ || _) :: _)
        rw [a0, a1, show fieldO g (dv (stepR g r v d (valD k0 k1) p)) (valD k0 k1) = _ from a2]
        rfl
    · apply choice_l
      refine ⟨_, ⟨ct, rfl⟩, ?_⟩
      apply branch_intro <;> intro a0
      · repeat (first | refine branch_true ?_ | refine branch_false ?_ | refine branch_f' (bne_self_eq_false _) ?_ | refine branch_t' (beq_self_eq_true _) ?_ | refine branch_t' (decide_eq_true rfl) ?_)
        show Eqv _ _
        refine eqv_of_eq ?_
        show AVal.tuple (_ :: .bool true :: _) = AVal.tuple (_ :: .bool (fieldO g r (valD k0 k1) || _ || _ || _) :: _)
        rw [a0]
        rfl
      repeat (first | refine branch_true ?_ | refine branch_false ?_ | refine branch_f' (bne_self_eq_false _) ?_ | refine branch_t' (beq_self_eq_true _) ?_ | refine branch_t' (decide_eq_true rfl) ?_)
      apply branch_intro <;> intro a1
      · repeat (first | refine branch_true ?_ | refine branch_false ?_ | refine branch_f' (bne_self_eq_false _) ?_ | refine branch_t' (beq_self_eq_true _) ?_ | refine branch_t' (decide_eq_true rfl) ?_)
        show Eqv _ _
        refine eqv_of_eq ?_
        show AVal.tuple (_ :: .bool true :: _) = AVal.tuple (_ :: .bool (fieldO g r (valD k0 k1) || sumO _ _ _ _ || _ || _) :: _)
        rw [a0, a1]
        rfl
      repeat (first | refine branch_true ?_ | refine branch_false ?_ | refine branch_f' (bne_self_eq_false _) ?_ | refine branch_t' (beq_self_eq_true _) ?_ | refine branch_t' (decide_eq_true rfl) ?_)
      apply branch_intro <;> intro a2
      · repeat (first | refine branch_true ?_ | refine branch_false ?_ | refine branch_f' (bne_self_eq_false _) ?_ | refine branch_t' (beq_self_eq_true _) ?_ | refine branch_t' (decide_eq_true rfl) ?_)
        show Eqv _ _
        refine eqv_of_eq ?_
        show AVal.tuple (_ :: .bool true :: _) = AVal.tuple (_ :: .bool (fieldO g r (valD k0 k1) || sumO _ _ _ _ || fieldO _ _ _ || _) :: _)
        rw [a0, a1, show fieldO g (dv (stepR g r v d (valD k0 k1) p)) (valD k0 k1) = _ from a2]
        rfl
      · repeat (first | refine branch_true ?_ | refine branch_false ?_ | refine branch_f' (bne_self_eq_false _) ?_ | refine branch_t' (beq_self_eq_true _) ?_ | refine branch_t' (decide_eq_true rfl) ?_)
        show Eqv _ _
        refine eqv_of_eq ?_
        show AVal.tuple (_ :: .bool _ :: _) = AVal.tuple (_ :: .bool (fieldO g r (valD k0 k1) || sumO _ _ _ _ || fieldO _ _ _ || _) :: _)
        rw [a0, a1, show fieldO g (dv (stepR g r v d (valD k0 k1) p)) (valD k0 k1) = _ from a2]
        rfl
end Go.Proofs
/-! Ih. -/
namespace Go.Proofs
open Go.E
set_option maxRecDepth 8000

def upV (x : Int) (k : Nat) : Int := (x + 2 ^ k - 1) / 2 ^ k
theorem up_b {x : Int} {k : Nat} (h0 : 0 ≤ x) (hk : 4 ≤ k) : 0 ≤ upV x k ∧ upV x k ≤ x / 16 + 1 := by
  have hq : (16 : Int) ≤ 2 ^ k := by
    have h1 : (2 : Nat) ^ 4 ≤ 2 ^ k := Nat.pow_le_pow_right (by decide) hk
    have e : ((2 ^ k : Nat) : Int) = 2 ^ k := by simp
    have : (2 : Nat) ^ 4 = 16 := by decide
    omega
  unfold upV
  generalize (2 : Int) ^ k = q at hq ⊢
  refine ⟨Int.ediv_nonneg (by omega) (by omega), ?_⟩
  have h1 : q * ((x + q - 1) / q) ≤ x + q - 1 := Int.mul_ediv_self_le (by omega)
  generalize (x + q - 1) / q = u at h1 ⊢
  by_cases hu : u ≤ 1
  · omega
  have h2 : 16 * (u - 1) ≤ q * (u - 1) := Int.mul_le_mul_of_nonneg_right hq (by omega)
  rw [Int.mul_sub, Int.mul_sub] at h2
  generalize q * u = m at *
  omega
theorem up_c {x : Int} {k : Nat} (h0 : 0 ≤ x) (hx : x ≤ 1152921504606846976) (hk : k ≤ 56) : callP Try.prog 46 [.int .i64 x, .int .i64 k] (· = .int .i64 (upV x k)) := by
  have hp := pow_b hk
  refine callE_def env (fn := Try.f46) rfl (by decide) rfl ?_
  apply need_intro
  · show (0 : Int) ≤ (k : Int); omega
  apply need_intro
  · show (0 : Int) ≤ (k : Int); omega
  show Eqv _ _
  refine eqv_of_eq (congrArg (AVal.int _) ?_)
  have m1 : min ((k : Int)).toNat IntKind.i64.bits = k := by
    show min ((k : Int)).toNat 64 = k
    rw [Int.toNat_natCast]
    omega
  rw [m1, Int.one_mul, wi (x := 2 ^ k) (by omega) (by omega), wi (x := x + 2 ^ k) (by omega) (by omega), wi (by omega) (by omega), Int.fdiv_eq_ediv_of_nonneg _ (by omega)]
  rfl
theorem rup_c {x : Int} {k : Nat} (h0 : 0 ≤ x) (hx : x ≤ 1152921504606846976) (hk : k ≤ 56) : callP Try.prog 47 [.int .i64 x, .int .i64 k] (· = .int .i64 (upV x k)) := by
  refine callE_def env (fn := Try.f47) rfl (by decide) rfl ?_
  refine loop_inv (keep 20 [0, 1, 4, 5, 6]) (fun s : RsSt => slots 20 [(0, .int .i64 x), (1, .int .i64 k), (4, .int .i64 0), (5, .int .i64 (2 ^ s.i)), (6, .int .i64 s.i)])
    (fun _ => []) (fun s => s.i ≤ k) (fun s => k - s.i) ⟨0⟩ (Nat.zero_le _) rfl rfl ?_
  rintro ⟨i⟩ hi
  simp only at hi
  have hp := pow_b (n := i) (by omega)
  apply branch_intro <;> intro h <;> simp at h
  · refine ⟨⟨i + 1⟩, h, by simp only; omega, ?_, rfl⟩
    show [_, _, _, _, _, _, _, _, _, _, _, _, _, _, _, _, _, _, _, _] = _
    have e2 : IntKind.i64.wrap (2 * 2 ^ i) = 2 ^ (i + 1) := by rw [wi (by omega) (by omega), Int.pow_succ]; omega
    have e3 : IntKind.i64.wrap ((i : Int) + 1) = ((i + 1 : Nat) : Int) := by rw [wi (by omega) (by omega)]; rfl
    rw [e2, e3]
    rfl
  · have : i = k := by omega
    subst this
    apply need_intro
    · simp only; omega
    show Eqv _ _
    refine eqv_of_eq (congrArg (AVal.int _) ?_)
    have hb : 0 ≤ (x + 2 ^ i - 1) / 2 ^ i := Int.ediv_nonneg (by omega) (by omega)
    have hb2 : (x + 2 ^ i - 1) / 2 ^ i ≤ x + 2 ^ i - 1 := Int.ediv_le_self _ (by omega)
    show IntKind.i64.wrap (Int.tdiv (IntKind.i64.wrap (IntKind.i64.wrap (x + 2 ^ i) - 1)) (2 ^ i)) = _
    rw [wi (x := x + 2 ^ i) (by omega) (by omega), wi (x := x + 2 ^ i - 1) (by omega) (by omega), tdiv_pos (by omega), wi (by omega) (by omega)]
    rfl

/-- The recursion of the bounds. -/
def bnd (p : Nat) : Nat → Int × Int
  | 0 => (0, 0)
  | n + 1 => ((bnd p n).1 + upV (bnd p n).1 (2 * p + 1) + upV (bnd p n).2 p + 2,
      (bnd p n).2 + (upV ((bnd p n).1 + ((bnd p n).1 + upV (bnd p n).1 (2 * p + 1) + upV (bnd p n).2 p + 2) + 1) (p + 1) + 1))
def topM : Nat → Nat
  | 0 => 0
  | n + 1 => topM n + topM n / 4 + 8
theorem topM_mono {n : Nat} : ∀ m, topM n ≤ topM (n + m)
  | 0 => Nat.le_refl _
  | m + 1 => by
    have := topM_mono (n := n) m
    show topM n ≤ topM (n + m) + topM (n + m) / 4 + 8
    omega
theorem topM_b {n : Nat} (hn : n ≤ 100) : topM n ≤ 1099511627776 := by
  have h1 := topM_mono (n := n) (100 - n)
  rw [show n + (100 - n) = 100 by omega] at h1
  have h2 : topM 100 ≤ 1099511627776 := by decide +kernel
  omega
theorem bnd_b {p : Nat} (hp : 4 ≤ p) : ∀ n, 0 ≤ (bnd p n).1 ∧ (bnd p n).1 ≤ topM n ∧ 0 ≤ (bnd p n).2 ∧ (bnd p n).2 ≤ topM n
  | 0 => by simp [bnd, topM]
  | n + 1 => by
    obtain ⟨h1, h2, h3, h4⟩ := bnd_b hp n
    have u1 := up_b (k := 2 * p + 1) h1 (by omega)
    have u2 := up_b (k := p) h3 (by omega)
    have u3 := up_b (x := (bnd p n).1 + ((bnd p n).1 + upV (bnd p n).1 (2 * p + 1) + upV (bnd p n).2 p + 2) + 1) (k := p + 1) (by omega) (by omega)
    simp only [bnd, topM]
    omega
theorem bound_bad {p n : Int} (h : p < 4 ∨ p > 14 ∨ n < 0) : callP Try.prog 19 [.int .i64 p, .int .i64 n] (· = .tuple [.int .i64 0, .int .i64 0, .int .i64 2]) := by
  refine callE_def env (fn := Try.f19) rfl (by decide) rfl ?_
  apply branch_intro <;> intro a
  · repeat (first | refine branch_true ?_ | refine branch_false ?_ | refine branch_f' (bne_self_eq_false _) ?_ | refine branch_t' (beq_self_eq_true _) ?_ | refine branch_t' (decide_eq_true rfl) ?_)
    show Eqv _ _
    exact .up (.up (.refl _))
  repeat (first | refine branch_true ?_ | refine branch_false ?_ | refine branch_f' (bne_self_eq_false _) ?_ | refine branch_t' (beq_self_eq_true _) ?_ | refine branch_t' (decide_eq_true rfl) ?_)
  apply branch_intro <;> intro b
  · repeat (first | refine branch_true ?_ | refine branch_false ?_ | refine branch_f' (bne_self_eq_false _) ?_ | refine branch_t' (beq_self_eq_true _) ?_ | refine branch_t' (decide_eq_true rfl) ?_)
    show Eqv _ _
    exact .up (.up (.refl _))
  repeat (first | refine branch_true ?_ | refine branch_false ?_ | refine branch_f' (bne_self_eq_false _) ?_ | refine branch_t' (beq_self_eq_true _) ?_ | refine branch_t' (decide_eq_true rfl) ?_)
  apply branch_intro <;> intro c
  · show Eqv _ _
    exact .up (.up (.refl _))
  · exfalso
    simp at a b c
    omega
theorem bound_over {p n : Int} (hp : 4 ≤ p ∧ p ≤ 14) (hn : 100 < n) : callP Try.prog 19 [.int .i64 p, .int .i64 n] (· = .tuple [.int .i64 0, .int .i64 0, .int .i64 4]) := by
  refine callE_def env (fn := Try.f19) rfl (by decide) rfl ?_
  repeat (first | refine branch_true ?_ | refine branch_false ?_ | refine branch_t' (decide_eq_true (by omega)) ?_ | refine branch_f' (decide_eq_false (by omega)) ?_)
  show Eqv _ _
  exact .up (.up (.refl _))
set_option maxHeartbeats 1000000 in
theorem bound_c {p n : Nat} (hp : 4 ≤ p ∧ p ≤ 14) (hn : n ≤ 100) : callP Try.prog 19 [.int .i64 p, .int .i64 n] (· = .tuple [.int .i64 (bnd p n).1, .int .i64 (bnd p n).2, .int .i64 0]) := by
  refine callE_def env (fn := Try.f19) rfl (by decide) rfl ?_
  repeat (first | refine branch_true ?_ | refine branch_false ?_ | refine branch_t' (decide_eq_true (by omega)) ?_ | refine branch_f' (decide_eq_false (by omega)) ?_)
  refine loop_inv (keep 55 [0, 4, 5, 6, 7, 8, 9, 23, 24]) (fun s : RsSt => slots 55 [(0, .int .i64 p), (4, .int .i64 0), (5, .int .i64 0), (6, .int .i64 0), (7, .fn (.func 46) [] []), (8, .int .i64 (bnd p s.i).1), (9, .int .i64 (bnd p s.i).2), (23, .int .i64 n), (24, .int .i64 s.i)])
    (fun _ => []) (fun s => s.i ≤ n) (fun s => n - s.i) ⟨0⟩ (Nat.zero_le _) rfl rfl ?_
  rintro ⟨i⟩ hi
  simp only at hi
  obtain ⟨h1, h2, h3, h4⟩ := bnd_b hp.1 i
  have ht := topM_b (n := i) (by omega)
  have u1 := up_b (k := 2 * p + 1) h1 (by omega)
  have u2 := up_b (k := p) h3 (by omega)
  have u3 := up_b (x := (bnd p i).1 + ((bnd p i).1 + upV (bnd p i).1 (2 * p + 1) + upV (bnd p i).2 p + 2) + 1) (k := p + 1) (by omega) (by omega)
  have e1 := ep1 hp.2
  have e2 := ep2 hp.2
  have e3 : IntKind.i64.wrap ((i : Int) + 1) = ((i + 1 : Nat) : Int) := by rw [wi (by omega) (by omega)]; rfl
  have x1 : IntKind.i64.wrap ((bnd p i).1 + upV (bnd p i).1 (2 * p + 1)) = (bnd p i).1 + upV (bnd p i).1 (2 * p + 1) := wi (by omega) (by omega)
  have x2 : IntKind.i64.wrap ((bnd p i).1 + upV (bnd p i).1 (2 * p + 1) + upV (bnd p i).2 p) = (bnd p i).1 + upV (bnd p i).1 (2 * p + 1) + upV (bnd p i).2 p := wi (by omega) (by omega)
  have x3 : IntKind.i64.wrap ((bnd p i).1 + upV (bnd p i).1 (2 * p + 1) + upV (bnd p i).2 p + 2) = (bnd p i).1 + upV (bnd p i).1 (2 * p + 1) + upV (bnd p i).2 p + 2 := wi (by omega) (by omega)
  have y1 : IntKind.i64.wrap ((bnd p i).1 + ((bnd p i).1 + upV (bnd p i).1 (2 * p + 1) + upV (bnd p i).2 p + 2)) = (bnd p i).1 + ((bnd p i).1 + upV (bnd p i).1 (2 * p + 1) + upV (bnd p i).2 p + 2) := wi (by omega) (by omega)
  have y2 : IntKind.i64.wrap ((bnd p i).1 + ((bnd p i).1 + upV (bnd p i).1 (2 * p + 1) + upV (bnd p i).2 p + 2) + 1) = (bnd p i).1 + ((bnd p i).1 + upV (bnd p i).1 (2 * p + 1) + upV (bnd p i).2 p + 2) + 1 := wi (by omega) (by omega)
  apply branch_intro <;> intro h <;> simp at h
  · refine callT_E (by rw [e2]; exact up_c (x := (bnd p i).1) h1 (by omega) (by omega)) rfl ?_
    refine callT_E (up_c (x := (bnd p i).2) h3 (by omega) (by omega)) rfl ?_
    refine callT_E (by rw [x1, x2, x3, y1, y2, e1]; exact up_c (x := (bnd p i).1 + ((bnd p i).1 + upV (bnd p i).1 (2 * p + 1) + upV (bnd p i).2 p + 2) + 1) (by omega) (by omega) (by omega)) rfl ?_
    refine ⟨⟨i + 1⟩, h, by simp only; omega, ?_, rfl⟩
    show [_, _, _, _, _, _, _, _, _, _, _, _, _, _, _, _, _, _, _, _, _, _, _, _, _, _, _, _, _, _, _, _, _, _, _, _, _, _, _, _, _, _, _, _, _, _, _, _, _, _, _, _, _, _, _] = _
    rw [x1, x2, x3, e3, wi (x := upV _ (p + 1) + 1) (by omega) (by omega), wi (x := (bnd p i).2 + _) (by omega) (by omega)]
    rfl
  · have : i = n := by omega
    subst this
    show Eqv _ _
    exact .up (.up (.refl _))
set_option maxHeartbeats 1000000 in
theorem rbound_c {p n : Nat} (hp : 4 ≤ p ∧ p ≤ 14) (hn : n ≤ 100) : callP Try.prog 20 [.int .i64 p, .int .i64 n] (· = .tuple [.int .i64 (bnd p n).1, .int .i64 (bnd p n).2]) := by
  refine callE_def env (fn := Try.f20) rfl (by decide) rfl ?_
  refine loop_inv (keep 40 [0, 1, 4, 5, 6, 7, 8]) (fun s : RsSt => slots 40 [(0, .int .i64 p), (1, .int .i64 n), (4, .int .i64 0), (5, .int .i64 0), (6, .int .i64 (bnd p s.i).1), (7, .int .i64 (bnd p s.i).2), (8, .int .i64 s.i)])
    (fun _ => []) (fun s => s.i ≤ n) (fun s => n - s.i) ⟨0⟩ (Nat.zero_le _) rfl rfl ?_
  rintro ⟨i⟩ hi
  simp only at hi
  obtain ⟨h1, h2, h3, h4⟩ := bnd_b hp.1 i
  have ht := topM_b (n := i) (by omega)
  have u1 := up_b (k := 2 * p + 1) h1 (by omega)
  have u2 := up_b (k := p) h3 (by omega)
  have u3 := up_b (x := (bnd p i).1 + ((bnd p i).1 + upV (bnd p i).1 (2 * p + 1) + upV (bnd p i).2 p + 2) + 1) (k := p + 1) (by omega) (by omega)
  have e1 := ep1 hp.2
  have e2 := ep2 hp.2
  have e3 : IntKind.i64.wrap ((i : Int) + 1) = ((i + 1 : Nat) : Int) := by rw [wi (by omega) (by omega)]; rfl
  have x1 : IntKind.i64.wrap ((bnd p i).1 + upV (bnd p i).1 (2 * p + 1)) = (bnd p i).1 + upV (bnd p i).1 (2 * p + 1) := wi (by omega) (by omega)
  have x2 : IntKind.i64.wrap ((bnd p i).1 + upV (bnd p i).1 (2 * p + 1) + upV (bnd p i).2 p) = (bnd p i).1 + upV (bnd p i).1 (2 * p + 1) + upV (bnd p i).2 p := wi (by omega) (by omega)
  have x3 : IntKind.i64.wrap ((bnd p i).1 + upV (bnd p i).1 (2 * p + 1) + upV (bnd p i).2 p + 2) = (bnd p i).1 + upV (bnd p i).1 (2 * p + 1) + upV (bnd p i).2 p + 2 := wi (by omega) (by omega)
  have y1 : IntKind.i64.wrap ((bnd p i).1 + ((bnd p i).1 + upV (bnd p i).1 (2 * p + 1) + upV (bnd p i).2 p + 2)) = (bnd p i).1 + ((bnd p i).1 + upV (bnd p i).1 (2 * p + 1) + upV (bnd p i).2 p + 2) := wi (by omega) (by omega)
  have y2 : IntKind.i64.wrap ((bnd p i).1 + ((bnd p i).1 + upV (bnd p i).1 (2 * p + 1) + upV (bnd p i).2 p + 2) + 1) = (bnd p i).1 + ((bnd p i).1 + upV (bnd p i).1 (2 * p + 1) + upV (bnd p i).2 p + 2) + 1 := wi (by omega) (by omega)
  apply branch_intro <;> intro h <;> simp at h
  · refine callT_E (by rw [e2]; exact rup_c (x := (bnd p i).1) h1 (by omega) (by omega)) rfl ?_
    refine callT_E (rup_c (x := (bnd p i).2) h3 (by omega) (by omega)) rfl ?_
    refine callT_E (by rw [x1, x2, x3, y1, y2, e1]; exact rup_c (x := (bnd p i).1 + ((bnd p i).1 + upV (bnd p i).1 (2 * p + 1) + upV (bnd p i).2 p + 2) + 1) (by omega) (by omega) (by omega)) rfl ?_
    refine ⟨⟨i + 1⟩, h, by simp only; omega, ?_, rfl⟩
    show [_, _, _, _, _, _, _, _, _, _, _, _, _, _, _, _, _, _, _, _, _, _, _, _, _, _, _, _, _, _, _, _, _, _, _, _, _, _, _, _] = _
    rw [x1, x2, x3, e3, wi (x := (bnd p i).2 + _) (by omega) (by omega), wi (x := (bnd p i).2 + _ + 1) (by omega) (by omega), Int.add_assoc (bnd p i).2]
    rfl
  · have : i = n := by omega
    subst this
    show Eqv _ _
    exact .up (.up (.refl _))
end Go.Proofs
/-! Ii. -/
namespace Go.Proofs
open Go.E
set_option maxRecDepth 8000

def of3 (x y z : Int) (i : Nat) : Int := match i with
  | 0 => x
  | 1 => y
  | _ => z
theorem ofV_c {x y z : Int} (hx : Fit x) (hy : Fit y) (hz : Fit z) : callP Try.prog 30 [.int .i64 x, .int .i64 y, .int .i64 z] (· = vecA (dv (of3 x y z))) := by
  refine callE_def env (fn := Try.f30) rfl (by decide) rfl ?_
  refine callT_E (rdouble_c hx) rfl ?_
  refine callT_E (rdouble_c hy) rfl ?_
  refine callT_E (rdouble_c hz) rfl ?_
  show Eqv _ _
  exact .up (.up (.refl _))
theorem of3_fit {x y z : Int} (hx : Fit x) (hy : Fit y) (hz : Fit z) : FV (of3 x y z) := fun i hi => by
  match i, hi with
  | 0, _ => exact hx
  | 1, _ => exact hy
  | 2, _ => exact hz
theorem fit_lit {x : Int} (h : (decide (-268435455 ≤ x) && decide (x ≤ 268435455)) = true) : Fit x := by
  simp at h
  exact h
theorem w_zero : W16 0 := by unfold W16; omega
set_option maxHeartbeats 2000000 in
theorem lives_c : callP Try.prog 12 [] (· = .bool true) := by
  refine callE_def env (fn := Try.f12) rfl (by decide) rfl ?_
  have fa : FV (of3 0 0 (-134217728)) := of3_fit (fit_lit rfl) (fit_lit rfl) (fit_lit rfl)
  have fb : FV (of3 134217728 0 0) := of3_fit (fit_lit rfl) (fit_lit rfl) (fit_lit rfl)
  refine callT_E (ofV_c (fit_lit rfl) (fit_lit rfl) (fit_lit rfl)) rfl ?_
  refine callT_E (step_c (g := dv (of3 0 0 (-134217728))) (r := zeroV) (v := zeroV) (d := zeroV) (k0 := 0) (k1 := 0) (p := 4) (dv_w fa) zero_w zero_w zero_w w_zero w_zero (by decide +kernel)) rfl ?_
  refine callT_E (ofV_c (fit_lit rfl) (fit_lit rfl) (fit_lit rfl)) rfl ?_
  refine callT_E (step_c (g := zeroV) (r := zeroV) (v := dv (of3 134217728 0 0)) (d := zeroV) (k0 := 0) (k1 := 0) (p := 4) zero_w zero_w (dv_w fb) zero_w w_zero w_zero (by decide +kernel)) rfl ?_
  refine callT_E (bound_c (p := 4) (n := 2) (by decide) (by decide)) rfl ?_
  refine callT_E (step_bad (g := zeroV) (r := zeroV) (v := zeroV) (d := zeroV) (k0 := 0) (k1 := 0) (p := 3) w_zero w_zero (by decide +kernel)) rfl ?_
  refine draw_tree (picks [0, 1, 2, 3, 4, 5, 6, 7, 8, 9, 10, 11, 12, 13, 14, 15, 16, 17, 18, 19, 20, 21, 22, 23, 24, 25, 26, 27, 28, 29, 30, 31, 32, 33, 34, 35, 36, 37, 38, 39, 40, 41, 42, 43, 44] .done) (by decide +kernel) ?_
  repeat (first | refine branch_t' (by decide +kernel) ?_ | refine branch_f' (by decide +kernel) ?_)
  refine ⟨_, ⟨ofV_c (fit_lit rfl) (fit_lit rfl) (fit_lit rfl), rfl⟩, ?_⟩
  repeat (first | refine branch_t' (by decide +kernel) ?_ | refine branch_f' (by decide +kernel) ?_)
  refine ⟨_, ⟨ofV_c (fit_lit rfl) (fit_lit rfl) (fit_lit rfl), rfl⟩, ?_⟩
  repeat (first | refine branch_t' (by decide +kernel) ?_ | refine branch_f' (by decide +kernel) ?_)
  refine ⟨_, ⟨ofV_c (fit_lit rfl) (fit_lit rfl) (fit_lit rfl), rfl⟩, ?_⟩
  repeat (first | refine branch_t' (by decide +kernel) ?_ | refine branch_f' (by decide +kernel) ?_)
  refine ⟨_, ⟨ofV_c (fit_lit rfl) (fit_lit rfl) (fit_lit rfl), rfl⟩, ?_⟩
  repeat (first | refine branch_t' (by decide +kernel) ?_ | refine branch_f' (by decide +kernel) ?_)
  show Eqv _ _
  exact .up (.up (.refl _))
end Go.Proofs
