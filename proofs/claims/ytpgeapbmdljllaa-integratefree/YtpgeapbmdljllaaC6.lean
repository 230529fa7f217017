/- Chapter 33, part t: runs without gravity and increments. -/
import Derived.Test.YtpgeapbmdljllaaC5
set_option linter.unusedVariables false
set_option linter.unusedSimpArgs false
/-! It. -/
namespace Go.Proofs
open Go.E
set_option maxRecDepth 8000

theorem sat_add {x sh z : Int} {k : Nat} (hx : Fit x) (hz : z = x + k * sh) : clampV (clampV z + sh) = clampV (z + sh) ∧ (outV z || outV (clampV z + sh)) = outV (z + sh) := by
  unfold Fit at hx
  have up : z > 268435455 → sh > 0 := fun h => by
    apply Classical.byContradiction
    intro hs
    have : (k : Int) * sh ≤ 0 := Int.mul_nonpos_of_nonneg_of_nonpos (by omega) (by omega)
    omega
  have dn : z < -268435455 → sh < 0 := fun h => by
    apply Classical.byContradiction
    intro hs
    have : 0 ≤ (k : Int) * sh := Int.mul_nonneg (by omega) (by omega)
    omega
  by_cases h1 : z > 268435455
  · have := up h1
    have e : clampV z = 268435455 := by unfold clampV; rw [if_pos h1]
    rw [e]
    refine ⟨by unfold clampV; rw [if_pos (by omega), if_pos (by omega)], ?_⟩
    unfold outV
    simp only [decide_eq_true h1, Bool.true_or]
    rw [decide_eq_true (show z + sh > 268435455 by omega)]
    rfl
  by_cases h2 : z < -268435455
  · have := dn h2
    have e : clampV z = -268435455 := by unfold clampV; rw [if_neg h1, if_pos h2]
    rw [e]
    refine ⟨by unfold clampV; rw [if_neg (by omega), if_pos (by omega), if_neg (by omega), if_pos (by omega)], ?_⟩
    unfold outV
    rw [decide_eq_true h2, decide_eq_true (show z + sh < -268435455 by omega)]
    simp
  · have e : clampV z = z := by unfold clampV; rw [if_neg h1, if_neg h2]
    have o : outV z = false := by unfold outV; rw [decide_eq_false h1, decide_eq_false h2]; rfl
    rw [e, o]
    exact ⟨rfl, rfl⟩
theorem round_zero {q : Int} (hq : 0 < q) : roundV 0 q = 0 := by unfold roundV; rw [if_neg (by omega)]; exact rnd_zero0 hq
where rnd_zero0 {q : Int} (hq : 0 < q) : rnd 0 q = 0 := by unfold rnd; rw [if_neg (by simp; omega)]; simp
/-- A vector whose components are 0. -/
def ZeroC (a : Nat → Int) : Prop := ∀ i, i < 3 → cv a i = 0
theorem zeroC_zero : ZeroC zeroV := fun _ _ => rfl
theorem zeroC_dv {F : Nat → Int} (h : ∀ i, i < 3 → F i = 0) : ZeroC (dv F) := fun i hi => by
  rw [cv_dv (fun j hj => by rw [h j hj]; unfold Fit; omega) hi, h i hi]
theorem zeroC_shift {a : Nat → Int} (h : ZeroC a) {n : Nat} (hn : n ≤ 56) : ZeroC (dv (shiftF a n)) := zeroC_dv fun i hi => by
  unfold shiftF; rw [h i hi]; exact round_zero (pow_b hn).1
theorem field_zero (r : Nat → Int) : ZeroC (dv (fieldF zeroV r 0)) ∧ fieldO zeroV r 0 = false := by
  have h : ZeroC (dv (scaleF r 0)) := zeroC_dv fun i hi => by unfold scaleF; rw [Int.mul_zero]; exact round_zero (by decide)
  refine ⟨zeroC_dv fun i hi => ?_, ?_⟩
  · unfold fieldF subF; rw [h i hi, zeroC_zero i hi]; rfl
  · unfold fieldO or3 subO
    rw [h 0 (by decide), h 1 (by decide), h 2 (by decide), zeroC_zero 0 (by decide), zeroC_zero 1 (by decide), zeroC_zero 2 (by decide)]
    rfl
theorem add_zeroC (a : Nat → Int) {z : Nat → Int} (hz : ZeroC z) : dv (addF a z) = dv (cv a) ∧ or3 (addO a z) = false := by
  have h : ∀ i, i < 3 → cv a i + cv z i = cv a i := fun i hi => by rw [hz i hi, Int.add_zero]
  refine ⟨dv_congr fun i hi => ?_, ?_⟩
  · unfold addF; rw [h i hi, clamp_id (cv_fit a i hi)]
  · unfold or3 addO
    rw [h 0 (by decide), h 1 (by decide), h 2 (by decide), out_id (cv_fit a 0 (by decide)), out_id (cv_fit a 1 (by decide)), out_id (cv_fit a 2 (by decide))]
    rfl
theorem sum_zero (f : Nat → Int) {x y z : Nat → Int} (hy : ZeroC y) (hz : ZeroC z) : dv (sum3 f x y z) = dv (addF f x) ∧ sumO f x y z = or3 (addO f x) := by
  obtain ⟨a1, a2⟩ := add_zeroC (dv (addF f x)) hy
  obtain ⟨b1, b2⟩ := add_zeroC (dv (sum2 f x y)) hz
  have e : dv (sum2 f x y) = dv (addF f x) := by unfold sum2; rw [a1, canon_dv (addF_fit f x)]
  refine ⟨?_, ?_⟩
  · unfold sum3
    rw [b1, e, canon_dv (addF_fit f x)]
  · unfold sumO
    rw [a2, b2, Bool.or_false, Bool.or_false]
theorem step_free (r v : Nat → Int) {p : Nat} (hp : 0 < p) (hp' : p ≤ 14) : dv (stepR zeroV r v zeroV 0 p) = dv (addF r (dv (shiftF v p))) ∧ dv (stepV zeroV r v zeroV 0 p) = dv (cv v) ∧
    stepO zeroV r v zeroV 0 p = or3 (addO r (dv (shiftF v p))) := by
  obtain ⟨f1, f2⟩ := field_zero r
  obtain ⟨s1, s2⟩ := sum_zero r (x := dv (shiftF v p)) (zeroC_shift zeroC_zero (n := p + 1) (by omega)) (zeroC_shift f1 (n := 2 * p + 1) (by omega))
  obtain ⟨f3, f4⟩ := field_zero (dv (stepR zeroV r v zeroV 0 p))
  obtain ⟨t1, t2⟩ := sum_zero v (x := zeroV) (zeroC_shift f1 (n := p + 1) (by omega)) (zeroC_shift f3 (n := p + 1) (by omega))
  obtain ⟨u1, u2⟩ := add_zeroC v zeroC_zero
  refine ⟨s1, ?_, ?_⟩
  · unfold stepV
    rw [t1, u1]
  · unfold stepO
    rw [f2, s2, f4, t2, u2]
    simp
/-- Where a component would be after n cycles. -/
def freeX (r v : Nat → Int) (p n : Nat) (i : Nat) : Int := cv r i + n * roundV (cv v i) (2 ^ p)
theorem run_free (r v : Nat → Int) {p : Nat} (hp : 0 < p) (hp' : p ≤ 14) : ∀ n, Go.Proofs.runT zeroV 0 p (fun _ => zeroV) r v n = (dv (fun i => clampV (freeX r v p n i)), dv (cv v), or3 fun i => outV (freeX r v p n i))
  | 0 => by
    have h : ∀ i, freeX r v p 0 i = cv r i := fun i => by unfold freeX; simp
    show (dv (cv r), dv (cv v), false) = _
    have e1 : dv (cv r) = dv (fun i => clampV (freeX r v p 0 i)) := dv_congr fun i hi => by rw [h i, clamp_id (cv_fit r i hi)]
    have e2 : (or3 fun i => outV (freeX r v p 0 i)) = false := by
      show (outV (freeX r v p 0 0) || outV (freeX r v p 0 1) || outV (freeX r v p 0 2)) = false
      rw [h 0, h 1, h 2, out_id (cv_fit r 0 (by decide)), out_id (cv_fit r 1 (by decide)), out_id (cv_fit r 2 (by decide))]
      rfl
    rw [e1, e2]
  | n + 1 => by
    have ih := run_free r v hp hp' n
    have fc : FV (fun i => clampV (freeX r v p n i)) := fun _ _ => clamp_fit _
    obtain ⟨s1, s2, s3⟩ := step_free (dv (fun i => clampV (freeX r v p n i))) (dv (cv v)) hp hp'
    have sh : ∀ i, i < 3 → cv (dv (shiftF (dv (cv v)) p)) i = roundV (cv v i) (2 ^ p) := fun i hi => by
      rw [cv_dv (shiftF_fit _ hp (by omega)) hi]
      unfold shiftF
      rw [cv_dv (cv_fit v) hi]
    have nx : ∀ i, freeX r v p (n + 1) i = freeX r v p n i + roundV (cv v i) (2 ^ p) := fun i => by
      unfold freeX
      rw [show ((n + 1 : Nat) : Int) = (n : Int) + 1 by omega, Int.add_mul]
      omega
    have key : ∀ i, i < 3 → _ := fun i hi => sat_add (sh := roundV (cv v i) (2 ^ p)) (k := n) (cv_fit r i hi) (show freeX r v p n i = _ from rfl)
    have e1 : dv (addF (dv (fun i => clampV (freeX r v p n i))) (dv (shiftF (dv (cv v)) p))) = dv (fun i => clampV (freeX r v p (n + 1) i)) := dv_congr fun i hi => by
      unfold addF
      rw [cv_dv fc hi, sh i hi, nx i]
      exact (key i hi).1
    have e3 : ((or3 fun i => outV (freeX r v p n i)) || or3 (addO (dv (fun i => clampV (freeX r v p n i))) (dv (shiftF (dv (cv v)) p)))) = or3 fun i => outV (freeX r v p (n + 1) i) := by
      have ho : ∀ i, i < 3 → addO (dv (fun i => clampV (freeX r v p n i))) (dv (shiftF (dv (cv v)) p)) i = outV (clampV (freeX r v p n i) + roundV (cv v i) (2 ^ p)) := fun i hi => by
        unfold addO
        rw [cv_dv fc hi, sh i hi]
      show ((outV (freeX r v p n 0) || outV (freeX r v p n 1) || outV (freeX r v p n 2)) || (addO _ _ 0 || addO _ _ 1 || addO _ _ 2)) = (outV (freeX r v p (n + 1) 0) || outV (freeX r v p (n + 1) 1) || outV (freeX r v p (n + 1) 2))
      rw [ho 0 (by decide), ho 1 (by decide), ho 2 (by decide), nx 0, nx 1, nx 2, ← (key 0 (by decide)).2, ← (key 1 (by decide)).2, ← (key 2 (by decide)).2]
      cases outV (freeX r v p n 0) <;> cases outV (freeX r v p n 1) <;> cases outV (freeX r v p n 2) <;> simp
    show (dv (stepR zeroV (Go.Proofs.runT zeroV 0 p (fun _ => zeroV) r v n).1 (Go.Proofs.runT zeroV 0 p (fun _ => zeroV) r v n).2.1 zeroV 0 p), dv (stepV zeroV (Go.Proofs.runT zeroV 0 p (fun _ => zeroV) r v n).1 (Go.Proofs.runT zeroV 0 p (fun _ => zeroV) r v n).2.1 zeroV 0 p),
      (Go.Proofs.runT zeroV 0 p (fun _ => zeroV) r v n).2.2 || stepO zeroV (Go.Proofs.runT zeroV 0 p (fun _ => zeroV) r v n).1 (Go.Proofs.runT zeroV 0 p (fun _ => zeroV) r v n).2.1 zeroV 0 p) = _
    rw [ih]
    show (dv (stepR zeroV (dv (fun i => clampV (freeX r v p n i))) (dv (cv v)) zeroV 0 p), dv (stepV zeroV (dv (fun i => clampV (freeX r v p n i))) (dv (cv v)) zeroV 0 p), (or3 fun i => outV (freeX r v p n i)) || stepO zeroV (dv (fun i => clampV (freeX r v p n i))) (dv (cv v)) zeroV 0 p) = _
    rw [s1, s2, s3, e1, e3, canon_dv (cv_fit v)]
end Go.Proofs
/-! Iu. -/
namespace Go.Proofs
open Go.E
set_option maxRecDepth 8000

set_option maxHeartbeats 4000000 in
theorem free_law (s : Nat → Int) (hs : HasL kS s) (p : Int) (hp : 0 ≤ p ∧ p < 256) (c : Int) (hc : 0 ≤ c ∧ c < 256) : callP Try.prog 8 [.agg (aggL s kS 0), .int .u8 p, .int .u8 c] (· = .bool true) := by
  obtain ⟨wr, wv⟩ := s_w hs
  show callP Try.prog 8 [stateA s (hiV s), .int .u8 p, .int .u8 c] (· = .bool true)
  refine callE_def env (fn := Try.f8) rfl (by decide) rfl ?_
  refine callT_E lives_c rfl ?_
  repeat (first | refine branch_true ?_ | refine branch_false ?_ | refine branch_f' (bne_self_eq_false _) ?_ | refine branch_t' (beq_self_eq_true _) ?_ | refine branch_t' (decide_eq_true rfl) ?_)
  repeat (refine need_intro (by decide) ?_)
  have ep : IntKind.i64.wrap (4 + Int.tmod (IntKind.i64.wrap p) 11) = 4 + p % 11 := by
    rw [wi (x := p) (by omega) (by omega), tmod_pos hp.1, wi (by omega) (by omega)]
  obtain ⟨q, hq⟩ : ∃ q : Nat, 4 + p % 11 = q := ⟨(4 + p % 11).toNat, by omega⟩
  have ec : Int.tmod (IntKind.i64.wrap c) 101 = c % 101 := by rw [wi (x := c) (by omega) (by omega), tmod_pos hc.1]
  obtain ⟨N, hN⟩ : ∃ N : Nat, c % 101 = N := ⟨(c % 101).toNat, by omega⟩
  rw [hq] at ep
  rw [hN] at ec
  have hq4 : 4 ≤ q ∧ q ≤ 14 := by omega
  have hNb : N ≤ 100 := by omega
  have hv : validB 0 0 q = true := by
    unfold validB
    have : valD 0 0 = 0 := by decide
    rw [this]
    simp
    omega
  have eT : (Int.tmod (IntKind.i64.wrap c) 101).toNat = N := by rw [ec, Int.toNat_natCast]
  have cr := run_c (g := zeroV) (r := s) (v := hiV s) (k0 := 0) (k1 := 0) (p := q) (n := N) (D := fun _ => zeroV) zero_w wr wv (fun _ _ => zero_w) w_zero w_zero hv hNb
  rw [show valD 0 0 = 0 by decide, run_free s (hiV s) (by omega) hq4.2 N] at cr
  have cr' : callP Try.prog 21 [gravA zeroV 0 0 (IntKind.i64.wrap (4 + Int.tmod (IntKind.i64.wrap p) 11)), stateA s (hiV s), vecs (Int.tmod (IntKind.i64.wrap c) 101).toNat (fun _ => zeroV)] (· = .tuple [stateA (dv (fun i => clampV (freeX s (hiV s) q N i))) (dv (cv (hiV s))), .bool (or3 fun i => outV (freeX s (hiV s) q N i)), .int .i64 0]) := by
    rw [ep, eT]; exact cr
  have m1 : min ((IntKind.i64.wrap (4 + Int.tmod (IntKind.i64.wrap p) 11))).toNat IntKind.i64.bits = q := by
    rw [ep]
    show min ((q : Int)).toNat 64 = q
    rw [Int.toNat_natCast]
    omega
  have hpw := pow_b (n := q) (by omega)
  have e14 : IntKind.i64.wrap (1 * 2 ^ (min ((IntKind.i64.wrap (4 + Int.tmod (IntKind.i64.wrap p) 11))).toNat IntKind.i64.bits)) = 2 ^ q := by
    rw [m1, Int.one_mul, wi (by omega) (by omega)]
  have xr : ∀ i, i < 3 → IntKind.i64.wrap (cv s i + IntKind.i64.wrap (N * roundV (cv (hiV s) i) (2 ^ q))) = freeX s (hiV s) q N i := fun i hi => by
    have h1 := cv_fit s i hi
    have h2 := shift_fit (cv_fit (hiV s) i hi) (n := q) (by omega) (by omega)
    unfold Fit at h1 h2
    have h3 : ((N : Int) * roundV (cv (hiV s) i) (2 ^ q)).natAbs ≤ 100 * 268435455 := by
      rw [Int.natAbs_mul]
      exact Nat.mul_le_mul (by omega) (by omega)
    unfold freeX
    generalize (N : Int) * roundV (cv (hiV s) i) (2 ^ q) = z at h3 ⊢
    rw [wi (x := z) (by omega) (by omega), wi (by omega) (by omega)]
  refine draw_tree (picks [0, 1, 2] (.fork 3 9 (picks [4, 5, 6, 7, 8, 9, 10, 11, 12] .done) (picks [3, 4, 5, 6, 7, 8, 10, 11, 12] .done))) (by decide +kernel) ?_
  refine ⟨?_, ?_⟩
  · apply need_intro
    · rw [ec]; show (0 : Int) ≤ N ∧ (N : Int) ≤ N ∧ (N : Int) * ((12 : Nat) : Int) ≤ 2 ^ 47 ∧ (N : Int) ≤ 2 ^ 47; omega
    apply choice_l
    refine ⟨_, ⟨cr', rfl⟩, ?_⟩
    refine draw_tree (picks [0, 1, 2, 3, 4, 5] (.fork 6 7 (picks [7, 8, 9] .done) (picks [6, 8, 9] .done))) (by decide +kernel) ?_
    refine ⟨_, ⟨values_c wr, rfl⟩, ?_⟩
    refine ⟨_, ⟨values_c wv, rfl⟩, ?_⟩
    refine ⟨?_, ?_⟩
    · skip
      repeat (refine need_intro (by decide) ?_)
      apply need_intro
      · rw [ep]; omega
      refine loop_weak (fun i : Nat => slots 92 [(3, .ptr ⟨0, 0, 0⟩), (6, .bool false), (8, .int .i64 N), (9, .ptr ⟨2, 0, 0⟩), (10, .bool (or3 fun i => outV (freeX s (hiV s) q N i))), (11, .int .i64 0), (12, .ptr ⟨3, 0, 0⟩), (13, .ptr ⟨4, 0, 0⟩), (14, .int .i64 (2 ^ q)), (15, .bool (acc (fun i => outV (freeX s (hiV s) q N i)) i)), (16, .int .i64 i)])
        (fun i => [.cells (scells s (hiV s)), .cells (gcells zeroV 0 0 q), .cells (scells (dv (fun i => clampV (freeX s (hiV s) q N i))) (dv (cv (hiV s)))), .cells [.int .i64 (cv s 0), .int .i64 (cv s 1), .int .i64 (cv s 2)], .cells [.int .i64 (cv (hiV s) 0), .int .i64 (cv (hiV s) 1), .int .i64 (cv (hiV s) 2)]])
        (fun i => i ≤ 3) (fun i => 3 - i) 0 (Nat.zero_le _) (weak_keep (keep 92 [3, 6, 8, 9, 10, 11, 12, 13, 14, 15, 16]) [0, 1, 2, 3, 4] rfl ?_ ?_) ?_
      · show [_, _, _, _, _, _, _, _, _, _, _, _, _, _, _, _, _, _, _, _, _, _, _, _, _, _, _, _, _, _, _, _, _, _, _, _, _, _, _, _, _, _, _, _, _, _, _, _, _, _, _, _, _, _, _, _, _, _, _, _, _, _, _, _, _, _, _, _, _, _, _, _, _, _, _, _, _, _, _, _, _, _, _, _, _, _, _, _, _, _, _, _] = _
        rw [ec, e14]
        rfl
      · show [_, Blk.cells (gcells zeroV 0 0 (IntKind.i64.wrap (4 + Int.tmod (IntKind.i64.wrap p) 11))), _, _, _] = _
        rw [ep]
        rfl
      intro i hi
      match i, hi with
      | 0, _ =>
        refine branch_true ?_
        refine draw_tree (picks [0, 1, 2, 3, 4, 5, 6, 7, 8, 9, 10, 11] .done) (by decide +kernel) ?_
        repeat (refine need_intro (by decide) ?_)
        refine ⟨_, ⟨rounded_c (cv_fit (hiV s) 0 (by decide)).big hpw.1 (by omega), rfl⟩, ?_⟩
        have x0 := xr 0 (by decide)
        apply branch_intro <;> intro hb
        · repeat (first | refine branch_true ?_ | refine branch_false ?_ | refine branch_f' (bne_self_eq_false _) ?_ | refine branch_t' (beq_self_eq_true _) ?_ | refine branch_t' (decide_eq_true rfl) ?_)
          refine draw_tree (picks [0, 1, 2, 3, 4, 5, 6, 7, 8, 9, 10, 11, 12, 13, 14, 15, 16, 17, 18] .done) (by decide +kernel) ?_
          repeat (refine need_intro (by decide) ?_)
          refine ⟨_, ⟨sat_c _, rfl⟩, ?_⟩
          refine ⟨_, ⟨rdouble_c (clamp_fit _), rfl⟩, ?_⟩
          rw [x0]
          refine branch_f' (by simp [dv]) ?_
          repeat (first | refine branch_true ?_ | refine branch_false ?_ | (refine branch_f' ?_ ?_; focus (simp; done)) | (refine branch_t' ?_ ?_; focus (simp; done)))
          repeat (refine need_intro (by decide) ?_)
          repeat (first | refine branch_true ?_ | refine branch_false ?_ | (refine branch_f' ?_ ?_; focus (simp; done)) | (refine branch_t' ?_ ?_; focus (simp; done)))
          repeat (refine need_intro (by decide) ?_)
          repeat (first | refine branch_true ?_ | refine branch_false ?_ | (refine branch_f' ?_ ?_; focus (simp; done)) | (refine branch_t' ?_ ?_; focus (simp; done)))
          repeat (refine need_intro (by decide) ?_)
          repeat (first | refine branch_true ?_ | refine branch_false ?_ | (refine branch_f' ?_ ?_; focus (simp; done)) | (refine branch_t' ?_ ?_; focus (simp; done)))
          refine ⟨_, ⟨rdouble_c (cv_fit (hiV s) 0 (by decide)), rfl⟩, ?_⟩
          repeat (first | refine branch_true ?_ | refine branch_false ?_ | (refine branch_f' ?_ ?_; focus (simp; done)) | (refine branch_t' ?_ ?_; focus (simp; done)))
          refine branch_f' (by simp [dv]) ?_
          repeat (first | refine branch_true ?_ | refine branch_false ?_ | (refine branch_f' ?_ ?_; focus (simp; done)) | (refine branch_t' ?_ ?_; focus (simp; done)))
          refine ⟨1, by decide, by decide, weak_keep (keep 92 [3, 6, 8, 9, 10, 11, 12, 13, 14, 15, 16]) [0, 1, 2, 3, 4] rfl ?_ rfl⟩
          show [_, _, _, _, _, _, _, _, _, _, _, _, _, _, _, _, _, _, _, _, _, _, _, _, _, _, _, _, _, _, _, _, _, _, _, _, _, _, _, _, _, _, _, _, _, _, _, _, _, _, _, _, _, _, _, _, _, _, _, _, _, _, _, _, _, _, _, _, _, _, _, _, _, _, _, _, _, _, _, _, _, _, _, _, _, _, _, _, _, _, _, _] = _
          have : acc (fun i => outV (freeX s (hiV s) q N i)) 1 = true := by show (acc _ 0 || _) = true; rw [hb]; rfl
          show _ = slots 92 [(3, _), (6, _), (8, _), (9, _), (10, _), (11, _), (12, _), (13, _), (14, _), (15, .bool (acc (fun i => outV (freeX s (hiV s) q N i)) 1)), (16, _)]
          rw [this]
          rfl
        · repeat (first | refine branch_true ?_ | refine branch_false ?_ | refine branch_f' (bne_self_eq_false _) ?_ | refine branch_t' (beq_self_eq_true _) ?_ | refine branch_t' (decide_eq_true rfl) ?_)
          refine callT_E (out_c _) rfl ?_
          repeat (first | refine branch_true ?_ | refine branch_false ?_ | refine branch_f' (bne_self_eq_false _) ?_ | refine branch_t' (beq_self_eq_true _) ?_ | refine branch_t' (decide_eq_true rfl) ?_)
          refine draw_tree (picks [0, 1, 2, 3, 4, 5, 6, 7, 8, 9, 10, 11, 12, 13, 14, 15, 16, 17, 18] .done) (by decide +kernel) ?_
          repeat (refine need_intro (by decide) ?_)
          refine ⟨_, ⟨sat_c _, rfl⟩, ?_⟩
          refine ⟨_, ⟨rdouble_c (clamp_fit _), rfl⟩, ?_⟩
          rw [x0]
          refine branch_f' (by simp [dv]) ?_
          repeat (first | refine branch_true ?_ | refine branch_false ?_ | (refine branch_f' ?_ ?_; focus (simp; done)) | (refine branch_t' ?_ ?_; focus (simp; done)))
          repeat (refine need_intro (by decide) ?_)
          repeat (first | refine branch_true ?_ | refine branch_false ?_ | (refine branch_f' ?_ ?_; focus (simp; done)) | (refine branch_t' ?_ ?_; focus (simp; done)))
          repeat (refine need_intro (by decide) ?_)
          repeat (first | refine branch_true ?_ | refine branch_false ?_ | (refine branch_f' ?_ ?_; focus (simp; done)) | (refine branch_t' ?_ ?_; focus (simp; done)))
          repeat (refine need_intro (by decide) ?_)
          repeat (first | refine branch_true ?_ | refine branch_false ?_ | (refine branch_f' ?_ ?_; focus (simp; done)) | (refine branch_t' ?_ ?_; focus (simp; done)))
          refine ⟨_, ⟨rdouble_c (cv_fit (hiV s) 0 (by decide)), rfl⟩, ?_⟩
          repeat (first | refine branch_true ?_ | refine branch_false ?_ | (refine branch_f' ?_ ?_; focus (simp; done)) | (refine branch_t' ?_ ?_; focus (simp; done)))
          refine branch_f' (by simp [dv]) ?_
          repeat (first | refine branch_true ?_ | refine branch_false ?_ | (refine branch_f' ?_ ?_; focus (simp; done)) | (refine branch_t' ?_ ?_; focus (simp; done)))
          refine ⟨1, by decide, by decide, weak_keep (keep 92 [3, 6, 8, 9, 10, 11, 12, 13, 14, 15, 16]) [0, 1, 2, 3, 4] rfl ?_ rfl⟩
          show [_, _, _, _, _, _, _, _, _, _, _, _, _, _, _, _, _, _, _, _, _, _, _, _, _, _, _, _, _, _, _, _, _, _, _, _, _, _, _, _, _, _, _, _, _, _, _, _, _, _, _, _, _, _, _, _, _, _, _, _, _, _, _, _, _, _, _, _, _, _, _, _, _, _, _, _, _, _, _, _, _, _, _, _, _, _, _, _, _, _, _, _] = _
          have : acc (fun i => outV (freeX s (hiV s) q N i)) 1 = outV (freeX s (hiV s) q N 0) := by show (acc _ 0 || _) = _; rw [hb]; rfl
          show _ = slots 92 [(3, _), (6, _), (8, _), (9, _), (10, _), (11, _), (12, _), (13, _), (14, _), (15, .bool (acc (fun i => outV (freeX s (hiV s) q N i)) 1)), (16, _)]
          rw [this]
          rfl
      | 1, _ =>
        refine branch_true ?_
        refine draw_tree (picks [0, 1, 2, 3, 4, 5, 6, 7, 8, 9, 10, 11] .done) (by decide +kernel) ?_
        repeat (refine need_intro (by decide) ?_)
        refine ⟨_, ⟨rounded_c (cv_fit (hiV s) 1 (by decide)).big hpw.1 (by omega), rfl⟩, ?_⟩
        have x0 := xr 1 (by decide)
        apply branch_intro <;> intro hb
        · repeat (first | refine branch_true ?_ | refine branch_false ?_ | refine branch_f' (bne_self_eq_false _) ?_ | refine branch_t' (beq_self_eq_true _) ?_ | refine branch_t' (decide_eq_true rfl) ?_)
          refine draw_tree (picks [0, 1, 2, 3, 4, 5, 6, 7, 8, 9, 10, 11, 12, 13, 14, 15, 16, 17, 18] .done) (by decide +kernel) ?_
          repeat (refine need_intro (by decide) ?_)
          refine ⟨_, ⟨sat_c _, rfl⟩, ?_⟩
          refine ⟨_, ⟨rdouble_c (clamp_fit _), rfl⟩, ?_⟩
          rw [x0]
          refine branch_f' (by simp [dv]) ?_
          repeat (first | refine branch_true ?_ | refine branch_false ?_ | (refine branch_f' ?_ ?_; focus (simp; done)) | (refine branch_t' ?_ ?_; focus (simp; done)))
          repeat (refine need_intro (by decide) ?_)
          repeat (first | refine branch_true ?_ | refine branch_false ?_ | (refine branch_f' ?_ ?_; focus (simp; done)) | (refine branch_t' ?_ ?_; focus (simp; done)))
          repeat (refine need_intro (by decide) ?_)
          repeat (first | refine branch_true ?_ | refine branch_false ?_ | (refine branch_f' ?_ ?_; focus (simp; done)) | (refine branch_t' ?_ ?_; focus (simp; done)))
          repeat (refine need_intro (by decide) ?_)
          repeat (first | refine branch_true ?_ | refine branch_false ?_ | (refine branch_f' ?_ ?_; focus (simp; done)) | (refine branch_t' ?_ ?_; focus (simp; done)))
          refine ⟨_, ⟨rdouble_c (cv_fit (hiV s) 1 (by decide)), rfl⟩, ?_⟩
          repeat (first | refine branch_true ?_ | refine branch_false ?_ | (refine branch_f' ?_ ?_; focus (simp; done)) | (refine branch_t' ?_ ?_; focus (simp; done)))
          refine branch_f' (by simp [dv]) ?_
          repeat (first | refine branch_true ?_ | refine branch_false ?_ | (refine branch_f' ?_ ?_; focus (simp; done)) | (refine branch_t' ?_ ?_; focus (simp; done)))
          refine ⟨2, by decide, by decide, weak_keep (keep 92 [3, 6, 8, 9, 10, 11, 12, 13, 14, 15, 16]) [0, 1, 2, 3, 4] rfl ?_ rfl⟩
          show [_, _, _, _, _, _, _, _, _, _, _, _, _, _, _, _, _, _, _, _, _, _, _, _, _, _, _, _, _, _, _, _, _, _, _, _, _, _, _, _, _, _, _, _, _, _, _, _, _, _, _, _, _, _, _, _, _, _, _, _, _, _, _, _, _, _, _, _, _, _, _, _, _, _, _, _, _, _, _, _, _, _, _, _, _, _, _, _, _, _, _, _] = _
          have : acc (fun i => outV (freeX s (hiV s) q N i)) 2 = true := by show (acc _ 1 || _) = true; rw [hb]; rfl
          show _ = slots 92 [(3, _), (6, _), (8, _), (9, _), (10, _), (11, _), (12, _), (13, _), (14, _), (15, .bool (acc (fun i => outV (freeX s (hiV s) q N i)) 2)), (16, _)]
          rw [this]
          rfl
        · repeat (first | refine branch_true ?_ | refine branch_false ?_ | refine branch_f' (bne_self_eq_false _) ?_ | refine branch_t' (beq_self_eq_true _) ?_ | refine branch_t' (decide_eq_true rfl) ?_)
          refine callT_E (out_c _) rfl ?_
          repeat (first | refine branch_true ?_ | refine branch_false ?_ | refine branch_f' (bne_self_eq_false _) ?_ | refine branch_t' (beq_self_eq_true _) ?_ | refine branch_t' (decide_eq_true rfl) ?_)
          refine draw_tree (picks [0, 1, 2, 3, 4, 5, 6, 7, 8, 9, 10, 11, 12, 13, 14, 15, 16, 17, 18] .done) (by decide +kernel) ?_
          repeat (refine need_intro (by decide) ?_)
          refine ⟨_, ⟨sat_c _, rfl⟩, ?_⟩
          refine ⟨_, ⟨rdouble_c (clamp_fit _), rfl⟩, ?_⟩
          rw [x0]
          refine branch_f' (by simp [dv]) ?_
          repeat (first | refine branch_true ?_ | refine branch_false ?_ | (refine branch_f' ?_ ?_; focus (simp; done)) | (refine branch_t' ?_ ?_; focus (simp; done)))
          repeat (refine need_intro (by decide) ?_)
          repeat (first | refine branch_true ?_ | refine branch_false ?_ | (refine branch_f' ?_ ?_; focus (simp; done)) | (refine branch_t' ?_ ?_; focus (simp; done)))
          repeat (refine need_intro (by decide) ?_)
          repeat (first | refine branch_true ?_ | refine branch_false ?_ | (refine branch_f' ?_ ?_; focus (simp; done)) | (refine branch_t' ?_ ?_; focus (simp; done)))
          repeat (refine need_intro (by decide) ?_)
          repeat (first | refine branch_true ?_ | refine branch_false ?_ | (refine branch_f' ?_ ?_; focus (simp; done)) | (refine branch_t' ?_ ?_; focus (simp; done)))
          refine ⟨_, ⟨rdouble_c (cv_fit (hiV s) 1 (by decide)), rfl⟩, ?_⟩
          repeat (first | refine branch_true ?_ | refine branch_false ?_ | (refine branch_f' ?_ ?_; focus (simp; done)) | (refine branch_t' ?_ ?_; focus (simp; done)))
          refine branch_f' (by simp [dv]) ?_
          repeat (first | refine branch_true ?_ | refine branch_false ?_ | (refine branch_f' ?_ ?_; focus (simp; done)) | (refine branch_t' ?_ ?_; focus (simp; done)))
          refine ⟨2, by decide, by decide, weak_keep (keep 92 [3, 6, 8, 9, 10, 11, 12, 13, 14, 15, 16]) [0, 1, 2, 3, 4] rfl ?_ rfl⟩
          show [_, _, _, _, _, _, _, _, _, _, _, _, _, _, _, _, _, _, _, _, _, _, _, _, _, _, _, _, _, _, _, _, _, _, _, _, _, _, _, _, _, _, _, _, _, _, _, _, _, _, _, _, _, _, _, _, _, _, _, _, _, _, _, _, _, _, _, _, _, _, _, _, _, _, _, _, _, _, _, _, _, _, _, _, _, _, _, _, _, _, _, _] = _
          have : acc (fun i => outV (freeX s (hiV s) q N i)) 2 = outV (freeX s (hiV s) q N 1) := by show (acc _ 1 || _) = _; rw [hb]; rfl
          show _ = slots 92 [(3, _), (6, _), (8, _), (9, _), (10, _), (11, _), (12, _), (13, _), (14, _), (15, .bool (acc (fun i => outV (freeX s (hiV s) q N i)) 2)), (16, _)]
          rw [this]
          rfl
      | 2, _ =>
        refine branch_true ?_
        refine draw_tree (picks [0, 1, 2, 3, 4, 5, 6, 7, 8, 9, 10, 11] .done) (by decide +kernel) ?_
        repeat (refine need_intro (by decide) ?_)
        refine ⟨_, ⟨rounded_c (cv_fit (hiV s) 2 (by decide)).big hpw.1 (by omega), rfl⟩, ?_⟩
        have x0 := xr 2 (by decide)
        apply branch_intro <;> intro hb
        · repeat (first | refine branch_true ?_ | refine branch_false ?_ | refine branch_f' (bne_self_eq_false _) ?_ | refine branch_t' (beq_self_eq_true _) ?_ | refine branch_t' (decide_eq_true rfl) ?_)
          refine draw_tree (picks [0, 1, 2, 3, 4, 5, 6, 7, 8, 9, 10, 11, 12, 13, 14, 15, 16, 17, 18] .done) (by decide +kernel) ?_
          repeat (refine need_intro (by decide) ?_)
          refine ⟨_, ⟨sat_c _, rfl⟩, ?_⟩
          refine ⟨_, ⟨rdouble_c (clamp_fit _), rfl⟩, ?_⟩
          rw [x0]
          refine branch_f' (by simp [dv]) ?_
          repeat (first | refine branch_true ?_ | refine branch_false ?_ | (refine branch_f' ?_ ?_; focus (simp; done)) | (refine branch_t' ?_ ?_; focus (simp; done)))
          repeat (refine need_intro (by decide) ?_)
          repeat (first | refine branch_true ?_ | refine branch_false ?_ | (refine branch_f' ?_ ?_; focus (simp; done)) | (refine branch_t' ?_ ?_; focus (simp; done)))
          repeat (refine need_intro (by decide) ?_)
          repeat (first | refine branch_true ?_ | refine branch_false ?_ | (refine branch_f' ?_ ?_; focus (simp; done)) | (refine branch_t' ?_ ?_; focus (simp; done)))
          repeat (refine need_intro (by decide) ?_)
          repeat (first | refine branch_true ?_ | refine branch_false ?_ | (refine branch_f' ?_ ?_; focus (simp; done)) | (refine branch_t' ?_ ?_; focus (simp; done)))
          refine ⟨_, ⟨rdouble_c (cv_fit (hiV s) 2 (by decide)), rfl⟩, ?_⟩
          repeat (first | refine branch_true ?_ | refine branch_false ?_ | (refine branch_f' ?_ ?_; focus (simp; done)) | (refine branch_t' ?_ ?_; focus (simp; done)))
          refine branch_f' (by simp [dv]) ?_
          repeat (first | refine branch_true ?_ | refine branch_false ?_ | (refine branch_f' ?_ ?_; focus (simp; done)) | (refine branch_t' ?_ ?_; focus (simp; done)))
          refine ⟨3, by decide, by decide, weak_keep (keep 92 [3, 6, 8, 9, 10, 11, 12, 13, 14, 15, 16]) [0, 1, 2, 3, 4] rfl ?_ rfl⟩
          show [_, _, _, _, _, _, _, _, _, _, _, _, _, _, _, _, _, _, _, _, _, _, _, _, _, _, _, _, _, _, _, _, _, _, _, _, _, _, _, _, _, _, _, _, _, _, _, _, _, _, _, _, _, _, _, _, _, _, _, _, _, _, _, _, _, _, _, _, _, _, _, _, _, _, _, _, _, _, _, _, _, _, _, _, _, _, _, _, _, _, _, _] = _
          have : acc (fun i => outV (freeX s (hiV s) q N i)) 3 = true := by show (acc _ 2 || _) = true; rw [hb]; rfl
          show _ = slots 92 [(3, _), (6, _), (8, _), (9, _), (10, _), (11, _), (12, _), (13, _), (14, _), (15, .bool (acc (fun i => outV (freeX s (hiV s) q N i)) 3)), (16, _)]
          rw [this]
          rfl
        · repeat (first | refine branch_true ?_ | refine branch_false ?_ | refine branch_f' (bne_self_eq_false _) ?_ | refine branch_t' (beq_self_eq_true _) ?_ | refine branch_t' (decide_eq_true rfl) ?_)
          refine callT_E (out_c _) rfl ?_
          repeat (first | refine branch_true ?_ | refine branch_false ?_ | refine branch_f' (bne_self_eq_false _) ?_ | refine branch_t' (beq_self_eq_true _) ?_ | refine branch_t' (decide_eq_true rfl) ?_)
          refine draw_tree (picks [0, 1, 2, 3, 4, 5, 6, 7, 8, 9, 10, 11, 12, 13, 14, 15, 16, 17, 18] .done) (by decide +kernel) ?_
          repeat (refine need_intro (by decide) ?_)
          refine ⟨_, ⟨sat_c _, rfl⟩, ?_⟩
          refine ⟨_, ⟨rdouble_c (clamp_fit _), rfl⟩, ?_⟩
          rw [x0]
          refine branch_f' (by simp [dv]) ?_
          repeat (first | refine branch_true ?_ | refine branch_false ?_ | (refine branch_f' ?_ ?_; focus (simp; done)) | (refine branch_t' ?_ ?_; focus (simp; done)))
          repeat (refine need_intro (by decide) ?_)
          repeat (first | refine branch_true ?_ | refine branch_false ?_ | (refine branch_f' ?_ ?_; focus (simp; done)) | (refine branch_t' ?_ ?_; focus (simp; done)))
          repeat (refine need_intro (by decide) ?_)
          repeat (first | refine branch_true ?_ | refine branch_false ?_ | (refine branch_f' ?_ ?_; focus (simp; done)) | (refine branch_t' ?_ ?_; focus (simp; done)))
          repeat (refine need_intro (by decide) ?_)
          repeat (first | refine branch_true ?_ | refine branch_false ?_ | (refine branch_f' ?_ ?_; focus (simp; done)) | (refine branch_t' ?_ ?_; focus (simp; done)))
          refine ⟨_, ⟨rdouble_c (cv_fit (hiV s) 2 (by decide)), rfl⟩, ?_⟩
          repeat (first | refine branch_true ?_ | refine branch_false ?_ | (refine branch_f' ?_ ?_; focus (simp; done)) | (refine branch_t' ?_ ?_; focus (simp; done)))
          refine branch_f' (by simp [dv]) ?_
          repeat (first | refine branch_true ?_ | refine branch_false ?_ | (refine branch_f' ?_ ?_; focus (simp; done)) | (refine branch_t' ?_ ?_; focus (simp; done)))
          refine ⟨3, by decide, by decide, weak_keep (keep 92 [3, 6, 8, 9, 10, 11, 12, 13, 14, 15, 16]) [0, 1, 2, 3, 4] rfl ?_ rfl⟩
          show [_, _, _, _, _, _, _, _, _, _, _, _, _, _, _, _, _, _, _, _, _, _, _, _, _, _, _, _, _, _, _, _, _, _, _, _, _, _, _, _, _, _, _, _, _, _, _, _, _, _, _, _, _, _, _, _, _, _, _, _, _, _, _, _, _, _, _, _, _, _, _, _, _, _, _, _, _, _, _, _, _, _, _, _, _, _, _, _, _, _, _, _] = _
          have : acc (fun i => outV (freeX s (hiV s) q N i)) 3 = outV (freeX s (hiV s) q N 2) := by show (acc _ 2 || _) = _; rw [hb]; rfl
          show _ = slots 92 [(3, _), (6, _), (8, _), (9, _), (10, _), (11, _), (12, _), (13, _), (14, _), (15, .bool (acc (fun i => outV (freeX s (hiV s) q N i)) 3)), (16, _)]
          rw [this]
          rfl
      | 3, _ =>
        refine branch_false ?_
        repeat (first | refine branch_true ?_ | refine branch_false ?_ | refine branch_f' (bne_self_eq_false _) ?_ | refine branch_t' (beq_self_eq_true _) ?_ | refine branch_t' (decide_eq_true rfl) ?_)
        show Eqv _ _
        refine eqv_of_eq (congrArg AVal.bool ?_)
        rw [acc3]
        simp
    · skip
      repeat (refine need_intro (by decide) ?_)
      apply need_intro
      · rw [ep]; omega
      refine loop_weak (fun i : Nat => slots 92 [(3, .ptr ⟨0, 0, 0⟩), (6, .bool false), (8, .int .i64 N), (9, .ptr ⟨2, 0, 0⟩), (10, .bool (or3 fun i => outV (freeX s (hiV s) q N i))), (11, .int .i64 0), (12, .ptr ⟨4, 0, 0⟩), (13, .ptr ⟨3, 0, 0⟩), (14, .int .i64 (2 ^ q)), (15, .bool (acc (fun i => outV (freeX s (hiV s) q N i)) i)), (16, .int .i64 i)])
        (fun i => [.cells (scells s (hiV s)), .cells (gcells zeroV 0 0 q), .cells (scells (dv (fun i => clampV (freeX s (hiV s) q N i))) (dv (cv (hiV s)))), .cells [.int .i64 (cv (hiV s) 0), .int .i64 (cv (hiV s) 1), .int .i64 (cv (hiV s) 2)], .cells [.int .i64 (cv s 0), .int .i64 (cv s 1), .int .i64 (cv s 2)]])
        (fun i => i ≤ 3) (fun i => 3 - i) 0 (Nat.zero_le _) (weak_keep (keep 92 [3, 6, 8, 9, 10, 11, 12, 13, 14, 15, 16]) [0, 1, 2, 3, 4] rfl ?_ ?_) ?_
      · show [_, _, _, _, _, _, _, _, _, _, _, _, _, _, _, _, _, _, _, _, _, _, _, _, _, _, _, _, _, _, _, _, _, _, _, _, _, _, _, _, _, _, _, _, _, _, _, _, _, _, _, _, _, _, _, _, _, _, _, _, _, _, _, _, _, _, _, _, _, _, _, _, _, _, _, _, _, _, _, _, _, _, _, _, _, _, _, _, _, _, _, _] = _
        rw [ec, e14]
        rfl
      · show [_, Blk.cells (gcells zeroV 0 0 (IntKind.i64.wrap (4 + Int.tmod (IntKind.i64.wrap p) 11))), _, _, _] = _
        rw [ep]
        rfl
      intro i hi
      match i, hi with
      | 0, _ =>
        refine branch_true ?_
        refine draw_tree (picks [0, 1, 2, 3, 4, 5, 6, 7, 8, 9, 10, 11] .done) (by decide +kernel) ?_
        repeat (refine need_intro (by decide) ?_)
        refine ⟨_, ⟨rounded_c (cv_fit (hiV s) 0 (by decide)).big hpw.1 (by omega), rfl⟩, ?_⟩
        have x0 := xr 0 (by decide)
        apply branch_intro <;> intro hb
        · repeat (first | refine branch_true ?_ | refine branch_false ?_ | refine branch_f' (bne_self_eq_false _) ?_ | refine branch_t' (beq_self_eq_true _) ?_ | refine branch_t' (decide_eq_true rfl) ?_)
          refine draw_tree (picks [0, 1, 2, 3, 4, 5, 6, 7, 8, 9, 10, 11, 12, 13, 14, 15, 16, 17, 18] .done) (by decide +kernel) ?_
          repeat (refine need_intro (by decide) ?_)
          refine ⟨_, ⟨sat_c _, rfl⟩, ?_⟩
          refine ⟨_, ⟨rdouble_c (clamp_fit _), rfl⟩, ?_⟩
          rw [x0]
          refine branch_f' (by simp [dv]) ?_
          repeat (first | refine branch_true ?_ | refine branch_false ?_ | (refine branch_f' ?_ ?_; focus (simp; done)) | (refine branch_t' ?_ ?_; focus (simp; done)))
          repeat (refine need_intro (by decide) ?_)
          repeat (first | refine branch_true ?_ | refine branch_false ?_ | (refine branch_f' ?_ ?_; focus (simp; done)) | (refine branch_t' ?_ ?_; focus (simp; done)))
          repeat (refine need_intro (by decide) ?_)
          repeat (first | refine branch_true ?_ | refine branch_false ?_ | (refine branch_f' ?_ ?_; focus (simp; done)) | (refine branch_t' ?_ ?_; focus (simp; done)))
          repeat (refine need_intro (by decide) ?_)
          repeat (first | refine branch_true ?_ | refine branch_false ?_ | (refine branch_f' ?_ ?_; focus (simp; done)) | (refine branch_t' ?_ ?_; focus (simp; done)))
          refine ⟨_, ⟨rdouble_c (cv_fit (hiV s) 0 (by decide)), rfl⟩, ?_⟩
          repeat (first | refine branch_true ?_ | refine branch_false ?_ | (refine branch_f' ?_ ?_; focus (simp; done)) | (refine branch_t' ?_ ?_; focus (simp; done)))
          refine branch_f' (by simp [dv]) ?_
          repeat (first | refine branch_true ?_ | refine branch_false ?_ | (refine branch_f' ?_ ?_; focus (simp; done)) | (refine branch_t' ?_ ?_; focus (simp; done)))
          refine ⟨1, by decide, by decide, weak_keep (keep 92 [3, 6, 8, 9, 10, 11, 12, 13, 14, 15, 16]) [0, 1, 2, 3, 4] rfl ?_ rfl⟩
          show [_, _, _, _, _, _, _, _, _, _, _, _, _, _, _, _, _, _, _, _, _, _, _, _, _, _, _, _, _, _, _, _, _, _, _, _, _, _, _, _, _, _, _, _, _, _, _, _, _, _, _, _, _, _, _, _, _, _, _, _, _, _, _, _, _, _, _, _, _, _, _, _, _, _, _, _, _, _, _, _, _, _, _, _, _, _, _, _, _, _, _, _] = _
          have : acc (fun i => outV (freeX s (hiV s) q N i)) 1 = true := by show (acc _ 0 || _) = true; rw [hb]; rfl
          show _ = slots 92 [(3, _), (6, _), (8, _), (9, _), (10, _), (11, _), (12, _), (13, _), (14, _), (15, .bool (acc (fun i => outV (freeX s (hiV s) q N i)) 1)), (16, _)]
          rw [this]
          rfl
        · repeat (first | refine branch_true ?_ | refine branch_false ?_ | refine branch_f' (bne_self_eq_false _) ?_ | refine branch_t' (beq_self_eq_true _) ?_ | refine branch_t' (decide_eq_true rfl) ?_)
          refine callT_E (out_c _) rfl ?_
          repeat (first | refine branch_true ?_ | refine branch_false ?_ | refine branch_f' (bne_self_eq_false _) ?_ | refine branch_t' (beq_self_eq_true _) ?_ | refine branch_t' (decide_eq_true rfl) ?_)
          refine draw_tree (picks [0, 1, 2, 3, 4, 5, 6, 7, 8, 9, 10, 11, 12, 13, 14, 15, 16, 17, 18] .done) (by decide +kernel) ?_
          repeat (refine need_intro (by decide) ?_)
          refine ⟨_, ⟨sat_c _, rfl⟩, ?_⟩
          refine ⟨_, ⟨rdouble_c (clamp_fit _), rfl⟩, ?_⟩
          rw [x0]
          refine branch_f' (by simp [dv]) ?_
          repeat (first | refine branch_true ?_ | refine branch_false ?_ | (refine branch_f' ?_ ?_; focus (simp; done)) | (refine branch_t' ?_ ?_; focus (simp; done)))
          repeat (refine need_intro (by decide) ?_)
          repeat (first | refine branch_true ?_ | refine branch_false ?_ | (refine branch_f' ?_ ?_; focus (simp; done)) | (refine branch_t' ?_ ?_; focus (simp; done)))
          repeat (refine need_intro (by decide) ?_)
          repeat (first | refine branch_true ?_ | refine branch_false ?_ | (refine branch_f' ?_ ?_; focus (simp; done)) | (refine branch_t' ?_ ?_; focus (simp; done)))
          repeat (refine need_intro (by decide) ?_)
          repeat (first | refine branch_true ?_ | refine branch_false ?_ | (refine branch_f' ?_ ?_; focus (simp; done)) | (refine branch_t' ?_ ?_; focus (simp; done)))
          refine ⟨_, ⟨rdouble_c (cv_fit (hiV s) 0 (by decide)), rfl⟩, ?_⟩
          repeat (first | refine branch_true ?_ | refine branch_false ?_ | (refine branch_f' ?_ ?_; focus (simp; done)) | (refine branch_t' ?_ ?_; focus (simp; done)))
          refine branch_f' (by simp [dv]) ?_
          repeat (first | refine branch_true ?_ | refine branch_false ?_ | (refine branch_f' ?_ ?_; focus (simp; done)) | (refine branch_t' ?_ ?_; focus (simp; done)))
          refine ⟨1, by decide, by decide, weak_keep (keep 92 [3, 6, 8, 9, 10, 11, 12, 13, 14, 15, 16]) [0, 1, 2, 3, 4] rfl ?_ rfl⟩
          show [_, _, _, _, _, _, _, _, _, _, _, _, _, _, _, _, _, _, _, _, _, _, _, _, _, _, _, _, _, _, _, _, _, _, _, _, _, _, _, _, _, _, _, _, _, _, _, _, _, _, _, _, _, _, _, _, _, _, _, _, _, _, _, _, _, _, _, _, _, _, _, _, _, _, _, _, _, _, _, _, _, _, _, _, _, _, _, _, _, _, _, _] = _
          have : acc (fun i => outV (freeX s (hiV s) q N i)) 1 = outV (freeX s (hiV s) q N 0) := by show (acc _ 0 || _) = _; rw [hb]; rfl
          show _ = slots 92 [(3, _), (6, _), (8, _), (9, _), (10, _), (11, _), (12, _), (13, _), (14, _), (15, .bool (acc (fun i => outV (freeX s (hiV s) q N i)) 1)), (16, _)]
          rw [this]
          rfl
      | 1, _ =>
        refine branch_true ?_
        refine draw_tree (picks [0, 1, 2, 3, 4, 5, 6, 7, 8, 9, 10, 11] .done) (by decide +kernel) ?_
        repeat (refine need_intro (by decide) ?_)
        refine ⟨_, ⟨rounded_c (cv_fit (hiV s) 1 (by decide)).big hpw.1 (by omega), rfl⟩, ?_⟩
        have x0 := xr 1 (by decide)
        apply branch_intro <;> intro hb
        · repeat (first | refine branch_true ?_ | refine branch_false ?_ | refine branch_f' (bne_self_eq_false _) ?_ | refine branch_t' (beq_self_eq_true _) ?_ | refine branch_t' (decide_eq_true rfl) ?_)
          refine draw_tree (picks [0, 1, 2, 3, 4, 5, 6, 7, 8, 9, 10, 11, 12, 13, 14, 15, 16, 17, 18] .done) (by decide +kernel) ?_
          repeat (refine need_intro (by decide) ?_)
          refine ⟨_, ⟨sat_c _, rfl⟩, ?_⟩
          refine ⟨_, ⟨rdouble_c (clamp_fit _), rfl⟩, ?_⟩
          rw [x0]
          refine branch_f' (by simp [dv]) ?_
          repeat (first | refine branch_true ?_ | refine branch_false ?_ | (refine branch_f' ?_ ?_; focus (simp; done)) | (refine branch_t' ?_ ?_; focus (simp; done)))
          repeat (refine need_intro (by decide) ?_)
          repeat (first | refine branch_true ?_ | refine branch_false ?_ | (refine branch_f' ?_ ?_; focus (simp; done)) | (refine branch_t' ?_ ?_; focus (simp; done)))
          repeat (refine need_intro (by decide) ?_)
          repeat (first | refine branch_true ?_ | refine branch_false ?_ | (refine branch_f' ?_ ?_; focus (simp; done)) | (refine branch_t' ?_ ?_; focus (simp; done)))
          repeat (refine need_intro (by decide) ?_)
          repeat (first | refine branch_true ?_ | refine branch_false ?_ | (refine branch_f' ?_ ?_; focus (simp; done)) | (refine branch_t' ?_ ?_; focus (simp; done)))
          refine ⟨_, ⟨rdouble_c (cv_fit (hiV s) 1 (by decide)), rfl⟩, ?_⟩
          repeat (first | refine branch_true ?_ | refine branch_false ?_ | (refine branch_f' ?_ ?_; focus (simp; done)) | (refine branch_t' ?_ ?_; focus (simp; done)))
          refine branch_f' (by simp [dv]) ?_
          repeat (first | refine branch_true ?_ | refine branch_false ?_ | (refine branch_f' ?_ ?_; focus (simp; done)) | (refine branch_t' ?_ ?_; focus (simp; done)))
          refine ⟨2, by decide, by decide, weak_keep (keep 92 [3, 6, 8, 9, 10, 11, 12, 13, 14, 15, 16]) [0, 1, 2, 3, 4] rfl ?_ rfl⟩
          show [_, _, _, _, _, _, _, _, _, _, _, _, _, _, _, _, _, _, _, _, _, _, _, _, _, _, _, _, _, _, _, _, _, _, _, _, _, _, _, _, _, _, _, _, _, _, _, _, _, _, _, _, _, _, _, _, _, _, _, _, _, _, _, _, _, _, _, _, _, _, _, _, _, _, _, _, _, _, _, _, _, _, _, _, _, _, _, _, _, _, _, _] = _
          have : acc (fun i => outV (freeX s (hiV s) q N i)) 2 = true := by show (acc _ 1 || _) = true; rw [hb]; rfl
          show _ = slots 92 [(3, _), (6, _), (8, _), (9, _), (10, _), (11, _), (12, _), (13, _), (14, _), (15, .bool (acc (fun i => outV (freeX s (hiV s) q N i)) 2)), (16, _)]
          rw [this]
          rfl
        · repeat (first | refine branch_true ?_ | refine branch_false ?_ | refine branch_f' (bne_self_eq_false _) ?_ | refine branch_t' (beq_self_eq_true _) ?_ | refine branch_t' (decide_eq_true rfl) ?_)
          refine callT_E (out_c _) rfl ?_
          repeat (first | refine branch_true ?_ | refine branch_false ?_ | refine branch_f' (bne_self_eq_false _) ?_ | refine branch_t' (beq_self_eq_true _) ?_ | refine branch_t' (decide_eq_true rfl) ?_)
          refine draw_tree (picks [0, 1, 2, 3, 4, 5, 6, 7, 8, 9, 10, 11, 12, 13, 14, 15, 16, 17, 18] .done) (by decide +kernel) ?_
          repeat (refine need_intro (by decide) ?_)
          refine ⟨_, ⟨sat_c _, rfl⟩, ?_⟩
          refine ⟨_, ⟨rdouble_c (clamp_fit _), rfl⟩, ?_⟩
          rw [x0]
          refine branch_f' (by simp [dv]) ?_
          repeat (first | refine branch_true ?_ | refine branch_false ?_ | (refine branch_f' ?_ ?_; focus (simp; done)) | (refine branch_t' ?_ ?_; focus (simp; done)))
          repeat (refine need_intro (by decide) ?_)
          repeat (first | refine branch_true ?_ | refine branch_false ?_ | (refine branch_f' ?_ ?_; focus (simp; done)) | (refine branch_t' ?_ ?_; focus (simp; done)))
          repeat (refine need_intro (by decide) ?_)
          repeat (first | refine branch_true ?_ | refine branch_false ?_ | (refine branch_f' ?_ ?_; focus (simp; done)) | (refine branch_t' ?_ ?_; focus (simp; done)))
          repeat (refine need_intro (by decide) ?_)
          repeat (first | refine branch_true ?_ | refine branch_false ?_ | (refine branch_f' ?_ ?_; focus (simp; done)) | (refine branch_t' ?_ ?_; focus (simp; done)))
          refine ⟨_, ⟨rdouble_c (cv_fit (hiV s) 1 (by decide)), rfl⟩, ?_⟩
          repeat (first | refine branch_true ?_ | refine branch_false ?_ | (refine branch_f' ?_ ?_; focus (simp; done)) | (refine branch_t' ?_ ?_; focus (simp; done)))
          refine branch_f' (by simp [dv]) ?_
          repeat (first | refine branch_true ?_ | refine branch_false ?_ | (refine branch_f' ?_ ?_; focus (simp; done)) | (refine branch_t' ?_ ?_; focus (simp; done)))
          refine ⟨2, by decide, by decide, weak_keep (keep 92 [3, 6, 8, 9, 10, 11, 12, 13, 14, 15, 16]) [0, 1, 2, 3, 4] rfl ?_ rfl⟩
          show [_, _, _, _, _, _, _, _, _, _, _, _, _, _, _, _, _, _, _, _, _, _, _, _, _, _, _, _, _, _, _, _, _, _, _, _, _, _, _, _, _, _, _, _, _, _, _, _, _, _, _, _, _, _, _, _, _, _, _, _, _, _, _, _, _, _, _, _, _, _, _, _, _, _, _, _, _, _, _, _, _, _, _, _, _, _, _, _, _, _, _, _] = _
          have : acc (fun i => outV (freeX s (hiV s) q N i)) 2 = outV (freeX s (hiV s) q N 1) := by show (acc _ 1 || _) = _; rw [hb]; rfl
          show _ = slots 92 [(3, _), (6, _), (8, _), (9, _), (10, _), (11, _), (12, _), (13, _), (14, _), (15, .bool (acc (fun i => outV (freeX s (hiV s) q N i)) 2)), (16, _)]
          rw [this]
          rfl
      | 2, _ =>
        refine branch_true ?_
        refine draw_tree (picks [0, 1, 2, 3, 4, 5, 6, 7, 8, 9, 10, 11] .done) (by decide +kernel) ?_
        repeat (refine need_intro (by decide) ?_)
        refine ⟨_, ⟨rounded_c (cv_fit (hiV s) 2 (by decide)).big hpw.1 (by omega), rfl⟩, ?_⟩
        have x0 := xr 2 (by decide)
        apply branch_intro <;> intro hb
        · repeat (first | refine branch_true ?_ | refine branch_false ?_ | refine branch_f' (bne_self_eq_false _) ?_ | refine branch_t' (beq_self_eq_true _) ?_ | refine branch_t' (decide_eq_true rfl) ?_)
          refine draw_tree (picks [0, 1, 2, 3, 4, 5, 6, 7, 8, 9, 10, 11, 12, 13, 14, 15, 16, 17, 18] .done) (by decide +kernel) ?_
          repeat (refine need_intro (by decide) ?_)
          refine ⟨_, ⟨sat_c _, rfl⟩, ?_⟩
          refine ⟨_, ⟨rdouble_c (clamp_fit _), rfl⟩, ?_⟩
          rw [x0]
          refine branch_f' (by simp [dv]) ?_
          repeat (first | refine branch_true ?_ | refine branch_false ?_ | (refine branch_f' ?_ ?_; focus (simp; done)) | (refine branch_t' ?_ ?_; focus (simp; done)))
          repeat (refine need_intro (by decide) ?_)
          repeat (first | refine branch_true ?_ | refine branch_false ?_ | (refine branch_f' ?_ ?_; focus (simp; done)) | (refine branch_t' ?_ ?_; focus (simp; done)))
          repeat (refine need_intro (by decide) ?_)
          repeat (first | refine branch_true ?_ | refine branch_false ?_ | (refine branch_f' ?_ ?_; focus (simp; done)) | (refine branch_t' ?_ ?_; focus (simp; done)))
          repeat (refine need_intro (by decide) ?_)
          repeat (first | refine branch_true ?_ | refine branch_false ?_ | (refine branch_f' ?_ ?_; focus (simp; done)) | (refine branch_t' ?_ ?_; focus (simp; done)))
          refine ⟨_, ⟨rdouble_c (cv_fit (hiV s) 2 (by decide)), rfl⟩, ?_⟩
          repeat (first | refine branch_true ?_ | refine branch_false ?_ | (refine branch_f' ?_ ?_; focus (simp; done)) | (refine branch_t' ?_ ?_; focus (simp; done)))
          refine branch_f' (by simp [dv]) ?_
          repeat (first | refine branch_true ?_ | refine branch_false ?_ | (refine branch_f' ?_ ?_; focus (simp; done)) | (refine branch_t' ?_ ?_; focus (simp; done)))
          refine ⟨3, by decide, by decide, weak_keep (keep 92 [3, 6, 8, 9, 10, 11, 12, 13, 14, 15, 16]) [0, 1, 2, 3, 4] rfl ?_ rfl⟩
          show [_, _, _, _, _, _, _, _, _, _, _, _, _, _, _, _, _, _, _, _, _, _, _, _, _, _, _, _, _, _, _, _, _, _, _, _, _, _, _, _, _, _, _, _, _, _, _, _, _, _, _, _, _, _, _, _, _, _, _, _, _, _, _, _, _, _, _, _, _, _, _, _, _, _, _, _, _, _, _, _, _, _, _, _, _, _, _, _, _, _, _, _] = _
          have : acc (fun i => outV (freeX s (hiV s) q N i)) 3 = true := by show (acc _ 2 || _) = true; rw [hb]; rfl
          show _ = slots 92 [(3, _), (6, _), (8, _), (9, _), (10, _), (11, _), (12, _), (13, _), (14, _), (15, .bool (acc (fun i => outV (freeX s (hiV s) q N i)) 3)), (16, _)]
          rw [this]
          rfl
        · repeat (first | refine branch_true ?_ | refine branch_false ?_ | refine branch_f' (bne_self_eq_false _) ?_ | refine branch_t' (beq_self_eq_true _) ?_ | refine branch_t' (decide_eq_true rfl) ?_)
          refine callT_E (out_c _) rfl ?_
          repeat (first | refine branch_true ?_ | refine branch_false ?_ | refine branch_f' (bne_self_eq_false _) ?_ | refine branch_t' (beq_self_eq_true _) ?_ | refine branch_t' (decide_eq_true rfl) ?_)
          refine draw_tree (picks [0, 1, 2, 3, 4, 5, 6, 7, 8, 9, 10, 11, 12, 13, 14, 15, 16, 17, 18] .done) (by decide +kernel) ?_
          repeat (refine need_intro (by decide) ?_)
          refine ⟨_, ⟨sat_c _, rfl⟩, ?_⟩
          refine ⟨_, ⟨rdouble_c (clamp_fit _), rfl⟩, ?_⟩
          rw [x0]
          refine branch_f' (by simp [dv]) ?_
          repeat (first | refine branch_true ?_ | refine branch_false ?_ | (refine branch_f' ?_ ?_; focus (simp; done)) | (refine branch_t' ?_ ?_; focus (simp; done)))
          repeat (refine need_intro (by decide) ?_)
          repeat (first | refine branch_true ?_ | refine branch_false ?_ | (refine branch_f' ?_ ?_; focus (simp; done)) | (refine branch_t' ?_ ?_; focus (simp; done)))
          repeat (refine need_intro (by decide) ?_)
          repeat (first | refine branch_true ?_ | refine branch_false ?_ | (refine branch_f' ?_ ?_; focus (simp; done)) | (refine branch_t' ?_ ?_; focus (simp; done)))
          repeat (refine need_intro (by decide) ?_)
          repeat (first | refine branch_true ?_ | refine branch_false ?_ | (refine branch_f' ?_ ?_; focus (simp; done)) | (refine branch_t' ?_ ?_; focus (simp; done)))
          refine ⟨_, ⟨rdouble_c (cv_fit (hiV s) 2 (by decide)), rfl⟩, ?_⟩
          repeat (first | refine branch_true ?_ | refine branch_false ?_ | (refine branch_f' ?_ ?_; focus (simp; done)) | (refine branch_t' ?_ ?_; focus (simp; done)))
          refine branch_f' (by simp [dv]) ?_
          repeat (first | refine branch_true ?_ | refine branch_false ?_ | (refine branch_f' ?_ ?_; focus (simp; done)) | (refine branch_t' ?_ ?_; focus (simp; done)))
          refine ⟨3, by decide, by decide, weak_keep (keep 92 [3, 6, 8, 9, 10, 11, 12, 13, 14, 15, 16]) [0, 1, 2, 3, 4] rfl ?_ rfl⟩
          show [_, _, _, _, _, _, _, _, _, _, _, _, _, _, _, _, _, _, _, _, _, _, _, _, _, _, _, _, _, _, _, _, _, _, _, _, _, _, _, _, _, _, _, _, _, _, _, _, _, _, _, _, _, _, _, _, _, _, _, _, _, _, _, _, _, _, _, _, _, _, _, _, _, _, _, _, _, _, _, _, _, _, _, _, _, _, _, _, _, _, _, _] = _
          have : acc (fun i => outV (freeX s (hiV s) q N i)) 3 = outV (freeX s (hiV s) q N 2) := by show (acc _ 2 || _) = _; rw [hb]; rfl
          show _ = slots 92 [(3, _), (6, _), (8, _), (9, _), (10, _), (11, _), (12, _), (13, _), (14, _), (15, .bool (acc (fun i => outV (freeX s (hiV s) q N i)) 3)), (16, _)]
          rw [this]
          rfl
      | 3, _ =>
        refine branch_false ?_
        repeat (first | refine branch_true ?_ | refine branch_false ?_ | refine branch_f' (bne_self_eq_false _) ?_ | refine branch_t' (beq_self_eq_true _) ?_ | refine branch_t' (decide_eq_true rfl) ?_)
        show Eqv _ _
        refine eqv_of_eq (congrArg AVal.bool ?_)
        rw [acc3]
        simp
  · apply need_intro
    · rw [ec]; show (0 : Int) ≤ N ∧ (N : Int) ≤ N ∧ (N : Int) * ((12 : Nat) : Int) ≤ 2 ^ 47 ∧ (N : Int) ≤ 2 ^ 47; omega
    apply choice_l
    refine ⟨_, ⟨cr', rfl⟩, ?_⟩
    refine draw_tree (picks [0, 1, 2, 3, 4, 5] (.fork 6 7 (picks [7, 8, 9] .done) (picks [6, 8, 9] .done))) (by decide +kernel) ?_
    refine ⟨_, ⟨values_c wr, rfl⟩, ?_⟩
    refine ⟨_, ⟨values_c wv, rfl⟩, ?_⟩
    refine ⟨?_, ?_⟩
    · skip
      repeat (refine need_intro (by decide) ?_)
      apply need_intro
      · rw [ep]; omega
      refine loop_weak (fun i : Nat => slots 92 [(3, .ptr ⟨0, 0, 0⟩), (6, .bool false), (8, .int .i64 N), (9, .ptr ⟨2, 0, 0⟩), (10, .bool (or3 fun i => outV (freeX s (hiV s) q N i))), (11, .int .i64 0), (12, .ptr ⟨3, 0, 0⟩), (13, .ptr ⟨4, 0, 0⟩), (14, .int .i64 (2 ^ q)), (15, .bool (acc (fun i => outV (freeX s (hiV s) q N i)) i)), (16, .int .i64 i)])
        (fun i => [.cells (scells s (hiV s)), .cells (gcells zeroV 0 0 q), .cells (scells (dv (fun i => clampV (freeX s (hiV s) q N i))) (dv (cv (hiV s)))), .cells [.int .i64 (cv s 0), .int .i64 (cv s 1), .int .i64 (cv s 2)], .cells [.int .i64 (cv (hiV s) 0), .int .i64 (cv (hiV s) 1), .int .i64 (cv (hiV s) 2)]])
        (fun i => i ≤ 3) (fun i => 3 - i) 0 (Nat.zero_le _) (weak_keep (keep 92 [3, 6, 8, 9, 10, 11, 12, 13, 14, 15, 16]) [0, 1, 2, 3, 4] rfl ?_ ?_) ?_
      · show [_, _, _, _, _, _, _, _, _, _, _, _, _, _, _, _, _, _, _, _, _, _, _, _, _, _, _, _, _, _, _, _, _, _, _, _, _, _, _, _, _, _, _, _, _, _, _, _, _, _, _, _, _, _, _, _, _, _, _, _, _, _, _, _, _, _, _, _, _, _, _, _, _, _, _, _, _, _, _, _, _, _, _, _, _, _, _, _, _, _, _, _] = _
        rw [ec, e14]
        rfl
      · show [_, Blk.cells (gcells zeroV 0 0 (IntKind.i64.wrap (4 + Int.tmod (IntKind.i64.wrap p) 11))), _, _, _] = _
        rw [ep]
        rfl
      intro i hi
      match i, hi with
      | 0, _ =>
        refine branch_true ?_
        refine draw_tree (picks [0, 1, 2, 3, 4, 5, 6, 7, 8, 9, 10, 11] .done) (by decide +kernel) ?_
        repeat (refine need_intro (by decide) ?_)
        refine ⟨_, ⟨rounded_c (cv_fit (hiV s) 0 (by decide)).big hpw.1 (by omega), rfl⟩, ?_⟩
        have x0 := xr 0 (by decide)
        apply branch_intro <;> intro hb
        · repeat (first | refine branch_true ?_ | refine branch_false ?_ | refine branch_f' (bne_self_eq_false _) ?_ | refine branch_t' (beq_self_eq_true _) ?_ | refine branch_t' (decide_eq_true rfl) ?_)
          refine draw_tree (picks [0, 1, 2, 3, 4, 5, 6, 7, 8, 9, 10, 11, 12, 13, 14, 15, 16, 17, 18] .done) (by decide +kernel) ?_
          repeat (refine need_intro (by decide) ?_)
          refine ⟨_, ⟨sat_c _, rfl⟩, ?_⟩
          refine ⟨_, ⟨rdouble_c (clamp_fit _), rfl⟩, ?_⟩
          rw [x0]
          refine branch_f' (by simp [dv]) ?_
          repeat (first | refine branch_true ?_ | refine branch_false ?_ | (refine branch_f' ?_ ?_; focus (simp; done)) | (refine branch_t' ?_ ?_; focus (simp; done)))
          repeat (refine need_intro (by decide) ?_)
          repeat (first | refine branch_true ?_ | refine branch_false ?_ | (refine branch_f' ?_ ?_; focus (simp; done)) | (refine branch_t' ?_ ?_; focus (simp; done)))
          repeat (refine need_intro (by decide) ?_)
          repeat (first | refine branch_true ?_ | refine branch_false ?_ | (refine branch_f' ?_ ?_; focus (simp; done)) | (refine branch_t' ?_ ?_; focus (simp; done)))
          repeat (refine need_intro (by decide) ?_)
          repeat (first | refine branch_true ?_ | refine branch_false ?_ | (refine branch_f' ?_ ?_; focus (simp; done)) | (refine branch_t' ?_ ?_; focus (simp; done)))
          refine ⟨_, ⟨rdouble_c (cv_fit (hiV s) 0 (by decide)), rfl⟩, ?_⟩
          repeat (first | refine branch_true ?_ | refine branch_false ?_ | (refine branch_f' ?_ ?_; focus (simp; done)) | (refine branch_t' ?_ ?_; focus (simp; done)))
          refine branch_f' (by simp [dv]) ?_
          repeat (first | refine branch_true ?_ | refine branch_false ?_ | (refine branch_f' ?_ ?_; focus (simp; done)) | (refine branch_t' ?_ ?_; focus (simp; done)))
          refine ⟨1, by decide, by decide, weak_keep (keep 92 [3, 6, 8, 9, 10, 11, 12, 13, 14, 15, 16]) [0, 1, 2, 3, 4] rfl ?_ rfl⟩
          show [_, _, _, _, _, _, _, _, _, _, _, _, _, _, _, _, _, _, _, _, _, _, _, _, _, _, _, _, _, _, _, _, _, _, _, _, _, _, _, _, _, _, _, _, _, _, _, _, _, _, _, _, _, _, _, _, _, _, _, _, _, _, _, _, _, _, _, _, _, _, _, _, _, _, _, _, _, _, _, _, _, _, _, _, _, _, _, _, _, _, _, _] = _
          have : acc (fun i => outV (freeX s (hiV s) q N i)) 1 = true := by show (acc _ 0 || _) = true; rw [hb]; rfl
          show _ = slots 92 [(3, _), (6, _), (8, _), (9, _), (10, _), (11, _), (12, _), (13, _), (14, _), (15, .bool (acc (fun i => outV (freeX s (hiV s) q N i)) 1)), (16, _)]
          rw [this]
          rfl
        · repeat (first | refine branch_true ?_ | refine branch_false ?_ | refine branch_f' (bne_self_eq_false _) ?_ | refine branch_t' (beq_self_eq_true _) ?_ | refine branch_t' (decide_eq_true rfl) ?_)
          refine callT_E (out_c _) rfl ?_
          repeat (first | refine branch_true ?_ | refine branch_false ?_ | refine branch_f' (bne_self_eq_false _) ?_ | refine branch_t' (beq_self_eq_true _) ?_ | refine branch_t' (decide_eq_true rfl) ?_)
          refine draw_tree (picks [0, 1, 2, 3, 4, 5, 6, 7, 8, 9, 10, 11, 12, 13, 14, 15, 16, 17, 18] .done) (by decide +kernel) ?_
          repeat (refine need_intro (by decide) ?_)
          refine ⟨_, ⟨sat_c _, rfl⟩, ?_⟩
          refine ⟨_, ⟨rdouble_c (clamp_fit _), rfl⟩, ?_⟩
          rw [x0]
          refine branch_f' (by simp [dv]) ?_
          repeat (first | refine branch_true ?_ | refine branch_false ?_ | (refine branch_f' ?_ ?_; focus (simp; done)) | (refine branch_t' ?_ ?_; focus (simp; done)))
          repeat (refine need_intro (by decide) ?_)
          repeat (first | refine branch_true ?_ | refine branch_false ?_ | (refine branch_f' ?_ ?_; focus (simp; done)) | (refine branch_t' ?_ ?_; focus (simp; done)))
          repeat (refine need_intro (by decide) ?_)
          repeat (first | refine branch_true ?_ | refine branch_false ?_ | (refine branch_f' ?_ ?_; focus (simp; done)) | (refine branch_t' ?_ ?_; focus (simp; done)))
          repeat (refine need_intro (by decide) ?_)
          repeat (first | refine branch_true ?_ | refine branch_false ?_ | (refine branch_f' ?_ ?_; focus (simp; done)) | (refine branch_t' ?_ ?_; focus (simp; done)))
          refine ⟨_, ⟨rdouble_c (cv_fit (hiV s) 0 (by decide)), rfl⟩, ?_⟩
          repeat (first | refine branch_true ?_ | refine branch_false ?_ | (refine branch_f' ?_ ?_; focus (simp; done)) | (refine branch_t' ?_ ?_; focus (simp; done)))
          refine branch_f' (by simp [dv]) ?_
          repeat (first | refine branch_true ?_ | refine branch_false ?_ | (refine branch_f' ?_ ?_; focus (simp; done)) | (refine branch_t' ?_ ?_; focus (simp; done)))
          refine ⟨1, by decide, by decide, weak_keep (keep 92 [3, 6, 8, 9, 10, 11, 12, 13, 14, 15, 16]) [0, 1, 2, 3, 4] rfl ?_ rfl⟩
          show [_, _, _, _, _, _, _, _, _, _, _, _, _, _, _, _, _, _, _, _, _, _, _, _, _, _, _, _, _, _, _, _, _, _, _, _, _, _, _, _, _, _, _, _, _, _, _, _, _, _, _, _, _, _, _, _, _, _, _, _, _, _, _, _, _, _, _, _, _, _, _, _, _, _, _, _, _, _, _, _, _, _, _, _, _, _, _, _, _, _, _, _] = _
          have : acc (fun i => outV (freeX s (hiV s) q N i)) 1 = outV (freeX s (hiV s) q N 0) := by show (acc _ 0 || _) = _; rw [hb]; rfl
          show _ = slots 92 [(3, _), (6, _), (8, _), (9, _), (10, _), (11, _), (12, _), (13, _), (14, _), (15, .bool (acc (fun i => outV (freeX s (hiV s) q N i)) 1)), (16, _)]
          rw [this]
          rfl
      | 1, _ =>
        refine branch_true ?_
        refine draw_tree (picks [0, 1, 2, 3, 4, 5, 6, 7, 8, 9, 10, 11] .done) (by decide +kernel) ?_
        repeat (refine need_intro (by decide) ?_)
        refine ⟨_, ⟨rounded_c (cv_fit (hiV s) 1 (by decide)).big hpw.1 (by omega), rfl⟩, ?_⟩
        have x0 := xr 1 (by decide)
        apply branch_intro <;> intro hb
        · repeat (first | refine branch_true ?_ | refine branch_false ?_ | refine branch_f' (bne_self_eq_false _) ?_ | refine branch_t' (beq_self_eq_true _) ?_ | refine branch_t' (decide_eq_true rfl) ?_)
          refine draw_tree (picks [0, 1, 2, 3, 4, 5, 6, 7, 8, 9, 10, 11, 12, 13, 14, 15, 16, 17, 18] .done) (by decide +kernel) ?_
          repeat (refine need_intro (by decide) ?_)
          refine ⟨_, ⟨sat_c _, rfl⟩, ?_⟩
          refine ⟨_, ⟨rdouble_c (clamp_fit _), rfl⟩, ?_⟩
          rw [x0]
          refine branch_f' (by simp [dv]) ?_
          repeat (first | refine branch_true ?_ | refine branch_false ?_ | (refine branch_f' ?_ ?_; focus (simp; done)) | (refine branch_t' ?_ ?_; focus (simp; done)))
          repeat (refine need_intro (by decide) ?_)
          repeat (first | refine branch_true ?_ | refine branch_false ?_ | (refine branch_f' ?_ ?_; focus (simp; done)) | (refine branch_t' ?_ ?_; focus (simp; done)))
          repeat (refine need_intro (by decide) ?_)
          repeat (first | refine branch_true ?_ | refine branch_false ?_ | (refine branch_f' ?_ ?_; focus (simp; done)) | (refine branch_t' ?_ ?_; focus (simp; done)))
          repeat (refine need_intro (by decide) ?_)
          repeat (first | refine branch_true ?_ | refine branch_false ?_ | (refine branch_f' ?_ ?_; focus (simp; done)) | (refine branch_t' ?_ ?_; focus (simp; done)))
          refine ⟨_, ⟨rdouble_c (cv_fit (hiV s) 1 (by decide)), rfl⟩, ?_⟩
          repeat (first | refine branch_true ?_ | refine branch_false ?_ | (refine branch_f' ?_ ?_; focus (simp; done)) | (refine branch_t' ?_ ?_; focus (simp; done)))
          refine branch_f' (by simp [dv]) ?_
          repeat (first | refine branch_true ?_ | refine branch_false ?_ | (refine branch_f' ?_ ?_; focus (simp; done)) | (refine branch_t' ?_ ?_; focus (simp; done)))
          refine ⟨2, by decide, by decide, weak_keep (keep 92 [3, 6, 8, 9, 10, 11, 12, 13, 14, 15, 16]) [0, 1, 2, 3, 4] rfl ?_ rfl⟩
          show [_, _, _, _, _, _, _, _, _, _, _, _, _, _, _, _, _, _, _, _, _, _, _, _, _, _, _, _, _, _, _, _, _, _, _, _, _, _, _, _, _, _, _, _, _, _, _, _, _, _, _, _, _, _, _, _, _, _, _, _, _, _, _, _, _, _, _, _, _, _, _, _, _, _, _, _, _, _, _, _, _, _, _, _, _, _, _, _, _, _, _, _] = _
          have : acc (fun i => outV (freeX s (hiV s) q N i)) 2 = true := by show (acc _ 1 || _) = true; rw [hb]; rfl
          show _ = slots 92 [(3, _), (6, _), (8, _), (9, _), (10, _), (11, _), (12, _), (13, _), (14, _), (15, .bool (acc (fun i => outV (freeX s (hiV s) q N i)) 2)), (16, _)]
          rw [this]
          rfl
        · repeat (first | refine branch_true ?_ | refine branch_false ?_ | refine branch_f' (bne_self_eq_false _) ?_ | refine branch_t' (beq_self_eq_true _) ?_ | refine branch_t' (decide_eq_true rfl) ?_)
          refine callT_E (out_c _) rfl ?_
          repeat (first | refine branch_true ?_ | refine branch_false ?_ | refine branch_f' (bne_self_eq_false _) ?_ | refine branch_t' (beq_self_eq_true _) ?_ | refine branch_t' (decide_eq_true rfl) ?_)
          refine draw_tree (picks [0, 1, 2, 3, 4, 5, 6, 7, 8, 9, 10, 11, 12, 13, 14, 15, 16, 17, 18] .done) (by decide +kernel) ?_
          repeat (refine need_intro (by decide) ?_)
          refine ⟨_, ⟨sat_c _, rfl⟩, ?_⟩
          refine ⟨_, ⟨rdouble_c (clamp_fit _), rfl⟩, ?_⟩
          rw [x0]
          refine branch_f' (by simp [dv]) ?_
          repeat (first | refine branch_true ?_ | refine branch_false ?_ | (refine branch_f' ?_ ?_; focus (simp; done)) | (refine branch_t' ?_ ?_; focus (simp; done)))
          repeat (refine need_intro (by decide) ?_)
          repeat (first | refine branch_true ?_ | refine branch_false ?_ | (refine branch_f' ?_ ?_; focus (simp; done)) | (refine branch_t' ?_ ?_; focus (simp; done)))
          repeat (refine need_intro (by decide) ?_)
          repeat (first | refine branch_true ?_ | refine branch_false ?_ | (refine branch_f' ?_ ?_; focus (simp; done)) | (refine branch_t' ?_ ?_; focus (simp; done)))
          repeat (refine need_intro (by decide) ?_)
          repeat (first | refine branch_true ?_ | refine branch_false ?_ | (refine branch_f' ?_ ?_; focus (simp; done)) | (refine branch_t' ?_ ?_; focus (simp; done)))
          refine ⟨_, ⟨rdouble_c (cv_fit (hiV s) 1 (by decide)), rfl⟩, ?_⟩
          repeat (first | refine branch_true ?_ | refine branch_false ?_ | (refine branch_f' ?_ ?_; focus (simp; done)) | (refine branch_t' ?_ ?_; focus (simp; done)))
          refine branch_f' (by simp [dv]) ?_
          repeat (first | refine branch_true ?_ | refine branch_false ?_ | (refine branch_f' ?_ ?_; focus (simp; done)) | (refine branch_t' ?_ ?_; focus (simp; done)))
          refine ⟨2, by decide, by decide, weak_keep (keep 92 [3, 6, 8, 9, 10, 11, 12, 13, 14, 15, 16]) [0, 1, 2, 3, 4] rfl ?_ rfl⟩
          show [_, _, _, _, _, _, _, _, _, _, _, _, _, _, _, _, _, _, _, _, _, _, _, _, _, _, _, _, _, _, _, _, _, _, _, _, _, _, _, _, _, _, _, _, _, _, _, _, _, _, _, _, _, _, _, _, _, _, _, _, _, _, _, _, _, _, _, _, _, _, _, _, _, _, _, _, _, _, _, _, _, _, _, _, _, _, _, _, _, _, _, _] = _
          have : acc (fun i => outV (freeX s (hiV s) q N i)) 2 = outV (freeX s (hiV s) q N 1) := by show (acc _ 1 || _) = _; rw [hb]; rfl
          show _ = slots 92 [(3, _), (6, _), (8, _), (9, _), (10, _), (11, _), (12, _), (13, _), (14, _), (15, .bool (acc (fun i => outV (freeX s (hiV s) q N i)) 2)), (16, _)]
          rw [this]
          rfl
      | 2, _ =>
        refine branch_true ?_
        refine draw_tree (picks [0, 1, 2, 3, 4, 5, 6, 7, 8, 9, 10, 11] .done) (by decide +kernel) ?_
        repeat (refine need_intro (by decide) ?_)
        refine ⟨_, ⟨rounded_c (cv_fit (hiV s) 2 (by decide)).big hpw.1 (by omega), rfl⟩, ?_⟩
        have x0 := xr 2 (by decide)
        apply branch_intro <;> intro hb
        · repeat (first | refine branch_true ?_ | refine branch_false ?_ | refine branch_f' (bne_self_eq_false _) ?_ | refine branch_t' (beq_self_eq_true _) ?_ | refine branch_t' (decide_eq_true rfl) ?_)
          refine draw_tree (picks [0, 1, 2, 3, 4, 5, 6, 7, 8, 9, 10, 11, 12, 13, 14, 15, 16, 17, 18] .done) (by decide +kernel) ?_
          repeat (refine need_intro (by decide) ?_)
          refine ⟨_, ⟨sat_c _, rfl⟩, ?_⟩
          refine ⟨_, ⟨rdouble_c (clamp_fit _), rfl⟩, ?_⟩
          rw [x0]
          refine branch_f' (by simp [dv]) ?_
          repeat (first | refine branch_true ?_ | refine branch_false ?_ | (refine branch_f' ?_ ?_; focus (simp; done)) | (refine branch_t' ?_ ?_; focus (simp; done)))
          repeat (refine need_intro (by decide) ?_)
          repeat (first | refine branch_true ?_ | refine branch_false ?_ | (refine branch_f' ?_ ?_; focus (simp; done)) | (refine branch_t' ?_ ?_; focus (simp; done)))
          repeat (refine need_intro (by decide) ?_)
          repeat (first | refine branch_true ?_ | refine branch_false ?_ | (refine branch_f' ?_ ?_; focus (simp; done)) | (refine branch_t' ?_ ?_; focus (simp; done)))
          repeat (refine need_intro (by decide) ?_)
          repeat (first | refine branch_true ?_ | refine branch_false ?_ | (refine branch_f' ?_ ?_; focus (simp; done)) | (refine branch_t' ?_ ?_; focus (simp; done)))
          refine ⟨_, ⟨rdouble_c (cv_fit (hiV s) 2 (by decide)), rfl⟩, ?_⟩
          repeat (first | refine branch_true ?_ | refine branch_false ?_ | (refine branch_f' ?_ ?_; focus (simp; done)) | (refine branch_t' ?_ ?_; focus (simp; done)))
          refine branch_f' (by simp [dv]) ?_
          repeat (first | refine branch_true ?_ | refine branch_false ?_ | (refine branch_f' ?_ ?_; focus (simp; done)) | (refine branch_t' ?_ ?_; focus (simp; done)))
          refine ⟨3, by decide, by decide, weak_keep (keep 92 [3, 6, 8, 9, 10, 11, 12, 13, 14, 15, 16]) [0, 1, 2, 3, 4] rfl ?_ rfl⟩
          show [_, _, _, _, _, _, _, _, _, _, _, _, _, _, _, _, _, _, _, _, _, _, _, _, _, _, _, _, _, _, _, _, _, _, _, _, _, _, _, _, _, _, _, _, _, _, _, _, _, _, _, _, _, _, _, _, _, _, _, _, _, _, _, _, _, _, _, _, _, _, _, _, _, _, _, _, _, _, _, _, _, _, _, _, _, _, _, _, _, _, _, _] = _
          have : acc (fun i => outV (freeX s (hiV s) q N i)) 3 = true := by show (acc _ 2 || _) = true; rw [hb]; rfl
          show _ = slots 92 [(3, _), (6, _), (8, _), (9, _), (10, _), (11, _), (12, _), (13, _), (14, _), (15, .bool (acc (fun i => outV (freeX s (hiV s) q N i)) 3)), (16, _)]
          rw [this]
          rfl
        · repeat (first | refine branch_true ?_ | refine branch_false ?_ | refine branch_f' (bne_self_eq_false _) ?_ | refine branch_t' (beq_self_eq_true _) ?_ | refine branch_t' (decide_eq_true rfl) ?_)
          refine callT_E (out_c _) rfl ?_
          repeat (first | refine branch_true ?_ | refine branch_false ?_ | refine branch_f' (bne_self_eq_false _) ?_ | refine branch_t' (beq_self_eq_true _) ?_ | refine branch_t' (decide_eq_true rfl) ?_)
          refine draw_tree (picks [0, 1, 2, 3, 4, 5, 6, 7, 8, 9, 10, 11, 12, 13, 14, 15, 16, 17, 18] .done) (by decide +kernel) ?_
          repeat (refine need_intro (by decide) ?_)
          refine ⟨_, ⟨sat_c _, rfl⟩, ?_⟩
          refine ⟨_, ⟨rdouble_c (clamp_fit _), rfl⟩, ?_⟩
          rw [x0]
          refine branch_f' (by simp [dv]) ?_
          repeat (first | refine branch_true ?_ | refine branch_false ?_ | (refine branch_f' ?_ ?_; focus (simp; done)) | (refine branch_t' ?_ ?_; focus (simp; done)))
          repeat (refine need_intro (by decide) ?_)
          repeat (first | refine branch_true ?_ | refine branch_false ?_ | (refine branch_f' ?_ ?_; focus (simp; done)) | (refine branch_t' ?_ ?_; focus (simp; done)))
          repeat (refine need_intro (by decide) ?_)
          repeat (first | refine branch_true ?_ | refine branch_false ?_ | (refine branch_f' ?_ ?_; focus (simp; done)) | (refine branch_t' ?_ ?_; focus (simp; done)))
          repeat (refine need_intro (by decide) ?_)
          repeat (first | refine branch_true ?_ | refine branch_false ?_ | (refine branch_f' ?_ ?_; focus (simp; done)) | (refine branch_t' ?_ ?_; focus (simp; done)))
          refine ⟨_, ⟨rdouble_c (cv_fit (hiV s) 2 (by decide)), rfl⟩, ?_⟩
          repeat (first | refine branch_true ?_ | refine branch_false ?_ | (refine branch_f' ?_ ?_; focus (simp; done)) | (refine branch_t' ?_ ?_; focus (simp; done)))
          refine branch_f' (by simp [dv]) ?_
          repeat (first | refine branch_true ?_ | refine branch_false ?_ | (refine branch_f' ?_ ?_; focus (simp; done)) | (refine branch_t' ?_ ?_; focus (simp; done)))
          refine ⟨3, by decide, by decide, weak_keep (keep 92 [3, 6, 8, 9, 10, 11, 12, 13, 14, 15, 16]) [0, 1, 2, 3, 4] rfl ?_ rfl⟩
          show [_, _, _, _, _, _, _, _, _, _, _, _, _, _, _, _, _, _, _, _, _, _, _, _, _, _, _, _, _, _, _, _, _, _, _, _, _, _, _, _, _, _, _, _, _, _, _, _, _, _, _, _, _, _, _, _, _, _, _, _, _, _, _, _, _, _, _, _, _, _, _, _, _, _, _, _, _, _, _, _, _, _, _, _, _, _, _, _, _, _, _, _] = _
          have : acc (fun i => outV (freeX s (hiV s) q N i)) 3 = outV (freeX s (hiV s) q N 2) := by show (acc _ 2 || _) = _; rw [hb]; rfl
          show _ = slots 92 [(3, _), (6, _), (8, _), (9, _), (10, _), (11, _), (12, _), (13, _), (14, _), (15, .bool (acc (fun i => outV (freeX s (hiV s) q N i)) 3)), (16, _)]
          rw [this]
          rfl
      | 3, _ =>
        refine branch_false ?_
        repeat (first | refine branch_true ?_ | refine branch_false ?_ | refine branch_f' (bne_self_eq_false _) ?_ | refine branch_t' (beq_self_eq_true _) ?_ | refine branch_t' (decide_eq_true rfl) ?_)
        show Eqv _ _
        refine eqv_of_eq (congrArg AVal.bool ?_)
        rw [acc3]
        simp
    · skip
      repeat (refine need_intro (by decide) ?_)
      apply need_intro
      · rw [ep]; omega
      refine loop_weak (fun i : Nat => slots 92 [(3, .ptr ⟨0, 0, 0⟩), (6, .bool false), (8, .int .i64 N), (9, .ptr ⟨2, 0, 0⟩), (10, .bool (or3 fun i => outV (freeX s (hiV s) q N i))), (11, .int .i64 0), (12, .ptr ⟨4, 0, 0⟩), (13, .ptr ⟨3, 0, 0⟩), (14, .int .i64 (2 ^ q)), (15, .bool (acc (fun i => outV (freeX s (hiV s) q N i)) i)), (16, .int .i64 i)])
        (fun i => [.cells (scells s (hiV s)), .cells (gcells zeroV 0 0 q), .cells (scells (dv (fun i => clampV (freeX s (hiV s) q N i))) (dv (cv (hiV s)))), .cells [.int .i64 (cv (hiV s) 0), .int .i64 (cv (hiV s) 1), .int .i64 (cv (hiV s) 2)], .cells [.int .i64 (cv s 0), .int .i64 (cv s 1), .int .i64 (cv s 2)]])
        (fun i => i ≤ 3) (fun i => 3 - i) 0 (Nat.zero_le _) (weak_keep (keep 92 [3, 6, 8, 9, 10, 11, 12, 13, 14, 15, 16]) [0, 1, 2, 3, 4] rfl ?_ ?_) ?_
      · show [_, _, _, _, _, _, _, _, _, _, _, _, _, _, _, _, _, _, _, _, _, _, _, _, _, _, _, _, _, _, _, _, _, _, _, _, _, _, _, _, _, _, _, _, _, _, _, _, _, _, _, _, _, _, _, _, _, _, _, _, _, _, _, _, _, _, _, _, _, _, _, _, _, _, _, _, _, _, _, _, _, _, _, _, _, _, _, _, _, _, _, _] = _
        rw [ec, e14]
        rfl
      · show [_, Blk.cells (gcells zeroV 0 0 (IntKind.i64.wrap (4 + Int.tmod (IntKind.i64.wrap p) 11))), _, _, _] = _
        rw [ep]
        rfl
      intro i hi
      match i, hi with
      | 0, _ =>
        refine branch_true ?_
        refine draw_tree (picks [0, 1, 2, 3, 4, 5, 6, 7, 8, 9, 10, 11] .done) (by decide +kernel) ?_
        repeat (refine need_intro (by decide) ?_)
        refine ⟨_, ⟨rounded_c (cv_fit (hiV s) 0 (by decide)).big hpw.1 (by omega), rfl⟩, ?_⟩
        have x0 := xr 0 (by decide)
        apply branch_intro <;> intro hb
        · repeat (first | refine branch_true ?_ | refine branch_false ?_ | refine branch_f' (bne_self_eq_false _) ?_ | refine branch_t' (beq_self_eq_true _) ?_ | refine branch_t' (decide_eq_true rfl) ?_)
          refine draw_tree (picks [0, 1, 2, 3, 4, 5, 6, 7, 8, 9, 10, 11, 12, 13, 14, 15, 16, 17, 18] .done) (by decide +kernel) ?_
          repeat (refine need_intro (by decide) ?_)
          refine ⟨_, ⟨sat_c _, rfl⟩, ?_⟩
          refine ⟨_, ⟨rdouble_c (clamp_fit _), rfl⟩, ?_⟩
          rw [x0]
          refine branch_f' (by simp [dv]) ?_
          repeat (first | refine branch_true ?_ | refine branch_false ?_ | (refine branch_f' ?_ ?_; focus (simp; done)) | (refine branch_t' ?_ ?_; focus (simp; done)))
          repeat (refine need_intro (by decide) ?_)
          repeat (first | refine branch_true ?_ | refine branch_false ?_ | (refine branch_f' ?_ ?_; focus (simp; done)) | (refine branch_t' ?_ ?_; focus (simp; done)))
          repeat (refine need_intro (by decide) ?_)
          repeat (first | refine branch_true ?_ | refine branch_false ?_ | (refine branch_f' ?_ ?_; focus (simp; done)) | (refine branch_t' ?_ ?_; focus (simp; done)))
          repeat (refine need_intro (by decide) ?_)
          repeat (first | refine branch_true ?_ | refine branch_false ?_ | (refine branch_f' ?_ ?_; focus (simp; done)) | (refine branch_t' ?_ ?_; focus (simp; done)))
          refine ⟨_, ⟨rdouble_c (cv_fit (hiV s) 0 (by decide)), rfl⟩, ?_⟩
          repeat (first | refine branch_true ?_ | refine branch_false ?_ | (refine branch_f' ?_ ?_; focus (simp; done)) | (refine branch_t' ?_ ?_; focus (simp; done)))
          refine branch_f' (by simp [dv]) ?_
          repeat (first | refine branch_true ?_ | refine branch_false ?_ | (refine branch_f' ?_ ?_; focus (simp; done)) | (refine branch_t' ?_ ?_; focus (simp; done)))
          refine ⟨1, by decide, by decide, weak_keep (keep 92 [3, 6, 8, 9, 10, 11, 12, 13, 14, 15, 16]) [0, 1, 2, 3, 4] rfl ?_ rfl⟩
          show [_, _, _, _, _, _, _, _, _, _, _, _, _, _, _, _, _, _, _, _, _, _, _, _, _, _, _, _, _, _, _, _, _, _, _, _, _, _, _, _, _, _, _, _, _, _, _, _, _, _, _, _, _, _, _, _, _, _, _, _, _, _, _, _, _, _, _, _, _, _, _, _, _, _, _, _, _, _, _, _, _, _, _, _, _, _, _, _, _, _, _, _] = _
          have : acc (fun i => outV (freeX s (hiV s) q N i)) 1 = true := by show (acc _ 0 || _) = true; rw [hb]; rfl
          show _ = slots 92 [(3, _), (6, _), (8, _), (9, _), (10, _), (11, _), (12, _), (13, _), (14, _), (15, .bool (acc (fun i => outV (freeX s (hiV s) q N i)) 1)), (16, _)]
          rw [this]
          rfl
        · repeat (first | refine branch_true ?_ | refine branch_false ?_ | refine branch_f' (bne_self_eq_false _) ?_ | refine branch_t' (beq_self_eq_true _) ?_ | refine branch_t' (decide_eq_true rfl) ?_)
          refine callT_E (out_c _) rfl ?_
          repeat (first | refine branch_true ?_ | refine branch_false ?_ | refine branch_f' (bne_self_eq_false _) ?_ | refine branch_t' (beq_self_eq_true _) ?_ | refine branch_t' (decide_eq_true rfl) ?_)
          refine draw_tree (picks [0, 1, 2, 3, 4, 5, 6, 7, 8, 9, 10, 11, 12, 13, 14, 15, 16, 17, 18] .done) (by decide +kernel) ?_
          repeat (refine need_intro (by decide) ?_)
          refine ⟨_, ⟨sat_c _, rfl⟩, ?_⟩
          refine ⟨_, ⟨rdouble_c (clamp_fit _), rfl⟩, ?_⟩
          rw [x0]
          refine branch_f' (by simp [dv]) ?_
          repeat (first | refine branch_true ?_ | refine branch_false ?_ | (refine branch_f' ?_ ?_; focus (simp; done)) | (refine branch_t' ?_ ?_; focus (simp; done)))
          repeat (refine need_intro (by decide) ?_)
          repeat (first | refine branch_true ?_ | refine branch_false ?_ | (refine branch_f' ?_ ?_; focus (simp; done)) | (refine branch_t' ?_ ?_; focus (simp; done)))
          repeat (refine need_intro (by decide) ?_)
          repeat (first | refine branch_true ?_ | refine branch_false ?_ | (refine branch_f' ?_ ?_; focus (simp; done)) | (refine branch_t' ?_ ?_; focus (simp; done)))
          repeat (refine need_intro (by decide) ?_)
          repeat (first | refine branch_true ?_ | refine branch_false ?_ | (refine branch_f' ?_ ?_; focus (simp; done)) | (refine branch_t' ?_ ?_; focus (simp; done)))
          refine ⟨_, ⟨rdouble_c (cv_fit (hiV s) 0 (by decide)), rfl⟩, ?_⟩
          repeat (first | refine branch_true ?_ | refine branch_false ?_ | (refine branch_f' ?_ ?_; focus (simp; done)) | (refine branch_t' ?_ ?_; focus (simp; done)))
          refine branch_f' (by simp [dv]) ?_
          repeat (first | refine branch_true ?_ | refine branch_false ?_ | (refine branch_f' ?_ ?_; focus (simp; done)) | (refine branch_t' ?_ ?_; focus (simp; done)))
          refine ⟨1, by decide, by decide, weak_keep (keep 92 [3, 6, 8, 9, 10, 11, 12, 13, 14, 15, 16]) [0, 1, 2, 3, 4] rfl ?_ rfl⟩
          show [_, _, _, _, _, _, _, _, _, _, _, _, _, _, _, _, _, _, _, _, _, _, _, _, _, _, _, _, _, _, _, _, _, _, _, _, _, _, _, _, _, _, _, _, _, _, _, _, _, _, _, _, _, _, _, _, _, _, _, _, _, _, _, _, _, _, _, _, _, _, _, _, _, _, _, _, _, _, _, _, _, _, _, _, _, _, _, _, _, _, _, _] = _
          have : acc (fun i => outV (freeX s (hiV s) q N i)) 1 = outV (freeX s (hiV s) q N 0) := by show (acc _ 0 || _) = _; rw [hb]; rfl
          show _ = slots 92 [(3, _), (6, _), (8, _), (9, _), (10, _), (11, _), (12, _), (13, _), (14, _), (15, .bool (acc (fun i => outV (freeX s (hiV s) q N i)) 1)), (16, _)]
          rw [this]
          rfl
      | 1, _ =>
        refine branch_true ?_
        refine draw_tree (picks [0, 1, 2, 3, 4, 5, 6, 7, 8, 9, 10, 11] .done) (by decide +kernel) ?_
        repeat (refine need_intro (by decide) ?_)
        refine ⟨_, ⟨rounded_c (cv_fit (hiV s) 1 (by decide)).big hpw.1 (by omega), rfl⟩, ?_⟩
        have x0 := xr 1 (by decide)
        apply branch_intro <;> intro hb
        · repeat (first | refine branch_true ?_ | refine branch_false ?_ | refine branch_f' (bne_self_eq_false _) ?_ | refine branch_t' (beq_self_eq_true _) ?_ | refine branch_t' (decide_eq_true rfl) ?_)
          refine draw_tree (picks [0, 1, 2, 3, 4, 5, 6, 7, 8, 9, 10, 11, 12, 13, 14, 15, 16, 17, 18] .done) (by decide +kernel) ?_
          repeat (refine need_intro (by decide) ?_)
          refine ⟨_, ⟨sat_c _, rfl⟩, ?_⟩
          refine ⟨_, ⟨rdouble_c (clamp_fit _), rfl⟩, ?_⟩
          rw [x0]
          refine branch_f' (by simp [dv]) ?_
          repeat (first | refine branch_true ?_ | refine branch_false ?_ | (refine branch_f' ?_ ?_; focus (simp; done)) | (refine branch_t' ?_ ?_; focus (simp; done)))
          repeat (refine need_intro (by decide) ?_)
          repeat (first | refine branch_true ?_ | refine branch_false ?_ | (refine branch_f' ?_ ?_; focus (simp; done)) | (refine branch_t' ?_ ?_; focus (simp; done)))
          repeat (refine need_intro (by decide) ?_)
          repeat (first | refine branch_true ?_ | refine branch_false ?_ | (refine branch_f' ?_ ?_; focus (simp; done)) | (refine branch_t' ?_ ?_; focus (simp; done)))
          repeat (refine need_intro (by decide) ?_)
          repeat (first | refine branch_true ?_ | refine branch_false ?_ | (refine branch_f' ?_ ?_; focus (simp; done)) | (refine branch_t' ?_ ?_; focus (simp; done)))
          refine ⟨_, ⟨rdouble_c (cv_fit (hiV s) 1 (by decide)), rfl⟩, ?_⟩
          repeat (first | refine branch_true ?_ | refine branch_false ?_ | (refine branch_f' ?_ ?_; focus (simp; done)) | (refine branch_t' ?_ ?_; focus (simp; done)))
          refine branch_f' (by simp [dv]) ?_
          repeat (first | refine branch_true ?_ | refine branch_false ?_ | (refine branch_f' ?_ ?_; focus (simp; done)) | (refine branch_t' ?_ ?_; focus (simp; done)))
          refine ⟨2, by decide, by decide, weak_keep (keep 92 [3, 6, 8, 9, 10, 11, 12, 13, 14, 15, 16]) [0, 1, 2, 3, 4] rfl ?_ rfl⟩
          show [_, _, _, _, _, _, _, _, _, _, _, _, _, _, _, _, _, _, _, _, _, _, _, _, _, _, _, _, _, _, _, _, _, _, _, _, _, _, _, _, _, _, _, _, _, _, _, _, _, _, _, _, _, _, _, _, _, _, _, _, _, _, _, _, _, _, _, _, _, _, _, _, _, _, _, _, _, _, _, _, _, _, _, _, _, _, _, _, _, _, _, _] = _
          have : acc (fun i => outV (freeX s (hiV s) q N i)) 2 = true := by show (acc _ 1 || _) = true; rw [hb]; rfl
          show _ = slots 92 [(3, _), (6, _), (8, _), (9, _), (10, _), (11, _), (12, _), (13, _), (14, _), (15, .bool (acc (fun i => outV (freeX s (hiV s) q N i)) 2)), (16, _)]
          rw [this]
          rfl
        · repeat (first | refine branch_true ?_ | refine branch_false ?_ | refine branch_f' (bne_self_eq_false _) ?_ | refine branch_t' (beq_self_eq_true _) ?_ | refine branch_t' (decide_eq_true rfl) ?_)
          refine callT_E (out_c _) rfl ?_
          repeat (first | refine branch_true ?_ | refine branch_false ?_ | refine branch_f' (bne_self_eq_false _) ?_ | refine branch_t' (beq_self_eq_true _) ?_ | refine branch_t' (decide_eq_true rfl) ?_)
          refine draw_tree (picks [0, 1, 2, 3, 4, 5, 6, 7, 8, 9, 10, 11, 12, 13, 14, 15, 16, 17, 18] .done) (by decide +kernel) ?_
          repeat (refine need_intro (by decide) ?_)
          refine ⟨_, ⟨sat_c _, rfl⟩, ?_⟩
          refine ⟨_, ⟨rdouble_c (clamp_fit _), rfl⟩, ?_⟩
          rw [x0]
          refine branch_f' (by simp [dv]) ?_
          repeat (first | refine branch_true ?_ | refine branch_false ?_ | (refine branch_f' ?_ ?_; focus (simp; done)) | (refine branch_t' ?_ ?_; focus (simp; done)))
          repeat (refine need_intro (by decide) ?_)
          repeat (first | refine branch_true ?_ | refine branch_false ?_ | (refine branch_f' ?_ ?_; focus (simp; done)) | (refine branch_t' ?_ ?_; focus (simp; done)))
          repeat (refine need_intro (by decide) ?_)
          repeat (first | refine branch_true ?_ | refine branch_false ?_ | (refine branch_f' ?_ ?_; focus (simp; done)) | (refine branch_t' ?_ ?_; focus (simp; done)))
          repeat (refine need_intro (by decide) ?_)
          repeat (first | refine branch_true ?_ | refine branch_false ?_ | (refine branch_f' ?_ ?_; focus (simp; done)) | (refine branch_t' ?_ ?_; focus (simp; done)))
          refine ⟨_, ⟨rdouble_c (cv_fit (hiV s) 1 (by decide)), rfl⟩, ?_⟩
          repeat (first | refine branch_true ?_ | refine branch_false ?_ | (refine branch_f' ?_ ?_; focus (simp; done)) | (refine branch_t' ?_ ?_; focus (simp; done)))
          refine branch_f' (by simp [dv]) ?_
          repeat (first | refine branch_true ?_ | refine branch_false ?_ | (refine branch_f' ?_ ?_; focus (simp; done)) | (refine branch_t' ?_ ?_; focus (simp; done)))
          refine ⟨2, by decide, by decide, weak_keep (keep 92 [3, 6, 8, 9, 10, 11, 12, 13, 14, 15, 16]) [0, 1, 2, 3, 4] rfl ?_ rfl⟩
          show [_, _, _, _, _, _, _, _, _, _, _, _, _, _, _, _, _, _, _, _, _, _, _, _, _, _, _, _, _, _, _, _, _, _, _, _, _, _, _, _, _, _, _, _, _, _, _, _, _, _, _, _, _, _, _, _, _, _, _, _, _, _, _, _, _, _, _, _, _, _, _, _, _, _, _, _, _, _, _, _, _, _, _, _, _, _, _, _, _, _, _, _] = _
          have : acc (fun i => outV (freeX s (hiV s) q N i)) 2 = outV (freeX s (hiV s) q N 1) := by show (acc _ 1 || _) = _; rw [hb]; rfl
          show _ = slots 92 [(3, _), (6, _), (8, _), (9, _), (10, _), (11, _), (12, _), (13, _), (14, _), (15, .bool (acc (fun i => outV (freeX s (hiV s) q N i)) 2)), (16, _)]
          rw [this]
          rfl
      | 2, _ =>
        refine branch_true ?_
        refine draw_tree (picks [0, 1, 2, 3, 4, 5, 6, 7, 8, 9, 10, 11] .done) (by decide +kernel) ?_
        repeat (refine need_intro (by decide) ?_)
        refine ⟨_, ⟨rounded_c (cv_fit (hiV s) 2 (by decide)).big hpw.1 (by omega), rfl⟩, ?_⟩
        have x0 := xr 2 (by decide)
        apply branch_intro <;> intro hb
        · repeat (first | refine branch_true ?_ | refine branch_false ?_ | refine branch_f' (bne_self_eq_false _) ?_ | refine branch_t' (beq_self_eq_true _) ?_ | refine branch_t' (decide_eq_true rfl) ?_)
          refine draw_tree (picks [0, 1, 2, 3, 4, 5, 6, 7, 8, 9, 10, 11, 12, 13, 14, 15, 16, 17, 18] .done) (by decide +kernel) ?_
          repeat (refine need_intro (by decide) ?_)
          refine ⟨_, ⟨sat_c _, rfl⟩, ?_⟩
          refine ⟨_, ⟨rdouble_c (clamp_fit _), rfl⟩, ?_⟩
          rw [x0]
          refine branch_f' (by simp [dv]) ?_
          repeat (first | refine branch_true ?_ | refine branch_false ?_ | (refine branch_f' ?_ ?_; focus (simp; done)) | (refine branch_t' ?_ ?_; focus (simp; done)))
          repeat (refine need_intro (by decide) ?_)
          repeat (first | refine branch_true ?_ | refine branch_false ?_ | (refine branch_f' ?_ ?_; focus (simp; done)) | (refine branch_t' ?_ ?_; focus (simp; done)))
          repeat (refine need_intro (by decide) ?_)
          repeat (first | refine branch_true ?_ | refine branch_false ?_ | (refine branch_f' ?_ ?_; focus (simp; done)) | (refine branch_t' ?_ ?_; focus (simp; done)))
          repeat (refine need_intro (by decide) ?_)
          repeat (first | refine branch_true ?_ | refine branch_false ?_ | (refine branch_f' ?_ ?_; focus (simp; done)) | (refine branch_t' ?_ ?_; focus (simp; done)))
          refine ⟨_, ⟨rdouble_c (cv_fit (hiV s) 2 (by decide)), rfl⟩, ?_⟩
          repeat (first | refine branch_true ?_ | refine branch_false ?_ | (refine branch_f' ?_ ?_; focus (simp; done)) | (refine branch_t' ?_ ?_; focus (simp; done)))
          refine branch_f' (by simp [dv]) ?_
          repeat (first | refine branch_true ?_ | refine branch_false ?_ | (refine branch_f' ?_ ?_; focus (simp; done)) | (refine branch_t' ?_ ?_; focus (simp; done)))
          refine ⟨3, by decide, by decide, weak_keep (keep 92 [3, 6, 8, 9, 10, 11, 12, 13, 14, 15, 16]) [0, 1, 2, 3, 4] rfl ?_ rfl⟩
          show [_, _, _, _, _, _, _, _, _, _, _, _, _, _, _, _, _, _, _, _, _, _, _, _, _, _, _, _, _, _, _, _, _, _, _, _, _, _, _, _, _, _, _, _, _, _, _, _, _, _, _, _, _, _, _, _, _, _, _, _, _, _, _, _, _, _, _, _, _, _, _, _, _, _, _, _, _, _, _, _, _, _, _, _, _, _, _, _, _, _, _, _] = _
          have : acc (fun i => outV (freeX s (hiV s) q N i)) 3 = true := by show (acc _ 2 || _) = true; rw [hb]; rfl
          show _ = slots 92 [(3, _), (6, _), (8, _), (9, _), (10, _), (11, _), (12, _), (13, _), (14, _), (15, .bool (acc (fun i => outV (freeX s (hiV s) q N i)) 3)), (16, _)]
          rw [this]
          rfl
        · repeat (first | refine branch_true ?_ | refine branch_false ?_ | refine branch_f' (bne_self_eq_false _) ?_ | refine branch_t' (beq_self_eq_true _) ?_ | refine branch_t' (decide_eq_true rfl) ?_)
          refine callT_E (out_c _) rfl ?_
          repeat (first | refine branch_true ?_ | refine branch_false ?_ | refine branch_f' (bne_self_eq_false _) ?_ | refine branch_t' (beq_self_eq_true _) ?_ | refine branch_t' (decide_eq_true rfl) ?_)
          refine draw_tree (picks [0, 1, 2, 3, 4, 5, 6, 7, 8, 9, 10, 11, 12, 13, 14, 15, 16, 17, 18] .done) (by decide +kernel) ?_
          repeat (refine need_intro (by decide) ?_)
          refine ⟨_, ⟨sat_c _, rfl⟩, ?_⟩
          refine ⟨_, ⟨rdouble_c (clamp_fit _), rfl⟩, ?_⟩
          rw [x0]
          refine branch_f' (by simp [dv]) ?_
          repeat (first | refine branch_true ?_ | refine branch_false ?_ | (refine branch_f' ?_ ?_; focus (simp; done)) | (refine branch_t' ?_ ?_; focus (simp; done)))
          repeat (refine need_intro (by decide) ?_)
          repeat (first | refine branch_true ?_ | refine branch_false ?_ | (refine branch_f' ?_ ?_; focus (simp; done)) | (refine branch_t' ?_ ?_; focus (simp; done)))
          repeat (refine need_intro (by decide) ?_)
          repeat (first | refine branch_true ?_ | refine branch_false ?_ | (refine branch_f' ?_ ?_; focus (simp; done)) | (refine branch_t' ?_ ?_; focus (simp; done)))
          repeat (refine need_intro (by decide) ?_)
          repeat (first | refine branch_true ?_ | refine branch_false ?_ | (refine branch_f' ?_ ?_; focus (simp; done)) | (refine branch_t' ?_ ?_; focus (simp; done)))
          refine ⟨_, ⟨rdouble_c (cv_fit (hiV s) 2 (by decide)), rfl⟩, ?_⟩
          repeat (first | refine branch_true ?_ | refine branch_false ?_ | (refine branch_f' ?_ ?_; focus (simp; done)) | (refine branch_t' ?_ ?_; focus (simp; done)))
          refine branch_f' (by simp [dv]) ?_
          repeat (first | refine branch_true ?_ | refine branch_false ?_ | (refine branch_f' ?_ ?_; focus (simp; done)) | (refine branch_t' ?_ ?_; focus (simp; done)))
          refine ⟨3, by decide, by decide, weak_keep (keep 92 [3, 6, 8, 9, 10, 11, 12, 13, 14, 15, 16]) [0, 1, 2, 3, 4] rfl ?_ rfl⟩
          show [_, _, _, _, _, _, _, _, _, _, _, _, _, _, _, _, _, _, _, _, _, _, _, _, _, _, _, _, _, _, _, _, _, _, _, _, _, _, _, _, _, _, _, _, _, _, _, _, _, _, _, _, _, _, _, _, _, _, _, _, _, _, _, _, _, _, _, _, _, _, _, _, _, _, _, _, _, _, _, _, _, _, _, _, _, _, _, _, _, _, _, _] = _
          have : acc (fun i => outV (freeX s (hiV s) q N i)) 3 = outV (freeX s (hiV s) q N 2) := by show (acc _ 2 || _) = _; rw [hb]; rfl
          show _ = slots 92 [(3, _), (6, _), (8, _), (9, _), (10, _), (11, _), (12, _), (13, _), (14, _), (15, .bool (acc (fun i => outV (freeX s (hiV s) q N i)) 3)), (16, _)]
          rw [this]
          rfl
      | 3, _ =>
        refine branch_false ?_
        repeat (first | refine branch_true ?_ | refine branch_false ?_ | refine branch_f' (bne_self_eq_false _) ?_ | refine branch_t' (beq_self_eq_true _) ?_ | refine branch_t' (decide_eq_true rfl) ?_)
        show Eqv _ _
        refine eqv_of_eq (congrArg AVal.bool ?_)
        rw [acc3]
        simp
end Go.Proofs
