/- Chapter 33, part p: what is negated gives what is negated. -/
import Derived.Test.YtpgeapbmdljllaaC5
set_option linter.unusedVariables false
set_option linter.unusedSimpArgs false
/-! Ip. -/
namespace Go.Proofs
open Go.E
set_option maxRecDepth 8000

def NegV (a b : Nat → Int) : Prop := ∀ i, i < 3 → cv b i = -(cv a i)
def NegF (f g : Nat → Int) : Prop := ∀ i, i < 3 → g i = -(f i)
theorem clamp_neg (x : Int) : clampV (-x) = -(clampV x) := by unfold clampV; split <;> split <;> (try split) <;> (try split) <;> omega
theorem out_neg (x : Int) : outV (-x) = outV x := by
  unfold outV
  by_cases h1 : x > 268435455 <;> by_cases h2 : x < -268435455 <;> simp [h1, h2] <;> omega
theorem rnd_zero {q : Int} (hq : 0 < q) : rnd 0 q = 0 := by
  unfold rnd
  rw [if_neg (by simp; omega)]
  simp
theorem round_neg (x : Int) {q : Int} (hq : 0 < q) : roundV (-x) q = -(roundV x q) := by
  unfold roundV
  by_cases h0 : x = 0
  · subst h0; simp [rnd_zero hq]
  by_cases h : x < 0
  · rw [if_neg (by omega), if_pos h]; omega
  · rw [if_pos (by omega), if_neg h, Int.neg_neg]
theorem dv_neg {f g : Nat → Int} (hf : FV f) (hg : FV g) (h : NegF f g) : NegV (dv f) (dv g) := fun i hi => by rw [cv_dv hf hi, cv_dv hg hi, h i hi]
theorem add_neg {a b a' b' : Nat → Int} (ha : NegV a a') (hb : NegV b b') : NegF (addF a b) (addF a' b') := fun i hi => by
  unfold addF; rw [ha i hi, hb i hi, ← clamp_neg]; congr 1; omega
theorem addO_neg {a b a' b' : Nat → Int} (ha : NegV a a') (hb : NegV b b') : or3 (addO a' b') = or3 (addO a b) := by
  have h : ∀ i, i < 3 → addO a' b' i = addO a b i := fun i hi => by
    unfold addO; rw [ha i hi, hb i hi, ← out_neg]; congr 1; omega
  unfold or3; rw [h 0 (by decide), h 1 (by decide), h 2 (by decide)]
theorem sub_neg {a b a' b' : Nat → Int} (ha : NegV a a') (hb : NegV b b') : NegF (subF a b) (subF a' b') := fun i hi => by
  unfold subF; rw [ha i hi, hb i hi, ← clamp_neg]; congr 1; omega
theorem subO_neg {a b a' b' : Nat → Int} (ha : NegV a a') (hb : NegV b b') : or3 (subO a' b') = or3 (subO a b) := by
  have h : ∀ i, i < 3 → subO a' b' i = subO a b i := fun i hi => by
    unfold subO; rw [ha i hi, hb i hi, ← out_neg]; congr 1; omega
  unfold or3; rw [h 0 (by decide), h 1 (by decide), h 2 (by decide)]
theorem scale_neg {a a' : Nat → Int} (ha : NegV a a') (k : Int) : NegF (scaleF a k) (scaleF a' k) := fun i hi => by
  unfold scaleF; rw [ha i hi, ← round_neg _ (by decide), Int.neg_mul]
theorem shift_neg {a a' : Nat → Int} (ha : NegV a a') {n : Nat} (hn : n ≤ 56) : NegF (shiftF a n) (shiftF a' n) := fun i hi => by
  unfold shiftF; rw [ha i hi, ← round_neg _ (pow_b hn).1]
theorem field_neg {g r g' r' : Nat → Int} (hg : NegV g g') (hr : NegV r r') {k : Int} (hk : Fit k) : NegV (dv (fieldF g r k)) (dv (fieldF g' r' k)) ∧ fieldO g' r' k = fieldO g r k := by
  have h1 := dv_neg (scaleF_fit r hk) (scaleF_fit r' hk) (scale_neg hr k)
  exact ⟨dv_neg (field_fit g r k) (field_fit g' r' k) (sub_neg hg h1), subO_neg hg h1⟩
theorem sum_neg {f x y z f' x' y' z' : Nat → Int} (hf : NegV f f') (hx : NegV x x') (hy : NegV y y') (hz : NegV z z') : NegV (dv (sum3 f x y z)) (dv (sum3 f' x' y' z')) ∧ sumO f' x' y' z' = sumO f x y z := by
  have h1 := dv_neg (addF_fit f x) (addF_fit f' x') (add_neg hf hx)
  have h2 := dv_neg (addF_fit _ y) (addF_fit _ y') (add_neg h1 hy)
  refine ⟨dv_neg (sum3_fit _ _ _ _) (sum3_fit _ _ _ _) (add_neg h2 hz), ?_⟩
  unfold sumO
  rw [addO_neg hf hx, addO_neg h1 hy]
  have := addO_neg h2 hz
  unfold sum2
  rw [this]
theorem shiftV_neg {a a' : Nat → Int} (ha : NegV a a') {n : Nat} (h0 : 0 < n) (hn : n ≤ 56) : NegV (dv (shiftF a n)) (dv (shiftF a' n)) := dv_neg (shiftF_fit a h0 hn) (shiftF_fit a' h0 hn) (shift_neg ha hn)
theorem step_neg {g r v d g' r' v' d' : Nat → Int} (hg : NegV g g') (hr : NegV r r') (hv : NegV v v') (hd : NegV d d') {k : Int} (hk : Fit k) {p : Nat} (hp : 0 < p) (hp' : p ≤ 14) :
    NegV (dv (stepR g r v d k p)) (dv (stepR g' r' v' d' k p)) ∧ NegV (dv (stepV g r v d k p)) (dv (stepV g' r' v' d' k p)) ∧ stepO g' r' v' d' k p = stepO g r v d k p := by
  obtain ⟨f1, f2⟩ := field_neg hg hr hk
  obtain ⟨s1, s2⟩ := sum_neg hr (shiftV_neg hv hp (by omega)) (shiftV_neg hd (n := p + 1) (by omega) (by omega)) (shiftV_neg f1 (n := 2 * p + 1) (by omega) (by omega))
  obtain ⟨f3, f4⟩ := field_neg hg s1 hk
  obtain ⟨s3, s4⟩ := sum_neg hv hd (shiftV_neg f1 (n := p + 1) (by omega) (by omega)) (shiftV_neg f3 (n := p + 1) (by omega) (by omega))
  refine ⟨s1, s3, ?_⟩
  unfold stepO stepR
  rw [f2, s2, s4, f4]
theorem run_neg {g r v g' r' v' : Nat → Int} {D D' : Nat → Nat → Int} (hg : NegV g g') (hr : NegV r r') (hv : NegV v v') (hD : ∀ i, NegV (D i) (D' i)) {k : Int} (hk : Fit k) {p : Nat} (hp : 0 < p) (hp' : p ≤ 14) : ∀ n,
    NegV (Go.Proofs.runT g k p D r v n).1 (Go.Proofs.runT g' k p D' r' v' n).1 ∧ NegV (Go.Proofs.runT g k p D r v n).2.1 (Go.Proofs.runT g' k p D' r' v' n).2.1 ∧ (Go.Proofs.runT g' k p D' r' v' n).2.2 = (Go.Proofs.runT g k p D r v n).2.2
  | 0 => ⟨dv_neg (cv_fit r) (cv_fit r') hr, dv_neg (cv_fit v) (cv_fit v') hv, rfl⟩
  | n + 1 => by
    obtain ⟨h1, h2, h3⟩ := run_neg hg hr hv hD hk hp hp' n
    obtain ⟨s1, s2, s3⟩ := step_neg hg h1 h2 (hD n) hk hp hp'
    refine ⟨s1, s2, ?_⟩
    show (_ || _) = (_ || _)
    rw [h3, s3]
abbrev negA (a : Nat → Int) : Nat → Int := dv (subF zeroV a)
theorem negA_neg (a : Nat → Int) : NegV a (negA a) := fun i hi => by
  rw [cv_dv (subF_fit _ _) hi]
  unfold subF
  rw [cv_zero, Int.zero_sub, clamp_neg, clamp_id (cv_fit a i hi)]
theorem negA_w (a : Nat → Int) : WV (negA a) := dv_w (subF_fit _ _)
theorem negA_eq {a b : Nat → Int} (hb : dv (cv b) = b) (h : NegV a b) : b = negA a := by
  rw [← hb]
  refine dv_congr fun i hi => ?_
  rw [h i hi]
  unfold subF
  rw [cv_zero, Int.zero_sub, clamp_neg, clamp_id (cv_fit a i hi)]
end Go.Proofs
/-! Iq. -/
namespace Go.Proofs
open Go.E
set_option maxRecDepth 8000

structure NgSt where
  i : Nat
  f : Nat → List AVal
abbrev row6 (a : Nat → Int) : List AVal := [.int .u16 (a 0), .int .u16 (a 1), .int .u16 (a 2), .int .u16 (a 3), .int .u16 (a 4), .int .u16 (a 5)]
set_option maxHeartbeats 4000000 in
theorem turned_law (m : Nat → Int) (hm : HasL kG m) (s : Nat → Int) (hs : HasL kS s) (n : Nat) (D : Nat → Nat → Int) (hn : n ≤ maxLen) (hD : HasR n D) : callP Try.prog 10 [.agg (aggL m kG 0), .agg (aggL s kS 0), vecs n D] (· = .bool true) := by
  obtain ⟨wm, w6, w7, w8⟩ := g_w hm
  obtain ⟨wr, wv⟩ := s_w hs
  show callP Try.prog 10 [gravA m (m 6) (m 7) (m 8), stateA s (hiV s), vecs n D] (· = .bool true)
  refine callE_def env (fn := Try.f10) rfl (by decide) rfl ?_
  refine callT_E lives_c rfl ?_
  repeat (first | refine branch_true ?_ | refine branch_false ?_ | refine branch_f' (bne_self_eq_false _) ?_ | refine branch_t' (beq_self_eq_true _) ?_ | refine branch_t' (decide_eq_true rfl) ?_)
  apply branch_intro <;> intro h1
  · show Eqv _ _
    exact .up (.up (.refl _))
  have h50 : n ≤ 50 := by simp at h1; omega
  have wD : ∀ i, i < n → WV (D i) := fun i hi => v_w (hD i hi)
  refine callT_E (vneg_c wm) rfl ?_
  refine loop_weak (fun s : NgSt => slots 81 [(2, vecs n D), (3, .ptr ⟨0, 0, 0⟩), (4, .ptr ⟨1, 0, 0⟩), (6, .bool false), (7, .ptr ⟨2, 0, 0⟩), (8, .slice ⟨3, 0, 0⟩ s.i), (9, .int .i64 s.i)])
    (fun t => [.cells (gcells m (m 6) (m 7) (m 8)), .cells (scells s (hiV s)), .cells (gcells (negA m) (m 6) (m 7) (m 8)), .rows 6 t.i t.f])
    (fun t => t.i ≤ n ∧ ∀ j, j < t.i → t.f j = row6 (negA (D j))) (fun t => n - t.i) ⟨0, fun _ => []⟩ ⟨Nat.zero_le _, fun j hj => by simp at hj⟩ ?_ ?_
  · refine (weak_keep (keep 81 [2, 3, 4, 6, 7, 8, 9]) [0, 1, 2] rfl rfl rfl).trans (weak_nil 8 (.rows 6 0 (fun _ => [])) rfl rfl)
  rintro ⟨i, f⟩ ⟨hi, hf⟩
  simp only at hi hf
  apply branch_intro <;> intro h
  · have hin : i < n := by simp at h; omega
    have et : ((i : Int)).toNat = i := Int.toNat_natCast i
    apply need_intro
    · simp only; omega
    refine callT_E ((congrArg (fun j => callP Try.prog 31 [vecA (D j)] (· = _)) et).mpr (vneg_c (wD i hin))) rfl ?_
    apply choice_l
    apply need_intro
    · show (i + 1) * 12 ≤ _
      omega
    apply need_intro
    · show 0 + i = i
      omega
    have ei : IntKind.i64.wrap ((i : Int) + 1) = ((i + 1 : Nat) : Int) := by rw [wi (by omega) (by omega)]; rfl
    refine ⟨⟨i + 1, _⟩, ⟨hin, ?_⟩, by simp only; omega, weak_keep (keep 81 [2, 3, 4, 6, 7, 8, 9]) [0, 1, 2, 3] rfl ?_ rfl⟩
    rotate_left
    · show [_, _, _, _, _, _, _, _, _, _, _, _, _, _, _, _, _, _, _, _, _, _, _, _, _, _, _, _, _, _, _, _, _, _, _, _, _, _, _, _, _, _, _, _, _, _, _, _, _, _, _, _, _, _, _, _, _, _, _, _, _, _, _, _, _, _, _, _, _, _, _, _, _, _, _, _, _, _, _, _, _] = _
      rw [ei]
      rfl
    · intro j hj
      show catRows i (fun q => f (0 + q)) _ j = _
      unfold catRows
      by_cases hj2 : j < i
      · rw [if_pos hj2]
        show f (0 + j) = _
        rw [Nat.zero_add, hf j hj2]
      · rw [if_neg hj2]
        have : j = i := by simp only at hj; omega
        subst this
        rw [Nat.sub_self]
        rfl
  · have hin : i = n := by simp at h; omega
    subst hin
    have ef : ∀ j, j < i → f j = (fun q => row6 (negA (D q))) j := fun j hj => hf j hj
    cases hv : validB (m 6) (m 7) (m 8) with
    | false =>
      refine callT_freeze 3 (keep 81 [3, 4, 6, 7, 8]) rfl rfl (Nat.zero_le _) ⟨by show 0 + i ≤ i; omega, trivial⟩ ?_
      refine callT_E (run_bad w6 w7 hv) rfl ?_
      refine draw_tree (picks [0, 1, 2, 3, 4, 5, 6, 7, 8, 9, 10, 11, 12, 13, 14, 15, 16, 17] .done) (by decide +kernel) ?_
      refine ⟨_, ⟨vneg_c wr, rfl⟩, ?_⟩
      refine ⟨_, ⟨vneg_c wv, rfl⟩, ?_⟩
      refine ⟨_, ⟨callP_arg (.cons (Eqv.same _) (.cons (Eqv.same _) (.cons (.up (.up (.ro ef))) .nil))) (run_bad (g := negA m) (r := negA s) (v := negA (hiV s)) (D := fun q => negA (D q)) w6 w7 hv), rfl⟩, ?_⟩
      refine draw_tree (picks [0, 1, 2, 3, 4, 5, 6, 7, 8, 9, 10, 11, 12, 13, 14, 15, 16, 17, 18, 19] .done) (by decide +kernel) ?_
      repeat (first | refine branch_true ?_ | refine branch_false ?_ | (refine branch_f' ?_ ?_; focus (simp; done)) | (refine branch_t' ?_ ?_; focus (simp; done)))
      refine ⟨_, ⟨vneg_c (a := zV) (fun _ _ => by unfold zV W16; omega), rfl⟩, ?_⟩
      repeat (first | refine branch_true ?_ | refine branch_false ?_ | (refine branch_f' ?_ ?_; focus (simp; done)) | (refine branch_t' ?_ ?_; focus (simp; done)))
      refine ⟨_, ⟨vneg_c (a := zV) (fun _ _ => by unfold zV W16; omega), rfl⟩, ?_⟩
      repeat (first | refine branch_true ?_ | refine branch_false ?_ | (refine branch_f' ?_ ?_; focus (simp; done)) | (refine branch_t' ?_ ?_; focus (simp; done)))
      show Eqv _ _
      refine eqv_of_eq (congrArg AVal.bool ?_)
      decide +kernel
    | true =>
      obtain ⟨p, hp, hp4, hp14⟩ := nat_valid hv
      rw [hp] at hv ⊢
      obtain ⟨q1, q2, q3⟩ := run_neg (negA_neg m) (negA_neg s) (negA_neg (hiV s)) (D := D) (D' := fun q => negA (D q)) (fun q => negA_neg (D q)) (valD_fit (a := m 6) (b := m 7)) (p := p) (by omega) hp14 i
      obtain ⟨c1, c2⟩ := runT_canon (negA m) (valD (m 6) (m 7)) p (fun q => negA (D q)) (negA s) (negA (hiV s)) i
      have r1 := negA_eq c1 q1
      have r2 := negA_eq c2 q2
      have cs := run_c (n := i) (negA_w m) (negA_w s) (negA_w (hiV s)) (D := fun q => negA (D q)) (fun q _ => negA_w (D q)) w6 w7 hv (by omega)
      rw [r1, r2, q3] at cs
      obtain ⟨x1, x2⟩ := runT_w m (valD (m 6) (m 7)) p D s (hiV s) i
      refine callT_freeze 3 (keep 81 [3, 4, 6, 7, 8]) rfl rfl (Nat.zero_le _) ⟨by show 0 + i ≤ i; omega, trivial⟩ ?_
      refine callT_E (run_c wm wr wv wD w6 w7 hv (by omega)) rfl ?_
      refine draw_tree (picks [0, 1, 2, 3, 4, 5, 6, 7, 8, 9, 10, 11, 12, 13, 14, 15, 16, 17] .done) (by decide +kernel) ?_
      refine ⟨_, ⟨vneg_c wr, rfl⟩, ?_⟩
      refine ⟨_, ⟨vneg_c wv, rfl⟩, ?_⟩
      refine ⟨_, ⟨callP_arg (.cons (Eqv.same _) (.cons (Eqv.same _) (.cons (.up (.up (.ro ef))) .nil))) cs, rfl⟩, ?_⟩
      refine draw_tree (picks [0, 1, 2, 3, 4, 5, 6, 7, 8, 9, 10, 11, 12, 13, 14, 15, 16, 17, 18, 19] .done) (by decide +kernel) ?_
      repeat (first | refine branch_true ?_ | refine branch_false ?_ | (refine branch_f' ?_ ?_; focus (simp; done)) | (refine branch_t' ?_ ?_; focus (simp; done)))
      refine ⟨_, ⟨vneg_c x1, rfl⟩, ?_⟩
      repeat (first | refine branch_true ?_ | refine branch_false ?_ | (refine branch_f' ?_ ?_; focus (simp; done)) | (refine branch_t' ?_ ?_; focus (simp; done)))
      refine ⟨_, ⟨vneg_c x2, rfl⟩, ?_⟩
      repeat (first | refine branch_true ?_ | refine branch_false ?_ | (refine branch_f' ?_ ?_; focus (simp; done)) | (refine branch_t' ?_ ?_; focus (simp; done)))
      show Eqv _ _
      refine eqv_of_eq (congrArg AVal.bool ?_)
      simp
end Go.Proofs
