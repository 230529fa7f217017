/- Chapter 33, part l: runs. -/
import Derived.Test.YtpgeapbmdljllaaC3
set_option linter.unusedVariables false
set_option linter.unusedSimpArgs false
/-! Il. -/
namespace Go.Proofs
open Go.E
set_option maxRecDepth 8000

/-- A list of vectors. -/
abbrev vecs (n : Nat) (D : Nat → Nat → Int) : AVal := .ro 6 n (fun i => [.int .u16 (D i 0), .int .u16 (D i 1), .int .u16 (D i 2), .int .u16 (D i 3), .int .u16 (D i 4), .int .u16 (D i 5)])
def runT (g : Nat → Int) (k : Int) (p : Nat) (D : Nat → Nat → Int) (r v : Nat → Int) : Nat → (Nat → Int) × (Nat → Int) × Bool
  | 0 => (dv (cv r), dv (cv v), false)
  | n + 1 => (dv (stepR g (runT g k p D r v n).1 (runT g k p D r v n).2.1 (D n) k p), dv (stepV g (runT g k p D r v n).1 (runT g k p D r v n).2.1 (D n) k p),
      (runT g k p D r v n).2.2 || stepO g (runT g k p D r v n).1 (runT g k p D r v n).2.1 (D n) k p)
theorem runT_w (g : Nat → Int) (k : Int) (p : Nat) (D : Nat → Nat → Int) (r v : Nat → Int) : ∀ n, WV (runT g k p D r v n).1 ∧ WV (runT g k p D r v n).2.1
  | 0 => ⟨dv_w (cv_fit r), dv_w (cv_fit v)⟩
  | _ + 1 => ⟨dv_w (stepR_fit _ _ _ _ _ _), dv_w (stepV_fit _ _ _ _ _ _)⟩
def cn (r : Nat → Int) (i j : Nat) : Int := match Nat.blt j (2 * i) with | true => dv (cv r) j | false => r j
abbrev scells (r v : Nat → Int) : List AVal := [.int .u16 (r 0), .int .u16 (r 1), .int .u16 (r 2), .int .u16 (r 3), .int .u16 (r 4), .int .u16 (r 5), .int .u16 (v 0), .int .u16 (v 1), .int .u16 (v 2), .int .u16 (v 3), .int .u16 (v 4), .int .u16 (v 5)]
abbrev gcells (g : Nat → Int) (k0 k1 p : Int) : List AVal := [.int .u16 (g 0), .int .u16 (g 1), .int .u16 (g 2), .int .u16 (g 3), .int .u16 (g 4), .int .u16 (g 5), .int .u16 k0, .int .u16 k1, .int .i64 p]
def zV (_ : Nat) : Int := 0
theorem run_bad {g r v : Nat → Int} {k0 k1 p : Int} {n : Nat} {D : Nat → Nat → Int} (h0 : W16 k0) (h1 : W16 k1) (hv : validB k0 k1 p = false) :
    callP Try.prog 21 [gravA g k0 k1 p, stateA r v, vecs n D] (· = .tuple [stateA zV zV, .bool false, .int .i64 2]) := by
  refine callE_def env (fn := Try.f21) rfl (by decide) rfl ?_
  have c := valid_c (g := g) (p := p) h0 h1
  rw [hv] at c
  refine callT_E c rfl ?_
  repeat (first | refine branch_true ?_ | refine branch_false ?_ | refine branch_f' (bne_self_eq_false _) ?_ | refine branch_t' (beq_self_eq_true _) ?_ | refine branch_t' (decide_eq_true rfl) ?_)
  show Eqv _ _
  exact .up (.up (.refl _))
theorem run_over {g r v : Nat → Int} {k0 k1 p : Int} {n : Nat} {D : Nat → Nat → Int} (h0 : W16 k0) (h1 : W16 k1) (hv : validB k0 k1 p = true) (hn : 100 < n) :
    callP Try.prog 21 [gravA g k0 k1 p, stateA r v, vecs n D] (· = .tuple [stateA zV zV, .bool false, .int .i64 4]) := by
  refine callE_def env (fn := Try.f21) rfl (by decide) rfl ?_
  have c := valid_c (g := g) (p := p) h0 h1
  rw [hv] at c
  refine callT_E c rfl ?_
  repeat (first | refine branch_true ?_ | refine branch_false ?_ | refine branch_f' (bne_self_eq_false _) ?_ | refine branch_t' (beq_self_eq_true _) ?_ | refine branch_t' (decide_eq_true rfl) ?_)
  repeat (first | refine branch_true ?_ | refine branch_false ?_ | refine branch_t' (decide_eq_true (by omega)) ?_ | refine branch_f' (decide_eq_false (by omega)) ?_)
  show Eqv _ _
  exact .up (.up (.refl _))
set_option maxHeartbeats 2000000 in
theorem run_c {g r v : Nat → Int} {k0 k1 : Int} {p n : Nat} {D : Nat → Nat → Int} (hg : WV g) (hr : WV r) (hw : WV v) (hD : ∀ i, i < n → WV (D i)) (h0 : W16 k0) (h1 : W16 k1) (hv : validB k0 k1 p = true) (hn : n ≤ 100) :
    callP Try.prog 21 [gravA g k0 k1 p, stateA r v, vecs n D] (· = .tuple [stateA (runT g (valD k0 k1) p D r v n).1 (runT g (valD k0 k1) p D r v n).2.1, .bool (runT g (valD k0 k1) p D r v n).2.2, .int .i64 0]) := by
  refine callE_def env (fn := Try.f21) rfl (by decide) rfl ?_
  have c := valid_c (g := g) (p := p) h0 h1
  rw [hv] at c
  refine callT_E c rfl ?_
  repeat (first | refine branch_true ?_ | refine branch_false ?_ | refine branch_f' (bne_self_eq_false _) ?_ | refine branch_t' (beq_self_eq_true _) ?_ | refine branch_t' (decide_eq_true rfl) ?_)
  repeat (first | refine branch_true ?_ | refine branch_false ?_ | refine branch_t' (decide_eq_true (by omega)) ?_ | refine branch_f' (decide_eq_false (by omega)) ?_)
  refine loop_weak (fun i : Nat => slots 66 [(2, vecs n D), (3, .ptr ⟨0, 0, 0⟩), (4, .ptr ⟨1, 0, 0⟩), (6, .ptr ⟨2, 0, 0⟩), (7, .bool false), (8, .int .i64 0), (24, .int .i64 i)])
    (fun i => [.cells (gcells g k0 k1 p), .cells (scells (cn r i) (cn v i)), .cells (scells zV zV)])
    (fun i => i ≤ 3) (fun i => 3 - i) 0 (Nat.zero_le _) (weak_keep (keep 66 [2, 3, 4, 6, 7, 8, 24]) [0, 1, 2] rfl rfl rfl) ?_
  intro i hi
  match i, hi with
  | 0, _ =>
    refine branch_true ?_
    refine draw_tree (picks [0, 1, 2, 3, 4, 5, 6, 7, 8, 9, 10, 11, 12, 13, 14, 15, 16, 17] .done) (by decide +kernel) ?_
    repeat (refine need_intro (by decide) ?_)
    refine ⟨_, ⟨canon_c (hr 0 (by decide)) (hr 1 (by decide)), rfl⟩, ?_⟩
    repeat (refine need_intro (by decide) ?_)
    refine ⟨_, ⟨canon_c (hw 0 (by decide)) (hw 1 (by decide)), rfl⟩, ?_⟩
    repeat (refine need_intro (by decide) ?_)
    exact ⟨1, by decide, by decide, weak_keep (keep 66 [2, 3, 4, 6, 7, 8, 24]) [0, 1, 2] rfl rfl rfl⟩
  | 1, _ =>
    refine branch_true ?_
    refine draw_tree (picks [0, 1, 2, 3, 4, 5, 6, 7, 8, 9, 10, 11, 12, 13, 14, 15, 16, 17] .done) (by decide +kernel) ?_
    repeat (refine need_intro (by decide) ?_)
    refine ⟨_, ⟨canon_c (hr 2 (by decide)) (hr 3 (by decide)), rfl⟩, ?_⟩
    repeat (refine need_intro (by decide) ?_)
    refine ⟨_, ⟨canon_c (hw 2 (by decide)) (hw 3 (by decide)), rfl⟩, ?_⟩
    repeat (refine need_intro (by decide) ?_)
    exact ⟨2, by decide, by decide, weak_keep (keep 66 [2, 3, 4, 6, 7, 8, 24]) [0, 1, 2] rfl rfl rfl⟩
  | 2, _ =>
    refine branch_true ?_
    refine draw_tree (picks [0, 1, 2, 3, 4, 5, 6, 7, 8, 9, 10, 11, 12, 13, 14, 15, 16, 17] .done) (by decide +kernel) ?_
    repeat (refine need_intro (by decide) ?_)
    refine ⟨_, ⟨canon_c (hr 4 (by decide)) (hr 5 (by decide)), rfl⟩, ?_⟩
    repeat (refine need_intro (by decide) ?_)
    refine ⟨_, ⟨canon_c (hw 4 (by decide)) (hw 5 (by decide)), rfl⟩, ?_⟩
    repeat (refine need_intro (by decide) ?_)
    exact ⟨3, by decide, by decide, weak_keep (keep 66 [2, 3, 4, 6, 7, 8, 24]) [0, 1, 2] rfl rfl rfl⟩
  | 3, _ =>
    refine branch_false ?_
    refine loop_weak (fun i : Nat => slots 66 [(3, .ptr ⟨0, 0, 0⟩), (4, .ptr ⟨1, 0, 0⟩), (6, .ptr ⟨2, 0, 0⟩), (7, .bool false), (8, .int .i64 0), (10, .bool (runT g (valD k0 k1) p D r v i).2.2), (44, vecs n D), (45, .int .i64 n), (46, .int .i64 i)])
      (fun i => [.cells (gcells g k0 k1 p), .cells (scells (runT g (valD k0 k1) p D r v i).1 (runT g (valD k0 k1) p D r v i).2.1), .cells (scells zV zV)])
      (fun i => i ≤ n) (fun i => n - i) 0 (Nat.zero_le _) (weak_keep (keep 66 [3, 4, 6, 7, 8, 10, 44, 45, 46]) [0, 1, 2] rfl rfl rfl) ?_
    intro i hi
    apply branch_intro <;> intro h <;> simp at h
    · apply need_intro
      · omega
      have et : ((i : Int)).toNat = i := Int.toNat_natCast i
      obtain ⟨wr, ww⟩ := runT_w g (valD k0 k1) p D r v i
      have ei : IntKind.i64.wrap ((i : Int) + 1) = ((i + 1 : Nat) : Int) := by rw [wi (by omega) (by omega)]; rfl
      refine callT_E ((congrArg (fun j => callP Try.prog 15 [gravA g k0 k1 p, stateA (runT g (valD k0 k1) p D r v i).1 (runT g (valD k0 k1) p D r v i).2.1, vecA (D j)] (· = _)) et).mpr (step_c hg wr ww (hD i h) h0 h1 hv)) rfl ?_
      apply branch_intro <;> intro hb
      · repeat (first | refine branch_true ?_ | refine branch_false ?_ | refine branch_f' (bne_self_eq_false _) ?_ | refine branch_t' (beq_self_eq_true _) ?_ | refine branch_t' (decide_eq_true rfl) ?_)
        refine ⟨i + 1, h, by omega, weak_keep (keep 66 [3, 4, 6, 7, 8, 10, 44, 45, 46]) [0, 1, 2] rfl ?_ rfl⟩
        show [_, _, _, _, _, _, _, _, _, _, _, _, _, _, _, _, _, _, _, _, _, _, _, _, _, _, _, _, _, _, _, _, _, _, _, _, _, _, _, _, _, _, _, _, _, _, _, _, _, _, _, _, _, _, _, _, _, _, _, _, _, _, _, _, _, _] = _
        have : (runT g (valD k0 k1) p D r v (i + 1)).2.2 = true := by show (_ || _) = true; rw [hb]; rfl
        rw [ei, this]
        rfl
      · repeat (first | refine branch_true ?_ | refine branch_false ?_ | refine branch_f' (bne_self_eq_false _) ?_ | refine branch_t' (beq_self_eq_true _) ?_ | refine branch_t' (decide_eq_true rfl) ?_)
        refine ⟨i + 1, h, by omega, weak_keep (keep 66 [3, 4, 6, 7, 8, 10, 44, 45, 46]) [0, 1, 2] rfl ?_ rfl⟩
        show [_, _, _, _, _, _, _, _, _, _, _, _, _, _, _, _, _, _, _, _, _, _, _, _, _, _, _, _, _, _, _, _, _, _, _, _, _, _, _, _, _, _, _, _, _, _, _, _, _, _, _, _, _, _, _, _, _, _, _, _, _, _, _, _, _, _] = _
        have : (runT g (valD k0 k1) p D r v (i + 1)).2.2 = stepO g (runT g (valD k0 k1) p D r v i).1 (runT g (valD k0 k1) p D r v i).2.1 (D i) (valD k0 k1) p := by show (_ || _) = _; rw [hb]; rfl
        rw [ei, this]
        rfl
    · have : i = n := by omega
      subst this
      show Eqv _ _
      exact .up (.up (.refl _))
end Go.Proofs
/-! Im. -/
namespace Go.Proofs
open Go.E
set_option maxRecDepth 8000

theorem cv_zero (i : Nat) : cv zeroV i = 0 := rfl
theorem add_zero (r : Nat → Int) : dv (addF r zeroV) = dv (cv r) := dv_congr fun i hi => by
  show clampV (cv r i + cv zeroV i) = _
  rw [cv_zero, Int.add_zero, clamp_id (cv_fit r i hi)]
theorem rcanon_c {r v : Nat → Int} (hr : WV r) (hw : WV v) : callP Try.prog 49 [stateA r v] (· = stateA (dv (cv r)) (dv (cv v))) := by
  rw [← add_zero r, ← add_zero v]
  refine callE_def env (fn := Try.f49) rfl (by decide) rfl ?_
  refine callT_E (rsum_c (b := zeroV) hr zero_w) rfl ?_
  refine callT_E (rsum_c (b := zeroV) hw zero_w) rfl ?_
  show Eqv _ _
  exact .up (.up (.refl _))
set_option maxHeartbeats 2000000 in
theorem rrun_c {g r v : Nat → Int} {k0 k1 : Int} {p n : Nat} {D : Nat → Nat → Int} (hg : WV g) (hr : WV r) (hw : WV v) (hD : ∀ i, i < n → WV (D i)) (h0 : W16 k0) (h1 : W16 k1) (hp : 0 < p) (hp' : p ≤ 14) (hn : n ≤ 100) :
    callP Try.prog 22 [gravA g k0 k1 p, stateA r v, vecs n D] (· = .tuple [stateA (runT g (valD k0 k1) p D r v n).1 (runT g (valD k0 k1) p D r v n).2.1, .bool (runT g (valD k0 k1) p D r v n).2.2]) := by
  refine callE_def env (fn := Try.f22) rfl (by decide) rfl ?_
  refine callT_E (rcanon_c hr hw) rfl ?_
  refine loop_weak (fun i : Nat => slots 38 [(2, vecs n D), (3, .ptr ⟨0, 0, 0⟩), (6, .ptr ⟨1, 0, 0⟩), (7, .bool false), (8, .ptr ⟨2, 0, 0⟩), (9, .bool (runT g (valD k0 k1) p D r v i).2.2), (10, .int .i64 i)])
    (fun i => [.cells (gcells g k0 k1 p), .cells (scells zV zV), .cells (scells (runT g (valD k0 k1) p D r v i).1 (runT g (valD k0 k1) p D r v i).2.1)])
    (fun i => i ≤ n) (fun i => n - i) 0 (Nat.zero_le _) (weak_keep (keep 38 [2, 3, 6, 7, 8, 9, 10]) [0, 2, 3] rfl rfl rfl) ?_
  intro i hi
  apply branch_intro <;> intro h <;> simp at h
  · have et : ((i : Int)).toNat = i := Int.toNat_natCast i
    obtain ⟨wr, ww⟩ := runT_w g (valD k0 k1) p D r v i
    have ei : IntKind.i64.wrap ((i : Int) + 1) = ((i + 1 : Nat) : Int) := by rw [wi (by omega) (by omega)]; rfl
    refine draw_tree (picks [0, 1, 2, 3, 4, 5, 6, 7, 8, 9, 10, 11, 12] .done) (by decide +kernel) ?_
    apply need_intro
    · omega
    refine ⟨_, ⟨(congrArg (fun j => callP Try.prog 18 [gravA g k0 k1 p, stateA (runT g (valD k0 k1) p D r v i).1 (runT g (valD k0 k1) p D r v i).2.1, vecA (D j)] (· = _)) et).mpr (rstep_c hg wr ww (hD i h) h0 h1 hp hp'), rfl⟩, ?_⟩
    apply branch_intro <;> intro hb
    · repeat (first | refine branch_true ?_ | refine branch_false ?_ | refine branch_f' (bne_self_eq_false _) ?_ | refine branch_t' (beq_self_eq_true _) ?_ | refine branch_t' (decide_eq_true rfl) ?_)
      refine ⟨i + 1, h, by omega, weak_keep (keep 38 [2, 3, 6, 7, 8, 9, 10]) [0, 1, 2] rfl ?_ rfl⟩
      show [_, _, _, _, _, _, _, _, _, _, _, _, _, _, _, _, _, _, _, _, _, _, _, _, _, _, _, _, _, _, _, _, _, _, _, _, _, _] = _
      have : (runT g (valD k0 k1) p D r v (i + 1)).2.2 = true := by show (_ || _) = true; rw [hb]; rfl
      rw [ei, this]
      rfl
    · repeat (first | refine branch_true ?_ | refine branch_false ?_ | refine branch_f' (bne_self_eq_false _) ?_ | refine branch_t' (beq_self_eq_true _) ?_ | refine branch_t' (decide_eq_true rfl) ?_)
      refine ⟨i + 1, h, by omega, weak_keep (keep 38 [2, 3, 6, 7, 8, 9, 10]) [0, 1, 2] rfl ?_ rfl⟩
      show [_, _, _, _, _, _, _, _, _, _, _, _, _, _, _, _, _, _, _, _, _, _, _, _, _, _, _, _, _, _, _, _, _, _, _, _, _, _] = _
      have : (runT g (valD k0 k1) p D r v (i + 1)).2.2 = stepO g (runT g (valD k0 k1) p D r v i).1 (runT g (valD k0 k1) p D r v i).2.1 (D i) (valD k0 k1) p := by show (_ || _) = _; rw [hb]; rfl
      rw [ei, this]
      rfl
  · have : i = n := by omega
    subst this
    show Eqv _ _
    exact .up (.up (.refl _))
def HasR (n : Nat) (D : Nat → Nat → Int) : Prop := ∀ i, i < n → HasL kV (D i)
theorem nat_valid {k0 k1 p : Int} (hv : validB k0 k1 p = true) : ∃ q : Nat, p = q ∧ 4 ≤ q ∧ q ≤ 14 := ⟨p.toNat, by
  unfold validB at hv; simp at hv; omega⟩
set_option maxHeartbeats 2000000 in
theorem runs_law (m : Nat → Int) (hm : HasL kG m) (s : Nat → Int) (hs : HasL kS s) (n : Nat) (D : Nat → Nat → Int) (hn : n ≤ maxLen) (hD : HasR n D) : callP Try.prog 5 [.agg (aggL m kG 0), .agg (aggL s kS 0), vecs n D] (· = .bool true) := by
  obtain ⟨wm, w6, w7, w8⟩ := g_w hm
  obtain ⟨wr, wv⟩ := s_w hs
  show callP Try.prog 5 [gravA m (m 6) (m 7) (m 8), stateA s (hiV s), vecs n D] (· = .bool true)
  refine callE_def env (fn := Try.f5) rfl (by decide) rfl ?_
  refine callT_E lives_c rfl ?_
  repeat (first | refine branch_true ?_ | refine branch_false ?_ | refine branch_f' (bne_self_eq_false _) ?_ | refine branch_t' (beq_self_eq_true _) ?_ | refine branch_t' (decide_eq_true rfl) ?_)
  apply branch_intro <;> intro h2
  · show Eqv _ _
    exact .up (.up (.refl _))
  have h200 : n ≤ 200 := by simp at h2; omega
  cases hv : validB (m 6) (m 7) (m 8) with
  | false =>
    refine callT_E (run_bad w6 w7 hv) rfl ?_
    refine callT_E (rvalid_c w6 w7) rfl ?_
    refine branch_t' (by rw [hv]; rfl) ?_
    repeat (first | refine branch_true ?_ | refine branch_false ?_ | (refine branch_f' ?_ ?_; focus (simp; done)) | (refine branch_t' ?_ ?_; focus (simp; done)))
    show Eqv _ _
    exact .up (.up (.refl _))
  | true =>
    by_cases h1 : 100 < n
    · refine callT_E (run_over w6 w7 hv h1) rfl ?_
      refine callT_E (rvalid_c w6 w7) rfl ?_
      refine branch_f' (by rw [hv]; rfl) ?_
      repeat (first | refine branch_true ?_ | refine branch_false ?_ | refine branch_t' (decide_eq_true (by omega)) ?_ | refine branch_f' (decide_eq_false (by omega)) ?_)
      repeat (first | refine branch_true ?_ | refine branch_false ?_ | (refine branch_f' ?_ ?_; focus (simp; done)) | (refine branch_t' ?_ ?_; focus (simp; done)))
      show Eqv _ _
      exact .up (.up (.refl _))
    · obtain ⟨p, hp, hp4, hp14⟩ := nat_valid hv
      rw [hp] at hv ⊢
      refine callT_E (run_c wm wr wv (fun i hi => v_w (hD i hi)) w6 w7 hv (by omega)) rfl ?_
      refine callT_E (rvalid_c w6 w7) rfl ?_
      refine branch_f' (by rw [hv]; rfl) ?_
      repeat (first | refine branch_true ?_ | refine branch_false ?_ | refine branch_t' (decide_eq_true (by omega)) ?_ | refine branch_f' (decide_eq_false (by omega)) ?_)
      refine callT_E (rrun_c wm wr wv (fun i hi => v_w (hD i hi)) w6 w7 (by omega) hp14 (by omega)) rfl ?_
      repeat (first | refine branch_true ?_ | refine branch_false ?_ | (refine branch_f' ?_ ?_; focus (simp; done)) | (refine branch_t' ?_ ?_; focus (simp; done)))
      show Eqv _ _
      simp only [beq_self_eq_true]
      show Eqv _ _
      exact .up (.up (.refl _))
end Go.Proofs
