/- Chapter 33, part n: the law of divided runs. -/
import Derived.Test.YtpgeapbmdljllaaC4
set_option linter.unusedVariables false
set_option linter.unusedSimpArgs false
/-! In. -/
namespace Go.Proofs
open Go.E
set_option maxRecDepth 8000

theorem canon_dv {F : Nat → Int} (h : FV F) : dv (cv (dv F)) = dv F := dv_congr fun _ hi => cv_dv h hi
theorem runT_canon (g : Nat → Int) (k : Int) (p : Nat) (D : Nat → Nat → Int) (r v : Nat → Int) : ∀ n, dv (cv (runT g k p D r v n).1) = (runT g k p D r v n).1 ∧ dv (cv (runT g k p D r v n).2.1) = (runT g k p D r v n).2.1
  | 0 => ⟨canon_dv (cv_fit r), canon_dv (cv_fit v)⟩
  | _ + 1 => ⟨canon_dv (stepR_fit _ _ _ _ _ _), canon_dv (stepV_fit _ _ _ _ _ _)⟩
theorem runT_add (g : Nat → Int) (k : Int) (p : Nat) (D : Nat → Nat → Int) (r v : Nat → Int) (a : Nat) : ∀ b, runT g k p D r v (a + b) =
    ((runT g k p (fun i => D (a + i)) (runT g k p D r v a).1 (runT g k p D r v a).2.1 b).1, (runT g k p (fun i => D (a + i)) (runT g k p D r v a).1 (runT g k p D r v a).2.1 b).2.1,
      (runT g k p D r v a).2.2 || (runT g k p (fun i => D (a + i)) (runT g k p D r v a).1 (runT g k p D r v a).2.1 b).2.2)
  | 0 => by
    obtain ⟨h1, h2⟩ := runT_canon g k p D r v a
    show runT g k p D r v a = (dv (cv _), dv (cv _), _ || false)
    rw [h1, h2, Bool.or_false]
  | b + 1 => by
    have ih := runT_add g k p D r v a b
    show runT g k p D r v ((a + b) + 1) = _
    simp only [runT, ih]
    rw [Bool.or_assoc]
set_option maxHeartbeats 2000000 in
theorem divides_law (m : Nat → Int) (hm : HasL kG m) (s : Nat → Int) (hs : HasL kS s) (n : Nat) (D : Nat → Nat → Int) (hn : n ≤ maxLen) (hD : HasR n D) (c : Int) (hc : 0 ≤ c ∧ c < 256) :
    callP Try.prog 7 [.agg (aggL m kG 0), .agg (aggL s kS 0), vecs n D, .int .u8 c] (· = .bool true) := by
  obtain ⟨wm, w6, w7, w8⟩ := g_w hm
  obtain ⟨wr, wv⟩ := s_w hs
  show callP Try.prog 7 [gravA m (m 6) (m 7) (m 8), stateA s (hiV s), vecs n D, .int .u8 c] (· = .bool true)
  refine callE_def env (fn := Try.f7) rfl (by decide) rfl ?_
  refine callT_E lives_c rfl ?_
  repeat (first | refine branch_true ?_ | refine branch_false ?_ | refine branch_f' (bne_self_eq_false _) ?_ | refine branch_t' (beq_self_eq_true _) ?_ | refine branch_t' (decide_eq_true rfl) ?_)
  apply branch_intro <;> intro h1
  · show Eqv _ _
    exact .up (.up (.refl _))
  have h100 : n ≤ 100 := by simp at h1; omega
  have e1 : IntKind.i64.wrap c = c := wi (by omega) (by omega)
  have e2 : IntKind.i64.wrap ((n : Int) + 1) = (n : Int) + 1 := wi (by omega) (by omega)
  have e3 : Int.tmod c ((n : Int) + 1) = c % ((n : Int) + 1) := tmod_pos hc.1
  have hq1 := Int.emod_nonneg c (b := (n : Int) + 1) (by omega)
  have hq2 := Int.emod_lt_of_pos c (b := (n : Int) + 1) (by omega)
  obtain ⟨q, hq⟩ : ∃ q : Nat, c % ((n : Int) + 1) = q := ⟨(c % ((n : Int) + 1)).toNat, by omega⟩
  have e4 : Int.tmod (IntKind.i64.wrap c) (IntKind.i64.wrap ((n : Int) + 1)) = q := by rw [e1, e2, e3, hq]
  apply need_intro
  · rw [e2]; omega
  obtain ⟨Y, hY⟩ : ∃ Y, Y = (Int.tmod (IntKind.i64.wrap c) (IntKind.i64.wrap ((n : Int) + 1))).toNat := ⟨_, rfl⟩
  have hYq : Y = q := by rw [hY, e4, Int.toNat_natCast]
  have hq : q ≤ n := by omega
  have wD : ∀ i, i < n → WV (D i) := fun i hi => v_w (hD i hi)
  have s1 : Y - 0 = q := by omega
  have hD0 : (fun i => D (0 + i)) = D := by funext i; rw [Nat.zero_add]
  subst hY
  cases hv : validB (m 6) (m 7) (m 8) with
  | false =>
    refine callT_E (run_bad w6 w7 hv) rfl ?_
    refine draw_tree (picks [0, 1, 2, 3, 4, 5, 6, 7, 8, 9, 10, 11, 12, 13] .done) (by decide +kernel) ?_
    apply need_intro
    · rw [e4]; omega
    refine ⟨_, ⟨run_bad (D := fun i => D (0 + i)) w6 w7 hv, rfl⟩, ?_⟩
    refine draw_tree (picks [0, 1, 2, 3, 4, 5, 6, 7, 8, 9, 10, 11, 12, 13] .done) (by decide +kernel) ?_
    apply need_intro
    · rw [e4]; omega
    refine ⟨_, ⟨run_bad (D := fun i => D ((Int.tmod (IntKind.i64.wrap c) (IntKind.i64.wrap ((n : Int) + 1))).toNat + i)) w6 w7 hv, rfl⟩, ?_⟩
    repeat (first | refine branch_true ?_ | refine branch_false ?_ | (refine branch_f' ?_ ?_; focus (simp; done)) | (refine branch_t' ?_ ?_; focus (simp; done)))
    show Eqv _ _
    exact .up (.up (.refl _))
  | true =>
    obtain ⟨p, hp, hp4, hp14⟩ := nat_valid hv
    rw [hp] at hv ⊢
    have hr := runT_add m (valD (m 6) (m 7)) p D s (hiV s) q (n - q)
    rw [show q + (n - q) = n by omega] at hr
    obtain ⟨wr', wv'⟩ := runT_w m (valD (m 6) (m 7)) p D s (hiV s) q
    refine callT_E (run_c wm wr wv wD w6 w7 hv h100) rfl ?_
    refine draw_tree (picks [0, 1, 2, 3, 4, 5, 6, 7, 8, 9, 10, 11, 12, 13] .done) (by decide +kernel) ?_
    apply need_intro
    · rw [e4]; omega
    refine ⟨_, ⟨(congrArg (fun E => callP Try.prog 21 [gravA m (m 6) (m 7) p, stateA s (hiV s), vecs ((Int.tmod (IntKind.i64.wrap c) (IntKind.i64.wrap ((n : Int) + 1))).toNat - 0) E] (· = _)) hD0).mpr ((congrArg (fun j => callP Try.prog 21 [gravA m (m 6) (m 7) p, stateA s (hiV s), vecs j D] (· = _)) s1).mpr (run_c wm wr wv (fun i hi => wD i (by omega)) w6 w7 hv (by omega))), rfl⟩, ?_⟩
    refine draw_tree (picks [0, 1, 2, 3, 4, 5, 6, 7, 8, 9, 10, 11, 12, 13] .done) (by decide +kernel) ?_
    apply need_intro
    · rw [e4]; omega
    refine ⟨_, ⟨(congrArg (fun j => callP Try.prog 21 [gravA m (m 6) (m 7) p, stateA (Go.Proofs.runT m (valD (m 6) (m 7)) p D s (hiV s) q).1 (Go.Proofs.runT m (valD (m 6) (m 7)) p D s (hiV s) q).2.1, vecs (n - j) (fun i => D (j + i))] (· = _)) hYq).mpr (run_c wm wr' wv' (fun i hi => wD _ (by omega)) w6 w7 hv (by omega)), rfl⟩, ?_⟩
    rw [hr]
    repeat (first | refine branch_true ?_ | refine branch_false ?_ | (refine branch_f' ?_ ?_; focus (simp; done)) | (refine branch_t' ?_ ?_; focus (simp; done)))
    apply branch_intro <;> intro f
    · repeat (first | refine branch_true ?_ | refine branch_false ?_ | (refine branch_f' ?_ ?_; focus (simp; done)) | (refine branch_t' ?_ ?_; focus (simp; done)))
      refine branch_t' (by simp [f]) ?_
      repeat (first | refine branch_true ?_ | refine branch_false ?_ | (refine branch_f' ?_ ?_; focus (simp; done)) | (refine branch_t' ?_ ?_; focus (simp; done)))
      show Eqv _ _
      exact .up (.up (.refl _))
    · repeat (first | refine branch_true ?_ | refine branch_false ?_ | (refine branch_f' ?_ ?_; focus (simp; done)) | (refine branch_t' ?_ ?_; focus (simp; done)))
      refine branch_t' (by simp [f]) ?_
      repeat (first | refine branch_true ?_ | refine branch_false ?_ | (refine branch_f' ?_ ?_; focus (simp; done)) | (refine branch_t' ?_ ?_; focus (simp; done)))
      show Eqv _ _
      exact .up (.up (.refl _))
end Go.Proofs
