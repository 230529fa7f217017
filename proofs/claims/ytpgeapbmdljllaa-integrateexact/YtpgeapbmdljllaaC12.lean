/- Chapter 33: the law of the exact recursion. -/
import Derived.Test.YtpgeapbmdljllaaC11
import Derived.Test.YtpgeapbmdljllaaC9
set_option linter.unusedVariables false
set_option linter.unusedSimpArgs false
/-! Ej. -/
namespace Go.Proofs
open Go.E
set_option maxRecDepth 8000

namespace N13
theorem dz : callP Try.prog 33 [dyZ, dyZ] (· = .bool true) := by
  have h := dsame_c .zero .zero (by rw [show Dy.zero.m = 0 from rfl, bitLen_zero]; decide)
  rw [show decide (Dy.zero = Dy.zero) = true from decide_eq_true rfl] at h
  exact callP_arg (.cons (.up eqv_dyZ) (.cons (.up eqv_dyZ) .nil)) h
theorem same_x {x : Dy} (hf : x.fit) (hw : x.within = true) : callP Try.prog 34 [dyA x, rA x] (· = .bool true) := by
  have hf : bitLen x.m ≤ 1000000 := Nat.le_trans hf.1 (by decide)
  have h := dsame_c x x hf
  rw [show decide (x = x) = true from decide_eq_true rfl] at h
  have o := rout_c x hf
  rw [resV_in hw] at o
  refine callE_def env (fn := Try.f34) rfl (by decide) rfl ?_
  repeat refine stp ?_
  refine callT_E o rfl ?_
  repeat refine stp ?_
  refine callT_E h rfl ?_
  repeat refine stp ?_
  show Eqv _ _
  exact .up (.up (.refl _))
end N13
set_option maxHeartbeats 4000000 in
theorem exact_law (m : Nat → Int) (hm : HasL kG m) (s : Nat → Int) (hs : HasL kS s) (n : Nat) (D : Nat → Nat → Int) (hn : n ≤ maxLen) (hD : HasR n D) : callP Try.prog 11 [.agg (aggL m kG 0), .agg (aggL s kS 0), vecs n D] (· = .bool true) := by
  obtain ⟨wm, w6, w7, w8⟩ := g_w hm
  obtain ⟨wr, wv⟩ := s_w hs
  have wD : ∀ i, i < n → WV (D i) := fun i hi => v_w (hD i hi)
  show callP Try.prog 11 [gravA m (m 6) (m 7) (m 8), stateA s (hiV s), vecs n D] (· = .bool true)
  refine callE_def env (fn := Try.f11) rfl (by decide) rfl ?_
  repeat refine stp ?_
  refine callT_E lives_c rfl ?_
  by_cases c1 : n ≤ 4
  · repeat refine stp ?_
    cases hv : validB (m 6) (m 7) (m 8) with
    | false =>
      refine callT_E (N13.exact_no w6 w7 hv) rfl ?_
      repeat refine stp ?_
      refine callT_E (rvalid_c w6 w7) rfl ?_
      rw [hv]
      repeat (first | refine stp ?_ | refine loop_unr 4 ?_)
      refine callT_E N13.dz rfl ?_
      repeat refine stp ?_
      refine callT_E N13.dz rfl ?_
      repeat (first | refine stp ?_ | refine loop_unr 4 ?_)
      refine callT_E N13.dz rfl ?_
      repeat refine stp ?_
      refine callT_E N13.dz rfl ?_
      repeat (first | refine stp ?_ | refine loop_unr 4 ?_)
      refine callT_E N13.dz rfl ?_
      repeat refine stp ?_
      refine callT_E N13.dz rfl ?_
      repeat (first | refine stp ?_ | refine loop_unr 4 ?_)
      show Eqv _ _
      exact .up (.up (.refl _))
    | true =>
      obtain ⟨p, hp, hp4, hp14⟩ := nat_valid hv
      rw [hp] at hv ⊢
      have ax := fun (i : Nat) (hi : i < 3) => N13.axis_c (i := i) hi wm wr wv wD w6 w7 ⟨hp4, hp14⟩ (show n ≤ 6 by omega)
      have kb : N13.axM p n ≤ 1000 := by
        have : n * (3 * p + 58) ≤ 6 * 100 := Nat.mul_le_mul (by omega) (by omega)
        unfold N13.axM
        omega
      have bx := fun (i : Nat) => axC_bd p m (m 6) (m 7) D s (hiV s) i n
      have sx := fun (i : Nat) => N13.same_x (N13.fitB (bx i).1 (by omega) (by omega)) (N13.winB (bx i).1 (by omega) (by omega))
      have sy := fun (i : Nat) => N13.same_x (N13.fitB (bx i).2 (by omega) (by omega)) (N13.winB (bx i).2 (by omega) (by omega))
      refine callT_E (N13.exact_ok wm wr wv wD w6 w7 ⟨hp4, hp14⟩ (by omega) hv) rfl ?_
      repeat refine stp ?_
      refine callT_E (rvalid_c w6 w7) rfl ?_
      rw [hv]
      repeat (first | refine stp ?_ | refine loop_unr 4 ?_)
      refine callT_E (ax 0 (by decide)) rfl ?_
      repeat refine stp ?_
      refine draw_tree (picks (List.range 14) .done) (by decide +kernel) ?_
      repeat refine stp ?_
      refine ⟨_, ⟨sx 0, rfl⟩, ?_⟩
      repeat refine stp ?_
      refine ⟨_, ⟨sy 0, rfl⟩, ?_⟩
      repeat (first | refine stp ?_ | refine loop_unr 4 ?_)
      refine callT_E (ax 1 (by decide)) rfl ?_
      repeat refine stp ?_
      refine draw_tree (picks (List.range 14) .done) (by decide +kernel) ?_
      repeat refine stp ?_
      refine ⟨_, ⟨sx 1, rfl⟩, ?_⟩
      repeat refine stp ?_
      refine ⟨_, ⟨sy 1, rfl⟩, ?_⟩
      repeat (first | refine stp ?_ | refine loop_unr 4 ?_)
      refine callT_E (ax 2 (by decide)) rfl ?_
      repeat refine stp ?_
      refine draw_tree (picks (List.range 14) .done) (by decide +kernel) ?_
      repeat refine stp ?_
      refine ⟨_, ⟨sx 2, rfl⟩, ?_⟩
      repeat refine stp ?_
      refine ⟨_, ⟨sy 2, rfl⟩, ?_⟩
      repeat (first | refine stp ?_ | refine loop_unr 4 ?_)
      show Eqv _ _
      exact .up (.up (.refl _))
  by_cases c2 : n ≤ 100
  · repeat refine stp ?_
    show Eqv _ _
    exact .up (.up (.refl _))
  by_cases c3 : n ≤ 200
  · repeat refine stp ?_
    cases hv : validB (m 6) (m 7) (m 8) with
    | false =>
      refine callT_E (N13.exact_no w6 w7 hv) rfl ?_
      repeat refine stp ?_
      refine callT_E (rvalid_c w6 w7) rfl ?_
      rw [hv]
      repeat (first | refine stp ?_ | refine loop_unr 4 ?_)
      refine callT_E N13.dz rfl ?_
      repeat refine stp ?_
      refine callT_E N13.dz rfl ?_
      repeat (first | refine stp ?_ | refine loop_unr 4 ?_)
      refine callT_E N13.dz rfl ?_
      repeat refine stp ?_
      refine callT_E N13.dz rfl ?_
      repeat (first | refine stp ?_ | refine loop_unr 4 ?_)
      refine callT_E N13.dz rfl ?_
      repeat refine stp ?_
      refine callT_E N13.dz rfl ?_
      repeat (first | refine stp ?_ | refine loop_unr 4 ?_)
      show Eqv _ _
      exact .up (.up (.refl _))
    | true =>
      refine callT_E (N13.exact_lim w6 w7 hv (by omega)) rfl ?_
      repeat refine stp ?_
      refine callT_E (rvalid_c w6 w7) rfl ?_
      rw [hv]
      repeat (first | refine stp ?_ | refine loop_unr 4 ?_)
      refine callT_E N13.dz rfl ?_
      repeat refine stp ?_
      refine callT_E N13.dz rfl ?_
      repeat (first | refine stp ?_ | refine loop_unr 4 ?_)
      refine callT_E N13.dz rfl ?_
      repeat refine stp ?_
      refine callT_E N13.dz rfl ?_
      repeat (first | refine stp ?_ | refine loop_unr 4 ?_)
      refine callT_E N13.dz rfl ?_
      repeat refine stp ?_
      refine callT_E N13.dz rfl ?_
      repeat (first | refine stp ?_ | refine loop_unr 4 ?_)
      show Eqv _ _
      exact .up (.up (.refl _))
  · repeat refine stp ?_
    show Eqv _ _
    exact .up (.up (.refl _))
end Go.Proofs
