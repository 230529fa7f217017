/- Chapter 33, part k: the law of steps. -/
import Derived.Test.YtpgeapbmdljllaaC2
import Derived.Test.YtpgeapbmdljllaaE5
set_option linter.unusedVariables false
set_option linter.unusedSimpArgs false
/-! Ik. -/
namespace Go.Proofs
open Go.E
set_option maxRecDepth 8000

abbrev kG : List IntKind := [.u16, .u16, .u16, .u16, .u16, .u16, .u16, .u16, .i64]
abbrev kS : List IntKind := [.u16, .u16, .u16, .u16, .u16, .u16, .u16, .u16, .u16, .u16, .u16, .u16]
abbrev kV : List IntKind := [.u16, .u16, .u16, .u16, .u16, .u16]
theorem g_w {m : Nat → Int} (h : HasL kG m) : WV m ∧ W16 (m 6) ∧ W16 (m 7) ∧ (-9223372036854775808 ≤ m 8 ∧ m 8 ≤ 9223372036854775807) :=
  ⟨fun j hj => by
    match j, hj with
    | 0, _ => exact has_u16 (h 0 (by decide))
    | 1, _ => exact has_u16 (h 1 (by decide))
    | 2, _ => exact has_u16 (h 2 (by decide))
    | 3, _ => exact has_u16 (h 3 (by decide))
    | 4, _ => exact has_u16 (h 4 (by decide))
    | 5, _ => exact has_u16 (h 5 (by decide)), has_u16 (h 6 (by decide)), has_u16 (h 7 (by decide)), has_i64 (h 8 (by decide))⟩
abbrev hiV (s : Nat → Int) (i : Nat) : Int := s (i + 6)
theorem s_w {s : Nat → Int} (h : HasL kS s) : WV s ∧ WV (hiV s) :=
  ⟨fun j hj => by
    match j, hj with
    | 0, _ => exact has_u16 (h 0 (by decide))
    | 1, _ => exact has_u16 (h 1 (by decide))
    | 2, _ => exact has_u16 (h 2 (by decide))
    | 3, _ => exact has_u16 (h 3 (by decide))
    | 4, _ => exact has_u16 (h 4 (by decide))
    | 5, _ => exact has_u16 (h 5 (by decide)), fun j hj => by
    match j, hj with
    | 0, _ => exact has_u16 (h 6 (by decide))
    | 1, _ => exact has_u16 (h 7 (by decide))
    | 2, _ => exact has_u16 (h 8 (by decide))
    | 3, _ => exact has_u16 (h 9 (by decide))
    | 4, _ => exact has_u16 (h 10 (by decide))
    | 5, _ => exact has_u16 (h 11 (by decide))⟩
theorem v_w {s : Nat → Int} (h : HasL kV s) : WV s := fun j hj => by
    match j, hj with
    | 0, _ => exact has_u16 (h 0 (by decide))
    | 1, _ => exact has_u16 (h 1 (by decide))
    | 2, _ => exact has_u16 (h 2 (by decide))
    | 3, _ => exact has_u16 (h 3 (by decide))
    | 4, _ => exact has_u16 (h 4 (by decide))
    | 5, _ => exact has_u16 (h 5 (by decide))

set_option maxHeartbeats 2000000 in
theorem steps_law (m : Nat → Int) (hm : HasL kG m) (s : Nat → Int) (hs : HasL kS s) (d : Nat → Int) (hd : HasL kV d) : callP Try.prog 3 [.agg (aggL m kG 0), .agg (aggL s kS 0), .agg (aggL d kV 0)] (· = .bool true) := by
  obtain ⟨wm, w6, w7, w8⟩ := g_w hm
  obtain ⟨wr, wv⟩ := s_w hs
  have wd := v_w hd
  show callP Try.prog 3 [gravA m (m 6) (m 7) (m 8), stateA s (hiV s), vecA d] (· = .bool true)
  refine callE_def env (fn := Try.f3) rfl (by decide) rfl ?_
  refine callT_E lives_c rfl ?_
  repeat (first | refine branch_true ?_ | refine branch_false ?_ | refine branch_f' (bne_self_eq_false _) ?_ | refine branch_t' (beq_self_eq_true _) ?_ | refine branch_t' (decide_eq_true rfl) ?_)
  refine callT_E (field_c (p := m 8) wm wr w6 w7) rfl ?_
  refine callT_E (rfield_c (p := m 8) wm wr w6 w7) rfl ?_
  by_cases hv : validB (m 6) (m 7) (m 8) = true
  · obtain ⟨p, hp⟩ : ∃ p : Nat, m 8 = p := ⟨(m 8).toNat, by
      unfold validB at hv; simp at hv; omega⟩
    rw [hp] at hv ⊢
    refine callT_E (step_c wm wr wv wd w6 w7 hv) rfl ?_
    refine draw_tree (picks [0, 1, 2, 3, 4, 5, 6, 7, 8, 9, 10, 11, 12, 13, 14] .done) (by decide +kernel) ?_
    repeat (first | refine branch_true ?_ | refine branch_false ?_ | (refine branch_f' ?_ ?_; focus (simp; done)) | (refine branch_t' ?_ ?_; focus (simp; done)))
    refine ⟨_, ⟨valid_c w6 w7, rfl⟩, ?_⟩
    repeat (first | refine branch_true ?_ | refine branch_false ?_ | (refine branch_f' ?_ ?_; focus (simp; done)) | (refine branch_t' ?_ ?_; focus (simp; done)))
    refine ⟨_, ⟨rvalid_c w6 w7, rfl⟩, ?_⟩
    repeat (first | refine branch_true ?_ | refine branch_false ?_ | (refine branch_f' ?_ ?_; focus (simp; done)) | (refine branch_t' ?_ ?_; focus (simp; done)))
    refine callT_E (rvalid_c w6 w7) rfl ?_
    refine branch_f' (by rw [hv]; rfl) ?_
    refine callT_E (rstep_c wm wr wv wd w6 w7 (by unfold validB at hv; simp at hv; omega) (by unfold validB at hv; simp at hv; omega)) rfl ?_
    repeat (first | refine branch_true ?_ | refine branch_false ?_ | (refine branch_f' ?_ ?_; focus (simp; done)) | (refine branch_t' ?_ ?_; focus (simp; done)))
    show Eqv _ _
    simp only [beq_self_eq_true]
    show Eqv _ _
    exact .up (.up (.refl _))
  · have hv := Bool.eq_false_iff.2 hv
    refine callT_E (step_bad w6 w7 hv) rfl ?_
    refine draw_tree (picks [0, 1, 2, 3, 4, 5, 6, 7, 8, 9, 10, 11, 12, 13, 14] .done) (by decide +kernel) ?_
    repeat (first | refine branch_true ?_ | refine branch_false ?_ | (refine branch_f' ?_ ?_; focus (simp; done)) | (refine branch_t' ?_ ?_; focus (simp; done)))
    refine ⟨_, ⟨valid_c w6 w7, rfl⟩, ?_⟩
    repeat (first | refine branch_true ?_ | refine branch_false ?_ | (refine branch_f' ?_ ?_; focus (simp; done)) | (refine branch_t' ?_ ?_; focus (simp; done)))
    refine ⟨_, ⟨rvalid_c w6 w7, rfl⟩, ?_⟩
    repeat (first | refine branch_true ?_ | refine branch_false ?_ | (refine branch_f' ?_ ?_; focus (simp; done)) | (refine branch_t' ?_ ?_; focus (simp; done)))
    refine callT_E (rvalid_c w6 w7) rfl ?_
    refine branch_t' (by rw [hv]; rfl) ?_
    repeat (first | refine branch_true ?_ | refine branch_false ?_ | (refine branch_f' ?_ ?_; focus (simp; done)) | (refine branch_t' ?_ ?_; focus (simp; done)))
    show Eqv _ _
    exact .up (.up (.refl _))
end Go.Proofs
