/- Chapter 14, part w: the law of the edges. -/
import Derived.Test.YtjdmcooghikhhaaDoorC15
set_option linter.unusedVariables false
set_option linter.unusedSimpArgs false
/-! Dw. -/
namespace Go.Proofs.N13
open Go.E
set_option maxRecDepth 8000

theorem wf_i16 {n : Int} (h : (Lit.int .i16 n).wf = true) : -32768 ≤ n ∧ n ≤ 32767 := by
  simp [Lit.wf, IntKind.min, IntKind.max, IntKind.signed, IntKind.bits] at h
  omega
theorem one_within {e : Int} : (⟨false, 1, e⟩ : Dy).within = decide (-8192 ≤ e ∧ e ≤ 8192) := by
  rw [Dy.within]
  have h : bitLen 1 ≤ 8192 := Nat.le_trans (bitLen_small (k := 1) (by decide)) (by decide)
  exact decide_eq_decide.2 ⟨fun a => a.2, fun a => ⟨h, a⟩⟩
theorem one_mul_e (e f : Int) : mulD ⟨false, 1, e⟩ ⟨false, 1, f⟩ = ⟨false, 1, e + f⟩ :=
  (show mulD ⟨false, 1, e⟩ ⟨false, 1, f⟩ = canonD false 1 (e + f) from rfl).trans (canonD_odd rfl)
theorem dmul_one {e f : Int} (he : -8192 ≤ e ∧ e ≤ 8192) (hf : -8192 ≤ f ∧ f ≤ 8192) : callP Tryd.prog 37 [dyA ⟨false, 1, e⟩, dyA ⟨false, 1, f⟩] (· = resV ⟨false, 1, e + f⟩) := by
  have h := dmul_c (n1 := false) (n2 := false) (arg_small (n := false) (m := 1) (e := e) (by decide) (by omega)) (arg_small (n := false) (m := 1) (e := f) (by decide) (by omega))
  rw [canonD_odd rfl, canonD_odd rfl, opV_ok (within_small _ (by decide) he) (within_small _ (by decide) hf), one_mul_e] at h
  exact h
theorem dof_one {e : Int} (he : -8194 ≤ e ∧ e ≤ 8194) : callP Tryd.prog 22 [.int .i64 1, .int .i64 e] (· = resV ⟨false, 1, e⟩) := by
  have h := dof_c (n := 1) (e := e) (by decide) (by omega)
  rw [show canonD (decide ((1 : Int) < 0)) (1 : Int).natAbs e = canonD false 1 e from rfl, canonD_odd rfl] at h
  exact h
theorem same_one (e : Int) : callP Tryd.prog 19 [dyA ⟨false, 1, e⟩, dyA ⟨false, 1, e⟩] (· = .bool true) :=
  same_true rfl (by show bitLen 1 ≤ _; exact Nat.le_trans (bitLen_small (k := 1) (by decide)) (by decide))
set_option maxHeartbeats 8000000 in
theorem edges_law (n : Int) (hn : -32768 ≤ n ∧ n ≤ 32767) : callP Tryd.prog 10 [.int .i16 n] (· = .bool true) := by
  have hb := tmod_b (IntKind.i64.wrap n) (k := 8195) (by decide)
  have one1 := num_n false (m := 1) (k := 1) rfl 1 (by decide) (by decide)
  have onem := num_n false (m := 1) (k := 1) rfl (-1) (by decide) (by decide)
  have hE : -8194 ≤ (IntKind.i64.wrap n).tmod 8195 ∧ (IntKind.i64.wrap n).tmod 8195 ≤ 8194 := by omega
  have c0 := dof_one hE
  refine callE_def env (fn := Tryd.f10) rfl (by decide) rfl ?_
  refine need_intro (by decide) ?_
  generalize (IntKind.i64.wrap n).tmod 8195 = e at *
  by_cases hin : -8192 ≤ e ∧ e ≤ 8192
  rotate_left
  · rw [resV_out (by rw [one_within]; simpa using hin)] at c0
    refine callT_E c0 rfl ?_
    rcases (show e < -8192 ∨ (¬ e < -8192 ∧ 8192 < e) by omega) with h | h
    all_goals
      repeat (first | refine need_intro (by decide) ?_ | refine branch_true ?_ | refine branch_false ?_ | (refine branch_t' (decide_eq_true ?_) ?_; focus omega) | (refine branch_f' (decide_eq_false ?_) ?_; focus omega) | (refine branch_t' (beq_iff_eq.2 ?_) ?_; focus omega) | (refine branch_f' (beq_eq_false_iff_ne.2 ?_) ?_; focus omega) | (refine branch_t' (bne_iff_ne.2 ?_) ?_; focus omega) | (refine branch_f' (bne_eq_false_iff_eq.2 ?_) ?_; focus omega) | refine branch_t' (by assumption) ?_ | refine branch_f' (by assumption) ?_ | refine branch_f' (bne_self_eq_false _) ?_ | refine branch_t' (beq_self_eq_true _) ?_ | (refine branch_f' ?_ ?_; focus (simp; done)) | (refine branch_t' ?_ ?_; focus (simp; done)))
      refine callT_E same_zero rfl ?_
      repeat (first | refine need_intro (by decide) ?_ | refine branch_true ?_ | refine branch_false ?_ | (refine branch_t' (decide_eq_true ?_) ?_; focus omega) | (refine branch_f' (decide_eq_false ?_) ?_; focus omega) | (refine branch_t' (beq_iff_eq.2 ?_) ?_; focus omega) | (refine branch_f' (beq_eq_false_iff_ne.2 ?_) ?_; focus omega) | (refine branch_t' (bne_iff_ne.2 ?_) ?_; focus omega) | (refine branch_f' (bne_eq_false_iff_eq.2 ?_) ?_; focus omega) | refine branch_t' (by assumption) ?_ | refine branch_f' (by assumption) ?_ | refine branch_f' (bne_self_eq_false _) ?_ | refine branch_t' (beq_self_eq_true _) ?_ | (refine branch_f' ?_ ?_; focus (simp; done)) | (refine branch_t' ?_ ?_; focus (simp; done)))
      refine callT_E awake_c rfl ?_
      repeat (first | refine need_intro (by decide) ?_ | refine branch_true ?_ | refine branch_false ?_ | (refine branch_t' (decide_eq_true ?_) ?_; focus omega) | (refine branch_f' (decide_eq_false ?_) ?_; focus omega) | (refine branch_t' (beq_iff_eq.2 ?_) ?_; focus omega) | (refine branch_f' (beq_eq_false_iff_ne.2 ?_) ?_; focus omega) | (refine branch_t' (bne_iff_ne.2 ?_) ?_; focus omega) | (refine branch_f' (bne_eq_false_iff_eq.2 ?_) ?_; focus omega) | refine branch_t' (by assumption) ?_ | refine branch_f' (by assumption) ?_ | refine branch_f' (bne_self_eq_false _) ?_ | refine branch_t' (beq_self_eq_true _) ?_ | (refine branch_f' ?_ ?_; focus (simp; done)) | (refine branch_t' ?_ ?_; focus (simp; done)))
      show Eqv _ _
      exact .up (.up (.refl _))
  rw [resV_in (by rw [one_within]; exact decide_eq_true hin)] at c0
  have m1 := dmul_one (f := 1) hin (by decide)
  have m2 := dmul_one (f := -1) hin (by decide)
  have s0 := same_one e
  have s1 := same_one (e + 1)
  have s2 := same_one (e + -1)
  have w1 : IntKind.i64.wrap (e + 1) = e + 1 := wi (by omega) (by omega)
  have w2 : IntKind.i64.wrap (e - 1) = e + -1 := wi (by omega) (by omega)
  have nu0 := num_n false (m := 1) (k := 1) rfl e (by decide) (by decide)
  have nu1 : callP Tryd.prog 46 [.bool false, .int .u32 1, .int .i64 (IntKind.i64.wrap (e + 1))] (· = dyA ⟨false, 1, e + 1⟩) := by rw [w1]; exact num_n false (m := 1) (k := 1) rfl (e + 1) (by decide) (by decide)
  have nu2 : callP Tryd.prog 46 [.bool false, .int .u32 1, .int .i64 (IntKind.i64.wrap (e - 1))] (· = dyA ⟨false, 1, e + -1⟩) := by rw [w2]; exact num_n false (m := 1) (k := 1) rfl (e + -1) (by decide) (by decide)
  refine callT_E c0 rfl ?_
  repeat (first | refine need_intro (by decide) ?_ | refine branch_true ?_ | refine branch_false ?_ | (refine branch_t' (decide_eq_true ?_) ?_; focus omega) | (refine branch_f' (decide_eq_false ?_) ?_; focus omega) | (refine branch_t' (beq_iff_eq.2 ?_) ?_; focus omega) | (refine branch_f' (beq_eq_false_iff_ne.2 ?_) ?_; focus omega) | (refine branch_t' (bne_iff_ne.2 ?_) ?_; focus omega) | (refine branch_f' (bne_eq_false_iff_eq.2 ?_) ?_; focus omega) | refine branch_t' (by assumption) ?_ | refine branch_f' (by assumption) ?_ | refine branch_f' (bne_self_eq_false _) ?_ | refine branch_t' (beq_self_eq_true _) ?_ | (refine branch_f' ?_ ?_; focus (simp; done)) | (refine branch_t' ?_ ?_; focus (simp; done)))
  refine draw_tree (picks [0, 1, 2, 3, 4, 5, 6, 7, 8] .done) (by decide +kernel) ?_
  refine ⟨_, ⟨one1, rfl⟩, ?_⟩
  have h3 : e = 8192 ∨ e = -8192 ∨ (-8192 < e ∧ e < 8192) := by omega
  rcases h3 with h | h | h
  · subst h
    rw [resV_out (by rw [one_within]; simp)] at m1
    rw [resV_in (by rw [one_within]; exact decide_eq_true (by omega))] at m2
    refine ⟨_, ⟨m1, rfl⟩, ?_⟩
    refine draw_tree (picks [0, 1, 2, 3, 4, 5, 6, 7, 8] .done) (by decide +kernel) ?_
    refine ⟨_, ⟨onem, rfl⟩, ?_⟩
    refine ⟨_, ⟨m2, rfl⟩, ?_⟩
    repeat (first | refine need_intro (by decide) ?_ | refine branch_true ?_ | refine branch_false ?_ | (refine branch_t' (decide_eq_true ?_) ?_; focus omega) | (refine branch_f' (decide_eq_false ?_) ?_; focus omega) | (refine branch_t' (beq_iff_eq.2 ?_) ?_; focus omega) | (refine branch_f' (beq_eq_false_iff_ne.2 ?_) ?_; focus omega) | (refine branch_t' (bne_iff_ne.2 ?_) ?_; focus omega) | (refine branch_f' (bne_eq_false_iff_eq.2 ?_) ?_; focus omega) | refine branch_t' (by assumption) ?_ | refine branch_f' (by assumption) ?_ | refine branch_f' (bne_self_eq_false _) ?_ | refine branch_t' (beq_self_eq_true _) ?_ | (refine branch_f' ?_ ?_; focus (simp; done)) | (refine branch_t' ?_ ?_; focus (simp; done)))
    refine draw_tree (picks [0, 1, 2, 3, 4, 5, 6, 7, 8, 9, 10, 11, 12, 13, 14, 15, 16, 17, 18, 19, 20, 21, 22, 23, 24, 25, 26, 27, 28, 29, 30, 31, 32, 33, 34, 35, 36, 37, 38, 39, 40, 41, 42, 43, 44, 45] .done) (by decide +kernel) ?_
    refine ⟨_, ⟨nu0, rfl⟩, ?_⟩
    refine ⟨_, ⟨s0, rfl⟩, ?_⟩
    repeat (first | refine need_intro (by decide) ?_ | refine branch_true ?_ | refine branch_false ?_ | (refine branch_t' (decide_eq_true ?_) ?_; focus omega) | (refine branch_f' (decide_eq_false ?_) ?_; focus omega) | (refine branch_t' (beq_iff_eq.2 ?_) ?_; focus omega) | (refine branch_f' (beq_eq_false_iff_ne.2 ?_) ?_; focus omega) | (refine branch_t' (bne_iff_ne.2 ?_) ?_; focus omega) | (refine branch_f' (bne_eq_false_iff_eq.2 ?_) ?_; focus omega) | refine branch_t' (by assumption) ?_ | refine branch_f' (by assumption) ?_ | refine branch_f' (bne_self_eq_false _) ?_ | refine branch_t' (beq_self_eq_true _) ?_ | (refine branch_f' ?_ ?_; focus (simp; done)) | (refine branch_t' ?_ ?_; focus (simp; done)))
    refine ⟨_, ⟨nu2, rfl⟩, ?_⟩
    repeat (first | refine need_intro (by decide) ?_ | refine branch_true ?_ | refine branch_false ?_ | (refine branch_t' (decide_eq_true ?_) ?_; focus omega) | (refine branch_f' (decide_eq_false ?_) ?_; focus omega) | (refine branch_t' (beq_iff_eq.2 ?_) ?_; focus omega) | (refine branch_f' (beq_eq_false_iff_ne.2 ?_) ?_; focus omega) | (refine branch_t' (bne_iff_ne.2 ?_) ?_; focus omega) | (refine branch_f' (bne_eq_false_iff_eq.2 ?_) ?_; focus omega) | refine branch_t' (by assumption) ?_ | refine branch_f' (by assumption) ?_ | refine branch_f' (bne_self_eq_false _) ?_ | refine branch_t' (beq_self_eq_true _) ?_ | (refine branch_f' ?_ ?_; focus (simp; done)) | (refine branch_t' ?_ ?_; focus (simp; done)))
    refine ⟨_, ⟨s2, rfl⟩, ?_⟩
    repeat (first | refine need_intro (by decide) ?_ | refine branch_true ?_ | refine branch_false ?_ | (refine branch_t' (decide_eq_true ?_) ?_; focus omega) | (refine branch_f' (decide_eq_false ?_) ?_; focus omega) | (refine branch_t' (beq_iff_eq.2 ?_) ?_; focus omega) | (refine branch_f' (beq_eq_false_iff_ne.2 ?_) ?_; focus omega) | (refine branch_t' (bne_iff_ne.2 ?_) ?_; focus omega) | (refine branch_f' (bne_eq_false_iff_eq.2 ?_) ?_; focus omega) | refine branch_t' (by assumption) ?_ | refine branch_f' (by assumption) ?_ | refine branch_f' (bne_self_eq_false _) ?_ | refine branch_t' (beq_self_eq_true _) ?_ | (refine branch_f' ?_ ?_; focus (simp; done)) | (refine branch_t' ?_ ?_; focus (simp; done)))
    refine ⟨_, ⟨awake_c, rfl⟩, ?_⟩
    repeat (first | refine need_intro (by decide) ?_ | refine branch_true ?_ | refine branch_false ?_ | (refine branch_t' (decide_eq_true ?_) ?_; focus omega) | (refine branch_f' (decide_eq_false ?_) ?_; focus omega) | (refine branch_t' (beq_iff_eq.2 ?_) ?_; focus omega) | (refine branch_f' (beq_eq_false_iff_ne.2 ?_) ?_; focus omega) | (refine branch_t' (bne_iff_ne.2 ?_) ?_; focus omega) | (refine branch_f' (bne_eq_false_iff_eq.2 ?_) ?_; focus omega) | refine branch_t' (by assumption) ?_ | refine branch_f' (by assumption) ?_ | refine branch_f' (bne_self_eq_false _) ?_ | refine branch_t' (beq_self_eq_true _) ?_ | (refine branch_f' ?_ ?_; focus (simp; done)) | (refine branch_t' ?_ ?_; focus (simp; done)))
    show Eqv _ _
    exact .up (.up (.refl _))
  · subst h
    rw [resV_in (by rw [one_within]; exact decide_eq_true (by omega))] at m1
    rw [resV_out (by rw [one_within]; simp)] at m2
    refine ⟨_, ⟨m1, rfl⟩, ?_⟩
    refine draw_tree (picks [0, 1, 2, 3, 4, 5, 6, 7, 8] .done) (by decide +kernel) ?_
    refine ⟨_, ⟨onem, rfl⟩, ?_⟩
    refine ⟨_, ⟨m2, rfl⟩, ?_⟩
    repeat (first | refine need_intro (by decide) ?_ | refine branch_true ?_ | refine branch_false ?_ | (refine branch_t' (decide_eq_true ?_) ?_; focus omega) | (refine branch_f' (decide_eq_false ?_) ?_; focus omega) | (refine branch_t' (beq_iff_eq.2 ?_) ?_; focus omega) | (refine branch_f' (beq_eq_false_iff_ne.2 ?_) ?_; focus omega) | (refine branch_t' (bne_iff_ne.2 ?_) ?_; focus omega) | (refine branch_f' (bne_eq_false_iff_eq.2 ?_) ?_; focus omega) | refine branch_t' (by assumption) ?_ | refine branch_f' (by assumption) ?_ | refine branch_f' (bne_self_eq_false _) ?_ | refine branch_t' (beq_self_eq_true _) ?_ | (refine branch_f' ?_ ?_; focus (simp; done)) | (refine branch_t' ?_ ?_; focus (simp; done)))
    refine draw_tree (picks [0, 1, 2, 3, 4, 5, 6, 7, 8, 9, 10, 11, 12, 13, 14, 15, 16, 17, 18, 19, 20, 21, 22, 23, 24, 25, 26, 27, 28, 29, 30, 31, 32, 33, 34, 35, 36, 37, 38, 39, 40, 41, 42, 43, 44, 45] .done) (by decide +kernel) ?_
    refine ⟨_, ⟨nu0, rfl⟩, ?_⟩
    refine ⟨_, ⟨s0, rfl⟩, ?_⟩
    repeat (first | refine need_intro (by decide) ?_ | refine branch_true ?_ | refine branch_false ?_ | (refine branch_t' (decide_eq_true ?_) ?_; focus omega) | (refine branch_f' (decide_eq_false ?_) ?_; focus omega) | (refine branch_t' (beq_iff_eq.2 ?_) ?_; focus omega) | (refine branch_f' (beq_eq_false_iff_ne.2 ?_) ?_; focus omega) | (refine branch_t' (bne_iff_ne.2 ?_) ?_; focus omega) | (refine branch_f' (bne_eq_false_iff_eq.2 ?_) ?_; focus omega) | refine branch_t' (by assumption) ?_ | refine branch_f' (by assumption) ?_ | refine branch_f' (bne_self_eq_false _) ?_ | refine branch_t' (beq_self_eq_true _) ?_ | (refine branch_f' ?_ ?_; focus (simp; done)) | (refine branch_t' ?_ ?_; focus (simp; done)))
    refine ⟨_, ⟨nu1, rfl⟩, ?_⟩
    repeat (first | refine need_intro (by decide) ?_ | refine branch_true ?_ | refine branch_false ?_ | (refine branch_t' (decide_eq_true ?_) ?_; focus omega) | (refine branch_f' (decide_eq_false ?_) ?_; focus omega) | (refine branch_t' (beq_iff_eq.2 ?_) ?_; focus omega) | (refine branch_f' (beq_eq_false_iff_ne.2 ?_) ?_; focus omega) | (refine branch_t' (bne_iff_ne.2 ?_) ?_; focus omega) | (refine branch_f' (bne_eq_false_iff_eq.2 ?_) ?_; focus omega) | refine branch_t' (by assumption) ?_ | refine branch_f' (by assumption) ?_ | refine branch_f' (bne_self_eq_false _) ?_ | refine branch_t' (beq_self_eq_true _) ?_ | (refine branch_f' ?_ ?_; focus (simp; done)) | (refine branch_t' ?_ ?_; focus (simp; done)))
    refine ⟨_, ⟨s1, rfl⟩, ?_⟩
    repeat (first | refine need_intro (by decide) ?_ | refine branch_true ?_ | refine branch_false ?_ | (refine branch_t' (decide_eq_true ?_) ?_; focus omega) | (refine branch_f' (decide_eq_false ?_) ?_; focus omega) | (refine branch_t' (beq_iff_eq.2 ?_) ?_; focus omega) | (refine branch_f' (beq_eq_false_iff_ne.2 ?_) ?_; focus omega) | (refine branch_t' (bne_iff_ne.2 ?_) ?_; focus omega) | (refine branch_f' (bne_eq_false_iff_eq.2 ?_) ?_; focus omega) | refine branch_t' (by assumption) ?_ | refine branch_f' (by assumption) ?_ | refine branch_f' (bne_self_eq_false _) ?_ | refine branch_t' (beq_self_eq_true _) ?_ | (refine branch_f' ?_ ?_; focus (simp; done)) | (refine branch_t' ?_ ?_; focus (simp; done)))
    refine ⟨_, ⟨awake_c, rfl⟩, ?_⟩
    repeat (first | refine need_intro (by decide) ?_ | refine branch_true ?_ | refine branch_false ?_ | (refine branch_t' (decide_eq_true ?_) ?_; focus omega) | (refine branch_f' (decide_eq_false ?_) ?_; focus omega) | (refine branch_t' (beq_iff_eq.2 ?_) ?_; focus omega) | (refine branch_f' (beq_eq_false_iff_ne.2 ?_) ?_; focus omega) | (refine branch_t' (bne_iff_ne.2 ?_) ?_; focus omega) | (refine branch_f' (bne_eq_false_iff_eq.2 ?_) ?_; focus omega) | refine branch_t' (by assumption) ?_ | refine branch_f' (by assumption) ?_ | refine branch_f' (bne_self_eq_false _) ?_ | refine branch_t' (beq_self_eq_true _) ?_ | (refine branch_f' ?_ ?_; focus (simp; done)) | (refine branch_t' ?_ ?_; focus (simp; done)))
    show Eqv _ _
    exact .up (.up (.refl _))
  · have q1 : decide (e < 8192) = true := decide_eq_true h.2
    have q2 : decide (e > -8192) = true := decide_eq_true h.1
    rw [resV_in (by rw [one_within]; exact decide_eq_true (by omega))] at m1
    rw [resV_in (by rw [one_within]; exact decide_eq_true (by omega))] at m2
    refine ⟨_, ⟨m1, rfl⟩, ?_⟩
    refine draw_tree (picks [0, 1, 2, 3, 4, 5, 6, 7, 8] .done) (by decide +kernel) ?_
    refine ⟨_, ⟨onem, rfl⟩, ?_⟩
    refine ⟨_, ⟨m2, rfl⟩, ?_⟩
    repeat (first | refine need_intro (by decide) ?_ | refine branch_true ?_ | refine branch_false ?_ | (refine branch_t' (decide_eq_true ?_) ?_; focus omega) | (refine branch_f' (decide_eq_false ?_) ?_; focus omega) | (refine branch_t' (beq_iff_eq.2 ?_) ?_; focus omega) | (refine branch_f' (beq_eq_false_iff_ne.2 ?_) ?_; focus omega) | (refine branch_t' (bne_iff_ne.2 ?_) ?_; focus omega) | (refine branch_f' (bne_eq_false_iff_eq.2 ?_) ?_; focus omega) | refine branch_t' (by assumption) ?_ | refine branch_f' (by assumption) ?_ | refine branch_f' (bne_self_eq_false _) ?_ | refine branch_t' (beq_self_eq_true _) ?_ | (refine branch_f' ?_ ?_; focus (simp; done)) | (refine branch_t' ?_ ?_; focus (simp; done)))
    refine branch_f' (by rw [q1]; rfl) ?_
    repeat (first | refine need_intro (by decide) ?_ | refine branch_true ?_ | refine branch_false ?_ | (refine branch_t' (decide_eq_true ?_) ?_; focus omega) | (refine branch_f' (decide_eq_false ?_) ?_; focus omega) | (refine branch_t' (beq_iff_eq.2 ?_) ?_; focus omega) | (refine branch_f' (beq_eq_false_iff_ne.2 ?_) ?_; focus omega) | (refine branch_t' (bne_iff_ne.2 ?_) ?_; focus omega) | (refine branch_f' (bne_eq_false_iff_eq.2 ?_) ?_; focus omega) | refine branch_t' (by assumption) ?_ | refine branch_f' (by assumption) ?_ | refine branch_f' (bne_self_eq_false _) ?_ | refine branch_t' (beq_self_eq_true _) ?_ | (refine branch_f' ?_ ?_; focus (simp; done)) | (refine branch_t' ?_ ?_; focus (simp; done)))
    refine branch_f' (by rw [q2]; rfl) ?_
    repeat (first | refine need_intro (by decide) ?_ | refine branch_true ?_ | refine branch_false ?_ | (refine branch_t' (decide_eq_true ?_) ?_; focus omega) | (refine branch_f' (decide_eq_false ?_) ?_; focus omega) | (refine branch_t' (beq_iff_eq.2 ?_) ?_; focus omega) | (refine branch_f' (beq_eq_false_iff_ne.2 ?_) ?_; focus omega) | (refine branch_t' (bne_iff_ne.2 ?_) ?_; focus omega) | (refine branch_f' (bne_eq_false_iff_eq.2 ?_) ?_; focus omega) | refine branch_t' (by assumption) ?_ | refine branch_f' (by assumption) ?_ | refine branch_f' (bne_self_eq_false _) ?_ | refine branch_t' (beq_self_eq_true _) ?_ | (refine branch_f' ?_ ?_; focus (simp; done)) | (refine branch_t' ?_ ?_; focus (simp; done)))
    refine draw_tree (picks [0, 1, 2, 3, 4, 5, 6, 7, 8, 9, 10, 11, 12, 13, 14, 15, 16, 17, 18, 19, 20, 21, 22, 23, 24, 25, 26, 27, 28, 29, 30, 31, 32, 33, 34, 35, 36, 37, 38, 39, 40, 41, 42, 43, 44, 45] .done) (by decide +kernel) ?_
    refine ⟨_, ⟨nu0, rfl⟩, ?_⟩
    refine ⟨_, ⟨s0, rfl⟩, ?_⟩
    repeat (first | refine need_intro (by decide) ?_ | refine branch_true ?_ | refine branch_false ?_ | (refine branch_t' (decide_eq_true ?_) ?_; focus omega) | (refine branch_f' (decide_eq_false ?_) ?_; focus omega) | (refine branch_t' (beq_iff_eq.2 ?_) ?_; focus omega) | (refine branch_f' (beq_eq_false_iff_ne.2 ?_) ?_; focus omega) | (refine branch_t' (bne_iff_ne.2 ?_) ?_; focus omega) | (refine branch_f' (bne_eq_false_iff_eq.2 ?_) ?_; focus omega) | refine branch_t' (by assumption) ?_ | refine branch_f' (by assumption) ?_ | refine branch_f' (bne_self_eq_false _) ?_ | refine branch_t' (beq_self_eq_true _) ?_ | (refine branch_f' ?_ ?_; focus (simp; done)) | (refine branch_t' ?_ ?_; focus (simp; done)))
    refine ⟨_, ⟨nu1, rfl⟩, ?_⟩
    repeat (first | refine need_intro (by decide) ?_ | refine branch_true ?_ | refine branch_false ?_ | (refine branch_t' (decide_eq_true ?_) ?_; focus omega) | (refine branch_f' (decide_eq_false ?_) ?_; focus omega) | (refine branch_t' (beq_iff_eq.2 ?_) ?_; focus omega) | (refine branch_f' (beq_eq_false_iff_ne.2 ?_) ?_; focus omega) | (refine branch_t' (bne_iff_ne.2 ?_) ?_; focus omega) | (refine branch_f' (bne_eq_false_iff_eq.2 ?_) ?_; focus omega) | refine branch_t' (by assumption) ?_ | refine branch_f' (by assumption) ?_ | refine branch_f' (bne_self_eq_false _) ?_ | refine branch_t' (beq_self_eq_true _) ?_ | (refine branch_f' ?_ ?_; focus (simp; done)) | (refine branch_t' ?_ ?_; focus (simp; done)))
    refine ⟨_, ⟨s1, rfl⟩, ?_⟩
    repeat (first | refine need_intro (by decide) ?_ | refine branch_true ?_ | refine branch_false ?_ | (refine branch_t' (decide_eq_true ?_) ?_; focus omega) | (refine branch_f' (decide_eq_false ?_) ?_; focus omega) | (refine branch_t' (beq_iff_eq.2 ?_) ?_; focus omega) | (refine branch_f' (beq_eq_false_iff_ne.2 ?_) ?_; focus omega) | (refine branch_t' (bne_iff_ne.2 ?_) ?_; focus omega) | (refine branch_f' (bne_eq_false_iff_eq.2 ?_) ?_; focus omega) | refine branch_t' (by assumption) ?_ | refine branch_f' (by assumption) ?_ | refine branch_f' (bne_self_eq_false _) ?_ | refine branch_t' (beq_self_eq_true _) ?_ | (refine branch_f' ?_ ?_; focus (simp; done)) | (refine branch_t' ?_ ?_; focus (simp; done)))
    refine ⟨_, ⟨nu2, rfl⟩, ?_⟩
    repeat (first | refine need_intro (by decide) ?_ | refine branch_true ?_ | refine branch_false ?_ | (refine branch_t' (decide_eq_true ?_) ?_; focus omega) | (refine branch_f' (decide_eq_false ?_) ?_; focus omega) | (refine branch_t' (beq_iff_eq.2 ?_) ?_; focus omega) | (refine branch_f' (beq_eq_false_iff_ne.2 ?_) ?_; focus omega) | (refine branch_t' (bne_iff_ne.2 ?_) ?_; focus omega) | (refine branch_f' (bne_eq_false_iff_eq.2 ?_) ?_; focus omega) | refine branch_t' (by assumption) ?_ | refine branch_f' (by assumption) ?_ | refine branch_f' (bne_self_eq_false _) ?_ | refine branch_t' (beq_self_eq_true _) ?_ | (refine branch_f' ?_ ?_; focus (simp; done)) | (refine branch_t' ?_ ?_; focus (simp; done)))
    refine ⟨_, ⟨s2, rfl⟩, ?_⟩
    repeat (first | refine need_intro (by decide) ?_ | refine branch_true ?_ | refine branch_false ?_ | (refine branch_t' (decide_eq_true ?_) ?_; focus omega) | (refine branch_f' (decide_eq_false ?_) ?_; focus omega) | (refine branch_t' (beq_iff_eq.2 ?_) ?_; focus omega) | (refine branch_f' (beq_eq_false_iff_ne.2 ?_) ?_; focus omega) | (refine branch_t' (bne_iff_ne.2 ?_) ?_; focus omega) | (refine branch_f' (bne_eq_false_iff_eq.2 ?_) ?_; focus omega) | refine branch_t' (by assumption) ?_ | refine branch_f' (by assumption) ?_ | refine branch_f' (bne_self_eq_false _) ?_ | refine branch_t' (beq_self_eq_true _) ?_ | (refine branch_f' ?_ ?_; focus (simp; done)) | (refine branch_t' ?_ ?_; focus (simp; done)))
    refine ⟨_, ⟨awake_c, rfl⟩, ?_⟩
    repeat (first | refine need_intro (by decide) ?_ | refine branch_true ?_ | refine branch_false ?_ | (refine branch_t' (decide_eq_true ?_) ?_; focus omega) | (refine branch_f' (decide_eq_false ?_) ?_; focus omega) | (refine branch_t' (beq_iff_eq.2 ?_) ?_; focus omega) | (refine branch_f' (beq_eq_false_iff_ne.2 ?_) ?_; focus omega) | (refine branch_t' (bne_iff_ne.2 ?_) ?_; focus omega) | (refine branch_f' (bne_eq_false_iff_eq.2 ?_) ?_; focus omega) | refine branch_t' (by assumption) ?_ | refine branch_f' (by assumption) ?_ | refine branch_f' (bne_self_eq_false _) ?_ | refine branch_t' (beq_self_eq_true _) ?_ | (refine branch_f' ?_ ?_; focus (simp; done)) | (refine branch_t' ?_ ?_; focus (simp; done)))
    show Eqv _ _
    exact .up (.up (.refl _))
end Go.Proofs.N13
