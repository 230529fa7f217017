/- Chapter 27, part r: the reference: codes, May, Clear. -/
import Derived.Test.YtdbdppoecijdhaaC6
set_option linter.unusedVariables false
set_option linter.unusedSimpArgs false
/-! Ba. -/
namespace Go.Proofs
open Go.E
set_option maxRecDepth 8000

theorem rcodes_c : callP Try.prog 39 [] (· = ints .u8 [21, 3, 25, 27, 15, 30, 28, 19, 29, 31, 0]) := by
  refine callE_def env (fn := Try.f39) rfl (by decide) rfl ?_
  apply choice_l
  show Eqv _ _
  exact eqv_part rfl (fun _ _ => rfl)
theorem rcode_c {n : Nat} (hn : n < 11) : callP Try.prog 24 [.int .u8 n] (· = .tuple [.int .u8 (codeV n), .int .i64 0]) := by
  refine callE_def env (fn := Try.f24) rfl (by decide) rfl ?_
  match n, hn with
  | 0, _ =>
    refine branch_f' (by decide) ?_
    refine callT_E rcodes_c rfl ?_
    repeat refine ndD ?_
    show Eqv _ _
    exact .up (.up (.refl _))
  | 1, _ =>
    refine branch_f' (by decide) ?_
    refine callT_E rcodes_c rfl ?_
    repeat refine ndD ?_
    show Eqv _ _
    exact .up (.up (.refl _))
  | 2, _ =>
    refine branch_f' (by decide) ?_
    refine callT_E rcodes_c rfl ?_
    repeat refine ndD ?_
    show Eqv _ _
    exact .up (.up (.refl _))
  | 3, _ =>
    refine branch_f' (by decide) ?_
    refine callT_E rcodes_c rfl ?_
    repeat refine ndD ?_
    show Eqv _ _
    exact .up (.up (.refl _))
  | 4, _ =>
    refine branch_f' (by decide) ?_
    refine callT_E rcodes_c rfl ?_
    repeat refine ndD ?_
    show Eqv _ _
    exact .up (.up (.refl _))
  | 5, _ =>
    refine branch_f' (by decide) ?_
    refine callT_E rcodes_c rfl ?_
    repeat refine ndD ?_
    show Eqv _ _
    exact .up (.up (.refl _))
  | 6, _ =>
    refine branch_f' (by decide) ?_
    refine callT_E rcodes_c rfl ?_
    repeat refine ndD ?_
    show Eqv _ _
    exact .up (.up (.refl _))
  | 7, _ =>
    refine branch_f' (by decide) ?_
    refine callT_E rcodes_c rfl ?_
    repeat refine ndD ?_
    show Eqv _ _
    exact .up (.up (.refl _))
  | 8, _ =>
    refine branch_f' (by decide) ?_
    refine callT_E rcodes_c rfl ?_
    repeat refine ndD ?_
    show Eqv _ _
    exact .up (.up (.refl _))
  | 9, _ =>
    refine branch_f' (by decide) ?_
    refine callT_E rcodes_c rfl ?_
    repeat refine ndD ?_
    show Eqv _ _
    exact .up (.up (.refl _))
  | 10, _ =>
    refine branch_f' (by decide) ?_
    refine callT_E rcodes_c rfl ?_
    repeat refine ndD ?_
    show Eqv _ _
    exact .up (.up (.refl _))
theorem rdigit_c (c : Int) : callP Try.prog 25 [.int .u8 c] (· = .tuple [.int .u8 (digV c), .int .i64 (digE c)]) := by
  refine callE_def env (fn := Try.f25) rfl (by decide) rfl ?_
  refine callT_E rcodes_c rfl ?_
  refine loop_weak (fun i : Nat => slots 21 [(0, .int .u8 c), (2, .int .u8 0), (3, .int .i64 0), (4, ints .u8 [21, 3, 25, 27, 15, 30, 28, 19, 29, 31, 0]), (5, .int .i64 i)])
    (fun _ => []) (fun i => i ≤ 11 ∧ ∀ j, j < i → codeV j ≠ c) (fun i => 11 - i) 0 ⟨Nat.zero_le _, fun j hj => by omega⟩ (weak_keep (keep 21 [0, 2, 3, 4, 5]) [] rfl rfl rfl) ?_
  intro i hi
  match i, hi with
  | 0, ⟨_, hno⟩ =>
    refine branch_true ?_
    repeat refine ndD ?_
    apply branch_intro <;> intro h
    · have hc : codeV 0 = c := of_decide_eq_true h
      subst hc
      show Eqv _ _
      exact .up (.up (.refl _))
    · have hc : codeV 0 ≠ c := of_decide_eq_false h
      refine ⟨1, ⟨by decide, fun j hj => ?_⟩, by decide, weak_keep (keep 21 [0, 2, 3, 4, 5]) [] rfl rfl rfl⟩
      by_cases hj2 : j < 0
      · exact hno j hj2
      · have : j = 0 := by omega
        subst this
        exact hc
  | 1, ⟨_, hno⟩ =>
    refine branch_true ?_
    repeat refine ndD ?_
    apply branch_intro <;> intro h
    · have hc : codeV 1 = c := of_decide_eq_true h
      subst hc
      show Eqv _ _
      exact .up (.up (.refl _))
    · have hc : codeV 1 ≠ c := of_decide_eq_false h
      refine ⟨2, ⟨by decide, fun j hj => ?_⟩, by decide, weak_keep (keep 21 [0, 2, 3, 4, 5]) [] rfl rfl rfl⟩
      by_cases hj2 : j < 1
      · exact hno j hj2
      · have : j = 1 := by omega
        subst this
        exact hc
  | 2, ⟨_, hno⟩ =>
    refine branch_true ?_
    repeat refine ndD ?_
    apply branch_intro <;> intro h
    · have hc : codeV 2 = c := of_decide_eq_true h
      subst hc
      show Eqv _ _
      exact .up (.up (.refl _))
    · have hc : codeV 2 ≠ c := of_decide_eq_false h
      refine ⟨3, ⟨by decide, fun j hj => ?_⟩, by decide, weak_keep (keep 21 [0, 2, 3, 4, 5]) [] rfl rfl rfl⟩
      by_cases hj2 : j < 2
      · exact hno j hj2
      · have : j = 2 := by omega
        subst this
        exact hc
  | 3, ⟨_, hno⟩ =>
    refine branch_true ?_
    repeat refine ndD ?_
    apply branch_intro <;> intro h
    · have hc : codeV 3 = c := of_decide_eq_true h
      subst hc
      show Eqv _ _
      exact .up (.up (.refl _))
    · have hc : codeV 3 ≠ c := of_decide_eq_false h
      refine ⟨4, ⟨by decide, fun j hj => ?_⟩, by decide, weak_keep (keep 21 [0, 2, 3, 4, 5]) [] rfl rfl rfl⟩
      by_cases hj2 : j < 3
      · exact hno j hj2
      · have : j = 3 := by omega
        subst this
        exact hc
  | 4, ⟨_, hno⟩ =>
    refine branch_true ?_
    repeat refine ndD ?_
    apply branch_intro <;> intro h
    · have hc : codeV 4 = c := of_decide_eq_true h
      subst hc
      show Eqv _ _
      exact .up (.up (.refl _))
    · have hc : codeV 4 ≠ c := of_decide_eq_false h
      refine ⟨5, ⟨by decide, fun j hj => ?_⟩, by decide, weak_keep (keep 21 [0, 2, 3, 4, 5]) [] rfl rfl rfl⟩
      by_cases hj2 : j < 4
      · exact hno j hj2
      · have : j = 4 := by omega
        subst this
        exact hc
  | 5, ⟨_, hno⟩ =>
    refine branch_true ?_
    repeat refine ndD ?_
    apply branch_intro <;> intro h
    · have hc : codeV 5 = c := of_decide_eq_true h
      subst hc
      show Eqv _ _
      exact .up (.up (.refl _))
    · have hc : codeV 5 ≠ c := of_decide_eq_false h
      refine ⟨6, ⟨by decide, fun j hj => ?_⟩, by decide, weak_keep (keep 21 [0, 2, 3, 4, 5]) [] rfl rfl rfl⟩
      by_cases hj2 : j < 5
      · exact hno j hj2
      · have : j = 5 := by omega
        subst this
        exact hc
  | 6, ⟨_, hno⟩ =>
    refine branch_true ?_
    repeat refine ndD ?_
    apply branch_intro <;> intro h
    · have hc : codeV 6 = c := of_decide_eq_true h
      subst hc
      show Eqv _ _
      exact .up (.up (.refl _))
    · have hc : codeV 6 ≠ c := of_decide_eq_false h
      refine ⟨7, ⟨by decide, fun j hj => ?_⟩, by decide, weak_keep (keep 21 [0, 2, 3, 4, 5]) [] rfl rfl rfl⟩
      by_cases hj2 : j < 6
      · exact hno j hj2
      · have : j = 6 := by omega
        subst this
        exact hc
  | 7, ⟨_, hno⟩ =>
    refine branch_true ?_
    repeat refine ndD ?_
    apply branch_intro <;> intro h
    · have hc : codeV 7 = c := of_decide_eq_true h
      subst hc
      show Eqv _ _
      exact .up (.up (.refl _))
    · have hc : codeV 7 ≠ c := of_decide_eq_false h
      refine ⟨8, ⟨by decide, fun j hj => ?_⟩, by decide, weak_keep (keep 21 [0, 2, 3, 4, 5]) [] rfl rfl rfl⟩
      by_cases hj2 : j < 7
      · exact hno j hj2
      · have : j = 7 := by omega
        subst this
        exact hc
  | 8, ⟨_, hno⟩ =>
    refine branch_true ?_
    repeat refine ndD ?_
    apply branch_intro <;> intro h
    · have hc : codeV 8 = c := of_decide_eq_true h
      subst hc
      show Eqv _ _
      exact .up (.up (.refl _))
    · have hc : codeV 8 ≠ c := of_decide_eq_false h
      refine ⟨9, ⟨by decide, fun j hj => ?_⟩, by decide, weak_keep (keep 21 [0, 2, 3, 4, 5]) [] rfl rfl rfl⟩
      by_cases hj2 : j < 8
      · exact hno j hj2
      · have : j = 8 := by omega
        subst this
        exact hc
  | 9, ⟨_, hno⟩ =>
    refine branch_true ?_
    repeat refine ndD ?_
    apply branch_intro <;> intro h
    · have hc : codeV 9 = c := of_decide_eq_true h
      subst hc
      show Eqv _ _
      exact .up (.up (.refl _))
    · have hc : codeV 9 ≠ c := of_decide_eq_false h
      refine ⟨10, ⟨by decide, fun j hj => ?_⟩, by decide, weak_keep (keep 21 [0, 2, 3, 4, 5]) [] rfl rfl rfl⟩
      by_cases hj2 : j < 9
      · exact hno j hj2
      · have : j = 9 := by omega
        subst this
        exact hc
  | 10, ⟨_, hno⟩ =>
    refine branch_true ?_
    repeat refine ndD ?_
    apply branch_intro <;> intro h
    · have hc : codeV 10 = c := of_decide_eq_true h
      subst hc
      show Eqv _ _
      exact .up (.up (.refl _))
    · have hc : codeV 10 ≠ c := of_decide_eq_false h
      refine ⟨11, ⟨by decide, fun j hj => ?_⟩, by decide, weak_keep (keep 21 [0, 2, 3, 4, 5]) [] rfl rfl rfl⟩
      by_cases hj2 : j < 10
      · exact hno j hj2
      · have : j = 10 := by omega
        subst this
        exact hc
  | 11, ⟨_, hno⟩ =>
    refine branch_false ?_
    show Eqv _ _
    refine eqv_of_eq ?_
    unfold digV digE
    rw [digN_none hno]
    rfl
def stepP (d : Nat → Int) (n : Nat) : Prop := match n with
  | 1 => d 0 < 11 ∧ d 2 < 11 ∧ d 4 < 11
  | 2 => d 1 < 11 ∧ d 3 < 11 ∧ d 5 < 11
  | 3 => d 6 < 3
  | 4 => d 7 < 11
  | 5 => d 8 < 11
  | 6 => d 9 < 11
  | 7 => d 10 < 11
  | 8 => d 11 < 11
  | 9 => d 12 < 3
  | 10 => d 13 < 11
  | 11 => d 14 < 11
  | 12 => d 15 < 11
  | 13 => d 16 < 11
  | 14 => d 17 < 11
  | 15 => d 18 < 3
  | 16 => d 19 < 11
  | 17 => d 20 < 11
  | 18 => d 21 < 11
  | 19 => d 22 < 11
  | 20 => d 23 < 11
  | _ => True
def okS (d : Nat → Int) : Nat → Prop
  | 0 => True
  | n + 1 => okS d n ∧ stepP d (n + 1)
theorem may_lim {d : Nat → Int} (h : mayB d = true) : ∀ j, j < 26 → d j < lim j := by
  obtain ⟨h1, h24, h25⟩ := may_parts h
  have h0 := h1 0 (by decide); have h2 := h1 1 (by decide); have h3 := h1 2 (by decide); have h4 := h1 3 (by decide); have h5 := h1 4 (by decide); have h6 := h1 5 (by decide)
  have h7 := h1 6 (by decide); have h8 := h1 7 (by decide); have h9 := h1 8 (by decide); have h10 := h1 9 (by decide); have h11 := h1 10 (by decide)
  simp only [okB, Bool.and_eq_true, decide_eq_true_eq] at h0 h2 h3 h4 h5 h6 h7 h8 h9 h10 h11
  intro j hj
  have hj' : j = 0 ∨ j = 1 ∨ j = 2 ∨ j = 3 ∨ j = 4 ∨ j = 5 ∨ j = 6 ∨ j = 7 ∨ j = 8 ∨ j = 9 ∨ j = 10 ∨ j = 11 ∨ j = 12 ∨ j = 13 ∨ j = 14 ∨ j = 15 ∨ j = 16 ∨ j = 17 ∨ j = 18 ∨ j = 19 ∨ j = 20 ∨ j = 21 ∨ j = 22 ∨ j = 23 ∨ j = 24 ∨ j = 25 := by omega
  rcases hj' with rfl | rfl | rfl | rfl | rfl | rfl | rfl | rfl | rfl | rfl | rfl | rfl | rfl | rfl | rfl | rfl | rfl | rfl | rfl | rfl | rfl | rfl | rfl | rfl | rfl | rfl <;> simp only [lim] <;> omega
theorem good_of {d : Nat → Int} (hd : WD d) (h : mayB d = true) : Good d := fun j hj => ⟨by
  by_cases h : j < 24
  · exact (hd.1 j h).1
  by_cases h4 : j = 24
  · subst h4; exact hd.2.1.1
  · have : j = 25 := by omega
    subst this; exact hd.2.2.1, may_lim h j hj⟩
theorem may_no {d : Nat → Int} {j : Nat} (hj : j < 26) (h : ¬ d j < lim j) : mayB d = false := by
  cases hm : mayB d with
  | false => rfl
  | true => exact absurd (may_lim hm j hj) h
theorem may_all {d : Nat → Int} (h : okS d 20) : mayB d = (decide (d 24 < 2048) && decide (d 25 < 2048)) := by
  simp only [okS, stepP] at h
  have ha : allB d 11 = true := allB_of fun k hk => by
    have hk' : k = 0 ∨ k = 1 ∨ k = 2 ∨ k = 3 ∨ k = 4 ∨ k = 5 ∨ k = 6 ∨ k = 7 ∨ k = 8 ∨ k = 9 ∨ k = 10 := by omega
    rcases hk' with rfl | rfl | rfl | rfl | rfl | rfl | rfl | rfl | rfl | rfl | rfl <;> simp [okB] <;> omega
  unfold mayB
  rw [ha, Bool.true_and]
set_option maxHeartbeats 4000000 in
theorem rmay_c {d : Nat → Int} : callP Try.prog 26 [dispA d] (· = .bool (mayB d)) := by
  refine callE_def env (fn := Try.f26) rfl (by decide) rfl ?_
  refine loop_weak (fun i : Nat => slots 59 [(1, .ptr ⟨0, 0, 0⟩), (2, .bool false), (3, .int .i64 i)])
    (fun i => [.cells (dcells d)]) (fun i => i ≤ 2 ∧ okS d i) (fun i => 2 - i) 0 ⟨Nat.zero_le _, trivial⟩ (weak_keep (keep 59 [1, 2, 3]) [0] rfl rfl rfl) ?_
  intro i hi
  match i, hi with
  | 0, ⟨_, hno⟩ =>
    refine branch_true ?_
    repeat refine ndD ?_
    apply branch_intro <;> intro h0 <;> simp at h0
    · repeat refine stb ?_
      show Eqv _ _
      rw [may_no (j := 0) (by decide) (by simp only [lim]; omega)]
      show Eqv _ _
      exact .up (.up (.refl _))
    repeat refine stb ?_
    repeat refine ndD ?_
    repeat refine stb ?_
    repeat refine ndD ?_
    repeat refine stb ?_
    apply branch_intro <;> intro h1 <;> simp at h1
    · repeat refine stb ?_
      show Eqv _ _
      rw [may_no (j := 2) (by decide) (by simp only [lim]; omega)]
      show Eqv _ _
      exact .up (.up (.refl _))
    repeat refine stb ?_
    repeat refine ndD ?_
    repeat refine stb ?_
    repeat refine ndD ?_
    repeat refine stb ?_
    apply branch_intro <;> intro h2 <;> simp at h2
    · repeat refine stb ?_
      show Eqv _ _
      rw [may_no (j := 4) (by decide) (by simp only [lim]; omega)]
      show Eqv _ _
      exact .up (.up (.refl _))
    repeat refine stb ?_
    repeat refine ndD ?_
    repeat refine stb ?_
    repeat refine ndD ?_
    repeat refine stb ?_
    exact ⟨1, ⟨by decide, hno, by simp only [stepP]; omega⟩, by decide, weak_keep (keep 59 [1, 2, 3]) [0] rfl rfl rfl⟩
  | 1, ⟨_, hno⟩ =>
    refine branch_true ?_
    repeat refine ndD ?_
    apply branch_intro <;> intro h0 <;> simp at h0
    · repeat refine stb ?_
      show Eqv _ _
      rw [may_no (j := 1) (by decide) (by simp only [lim]; omega)]
      show Eqv _ _
      exact .up (.up (.refl _))
    repeat refine stb ?_
    repeat refine ndD ?_
    repeat refine stb ?_
    repeat refine ndD ?_
    repeat refine stb ?_
    apply branch_intro <;> intro h1 <;> simp at h1
    · repeat refine stb ?_
      show Eqv _ _
      rw [may_no (j := 3) (by decide) (by simp only [lim]; omega)]
      show Eqv _ _
      exact .up (.up (.refl _))
    repeat refine stb ?_
    repeat refine ndD ?_
    repeat refine stb ?_
    repeat refine ndD ?_
    repeat refine stb ?_
    apply branch_intro <;> intro h2 <;> simp at h2
    · repeat refine stb ?_
      show Eqv _ _
      rw [may_no (j := 5) (by decide) (by simp only [lim]; omega)]
      show Eqv _ _
      exact .up (.up (.refl _))
    repeat refine stb ?_
    repeat refine ndD ?_
    repeat refine stb ?_
    repeat refine ndD ?_
    repeat refine stb ?_
    exact ⟨2, ⟨by decide, hno, by simp only [stepP]; omega⟩, by decide, weak_keep (keep 59 [1, 2, 3]) [0] rfl rfl rfl⟩
  | 2, ⟨_, hno⟩ =>
    refine branch_false ?_
    refine loop_weak (fun i : Nat => slots 59 [(1, .ptr ⟨0, 0, 0⟩), (2, .bool false), (4, .int .i64 i)])
      (fun i => [.cells (dcells d)]) (fun i => i ≤ 3 ∧ okS d (2 + 6 * i)) (fun i => 3 - i) 0 ⟨Nat.zero_le _, hno⟩ (weak_keep (keep 59 [1, 2, 4]) [0] rfl rfl rfl) ?_
    intro i hi
    match i, hi with
    | 0, ⟨_, hno⟩ =>
      refine branch_true ?_
      repeat refine ndD ?_
      apply branch_intro <;> intro h <;> simp at h
      · repeat refine stb ?_
        show Eqv _ _
        rw [may_no (j := 6) (by decide) (by simp only [lim]; omega)]
        show Eqv _ _
        exact .up (.up (.refl _))
      repeat refine stb ?_
      refine loop_weak (fun k : Nat => slots 59 [(1, .ptr ⟨0, 0, 0⟩), (2, .bool false), (4, .int .i64 0), (5, .int .i64 k)])
        (fun k => [.cells (dcells d)]) (fun k => k ≤ 5 ∧ okS d (3 + k)) (fun k => 5 - k) 0 ⟨Nat.zero_le _, hno, by simp only [stepP]; omega⟩ (weak_keep (keep 59 [1, 2, 4, 5]) [0] rfl rfl rfl) ?_
      intro k hk
      match k, hk with
      | 0, ⟨_, hk⟩ =>
        refine branch_true ?_
        repeat refine ndD ?_
        apply branch_intro <;> intro h2 <;> simp at h2
        · repeat refine stb ?_
          show Eqv _ _
          rw [may_no (j := 7) (by decide) (by simp only [lim]; omega)]
          show Eqv _ _
          exact .up (.up (.refl _))
        repeat refine stb ?_
        exact ⟨1, ⟨by decide, hk, by simp only [stepP]; omega⟩, by decide, weak_keep (keep 59 [1, 2, 4, 5]) [0] rfl rfl rfl⟩
      | 1, ⟨_, hk⟩ =>
        refine branch_true ?_
        repeat refine ndD ?_
        apply branch_intro <;> intro h2 <;> simp at h2
        · repeat refine stb ?_
          show Eqv _ _
          rw [may_no (j := 8) (by decide) (by simp only [lim]; omega)]
          show Eqv _ _
          exact .up (.up (.refl _))
        repeat refine stb ?_
        exact ⟨2, ⟨by decide, hk, by simp only [stepP]; omega⟩, by decide, weak_keep (keep 59 [1, 2, 4, 5]) [0] rfl rfl rfl⟩
      | 2, ⟨_, hk⟩ =>
        refine branch_true ?_
        repeat refine ndD ?_
        apply branch_intro <;> intro h2 <;> simp at h2
        · repeat refine stb ?_
          show Eqv _ _
          rw [may_no (j := 9) (by decide) (by simp only [lim]; omega)]
          show Eqv _ _
          exact .up (.up (.refl _))
        repeat refine stb ?_
        exact ⟨3, ⟨by decide, hk, by simp only [stepP]; omega⟩, by decide, weak_keep (keep 59 [1, 2, 4, 5]) [0] rfl rfl rfl⟩
      | 3, ⟨_, hk⟩ =>
        refine branch_true ?_
        repeat refine ndD ?_
        apply branch_intro <;> intro h2 <;> simp at h2
        · repeat refine stb ?_
          show Eqv _ _
          rw [may_no (j := 10) (by decide) (by simp only [lim]; omega)]
          show Eqv _ _
          exact .up (.up (.refl _))
        repeat refine stb ?_
        exact ⟨4, ⟨by decide, hk, by simp only [stepP]; omega⟩, by decide, weak_keep (keep 59 [1, 2, 4, 5]) [0] rfl rfl rfl⟩
      | 4, ⟨_, hk⟩ =>
        refine branch_true ?_
        repeat refine ndD ?_
        apply branch_intro <;> intro h2 <;> simp at h2
        · repeat refine stb ?_
          show Eqv _ _
          rw [may_no (j := 11) (by decide) (by simp only [lim]; omega)]
          show Eqv _ _
          exact .up (.up (.refl _))
        repeat refine stb ?_
        exact ⟨5, ⟨by decide, hk, by simp only [stepP]; omega⟩, by decide, weak_keep (keep 59 [1, 2, 4, 5]) [0] rfl rfl rfl⟩
      | 5, ⟨_, hk⟩ =>
        refine branch_false ?_
        exact ⟨1, ⟨by decide, hk⟩, by decide, weak_keep (keep 59 [1, 2, 4]) [0] rfl rfl rfl⟩
    | 1, ⟨_, hno⟩ =>
      refine branch_true ?_
      repeat refine ndD ?_
      apply branch_intro <;> intro h <;> simp at h
      · repeat refine stb ?_
        show Eqv _ _
        rw [may_no (j := 12) (by decide) (by simp only [lim]; omega)]
        show Eqv _ _
        exact .up (.up (.refl _))
      repeat refine stb ?_
      refine loop_weak (fun k : Nat => slots 59 [(1, .ptr ⟨0, 0, 0⟩), (2, .bool false), (4, .int .i64 1), (5, .int .i64 k)])
        (fun k => [.cells (dcells d)]) (fun k => k ≤ 5 ∧ okS d (9 + k)) (fun k => 5 - k) 0 ⟨Nat.zero_le _, hno, by simp only [stepP]; omega⟩ (weak_keep (keep 59 [1, 2, 4, 5]) [0] rfl rfl rfl) ?_
      intro k hk
      match k, hk with
      | 0, ⟨_, hk⟩ =>
        refine branch_true ?_
        repeat refine ndD ?_
        apply branch_intro <;> intro h2 <;> simp at h2
        · repeat refine stb ?_
          show Eqv _ _
          rw [may_no (j := 13) (by decide) (by simp only [lim]; omega)]
          show Eqv _ _
          exact .up (.up (.refl _))
        repeat refine stb ?_
        exact ⟨1, ⟨by decide, hk, by simp only [stepP]; omega⟩, by decide, weak_keep (keep 59 [1, 2, 4, 5]) [0] rfl rfl rfl⟩
      | 1, ⟨_, hk⟩ =>
        refine branch_true ?_
        repeat refine ndD ?_
        apply branch_intro <;> intro h2 <;> simp at h2
        · repeat refine stb ?_
          show Eqv _ _
          rw [may_no (j := 14) (by decide) (by simp only [lim]; omega)]
          show Eqv _ _
          exact .up (.up (.refl _))
        repeat refine stb ?_
        exact ⟨2, ⟨by decide, hk, by simp only [stepP]; omega⟩, by decide, weak_keep (keep 59 [1, 2, 4, 5]) [0] rfl rfl rfl⟩
      | 2, ⟨_, hk⟩ =>
        refine branch_true ?_
        repeat refine ndD ?_
        apply branch_intro <;> intro h2 <;> simp at h2
        · repeat refine stb ?_
          show Eqv _ _
          rw [may_no (j := 15) (by decide) (by simp only [lim]; omega)]
          show Eqv _ _
          exact .up (.up (.refl _))
        repeat refine stb ?_
        exact ⟨3, ⟨by decide, hk, by simp only [stepP]; omega⟩, by decide, weak_keep (keep 59 [1, 2, 4, 5]) [0] rfl rfl rfl⟩
      | 3, ⟨_, hk⟩ =>
        refine branch_true ?_
        repeat refine ndD ?_
        apply branch_intro <;> intro h2 <;> simp at h2
        · repeat refine stb ?_
          show Eqv _ _
          rw [may_no (j := 16) (by decide) (by simp only [lim]; omega)]
          show Eqv _ _
          exact .up (.up (.refl _))
        repeat refine stb ?_
        exact ⟨4, ⟨by decide, hk, by simp only [stepP]; omega⟩, by decide, weak_keep (keep 59 [1, 2, 4, 5]) [0] rfl rfl rfl⟩
      | 4, ⟨_, hk⟩ =>
        refine branch_true ?_
        repeat refine ndD ?_
        apply branch_intro <;> intro h2 <;> simp at h2
        · repeat refine stb ?_
          show Eqv _ _
          rw [may_no (j := 17) (by decide) (by simp only [lim]; omega)]
          show Eqv _ _
          exact .up (.up (.refl _))
        repeat refine stb ?_
        exact ⟨5, ⟨by decide, hk, by simp only [stepP]; omega⟩, by decide, weak_keep (keep 59 [1, 2, 4, 5]) [0] rfl rfl rfl⟩
      | 5, ⟨_, hk⟩ =>
        refine branch_false ?_
        exact ⟨2, ⟨by decide, hk⟩, by decide, weak_keep (keep 59 [1, 2, 4]) [0] rfl rfl rfl⟩
    | 2, ⟨_, hno⟩ =>
      refine branch_true ?_
      repeat refine ndD ?_
      apply branch_intro <;> intro h <;> simp at h
      · repeat refine stb ?_
        show Eqv _ _
        rw [may_no (j := 18) (by decide) (by simp only [lim]; omega)]
        show Eqv _ _
        exact .up (.up (.refl _))
      repeat refine stb ?_
      refine loop_weak (fun k : Nat => slots 59 [(1, .ptr ⟨0, 0, 0⟩), (2, .bool false), (4, .int .i64 2), (5, .int .i64 k)])
        (fun k => [.cells (dcells d)]) (fun k => k ≤ 5 ∧ okS d (15 + k)) (fun k => 5 - k) 0 ⟨Nat.zero_le _, hno, by simp only [stepP]; omega⟩ (weak_keep (keep 59 [1, 2, 4, 5]) [0] rfl rfl rfl) ?_
      intro k hk
      match k, hk with
      | 0, ⟨_, hk⟩ =>
        refine branch_true ?_
        repeat refine ndD ?_
        apply branch_intro <;> intro h2 <;> simp at h2
        · repeat refine stb ?_
          show Eqv _ _
          rw [may_no (j := 19) (by decide) (by simp only [lim]; omega)]
          show Eqv _ _
          exact .up (.up (.refl _))
        repeat refine stb ?_
        exact ⟨1, ⟨by decide, hk, by simp only [stepP]; omega⟩, by decide, weak_keep (keep 59 [1, 2, 4, 5]) [0] rfl rfl rfl⟩
      | 1, ⟨_, hk⟩ =>
        refine branch_true ?_
        repeat refine ndD ?_
        apply branch_intro <;> intro h2 <;> simp at h2
        · repeat refine stb ?_
          show Eqv _ _
          rw [may_no (j := 20) (by decide) (by simp only [lim]; omega)]
          show Eqv _ _
          exact .up (.up (.refl _))
        repeat refine stb ?_
        exact ⟨2, ⟨by decide, hk, by simp only [stepP]; omega⟩, by decide, weak_keep (keep 59 [1, 2, 4, 5]) [0] rfl rfl rfl⟩
      | 2, ⟨_, hk⟩ =>
        refine branch_true ?_
        repeat refine ndD ?_
        apply branch_intro <;> intro h2 <;> simp at h2
        · repeat refine stb ?_
          show Eqv _ _
          rw [may_no (j := 21) (by decide) (by simp only [lim]; omega)]
          show Eqv _ _
          exact .up (.up (.refl _))
        repeat refine stb ?_
        exact ⟨3, ⟨by decide, hk, by simp only [stepP]; omega⟩, by decide, weak_keep (keep 59 [1, 2, 4, 5]) [0] rfl rfl rfl⟩
      | 3, ⟨_, hk⟩ =>
        refine branch_true ?_
        repeat refine ndD ?_
        apply branch_intro <;> intro h2 <;> simp at h2
        · repeat refine stb ?_
          show Eqv _ _
          rw [may_no (j := 22) (by decide) (by simp only [lim]; omega)]
          show Eqv _ _
          exact .up (.up (.refl _))
        repeat refine stb ?_
        exact ⟨4, ⟨by decide, hk, by simp only [stepP]; omega⟩, by decide, weak_keep (keep 59 [1, 2, 4, 5]) [0] rfl rfl rfl⟩
      | 4, ⟨_, hk⟩ =>
        refine branch_true ?_
        repeat refine ndD ?_
        apply branch_intro <;> intro h2 <;> simp at h2
        · repeat refine stb ?_
          show Eqv _ _
          rw [may_no (j := 23) (by decide) (by simp only [lim]; omega)]
          show Eqv _ _
          exact .up (.up (.refl _))
        repeat refine stb ?_
        exact ⟨5, ⟨by decide, hk, by simp only [stepP]; omega⟩, by decide, weak_keep (keep 59 [1, 2, 4, 5]) [0] rfl rfl rfl⟩
      | 5, ⟨_, hk⟩ =>
        refine branch_false ?_
        exact ⟨3, ⟨by decide, hk⟩, by decide, weak_keep (keep 59 [1, 2, 4]) [0] rfl rfl rfl⟩
    | 3, ⟨_, hno⟩ =>
      refine branch_false ?_
      have hm := may_all hno
      apply branch_intro <;> intro h
      · repeat refine stb ?_
        show Eqv _ _
        rw [hm, h, Bool.true_and]
        show Eqv _ _
        exact .up (.up (.refl _))
      · repeat refine stb ?_
        show Eqv _ _
        rw [hm, h]
        show Eqv _ _
        exact .up (.up (.refl _))
def clR (n j : Nat) : Int := match j with
  | 6 => 0 | 12 => 0 | 18 => 0 | 24 => 0 | 25 => 0
  | j => match Nat.ble (stg j) n with | true => 10 | false => 0
set_option maxHeartbeats 4000000 in
theorem rclear_c : callP Try.prog 28 [] (· = dispA blankD) := by
  refine callE_def env (fn := Try.f28) rfl (by decide) rfl ?_
  refine loop_weak (fun i : Nat => slots 33 [(0, .ptr ⟨0, 0, 0⟩), (1, .ptr ⟨1, 0, 0⟩), (2, .int .i64 i)])
    (fun i => [.cells (dcells fun _ => 0), .cells (dcells (clR i))]) (fun i => i ≤ 2) (fun i => 2 - i) 0 (Nat.zero_le _) (weak_keep (keep 33 [0, 1, 2]) [0, 1] rfl rfl rfl) ?_
  intro i hi
  match i, hi with
  | 0, _ =>
    refine branch_true ?_
    repeat refine ndD ?_
    exact ⟨1, by decide, by decide, weak_keep (keep 33 [0, 1, 2]) [0, 1] rfl rfl rfl⟩
  | 1, _ =>
    refine branch_true ?_
    repeat refine ndD ?_
    exact ⟨2, by decide, by decide, weak_keep (keep 33 [0, 1, 2]) [0, 1] rfl rfl rfl⟩
  | 2, _ =>
    refine branch_false ?_
    refine loop_weak (fun i : Nat => slots 33 [(0, .ptr ⟨0, 0, 0⟩), (1, .ptr ⟨1, 0, 0⟩), (3, .int .i64 i)])
      (fun i => [.cells (dcells fun _ => 0), .cells (dcells (clR (2 + 6 * i)))]) (fun i => i ≤ 3) (fun i => 3 - i) 0 (Nat.zero_le _) (weak_keep (keep 33 [0, 1, 3]) [0, 1] rfl rfl rfl) ?_
    intro i hi
    match i, hi with
    | 0, _ =>
      refine branch_true ?_
      refine loop_weak (fun k : Nat => slots 33 [(0, .ptr ⟨0, 0, 0⟩), (1, .ptr ⟨1, 0, 0⟩), (3, .int .i64 0), (4, .int .i64 k)])
        (fun k => [.cells (dcells fun _ => 0), .cells (dcells (clR (3 + k)))]) (fun k => k ≤ 5) (fun k => 5 - k) 0 (Nat.zero_le _) (weak_keep (keep 33 [0, 1, 3, 4]) [0, 1] rfl rfl rfl) ?_
      intro k hk
      match k, hk with
      | 0, _ =>
        refine branch_true ?_
        repeat refine ndD ?_
        exact ⟨1, by decide, by decide, weak_keep (keep 33 [0, 1, 3, 4]) [0, 1] rfl rfl rfl⟩
      | 1, _ =>
        refine branch_true ?_
        repeat refine ndD ?_
        exact ⟨2, by decide, by decide, weak_keep (keep 33 [0, 1, 3, 4]) [0, 1] rfl rfl rfl⟩
      | 2, _ =>
        refine branch_true ?_
        repeat refine ndD ?_
        exact ⟨3, by decide, by decide, weak_keep (keep 33 [0, 1, 3, 4]) [0, 1] rfl rfl rfl⟩
      | 3, _ =>
        refine branch_true ?_
        repeat refine ndD ?_
        exact ⟨4, by decide, by decide, weak_keep (keep 33 [0, 1, 3, 4]) [0, 1] rfl rfl rfl⟩
      | 4, _ =>
        refine branch_true ?_
        repeat refine ndD ?_
        exact ⟨5, by decide, by decide, weak_keep (keep 33 [0, 1, 3, 4]) [0, 1] rfl rfl rfl⟩
      | 5, _ =>
        refine branch_false ?_
        exact ⟨1, by decide, by decide, weak_keep (keep 33 [0, 1, 3]) [0, 1] rfl rfl rfl⟩
    | 1, _ =>
      refine branch_true ?_
      refine loop_weak (fun k : Nat => slots 33 [(0, .ptr ⟨0, 0, 0⟩), (1, .ptr ⟨1, 0, 0⟩), (3, .int .i64 1), (4, .int .i64 k)])
        (fun k => [.cells (dcells fun _ => 0), .cells (dcells (clR (9 + k)))]) (fun k => k ≤ 5) (fun k => 5 - k) 0 (Nat.zero_le _) (weak_keep (keep 33 [0, 1, 3, 4]) [0, 1] rfl rfl rfl) ?_
      intro k hk
      match k, hk with
      | 0, _ =>
        refine branch_true ?_
        repeat refine ndD ?_
        exact ⟨1, by decide, by decide, weak_keep (keep 33 [0, 1, 3, 4]) [0, 1] rfl rfl rfl⟩
      | 1, _ =>
        refine branch_true ?_
        repeat refine ndD ?_
        exact ⟨2, by decide, by decide, weak_keep (keep 33 [0, 1, 3, 4]) [0, 1] rfl rfl rfl⟩
      | 2, _ =>
        refine branch_true ?_
        repeat refine ndD ?_
        exact ⟨3, by decide, by decide, weak_keep (keep 33 [0, 1, 3, 4]) [0, 1] rfl rfl rfl⟩
      | 3, _ =>
        refine branch_true ?_
        repeat refine ndD ?_
        exact ⟨4, by decide, by decide, weak_keep (keep 33 [0, 1, 3, 4]) [0, 1] rfl rfl rfl⟩
      | 4, _ =>
        refine branch_true ?_
        repeat refine ndD ?_
        exact ⟨5, by decide, by decide, weak_keep (keep 33 [0, 1, 3, 4]) [0, 1] rfl rfl rfl⟩
      | 5, _ =>
        refine branch_false ?_
        exact ⟨2, by decide, by decide, weak_keep (keep 33 [0, 1, 3]) [0, 1] rfl rfl rfl⟩
    | 2, _ =>
      refine branch_true ?_
      refine loop_weak (fun k : Nat => slots 33 [(0, .ptr ⟨0, 0, 0⟩), (1, .ptr ⟨1, 0, 0⟩), (3, .int .i64 2), (4, .int .i64 k)])
        (fun k => [.cells (dcells fun _ => 0), .cells (dcells (clR (15 + k)))]) (fun k => k ≤ 5) (fun k => 5 - k) 0 (Nat.zero_le _) (weak_keep (keep 33 [0, 1, 3, 4]) [0, 1] rfl rfl rfl) ?_
      intro k hk
      match k, hk with
      | 0, _ =>
        refine branch_true ?_
        repeat refine ndD ?_
        exact ⟨1, by decide, by decide, weak_keep (keep 33 [0, 1, 3, 4]) [0, 1] rfl rfl rfl⟩
      | 1, _ =>
        refine branch_true ?_
        repeat refine ndD ?_
        exact ⟨2, by decide, by decide, weak_keep (keep 33 [0, 1, 3, 4]) [0, 1] rfl rfl rfl⟩
      | 2, _ =>
        refine branch_true ?_
        repeat refine ndD ?_
        exact ⟨3, by decide, by decide, weak_keep (keep 33 [0, 1, 3, 4]) [0, 1] rfl rfl rfl⟩
      | 3, _ =>
        refine branch_true ?_
        repeat refine ndD ?_
        exact ⟨4, by decide, by decide, weak_keep (keep 33 [0, 1, 3, 4]) [0, 1] rfl rfl rfl⟩
      | 4, _ =>
        refine branch_true ?_
        repeat refine ndD ?_
        exact ⟨5, by decide, by decide, weak_keep (keep 33 [0, 1, 3, 4]) [0, 1] rfl rfl rfl⟩
      | 5, _ =>
        refine branch_false ?_
        exact ⟨3, by decide, by decide, weak_keep (keep 33 [0, 1, 3]) [0, 1] rfl rfl rfl⟩
    | 3, _ =>
      refine branch_false ?_
      show Eqv _ _
      exact .up (.up (.refl _))
end Go.Proofs
/-! Bb. -/
namespace Go.Proofs
open Go.E
set_option maxRecDepth 8000

theorem rdig1 {d : Nat → Int} : callP Try.prog 40 [dispA d, .int .i64 1] (· = .tuple [.int .u8 (d 22), .int .u8 (d 23)]) := by
  refine callE_def env (fn := Try.f40) rfl (by decide) rfl ?_
  repeat refine stk ?_
  refine draw_tree (picks [0, 1, 2, 3, 4, 5, 6, 7, 8, 9, 10, 11] .done) (by decide +kernel) ?_
  repeat refine ndD ?_
  show Eqv _ _
  exact .up (.up (.refl _))
theorem rhalf1 : callP Try.prog 37 [.int .i64 1] (· = .tuple [.int .i64 (2), .int .u8 2]) := by
  refine callE_def env (fn := Try.f37) rfl (by decide) rfl ?_
  repeat refine stk ?_
  show Eqv _ _
  exact .up (.up (.refl _))
theorem rput1 {d : Nat → Int} {x y : Int} : callP Try.prog 38 [dispA d, .int .i64 1, .int .u8 x, .int .u8 y] (· = dispA (upd (upd d 22 x) 23 y)) := by
  refine callE_def env (fn := Try.f38) rfl (by decide) rfl ?_
  repeat refine stk ?_
  repeat refine ndD ?_
  show Eqv _ _
  exact .up (.up (.refl _))
theorem rdig2 {d : Nat → Int} : callP Try.prog 40 [dispA d, .int .i64 2] (· = .tuple [.int .u8 (d 20), .int .u8 (d 21)]) := by
  refine callE_def env (fn := Try.f40) rfl (by decide) rfl ?_
  repeat refine stk ?_
  refine draw_tree (picks [0, 1, 2, 3, 4, 5, 6, 7, 8, 9, 10, 11] .done) (by decide +kernel) ?_
  repeat refine ndD ?_
  show Eqv _ _
  exact .up (.up (.refl _))
theorem rhalf2 : callP Try.prog 37 [.int .i64 2] (· = .tuple [.int .i64 (2), .int .u8 1]) := by
  refine callE_def env (fn := Try.f37) rfl (by decide) rfl ?_
  repeat refine stk ?_
  show Eqv _ _
  exact .up (.up (.refl _))
theorem rput2 {d : Nat → Int} {x y : Int} : callP Try.prog 38 [dispA d, .int .i64 2, .int .u8 x, .int .u8 y] (· = dispA (upd (upd d 20 x) 21 y)) := by
  refine callE_def env (fn := Try.f38) rfl (by decide) rfl ?_
  repeat refine stk ?_
  repeat refine ndD ?_
  show Eqv _ _
  exact .up (.up (.refl _))
theorem rdig3 {d : Nat → Int} : callP Try.prog 40 [dispA d, .int .i64 3] (· = .tuple [.int .u8 (d 17), .int .u8 (d 19)]) := by
  refine callE_def env (fn := Try.f40) rfl (by decide) rfl ?_
  repeat refine stk ?_
  refine draw_tree (picks [0, 1, 2, 3, 4, 5, 6, 7, 8, 9, 10, 11] .done) (by decide +kernel) ?_
  repeat refine ndD ?_
  show Eqv _ _
  exact .up (.up (.refl _))
theorem rhalf3 : callP Try.prog 37 [.int .i64 3] (· = .tuple [.int .i64 (-1), .int .u8 0]) := by
  refine callE_def env (fn := Try.f37) rfl (by decide) rfl ?_
  repeat refine stk ?_
  show Eqv _ _
  exact .up (.up (.refl _))
theorem rput3 {d : Nat → Int} {x y : Int} : callP Try.prog 38 [dispA d, .int .i64 3, .int .u8 x, .int .u8 y] (· = dispA (upd (upd d 17 x) 19 y)) := by
  refine callE_def env (fn := Try.f38) rfl (by decide) rfl ?_
  repeat refine stk ?_
  repeat refine ndD ?_
  show Eqv _ _
  exact .up (.up (.refl _))
theorem rdig4 {d : Nat → Int} : callP Try.prog 40 [dispA d, .int .i64 4] (· = .tuple [.int .u8 (d 15), .int .u8 (d 16)]) := by
  refine callE_def env (fn := Try.f40) rfl (by decide) rfl ?_
  repeat refine stk ?_
  refine draw_tree (picks [0, 1, 2, 3, 4, 5, 6, 7, 8, 9, 10, 11] .done) (by decide +kernel) ?_
  repeat refine ndD ?_
  show Eqv _ _
  exact .up (.up (.refl _))
theorem rhalf4 : callP Try.prog 37 [.int .i64 4] (· = .tuple [.int .i64 (1), .int .u8 2]) := by
  refine callE_def env (fn := Try.f37) rfl (by decide) rfl ?_
  repeat refine stk ?_
  show Eqv _ _
  exact .up (.up (.refl _))
theorem rput4 {d : Nat → Int} {x y : Int} : callP Try.prog 38 [dispA d, .int .i64 4, .int .u8 x, .int .u8 y] (· = dispA (upd (upd d 15 x) 16 y)) := by
  refine callE_def env (fn := Try.f38) rfl (by decide) rfl ?_
  repeat refine stk ?_
  repeat refine ndD ?_
  show Eqv _ _
  exact .up (.up (.refl _))
theorem rdig5 {d : Nat → Int} : callP Try.prog 40 [dispA d, .int .i64 5] (· = .tuple [.int .u8 (d 13), .int .u8 (d 14)]) := by
  refine callE_def env (fn := Try.f40) rfl (by decide) rfl ?_
  repeat refine stk ?_
  refine draw_tree (picks [0, 1, 2, 3, 4, 5, 6, 7, 8, 9, 10, 11] .done) (by decide +kernel) ?_
  repeat refine ndD ?_
  show Eqv _ _
  exact .up (.up (.refl _))
theorem rhalf5 : callP Try.prog 37 [.int .i64 5] (· = .tuple [.int .i64 (1), .int .u8 1]) := by
  refine callE_def env (fn := Try.f37) rfl (by decide) rfl ?_
  repeat refine stk ?_
  show Eqv _ _
  exact .up (.up (.refl _))
theorem rput5 {d : Nat → Int} {x y : Int} : callP Try.prog 38 [dispA d, .int .i64 5, .int .u8 x, .int .u8 y] (· = dispA (upd (upd d 13 x) 14 y)) := by
  refine callE_def env (fn := Try.f38) rfl (by decide) rfl ?_
  repeat refine stk ?_
  repeat refine ndD ?_
  show Eqv _ _
  exact .up (.up (.refl _))
theorem rdig6 {d : Nat → Int} : callP Try.prog 40 [dispA d, .int .i64 6] (· = .tuple [.int .u8 (d 10), .int .u8 (d 11)]) := by
  refine callE_def env (fn := Try.f40) rfl (by decide) rfl ?_
  repeat refine stk ?_
  refine draw_tree (picks [0, 1, 2, 3, 4, 5, 6, 7, 8, 9, 10, 11] .done) (by decide +kernel) ?_
  repeat refine ndD ?_
  show Eqv _ _
  exact .up (.up (.refl _))
theorem rhalf6 : callP Try.prog 37 [.int .i64 6] (· = .tuple [.int .i64 (0), .int .u8 2]) := by
  refine callE_def env (fn := Try.f37) rfl (by decide) rfl ?_
  repeat refine stk ?_
  show Eqv _ _
  exact .up (.up (.refl _))
theorem rput6 {d : Nat → Int} {x y : Int} : callP Try.prog 38 [dispA d, .int .i64 6, .int .u8 x, .int .u8 y] (· = dispA (upd (upd d 10 x) 11 y)) := by
  refine callE_def env (fn := Try.f38) rfl (by decide) rfl ?_
  repeat refine stk ?_
  repeat refine ndD ?_
  show Eqv _ _
  exact .up (.up (.refl _))
theorem rdig7 {d : Nat → Int} : callP Try.prog 40 [dispA d, .int .i64 7] (· = .tuple [.int .u8 (d 8), .int .u8 (d 9)]) := by
  refine callE_def env (fn := Try.f40) rfl (by decide) rfl ?_
  repeat refine stk ?_
  refine draw_tree (picks [0, 1, 2, 3, 4, 5, 6, 7, 8, 9, 10, 11] .done) (by decide +kernel) ?_
  repeat refine ndD ?_
  show Eqv _ _
  exact .up (.up (.refl _))
theorem rhalf7 : callP Try.prog 37 [.int .i64 7] (· = .tuple [.int .i64 (0), .int .u8 1]) := by
  refine callE_def env (fn := Try.f37) rfl (by decide) rfl ?_
  repeat refine stk ?_
  show Eqv _ _
  exact .up (.up (.refl _))
theorem rput7 {d : Nat → Int} {x y : Int} : callP Try.prog 38 [dispA d, .int .i64 7, .int .u8 x, .int .u8 y] (· = dispA (upd (upd d 8 x) 9 y)) := by
  refine callE_def env (fn := Try.f38) rfl (by decide) rfl ?_
  repeat refine stk ?_
  repeat refine ndD ?_
  show Eqv _ _
  exact .up (.up (.refl _))
theorem rdig8 {d : Nat → Int} : callP Try.prog 40 [dispA d, .int .i64 8] (· = .tuple [.int .u8 (10), .int .u8 (d 7)]) := by
  refine callE_def env (fn := Try.f40) rfl (by decide) rfl ?_
  repeat refine stk ?_
  refine draw_tree (picks [0, 1, 2, 3, 4, 5, 6] .done) (by decide +kernel) ?_
  repeat refine ndD ?_
  show Eqv _ _
  exact .up (.up (.refl _))
theorem rhalf8 : callP Try.prog 37 [.int .i64 8] (· = .tuple [.int .i64 (-1), .int .u8 0]) := by
  refine callE_def env (fn := Try.f37) rfl (by decide) rfl ?_
  repeat refine stk ?_
  show Eqv _ _
  exact .up (.up (.refl _))
theorem rput8 {d : Nat → Int} {x y : Int} : callP Try.prog 38 [dispA d, .int .i64 8, .int .u8 x, .int .u8 y] (· = dispA (upd d 7 y)) := by
  refine callE_def env (fn := Try.f38) rfl (by decide) rfl ?_
  repeat refine stk ?_
  repeat refine ndD ?_
  show Eqv _ _
  exact .up (.up (.refl _))
theorem rdig9 {d : Nat → Int} : callP Try.prog 40 [dispA d, .int .i64 9] (· = .tuple [.int .u8 (d 4), .int .u8 (d 5)]) := by
  refine callE_def env (fn := Try.f40) rfl (by decide) rfl ?_
  repeat refine stk ?_
  refine draw_tree (picks [0, 1, 2, 3, 4, 5, 6, 7] .done) (by decide +kernel) ?_
  repeat refine ndD ?_
  show Eqv _ _
  exact .up (.up (.refl _))
theorem rhalf9 : callP Try.prog 37 [.int .i64 9] (· = .tuple [.int .i64 (-1), .int .u8 0]) := by
  refine callE_def env (fn := Try.f37) rfl (by decide) rfl ?_
  repeat refine stk ?_
  show Eqv _ _
  exact .up (.up (.refl _))
theorem rput9 {d : Nat → Int} {x y : Int} : callP Try.prog 38 [dispA d, .int .i64 9, .int .u8 x, .int .u8 y] (· = dispA (upd (upd d 4 x) 5 y)) := by
  refine callE_def env (fn := Try.f38) rfl (by decide) rfl ?_
  repeat refine stk ?_
  repeat refine ndD ?_
  show Eqv _ _
  exact .up (.up (.refl _))
theorem rdig10 {d : Nat → Int} : callP Try.prog 40 [dispA d, .int .i64 10] (· = .tuple [.int .u8 (d 2), .int .u8 (d 3)]) := by
  refine callE_def env (fn := Try.f40) rfl (by decide) rfl ?_
  repeat refine stk ?_
  refine draw_tree (picks [0, 1, 2, 3, 4, 5, 6, 7] .done) (by decide +kernel) ?_
  repeat refine ndD ?_
  show Eqv _ _
  exact .up (.up (.refl _))
theorem rhalf10 : callP Try.prog 37 [.int .i64 10] (· = .tuple [.int .i64 (-1), .int .u8 0]) := by
  refine callE_def env (fn := Try.f37) rfl (by decide) rfl ?_
  repeat refine stk ?_
  show Eqv _ _
  exact .up (.up (.refl _))
theorem rput10 {d : Nat → Int} {x y : Int} : callP Try.prog 38 [dispA d, .int .i64 10, .int .u8 x, .int .u8 y] (· = dispA (upd (upd d 2 x) 3 y)) := by
  refine callE_def env (fn := Try.f38) rfl (by decide) rfl ?_
  repeat refine stk ?_
  repeat refine ndD ?_
  show Eqv _ _
  exact .up (.up (.refl _))
theorem rdig11 {d : Nat → Int} : callP Try.prog 40 [dispA d, .int .i64 11] (· = .tuple [.int .u8 (d 0), .int .u8 (d 1)]) := by
  refine callE_def env (fn := Try.f40) rfl (by decide) rfl ?_
  repeat refine stk ?_
  refine draw_tree (picks [0, 1, 2, 3, 4, 5, 6, 7] .done) (by decide +kernel) ?_
  repeat refine ndD ?_
  show Eqv _ _
  exact .up (.up (.refl _))
theorem rhalf11 : callP Try.prog 37 [.int .i64 11] (· = .tuple [.int .i64 (-1), .int .u8 0]) := by
  refine callE_def env (fn := Try.f37) rfl (by decide) rfl ?_
  repeat refine stk ?_
  show Eqv _ _
  exact .up (.up (.refl _))
theorem rput11 {d : Nat → Int} {x y : Int} : callP Try.prog 38 [dispA d, .int .i64 11, .int .u8 x, .int .u8 y] (· = dispA (upd (upd d 0 x) 1 y)) := by
  refine callE_def env (fn := Try.f38) rfl (by decide) rfl ?_
  repeat refine stk ?_
  repeat refine ndD ?_
  show Eqv _ _
  exact .up (.up (.refl _))
theorem rrow_bad1 {d : Nat → Int} (hm : mayB d = false) (k : Int) : callP Try.prog 29 [dispA d, .int .i64 k] (· = .tuple [.int .u16 0, .int .i64 2]) := by
  have c := rmay_c (d := d)
  rw [hm] at c
  refine callE_def env (fn := Try.f29) rfl (by decide) rfl ?_
  refine callT_E c rfl ?_
  repeat refine stb ?_
  show Eqv _ _
  exact .up (.up (.refl _))
theorem rrow_val {n a b : Nat} (hn : n < 16) (ha : a < 32) (hb : b < 32) : IntKind.i64.wrap (IntKind.i64.wrap (IntKind.i64.wrap ((n : Int) * 2048) + IntKind.i64.wrap (IntKind.i64.wrap (a : Int) * 32)) + IntKind.i64.wrap (b : Int)) = ((2048 * n + (32 * a + b) : Nat) : Int) := by
  rw [wi (x := (a : Int)) (by omega) (by omega), wi (x := (b : Int)) (by omega) (by omega), wi (x := (n : Int) * 2048) (by omega) (by omega), wi (x := (a : Int) * 32) (by omega) (by omega), wi (x := (n : Int) * 2048 + (a : Int) * 32) (by omega) (by omega), wi (by omega) (by omega)]
  omega
theorem rcode_d {x : Int} (h0 : 0 ≤ x) (h : x < 11) : callP Try.prog 24 [.int .u8 x] (· = .tuple [.int .u8 (cN x), .int .i64 0]) := by
  obtain ⟨n, rfl⟩ := Int.eq_ofNat_of_zero_le h0
  rw [cN_of]
  exact rcode_c (by omega)
set_option maxHeartbeats 1000000 in
theorem rrow1 {d : Nat → Int} (hd : Good d) : callP Try.prog 29 [dispA d, .int .i64 1] (· = .tuple [.int .u16 (rowW d 1), .int .i64 0]) := by
  have c := rmay_c (d := d)
  rw [hd.may] at c
  have g2 := hd 23 (by decide)
  simp only [lim] at g2
  have g1 := hd 22 (by decide)
  simp only [lim] at g1
  have c1 := rcode_d g1.1 g1.2
  have c2 := rcode_d g2.1 g2.2
  have b1 := cN_b (d 22)
  have b2 := cN_b (d 23)
  have ev := rrow_val (n := 1) (by decide) b1 b2
  refine callE_def env (fn := Try.f29) rfl (by decide) rfl ?_
  refine callT_E c rfl ?_
  repeat refine stk ?_
  refine callT_E rdig1 rfl ?_
  refine callT_E c1 rfl ?_
  refine callT_E c2 rfl ?_
  refine callT_E rhalf1 rfl ?_
  repeat refine stk ?_
  repeat refine ndD ?_
  repeat refine stb ?_
  repeat refine ndD ?_
  apply branch_intro <;> intro hb
  · show Eqv (.tuple [.int .u16 _, _]) _
    refine eqv_of_eq (congrArg (fun x => AVal.tuple [.int .u16 x, .int .i64 0]) ?_)
    have hs : bitN d 0 = 1024 := if_pos (by simpa using hb)
    show IntKind.u16.wrap (IntKind.i64.wrap (IntKind.i64.wrap (IntKind.i64.wrap (IntKind.i64.wrap (((1 : Nat) : Int) * 2048) + IntKind.i64.wrap (IntKind.i64.wrap (cN (d 22) : Int) * 32)) + IntKind.i64.wrap (cN (d 23) : Int)) + 1024)) = ((2048 * 1 + bitN d 0 + (32 * cN (d 22) + cN (d 23)) : Nat) : Int)
    rw [ev, hs, wi (by omega) (by omega), wu16 (by omega) (by omega)]
    omega
  · show Eqv (.tuple [.int .u16 _, _]) _
    refine eqv_of_eq (congrArg (fun x => AVal.tuple [.int .u16 x, .int .i64 0]) ?_)
    have hs : bitN d 0 = 0 := if_neg (by simpa using hb)
    show IntKind.u16.wrap (IntKind.i64.wrap (IntKind.i64.wrap (IntKind.i64.wrap (((1 : Nat) : Int) * 2048) + IntKind.i64.wrap (IntKind.i64.wrap (cN (d 22) : Int) * 32)) + IntKind.i64.wrap (cN (d 23) : Int))) = ((2048 * 1 + bitN d 0 + (32 * cN (d 22) + cN (d 23)) : Nat) : Int)
    rw [ev, hs, wu16 (by omega) (by omega)]
set_option maxHeartbeats 1000000 in
theorem rrow2 {d : Nat → Int} (hd : Good d) : callP Try.prog 29 [dispA d, .int .i64 2] (· = .tuple [.int .u16 (rowW d 2), .int .i64 0]) := by
  have c := rmay_c (d := d)
  rw [hd.may] at c
  have g2 := hd 21 (by decide)
  simp only [lim] at g2
  have g1 := hd 20 (by decide)
  simp only [lim] at g1
  have c1 := rcode_d g1.1 g1.2
  have c2 := rcode_d g2.1 g2.2
  have b1 := cN_b (d 20)
  have b2 := cN_b (d 21)
  have ev := rrow_val (n := 2) (by decide) b1 b2
  refine callE_def env (fn := Try.f29) rfl (by decide) rfl ?_
  refine callT_E c rfl ?_
  repeat refine stk ?_
  refine callT_E rdig2 rfl ?_
  refine callT_E c1 rfl ?_
  refine callT_E c2 rfl ?_
  refine callT_E rhalf2 rfl ?_
  repeat refine stk ?_
  repeat refine ndD ?_
  repeat refine stb ?_
  repeat refine ndD ?_
  apply branch_intro <;> intro hb
  · show Eqv (.tuple [.int .u16 _, _]) _
    refine eqv_of_eq (congrArg (fun x => AVal.tuple [.int .u16 x, .int .i64 0]) ?_)
    have hs : bitN d 1 = 1024 := if_pos (by simpa using hb)
    show IntKind.u16.wrap (IntKind.i64.wrap (IntKind.i64.wrap (IntKind.i64.wrap (IntKind.i64.wrap (((2 : Nat) : Int) * 2048) + IntKind.i64.wrap (IntKind.i64.wrap (cN (d 20) : Int) * 32)) + IntKind.i64.wrap (cN (d 21) : Int)) + 1024)) = ((2048 * 2 + bitN d 1 + (32 * cN (d 20) + cN (d 21)) : Nat) : Int)
    rw [ev, hs, wi (by omega) (by omega), wu16 (by omega) (by omega)]
    omega
  · show Eqv (.tuple [.int .u16 _, _]) _
    refine eqv_of_eq (congrArg (fun x => AVal.tuple [.int .u16 x, .int .i64 0]) ?_)
    have hs : bitN d 1 = 0 := if_neg (by simpa using hb)
    show IntKind.u16.wrap (IntKind.i64.wrap (IntKind.i64.wrap (IntKind.i64.wrap (((2 : Nat) : Int) * 2048) + IntKind.i64.wrap (IntKind.i64.wrap (cN (d 20) : Int) * 32)) + IntKind.i64.wrap (cN (d 21) : Int))) = ((2048 * 2 + bitN d 1 + (32 * cN (d 20) + cN (d 21)) : Nat) : Int)
    rw [ev, hs, wu16 (by omega) (by omega)]
set_option maxHeartbeats 1000000 in
theorem rrow3 {d : Nat → Int} (hd : Good d) : callP Try.prog 29 [dispA d, .int .i64 3] (· = .tuple [.int .u16 (rowW d 3), .int .i64 0]) := by
  have c := rmay_c (d := d)
  rw [hd.may] at c
  have g2 := hd 19 (by decide)
  simp only [lim] at g2
  have g1 := hd 17 (by decide)
  simp only [lim] at g1
  have c1 := rcode_d g1.1 g1.2
  have c2 := rcode_d g2.1 g2.2
  have b1 := cN_b (d 17)
  have b2 := cN_b (d 19)
  have ev := rrow_val (n := 3) (by decide) b1 b2
  refine callE_def env (fn := Try.f29) rfl (by decide) rfl ?_
  refine callT_E c rfl ?_
  repeat refine stk ?_
  refine callT_E rdig3 rfl ?_
  refine callT_E c1 rfl ?_
  refine callT_E c2 rfl ?_
  refine callT_E rhalf3 rfl ?_
  repeat refine stk ?_
  show Eqv (.tuple [.int .u16 _, _]) _
  refine eqv_of_eq (congrArg (fun x => AVal.tuple [.int .u16 x, .int .i64 0]) ?_)
  have hs : bitN d 2 = 0 := rfl
  show IntKind.u16.wrap (IntKind.i64.wrap (IntKind.i64.wrap (IntKind.i64.wrap (((3 : Nat) : Int) * 2048) + IntKind.i64.wrap (IntKind.i64.wrap (cN (d 17) : Int) * 32)) + IntKind.i64.wrap (cN (d 19) : Int))) = ((2048 * 3 + bitN d 2 + (32 * cN (d 17) + cN (d 19)) : Nat) : Int)
  rw [ev, hs, wu16 (by omega) (by omega)]
set_option maxHeartbeats 1000000 in
theorem rrow4 {d : Nat → Int} (hd : Good d) : callP Try.prog 29 [dispA d, .int .i64 4] (· = .tuple [.int .u16 (rowW d 4), .int .i64 0]) := by
  have c := rmay_c (d := d)
  rw [hd.may] at c
  have g2 := hd 16 (by decide)
  simp only [lim] at g2
  have g1 := hd 15 (by decide)
  simp only [lim] at g1
  have c1 := rcode_d g1.1 g1.2
  have c2 := rcode_d g2.1 g2.2
  have b1 := cN_b (d 15)
  have b2 := cN_b (d 16)
  have ev := rrow_val (n := 4) (by decide) b1 b2
  refine callE_def env (fn := Try.f29) rfl (by decide) rfl ?_
  refine callT_E c rfl ?_
  repeat refine stk ?_
  refine callT_E rdig4 rfl ?_
  refine callT_E c1 rfl ?_
  refine callT_E c2 rfl ?_
  refine callT_E rhalf4 rfl ?_
  repeat refine stk ?_
  repeat refine ndD ?_
  repeat refine stb ?_
  repeat refine ndD ?_
  apply branch_intro <;> intro hb
  · show Eqv (.tuple [.int .u16 _, _]) _
    refine eqv_of_eq (congrArg (fun x => AVal.tuple [.int .u16 x, .int .i64 0]) ?_)
    have hs : bitN d 3 = 1024 := if_pos (by simpa using hb)
    show IntKind.u16.wrap (IntKind.i64.wrap (IntKind.i64.wrap (IntKind.i64.wrap (IntKind.i64.wrap (((4 : Nat) : Int) * 2048) + IntKind.i64.wrap (IntKind.i64.wrap (cN (d 15) : Int) * 32)) + IntKind.i64.wrap (cN (d 16) : Int)) + 1024)) = ((2048 * 4 + bitN d 3 + (32 * cN (d 15) + cN (d 16)) : Nat) : Int)
    rw [ev, hs, wi (by omega) (by omega), wu16 (by omega) (by omega)]
    omega
  · show Eqv (.tuple [.int .u16 _, _]) _
    refine eqv_of_eq (congrArg (fun x => AVal.tuple [.int .u16 x, .int .i64 0]) ?_)
    have hs : bitN d 3 = 0 := if_neg (by simpa using hb)
    show IntKind.u16.wrap (IntKind.i64.wrap (IntKind.i64.wrap (IntKind.i64.wrap (((4 : Nat) : Int) * 2048) + IntKind.i64.wrap (IntKind.i64.wrap (cN (d 15) : Int) * 32)) + IntKind.i64.wrap (cN (d 16) : Int))) = ((2048 * 4 + bitN d 3 + (32 * cN (d 15) + cN (d 16)) : Nat) : Int)
    rw [ev, hs, wu16 (by omega) (by omega)]
set_option maxHeartbeats 1000000 in
theorem rrow5 {d : Nat → Int} (hd : Good d) : callP Try.prog 29 [dispA d, .int .i64 5] (· = .tuple [.int .u16 (rowW d 5), .int .i64 0]) := by
  have c := rmay_c (d := d)
  rw [hd.may] at c
  have g2 := hd 14 (by decide)
  simp only [lim] at g2
  have g1 := hd 13 (by decide)
  simp only [lim] at g1
  have c1 := rcode_d g1.1 g1.2
  have c2 := rcode_d g2.1 g2.2
  have b1 := cN_b (d 13)
  have b2 := cN_b (d 14)
  have ev := rrow_val (n := 5) (by decide) b1 b2
  refine callE_def env (fn := Try.f29) rfl (by decide) rfl ?_
  refine callT_E c rfl ?_
  repeat refine stk ?_
  refine callT_E rdig5 rfl ?_
  refine callT_E c1 rfl ?_
  refine callT_E c2 rfl ?_
  refine callT_E rhalf5 rfl ?_
  repeat refine stk ?_
  repeat refine ndD ?_
  repeat refine stb ?_
  repeat refine ndD ?_
  apply branch_intro <;> intro hb
  · show Eqv (.tuple [.int .u16 _, _]) _
    refine eqv_of_eq (congrArg (fun x => AVal.tuple [.int .u16 x, .int .i64 0]) ?_)
    have hs : bitN d 4 = 1024 := if_pos (by simpa using hb)
    show IntKind.u16.wrap (IntKind.i64.wrap (IntKind.i64.wrap (IntKind.i64.wrap (IntKind.i64.wrap (((5 : Nat) : Int) * 2048) + IntKind.i64.wrap (IntKind.i64.wrap (cN (d 13) : Int) * 32)) + IntKind.i64.wrap (cN (d 14) : Int)) + 1024)) = ((2048 * 5 + bitN d 4 + (32 * cN (d 13) + cN (d 14)) : Nat) : Int)
    rw [ev, hs, wi (by omega) (by omega), wu16 (by omega) (by omega)]
    omega
  · show Eqv (.tuple [.int .u16 _, _]) _
    refine eqv_of_eq (congrArg (fun x => AVal.tuple [.int .u16 x, .int .i64 0]) ?_)
    have hs : bitN d 4 = 0 := if_neg (by simpa using hb)
    show IntKind.u16.wrap (IntKind.i64.wrap (IntKind.i64.wrap (IntKind.i64.wrap (((5 : Nat) : Int) * 2048) + IntKind.i64.wrap (IntKind.i64.wrap (cN (d 13) : Int) * 32)) + IntKind.i64.wrap (cN (d 14) : Int))) = ((2048 * 5 + bitN d 4 + (32 * cN (d 13) + cN (d 14)) : Nat) : Int)
    rw [ev, hs, wu16 (by omega) (by omega)]
set_option maxHeartbeats 1000000 in
theorem rrow6 {d : Nat → Int} (hd : Good d) : callP Try.prog 29 [dispA d, .int .i64 6] (· = .tuple [.int .u16 (rowW d 6), .int .i64 0]) := by
  have c := rmay_c (d := d)
  rw [hd.may] at c
  have g2 := hd 11 (by decide)
  simp only [lim] at g2
  have g1 := hd 10 (by decide)
  simp only [lim] at g1
  have c1 := rcode_d g1.1 g1.2
  have c2 := rcode_d g2.1 g2.2
  have b1 := cN_b (d 10)
  have b2 := cN_b (d 11)
  have ev := rrow_val (n := 6) (by decide) b1 b2
  refine callE_def env (fn := Try.f29) rfl (by decide) rfl ?_
  refine callT_E c rfl ?_
  repeat refine stk ?_
  refine callT_E rdig6 rfl ?_
  refine callT_E c1 rfl ?_
  refine callT_E c2 rfl ?_
  refine callT_E rhalf6 rfl ?_
  repeat refine stk ?_
  repeat refine ndD ?_
  repeat refine stb ?_
  repeat refine ndD ?_
  apply branch_intro <;> intro hb
  · show Eqv (.tuple [.int .u16 _, _]) _
    refine eqv_of_eq (congrArg (fun x => AVal.tuple [.int .u16 x, .int .i64 0]) ?_)
    have hs : bitN d 5 = 1024 := if_pos (by simpa using hb)
    show IntKind.u16.wrap (IntKind.i64.wrap (IntKind.i64.wrap (IntKind.i64.wrap (IntKind.i64.wrap (((6 : Nat) : Int) * 2048) + IntKind.i64.wrap (IntKind.i64.wrap (cN (d 10) : Int) * 32)) + IntKind.i64.wrap (cN (d 11) : Int)) + 1024)) = ((2048 * 6 + bitN d 5 + (32 * cN (d 10) + cN (d 11)) : Nat) : Int)
    rw [ev, hs, wi (by omega) (by omega), wu16 (by omega) (by omega)]
    omega
  · show Eqv (.tuple [.int .u16 _, _]) _
    refine eqv_of_eq (congrArg (fun x => AVal.tuple [.int .u16 x, .int .i64 0]) ?_)
    have hs : bitN d 5 = 0 := if_neg (by simpa using hb)
    show IntKind.u16.wrap (IntKind.i64.wrap (IntKind.i64.wrap (IntKind.i64.wrap (((6 : Nat) : Int) * 2048) + IntKind.i64.wrap (IntKind.i64.wrap (cN (d 10) : Int) * 32)) + IntKind.i64.wrap (cN (d 11) : Int))) = ((2048 * 6 + bitN d 5 + (32 * cN (d 10) + cN (d 11)) : Nat) : Int)
    rw [ev, hs, wu16 (by omega) (by omega)]
set_option maxHeartbeats 1000000 in
theorem rrow7 {d : Nat → Int} (hd : Good d) : callP Try.prog 29 [dispA d, .int .i64 7] (· = .tuple [.int .u16 (rowW d 7), .int .i64 0]) := by
  have c := rmay_c (d := d)
  rw [hd.may] at c
  have g2 := hd 9 (by decide)
  simp only [lim] at g2
  have g1 := hd 8 (by decide)
  simp only [lim] at g1
  have c1 := rcode_d g1.1 g1.2
  have c2 := rcode_d g2.1 g2.2
  have b1 := cN_b (d 8)
  have b2 := cN_b (d 9)
  have ev := rrow_val (n := 7) (by decide) b1 b2
  refine callE_def env (fn := Try.f29) rfl (by decide) rfl ?_
  refine callT_E c rfl ?_
  repeat refine stk ?_
  refine callT_E rdig7 rfl ?_
  refine callT_E c1 rfl ?_
  refine callT_E c2 rfl ?_
  refine callT_E rhalf7 rfl ?_
  repeat refine stk ?_
  repeat refine ndD ?_
  repeat refine stb ?_
  repeat refine ndD ?_
  apply branch_intro <;> intro hb
  · show Eqv (.tuple [.int .u16 _, _]) _
    refine eqv_of_eq (congrArg (fun x => AVal.tuple [.int .u16 x, .int .i64 0]) ?_)
    have hs : bitN d 6 = 1024 := if_pos (by simpa using hb)
    show IntKind.u16.wrap (IntKind.i64.wrap (IntKind.i64.wrap (IntKind.i64.wrap (IntKind.i64.wrap (((7 : Nat) : Int) * 2048) + IntKind.i64.wrap (IntKind.i64.wrap (cN (d 8) : Int) * 32)) + IntKind.i64.wrap (cN (d 9) : Int)) + 1024)) = ((2048 * 7 + bitN d 6 + (32 * cN (d 8) + cN (d 9)) : Nat) : Int)
    rw [ev, hs, wi (by omega) (by omega), wu16 (by omega) (by omega)]
    omega
  · show Eqv (.tuple [.int .u16 _, _]) _
    refine eqv_of_eq (congrArg (fun x => AVal.tuple [.int .u16 x, .int .i64 0]) ?_)
    have hs : bitN d 6 = 0 := if_neg (by simpa using hb)
    show IntKind.u16.wrap (IntKind.i64.wrap (IntKind.i64.wrap (IntKind.i64.wrap (((7 : Nat) : Int) * 2048) + IntKind.i64.wrap (IntKind.i64.wrap (cN (d 8) : Int) * 32)) + IntKind.i64.wrap (cN (d 9) : Int))) = ((2048 * 7 + bitN d 6 + (32 * cN (d 8) + cN (d 9)) : Nat) : Int)
    rw [ev, hs, wu16 (by omega) (by omega)]
set_option maxHeartbeats 1000000 in
theorem rrow8 {d : Nat → Int} (hd : Good d) : callP Try.prog 29 [dispA d, .int .i64 8] (· = .tuple [.int .u16 (rowW d 8), .int .i64 0]) := by
  have c := rmay_c (d := d)
  rw [hd.may] at c
  have g2 := hd 7 (by decide)
  simp only [lim] at g2
  have c1 := rcode_d (x := 10) (by decide) (by decide)
  have c2 := rcode_d g2.1 g2.2
  have b1 := cN_b (10)
  have b2 := cN_b (d 7)
  have ev := rrow_val (n := 8) (by decide) b1 b2
  refine callE_def env (fn := Try.f29) rfl (by decide) rfl ?_
  refine callT_E c rfl ?_
  repeat refine stk ?_
  refine callT_E rdig8 rfl ?_
  refine callT_E c1 rfl ?_
  refine callT_E c2 rfl ?_
  refine callT_E rhalf8 rfl ?_
  repeat refine stk ?_
  show Eqv (.tuple [.int .u16 _, _]) _
  refine eqv_of_eq (congrArg (fun x => AVal.tuple [.int .u16 x, .int .i64 0]) ?_)
  have hs : bitN d 7 = 0 := rfl
  show IntKind.u16.wrap (IntKind.i64.wrap (IntKind.i64.wrap (IntKind.i64.wrap (((8 : Nat) : Int) * 2048) + IntKind.i64.wrap (IntKind.i64.wrap (cN 10 : Int) * 32)) + IntKind.i64.wrap (cN (d 7) : Int))) = ((2048 * 8 + bitN d 7 + (32 * cN 10 + cN (d 7)) : Nat) : Int)
  rw [ev, hs, wu16 (by omega) (by omega)]
set_option maxHeartbeats 1000000 in
theorem rrow9 {d : Nat → Int} (hd : Good d) : callP Try.prog 29 [dispA d, .int .i64 9] (· = .tuple [.int .u16 (rowW d 9), .int .i64 0]) := by
  have c := rmay_c (d := d)
  rw [hd.may] at c
  have g2 := hd 5 (by decide)
  simp only [lim] at g2
  have g1 := hd 4 (by decide)
  simp only [lim] at g1
  have c1 := rcode_d g1.1 g1.2
  have c2 := rcode_d g2.1 g2.2
  have b1 := cN_b (d 4)
  have b2 := cN_b (d 5)
  have ev := rrow_val (n := 9) (by decide) b1 b2
  refine callE_def env (fn := Try.f29) rfl (by decide) rfl ?_
  refine callT_E c rfl ?_
  repeat refine stk ?_
  refine callT_E rdig9 rfl ?_
  refine callT_E c1 rfl ?_
  refine callT_E c2 rfl ?_
  refine callT_E rhalf9 rfl ?_
  repeat refine stk ?_
  show Eqv (.tuple [.int .u16 _, _]) _
  refine eqv_of_eq (congrArg (fun x => AVal.tuple [.int .u16 x, .int .i64 0]) ?_)
  have hs : bitN d 8 = 0 := rfl
  show IntKind.u16.wrap (IntKind.i64.wrap (IntKind.i64.wrap (IntKind.i64.wrap (((9 : Nat) : Int) * 2048) + IntKind.i64.wrap (IntKind.i64.wrap (cN (d 4) : Int) * 32)) + IntKind.i64.wrap (cN (d 5) : Int))) = ((2048 * 9 + bitN d 8 + (32 * cN (d 4) + cN (d 5)) : Nat) : Int)
  rw [ev, hs, wu16 (by omega) (by omega)]
set_option maxHeartbeats 1000000 in
theorem rrow10 {d : Nat → Int} (hd : Good d) : callP Try.prog 29 [dispA d, .int .i64 10] (· = .tuple [.int .u16 (rowW d 10), .int .i64 0]) := by
  have c := rmay_c (d := d)
  rw [hd.may] at c
  have g2 := hd 3 (by decide)
  simp only [lim] at g2
  have g1 := hd 2 (by decide)
  simp only [lim] at g1
  have c1 := rcode_d g1.1 g1.2
  have c2 := rcode_d g2.1 g2.2
  have b1 := cN_b (d 2)
  have b2 := cN_b (d 3)
  have ev := rrow_val (n := 10) (by decide) b1 b2
  refine callE_def env (fn := Try.f29) rfl (by decide) rfl ?_
  refine callT_E c rfl ?_
  repeat refine stk ?_
  refine callT_E rdig10 rfl ?_
  refine callT_E c1 rfl ?_
  refine callT_E c2 rfl ?_
  refine callT_E rhalf10 rfl ?_
  repeat refine stk ?_
  show Eqv (.tuple [.int .u16 _, _]) _
  refine eqv_of_eq (congrArg (fun x => AVal.tuple [.int .u16 x, .int .i64 0]) ?_)
  have hs : bitN d 9 = 0 := rfl
  show IntKind.u16.wrap (IntKind.i64.wrap (IntKind.i64.wrap (IntKind.i64.wrap (((10 : Nat) : Int) * 2048) + IntKind.i64.wrap (IntKind.i64.wrap (cN (d 2) : Int) * 32)) + IntKind.i64.wrap (cN (d 3) : Int))) = ((2048 * 10 + bitN d 9 + (32 * cN (d 2) + cN (d 3)) : Nat) : Int)
  rw [ev, hs, wu16 (by omega) (by omega)]
set_option maxHeartbeats 1000000 in
theorem rrow11 {d : Nat → Int} (hd : Good d) : callP Try.prog 29 [dispA d, .int .i64 11] (· = .tuple [.int .u16 (rowW d 11), .int .i64 0]) := by
  have c := rmay_c (d := d)
  rw [hd.may] at c
  have g2 := hd 1 (by decide)
  simp only [lim] at g2
  have g1 := hd 0 (by decide)
  simp only [lim] at g1
  have c1 := rcode_d g1.1 g1.2
  have c2 := rcode_d g2.1 g2.2
  have b1 := cN_b (d 0)
  have b2 := cN_b (d 1)
  have ev := rrow_val (n := 11) (by decide) b1 b2
  refine callE_def env (fn := Try.f29) rfl (by decide) rfl ?_
  refine callT_E c rfl ?_
  repeat refine stk ?_
  refine callT_E rdig11 rfl ?_
  refine callT_E c1 rfl ?_
  refine callT_E c2 rfl ?_
  refine callT_E rhalf11 rfl ?_
  repeat refine stk ?_
  show Eqv (.tuple [.int .u16 _, _]) _
  refine eqv_of_eq (congrArg (fun x => AVal.tuple [.int .u16 x, .int .i64 0]) ?_)
  have hs : bitN d 10 = 0 := rfl
  show IntKind.u16.wrap (IntKind.i64.wrap (IntKind.i64.wrap (IntKind.i64.wrap (((11 : Nat) : Int) * 2048) + IntKind.i64.wrap (IntKind.i64.wrap (cN (d 0) : Int) * 32)) + IntKind.i64.wrap (cN (d 1) : Int))) = ((2048 * 11 + bitN d 10 + (32 * cN (d 0) + cN (d 1)) : Nat) : Int)
  rw [ev, hs, wu16 (by omega) (by omega)]
theorem rrow12 {d : Nat → Int} (hd : Good d) : callP Try.prog 29 [dispA d, .int .i64 12] (· = .tuple [.int .u16 (rowW d 12), .int .i64 0]) := by
  have c := rmay_c (d := d)
  rw [hd.may] at c
  have g := hd 24 (by decide)
  simp only [lim] at g
  refine callE_def env (fn := Try.f29) rfl (by decide) rfl ?_
  refine callT_E c rfl ?_
  repeat refine stk ?_
  show Eqv (.tuple [.int .u16 _, _]) _
  refine eqv_of_eq (congrArg (fun x => AVal.tuple [.int .u16 x, .int .i64 0]) ?_)
  show IntKind.u16.wrap (IntKind.i64.wrap (24576 + IntKind.i64.wrap (d 24))) = 24576 + d 24
  rw [wi (x := d 24) (by omega) (by omega), wi (by omega) (by omega), wu16 (by omega) (by omega)]
theorem rrow13 {d : Nat → Int} (hd : Good d) : callP Try.prog 29 [dispA d, .int .i64 13] (· = .tuple [.int .u16 (rowW d 13), .int .i64 0]) := by
  have c := rmay_c (d := d)
  rw [hd.may] at c
  have g := hd 25 (by decide)
  simp only [lim] at g
  refine callE_def env (fn := Try.f29) rfl (by decide) rfl ?_
  refine callT_E c rfl ?_
  repeat refine stk ?_
  show Eqv (.tuple [.int .u16 _, _]) _
  refine eqv_of_eq (congrArg (fun x => AVal.tuple [.int .u16 x, .int .i64 0]) ?_)
  show IntKind.u16.wrap (IntKind.i64.wrap (26624 + IntKind.i64.wrap (d 25))) = 26624 + d 25
  rw [wi (x := d 25) (by omega) (by omega), wi (by omega) (by omega), wu16 (by omega) (by omega)]
theorem rrow_c {d : Nat → Int} (hd : Good d) {n : Nat} (h1 : 1 ≤ n) (h2 : n ≤ 13) : callP Try.prog 29 [dispA d, .int .i64 n] (· = .tuple [.int .u16 (rowW d n), .int .i64 0]) := by
  match n, h1, h2 with
  | 1, _, _ => exact rrow1 hd
  | 2, _, _ => exact rrow2 hd
  | 3, _, _ => exact rrow3 hd
  | 4, _, _ => exact rrow4 hd
  | 5, _, _ => exact rrow5 hd
  | 6, _, _ => exact rrow6 hd
  | 7, _, _ => exact rrow7 hd
  | 8, _, _ => exact rrow8 hd
  | 9, _, _ => exact rrow9 hd
  | 10, _, _ => exact rrow10 hd
  | 11, _, _ => exact rrow11 hd
  | 12, _, _ => exact rrow12 hd
  | 13, _, _ => exact rrow13 hd
end Go.Proofs
