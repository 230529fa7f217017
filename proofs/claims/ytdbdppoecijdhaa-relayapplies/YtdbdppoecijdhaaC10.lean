/- Chapter 27, part r: the reference: codes, May, Clear. -/
import Derived.Test.YtdbdppoecijdhaaC9
set_option linter.unusedVariables false
set_option linter.unusedSimpArgs false
/-! Ba. -/
namespace Go.Proofs
open Go.E
set_option maxRecDepth 8000

theorem rcodes_c : callP Try.prog 39 [] (· = ints .u8 [21, 3, 25, 27, 15, 30, 28, 19, 29, 31, 0]) := by
  refine callE_def env (fn := Try.f39) rfl (by decide) rfl ?_
  apply choice_l
  show Eqv _ _
  exact eqv_part rfl (fun _ _ => rfl)
theorem rcode_c {n : Nat} (hn : n < 11) : callP Try.prog 24 [.int .u8 n] (· = .tuple [.int .u8 (codeV n), .int .i64 0]) := by
  refine callE_def env (fn := Try.f24) rfl (by decide) rfl ?_
  match n, hn with
  | 0, _ =>
    refine branch_f' (by decide) ?_
    refine callT_E rcodes_c rfl ?_
    repeat (refine need_intro (by decide) ?_)
    show Eqv _ _
    exact .up (.up (.refl _))
  | 1, _ =>
    refine branch_f' (by decide) ?_
    refine callT_E rcodes_c rfl ?_
    repeat (refine need_intro (by decide) ?_)
    show Eqv _ _
    exact .up (.up (.refl _))
  | 2, _ =>
    refine branch_f' (by decide) ?_
    refine callT_E rcodes_c rfl ?_
    repeat (refine need_intro (by decide) ?_)
    show Eqv _ _
    exact .up (.up (.refl _))
  | 3, _ =>
    refine branch_f' (by decide) ?_
    refine callT_E rcodes_c rfl ?_
    repeat (refine need_intro (by decide) ?_)
    show Eqv _ _
    exact .up (.up (.refl _))
  | 4, _ =>
    refine branch_f' (by decide) ?_
    refine callT_E rcodes_c rfl ?_
    repeat (refine need_intro (by decide) ?_)
    show Eqv _ _
    exact .up (.up (.refl _))
  | 5, _ =>
    refine branch_f' (by decide) ?_
    refine callT_E rcodes_c rfl ?_
    repeat (refine need_intro (by decide) ?_)
    show Eqv _ _
    exact .up (.up (.refl _))
  | 6, _ =>
    refine branch_f' (by decide) ?_
    refine callT_E rcodes_c rfl ?_
    repeat (refine need_intro (by decide) ?_)
    show Eqv _ _
    exact .up (.up (.refl _))
  | 7, _ =>
    refine branch_f' (by decide) ?_
    refine callT_E rcodes_c rfl ?_
    repeat (refine need_intro (by decide) ?_)
    show Eqv _ _
    exact .up (.up (.refl _))
  | 8, _ =>
    refine branch_f' (by decide) ?_
    refine callT_E rcodes_c rfl ?_
    repeat (refine need_intro (by decide) ?_)
    show Eqv _ _
    exact .up (.up (.refl _))
  | 9, _ =>
    refine branch_f' (by decide) ?_
    refine callT_E rcodes_c rfl ?_
    repeat (refine need_intro (by decide) ?_)
    show Eqv _ _
    exact .up (.up (.refl _))
  | 10, _ =>
    refine branch_f' (by decide) ?_
    refine callT_E rcodes_c rfl ?_
    repeat (refine need_intro (by decide) ?_)
    show Eqv _ _
    exact .up (.up (.refl _))
theorem rdigit_c (c : Int) : callP Try.prog 25 [.int .u8 c] (· = .tuple [.int .u8 (digV c), .int .i64 (digE c)]) := by
  refine callE_def env (fn := Try.f25) rfl (by decide) rfl ?_
  refine callT_E rcodes_c rfl ?_
  refine loop_weak (fun i : Nat => slots 21 [(0, .int .u8 c), (2, .int .u8 0), (3, .int .i64 0), (4, ints .u8 [21, 3, 25, 27, 15, 30, 28, 19, 29, 31, 0]), (5, .int .i64 i)])
    (fun _ => []) (fun i => i ≤ 11 ∧ ∀ j, j < i → codeV j ≠ c) (fun i => 11 - i) 0 ⟨Nat.zero_le _, fun j hj => by omega⟩ (weak_keep (keep 21 [0, 2, 3, 4, 5]) [] rfl rfl rfl) ?_
  intro i hi
  match i, hi with
  | 0, ⟨_, hno⟩ =>
    refine branch_true ?_
    repeat (refine need_intro (by decide) ?_)
    apply branch_intro <;> intro h
    · have hc : codeV 0 = c := of_decide_eq_true h
      subst hc
      show Eqv _ _
      exact .up (.up (.refl _))
    · have hc : codeV 0 ≠ c := of_decide_eq_false h
      refine ⟨1, ⟨by decide, fun j hj => ?_⟩, by decide, weak_keep (keep 21 [0, 2, 3, 4, 5]) [] rfl rfl rfl⟩
      by_cases hj2 : j < 0
      · exact hno j hj2
      · have : j = 0 := by omega
        subst this
        exact hc
  | 1, ⟨_, hno⟩ =>
    refine branch_true ?_
    repeat (refine need_intro (by decide) ?_)
    apply branch_intro <;> intro h
    · have hc : codeV 1 = c := of_decide_eq_true h
      subst hc
      show Eqv _ _
      exact .up (.up (.refl _))
    · have hc : codeV 1 ≠ c := of_decide_eq_false h
      refine ⟨2, ⟨by decide, fun j hj => ?_⟩, by decide, weak_keep (keep 21 [0, 2, 3, 4, 5]) [] rfl rfl rfl⟩
      by_cases hj2 : j < 1
      · exact hno j hj2
      · have : j = 1 := by omega
        subst this
        exact hc
  | 2, ⟨_, hno⟩ =>
    refine branch_true ?_
    repeat (refine need_intro (by decide) ?_)
    apply branch_intro <;> intro h
    · have hc : codeV 2 = c := of_decide_eq_true h
      subst hc
      show Eqv _ _
      exact .up (.up (.refl _))
    · have hc : codeV 2 ≠ c := of_decide_eq_false h
      refine ⟨3, ⟨by decide, fun j hj => ?_⟩, by decide, weak_keep (keep 21 [0, 2, 3, 4, 5]) [] rfl rfl rfl⟩
      by_cases hj2 : j < 2
      · exact hno j hj2
      · have : j = 2 := by omega
        subst this
        exact hc
  | 3, ⟨_, hno⟩ =>
    refine branch_true ?_
    repeat (refine need_intro (by decide) ?_)
    apply branch_intro <;> intro h
    · have hc : codeV 3 = c := of_decide_eq_true h
      subst hc
      show Eqv _ _
      exact .up (.up (.refl _))
    · have hc : codeV 3 ≠ c := of_decide_eq_false h
      refine ⟨4, ⟨by decide, fun j hj => ?_⟩, by decide, weak_keep (keep 21 [0, 2, 3, 4, 5]) [] rfl rfl rfl⟩
      by_cases hj2 : j < 3
      · exact hno j hj2
      · have : j = 3 := by omega
        subst this
        exact hc
  | 4, ⟨_, hno⟩ =>
    refine branch_true ?_
    repeat (refine need_intro (by decide) ?_)
    apply branch_intro <;> intro h
    · have hc : codeV 4 = c := of_decide_eq_true h
      subst hc
      show Eqv _ _
      exact .up (.up (.refl _))
    · have hc : codeV 4 ≠ c := of_decide_eq_false h
      refine ⟨5, ⟨by decide, fun j hj => ?_⟩, by decide, weak_keep (keep 21 [0, 2, 3, 4, 5]) [] rfl rfl rfl⟩
      by_cases hj2 : j < 4
      · exact hno j hj2
      · have : j = 4 := by omega
        subst this
        exact hc
  | 5, ⟨_, hno⟩ =>
    refine branch_true ?_
    repeat (refine need_intro (by decide) ?_)
    apply branch_intro <;> intro h
    · have hc : codeV 5 = c := of_decide_eq_true h
      subst hc
      show Eqv _ _
      exact .up (.up (.refl _))
    · have hc : codeV 5 ≠ c := of_decide_eq_false h
      refine ⟨6, ⟨by decide, fun j hj => ?_⟩, by decide, weak_keep (keep 21 [0, 2, 3, 4, 5]) [] rfl rfl rfl⟩
      by_cases hj2 : j < 5
      · exact hno j hj2
      · have : j = 5 := by omega
        subst this
        exact hc
  | 6, ⟨_, hno⟩ =>
    refine branch_true ?_
    repeat (refine need_intro (by decide) ?_)
    apply branch_intro <;> intro h
    · have hc : codeV 6 = c := of_decide_eq_true h
      subst hc
      show Eqv _ _
      exact .up (.up (.refl _))
    · have hc : codeV 6 ≠ c := of_decide_eq_false h
      refine ⟨7, ⟨by decide, fun j hj => ?_⟩, by decide, weak_keep (keep 21 [0, 2, 3, 4, 5]) [] rfl rfl rfl⟩
      by_cases hj2 : j < 6
      · exact hno j hj2
      · have : j = 6 := by omega
        subst this
        exact hc
  | 7, ⟨_, hno⟩ =>
    refine branch_true ?_
    repeat (refine need_intro (by decide) ?_)
    apply branch_intro <;> intro h
    · have hc : codeV 7 = c := of_decide_eq_true h
      subst hc
      show Eqv _ _
      exact .up (.up (.refl _))
    · have hc : codeV 7 ≠ c := of_decide_eq_false h
      refine ⟨8, ⟨by decide, fun j hj => ?_⟩, by decide, weak_keep (keep 21 [0, 2, 3, 4, 5]) [] rfl rfl rfl⟩
      by_cases hj2 : j < 7
      · exact hno j hj2
      · have : j = 7 := by omega
        subst this
        exact hc
  | 8, ⟨_, hno⟩ =>
    refine branch_true ?_
    repeat (refine need_intro (by decide) ?_)
    apply branch_intro <;> intro h
    · have hc : codeV 8 = c := of_decide_eq_true h
      subst hc
      show Eqv _ _
      exact .up (.up (.refl _))
    · have hc : codeV 8 ≠ c := of_decide_eq_false h
      refine ⟨9, ⟨by decide, fun j hj => ?_⟩, by decide, weak_keep (keep 21 [0, 2, 3, 4, 5]) [] rfl rfl rfl⟩
      by_cases hj2 : j < 8
      · exact hno j hj2
      · have : j = 8 := by omega
        subst this
        exact hc
  | 9, ⟨_, hno⟩ =>
    refine branch_true ?_
    repeat (refine need_intro (by decide) ?_)
    apply branch_intro <;> intro h
    · have hc : codeV 9 = c := of_decide_eq_true h
      subst hc
      show Eqv _ _
      exact .up (.up (.refl _))
    · have hc : codeV 9 ≠ c := of_decide_eq_false h
      refine ⟨10, ⟨by decide, fun j hj => ?_⟩, by decide, weak_keep (keep 21 [0, 2, 3, 4, 5]) [] rfl rfl rfl⟩
      by_cases hj2 : j < 9
      · exact hno j hj2
      · have : j = 9 := by omega
        subst this
        exact hc
  | 10, ⟨_, hno⟩ =>
    refine branch_true ?_
    repeat (refine need_intro (by decide) ?_)
    apply branch_intro <;> intro h
    · have hc : codeV 10 = c := of_decide_eq_true h
      subst hc
      show Eqv _ _
      exact .up (.up (.refl _))
    · have hc : codeV 10 ≠ c := of_decide_eq_false h
      refine ⟨11, ⟨by decide, fun j hj => ?_⟩, by decide, weak_keep (keep 21 [0, 2, 3, 4, 5]) [] rfl rfl rfl⟩
      by_cases hj2 : j < 10
      · exact hno j hj2
      · have : j = 10 := by omega
        subst this
        exact hc
  | 11, ⟨_, hno⟩ =>
    refine branch_false ?_
    show Eqv _ _
    refine eqv_of_eq ?_
    unfold digV digE
    rw [digN_none hno]
    rfl
def stepP (d : Nat → Int) (n : Nat) : Prop := match n with
  | 1 => d 0 < 11 ∧ d 2 < 11 ∧ d 4 < 11
  | 2 => d 1 < 11 ∧ d 3 < 11 ∧ d 5 < 11
  | 3 => d 6 < 3
  | 4 => d 7 < 11
  | 5 => d 8 < 11
  | 6 => d 9 < 11
  | 7 => d 10 < 11
  | 8 => d 11 < 11
  | 9 => d 12 < 3
  | 10 => d 13 < 11
  | 11 => d 14 < 11
  | 12 => d 15 < 11
  | 13 => d 16 < 11
  | 14 => d 17 < 11
  | 15 => d 18 < 3
  | 16 => d 19 < 11
  | 17 => d 20 < 11
  | 18 => d 21 < 11
  | 19 => d 22 < 11
  | 20 => d 23 < 11
  | _ => True
def okS (d : Nat → Int) : Nat → Prop
  | 0 => True
  | n + 1 => okS d n ∧ stepP d (n + 1)
theorem may_lim {d : Nat → Int} (h : mayB d = true) : ∀ j, j < 26 → d j < lim j := by
  obtain ⟨h1, h24, h25⟩ := may_parts h
  have h0 := h1 0 (by decide); have h2 := h1 1 (by decide); have h3 := h1 2 (by decide); have h4 := h1 3 (by decide); have h5 := h1 4 (by decide); have h6 := h1 5 (by decide)
  have h7 := h1 6 (by decide); have h8 := h1 7 (by decide); have h9 := h1 8 (by decide); have h10 := h1 9 (by decide); have h11 := h1 10 (by decide)
  simp only [okB, Bool.and_eq_true, decide_eq_true_eq] at h0 h2 h3 h4 h5 h6 h7 h8 h9 h10 h11
  intro j hj
  have hj' : j = 0 ∨ j = 1 ∨ j = 2 ∨ j = 3 ∨ j = 4 ∨ j = 5 ∨ j = 6 ∨ j = 7 ∨ j = 8 ∨ j = 9 ∨ j = 10 ∨ j = 11 ∨ j = 12 ∨ j = 13 ∨ j = 14 ∨ j = 15 ∨ j = 16 ∨ j = 17 ∨ j = 18 ∨ j = 19 ∨ j = 20 ∨ j = 21 ∨ j = 22 ∨ j = 23 ∨ j = 24 ∨ j = 25 := by omega
  rcases hj' with rfl | rfl | rfl | rfl | rfl | rfl | rfl | rfl | rfl | rfl | rfl | rfl | rfl | rfl | rfl | rfl | rfl | rfl | rfl | rfl | rfl | rfl | rfl | rfl | rfl | rfl <;> simp only [lim] <;> omega
theorem good_of {d : Nat → Int} (hd : WD d) (h : mayB d = true) : Good d := fun j hj => ⟨by
  by_cases h : j < 24
  · exact (hd.1 j h).1
  by_cases h4 : j = 24
  · subst h4; exact hd.2.1.1
  · have : j = 25 := by omega
    subst this; exact hd.2.2.1, may_lim h j hj⟩
theorem may_no {d : Nat → Int} {j : Nat} (hj : j < 26) (h : ¬ d j < lim j) : mayB d = false := by
  cases hm : mayB d with
  | false => rfl
  | true => exact absurd (may_lim hm j hj) h
theorem may_all {d : Nat → Int} (h : okS d 20) : mayB d = (decide (d 24 < 2048) && decide (d 25 < 2048)) := by
  simp only [okS, stepP] at h
  have ha : allB d 11 = true := allB_of fun k hk => by
    have hk' : k = 0 ∨ k = 1 ∨ k = 2 ∨ k = 3 ∨ k = 4 ∨ k = 5 ∨ k = 6 ∨ k = 7 ∨ k = 8 ∨ k = 9 ∨ k = 10 := by omega
    rcases hk' with rfl | rfl | rfl | rfl | rfl | rfl | rfl | rfl | rfl | rfl | rfl <;> simp [okB] <;> omega
  unfold mayB
  rw [ha, Bool.true_and]
set_option maxHeartbeats 4000000 in
theorem rmay_c {d : Nat → Int} : callP Try.prog 26 [dispA d] (· = .bool (mayB d)) := by
  refine callE_def env (fn := Try.f26) rfl (by decide) rfl ?_
  refine loop_weak (fun i : Nat => slots 59 [(1, .ptr ⟨0, 0, 0⟩), (2, .bool false), (3, .int .i64 i)])
    (fun i => [.cells (dcells d)]) (fun i => i ≤ 2 ∧ okS d i) (fun i => 2 - i) 0 ⟨Nat.zero_le _, trivial⟩ (weak_keep (keep 59 [1, 2, 3]) [0] rfl rfl rfl) ?_
  intro i hi
  match i, hi with
  | 0, ⟨_, hno⟩ =>
    refine branch_true ?_
    repeat (refine need_intro (by decide) ?_)
    apply branch_intro <;> intro h0 <;> simp at h0
    · repeat (first | refine branch_true ?_ | refine branch_false ?_ | refine branch_f' (bne_self_eq_false _) ?_ | refine branch_t' (beq_self_eq_true _) ?_ | refine branch_t' (decide_eq_true rfl) ?_)
      show Eqv _ _
      rw [may_no (j := 0) (by decide) (by simp only [lim]; omega)]
      show Eqv _ _
      exact .up (.up (.refl _))
    repeat (first | refine branch_true ?_ | refine branch_false ?_ | refine branch_f' (bne_self_eq_false _) ?_ | refine branch_t' (beq_self_eq_true _) ?_ | refine branch_t' (decide_eq_true rfl) ?_)
    repeat (refine need_intro (by decide) ?_)
    repeat (first | refine branch_true ?_ | refine branch_false ?_ | refine branch_f' (bne_self_eq_false _) ?_ | refine branch_t' (beq_self_eq_true _) ?_ | refine branch_t' (decide_eq_true rfl) ?_)
    repeat (refine need_intro (by decide) ?_)
    repeat (first | refine branch_true ?_ | refine branch_false ?_ | refine branch_f' (bne_self_eq_false _) ?_ | refine branch_t' (beq_self_eq_true _) ?_ | refine branch_t' (decide_eq_true rfl) ?_)
    apply branch_intro <;> intro h1 <;> simp at h1
    · repeat (first | refine branch_true ?_ | refine branch_false ?_ | refine branch_f' (bne_self_eq_false _) ?_ | refine branch_t' (beq_self_eq_true _) ?_ | refine branch_t' (decide_eq_true rfl) ?_)
      show Eqv _ _
      rw [may_no (j := 2) (by decide) (by simp only [lim]; omega)]
      show Eqv _ _
      exact .up (.up (.refl _))
    repeat (first | refine branch_true ?_ | refine branch_false ?_ | refine branch_f' (bne_self_eq_false _) ?_ | refine branch_t' (beq_self_eq_true _) ?_ | refine branch_t' (decide_eq_true rfl) ?_)
    repeat (refine need_intro (by decide) ?_)
    repeat (first | refine branch_true ?_ | refine branch_false ?_ | refine branch_f' (bne_self_eq_false _) ?_ | refine branch_t' (beq_self_eq_true _) ?_ | refine branch_t' (decide_eq_true rfl) ?_)
    repeat (refine need_intro (by decide) ?_)
    repeat (first | refine branch_true ?_ | refine branch_false ?_ | refine branch_f' (bne_self_eq_false _) ?_ | refine branch_t' (beq_self_eq_true _) ?_ | refine branch_t' (decide_eq_true rfl) ?_)
    apply branch_intro <;> intro h2 <;> simp at h2
    · repeat (first | refine branch_true ?_ | refine branch_false ?_ | refine branch_f' (bne_self_eq_false _) ?_ | refine branch_t' (beq_self_eq_true _) ?_ | refine branch_t' (decide_eq_true rfl) ?_)
      show Eqv _ _
      rw [may_no (j := 4) (by decide) (by simp only [lim]; omega)]
      show Eqv _ _
      exact .up (.up (.refl _))
    repeat (first | refine branch_true ?_ | refine branch_false ?_ | refine branch_f' (bne_self_eq_false _) ?_ | refine branch_t' (beq_self_eq_true _) ?_ | refine branch_t' (decide_eq_true rfl) ?_)
    repeat (refine need_intro (by decide) ?_)
    repeat (first | refine branch_true ?_ | refine branch_false ?_ | refine branch_f' (bne_self_eq_false _) ?_ | refine branch_t' (beq_self_eq_true _) ?_ | refine branch_t' (decide_eq_true rfl) ?_)
    repeat (refine need_intro (by decide) ?_)
    repeat (first | refine branch_true ?_ | refine branch_false ?_ | refine branch_f' (bne_self_eq_false _) ?_ | refine branch_t' (beq_self_eq_true _) ?_ | refine branch_t' (decide_eq_true rfl) ?_)
    exact ⟨1, ⟨by decide, hno, by simp only [stepP]; omega⟩, by decide, weak_keep (keep 59 [1, 2, 3]) [0] rfl rfl rfl⟩
  | 1, ⟨_, hno⟩ =>
    refine branch_true ?_
    repeat (refine need_intro (by decide) ?_)
    apply branch_intro <;> intro h0 <;> simp at h0
    · repeat (first | refine branch_true ?_ | refine branch_false ?_ | refine branch_f' (bne_self_eq_false _) ?_ | refine branch_t' (beq_self_eq_true _) ?_ | refine branch_t' (decide_eq_true rfl) ?_)
      show Eqv _ _
      rw [may_no (j := 1) (by decide) (by simp only [lim]; omega)]
      show Eqv _ _
      exact .up (.up (.refl _))
    repeat (first | refine branch_true ?_ | refine branch_false ?_ | refine branch_f' (bne_self_eq_false _) ?_ | refine branch_t' (beq_self_eq_true _) ?_ | refine branch_t' (decide_eq_true rfl) ?_)
    repeat (refine need_intro (by decide) ?_)
    repeat (first | refine branch_true ?_ | refine branch_false ?_ | refine branch_f' (bne_self_eq_false _) ?_ | refine branch_t' (beq_self_eq_true _) ?_ | refine branch_t' (decide_eq_true rfl) ?_)
    repeat (refine need_intro (by decide) ?_)
    repeat (first | refine branch_true ?_ | refine branch_false ?_ | refine branch_f' (bne_self_eq_false _) ?_ | refine branch_t' (beq_self_eq_true _) ?_ | refine branch_t' (decide_eq_true rfl) ?_)
    apply branch_intro <;> intro h1 <;> simp at h1
    · repeat (first | refine branch_true ?_ | refine branch_false ?_ | refine branch_f' (bne_self_eq_false _) ?_ | refine branch_t' (beq_self_eq_true _) ?_ | refine branch_t' (decide_eq_true rfl) ?_)
      show Eqv _ _
      rw [may_no (j := 3) (by decide) (by simp only [lim]; omega)]
      show Eqv _ _
      exact .up (.up (.refl _))
    repeat (first | refine branch_true ?_ | refine branch_false ?_ | refine branch_f' (bne_self_eq_false _) ?_ | refine branch_t' (beq_self_eq_true _) ?_ | refine branch_t' (decide_eq_true rfl) ?_)
    repeat (refine need_intro (by decide) ?_)
    repeat (first | refine branch_true ?_ | refine branch_false ?_ | refine branch_f' (bne_self_eq_false _) ?_ | refine branch_t' (beq_self_eq_true _) ?_ | refine branch_t' (decide_eq_true rfl) ?_)
    repeat (refine need_intro (by decide) ?_)
    repeat (first | refine branch_true ?_ | refine branch_false ?_ | refine branch_f' (bne_self_eq_false _) ?_ | refine branch_t' (beq_self_eq_true _) ?_ | refine branch_t' (decide_eq_true rfl) ?_)
    apply branch_intro <;> intro h2 <;> simp at h2
    · repeat (first | refine branch_true ?_ | refine branch_false ?_ | refine branch_f' (bne_self_eq_false _) ?_ | refine branch_t' (beq_self_eq_true _) ?_ | refine branch_t' (decide_eq_true rfl) ?_)
      show Eqv _ _
      rw [may_no (j := 5) (by decide) (by simp only [lim]; omega)]
      show Eqv _ _
      exact .up (.up (.refl _))
    repeat (first | refine branch_true ?_ | refine branch_false ?_ | refine branch_f' (bne_self_eq_false _) ?_ | refine branch_t' (beq_self_eq_true _) ?_ | refine branch_t' (decide_eq_true rfl) ?_)
    repeat (refine need_intro (by decide) ?_)
    repeat (first | refine branch_true ?_ | refine branch_false ?_ | refine branch_f' (bne_self_eq_false _) ?_ | refine branch_t' (beq_self_eq_true _) ?_ | refine branch_t' (decide_eq_true rfl) ?_)
    repeat (refine need_intro (by decide) ?_)
    repeat (first | refine branch_true ?_ | refine branch_false ?_ | refine branch_f' (bne_self_eq_false _) ?_ | refine branch_t' (beq_self_eq_true _) ?_ | refine branch_t' (decide_eq_true rfl) ?_)
    exact ⟨2, ⟨by decide, hno, by simp only [stepP]; omega⟩, by decide, weak_keep (keep 59 [1, 2, 3]) [0] rfl rfl rfl⟩
  | 2, ⟨_, hno⟩ =>
    refine branch_false ?_
    refine loop_weak (fun i : Nat => slots 59 [(1, .ptr ⟨0, 0, 0⟩), (2, .bool false), (4, .int .i64 i)])
      (fun i => [.cells (dcells d)]) (fun i => i ≤ 3 ∧ okS d (2 + 6 * i)) (fun i => 3 - i) 0 ⟨Nat.zero_le _, hno⟩ (weak_keep (keep 59 [1, 2, 4]) [0] rfl rfl rfl) ?_
    intro i hi
    match i, hi with
    | 0, ⟨_, hno⟩ =>
      refine branch_true ?_
      repeat (refine need_intro (by decide) ?_)
      apply branch_intro <;> intro h <;> simp at h
      · repeat (first | refine branch_true ?_ | refine branch_false ?_ | refine branch_f' (bne_self_eq_false _) ?_ | refine branch_t' (beq_self_eq_true _) ?_ | refine branch_t' (decide_eq_true rfl) ?_)
        show Eqv _ _
        rw [may_no (j := 6) (by decide) (by simp only [lim]; omega)]
        show Eqv _ _
        exact .up (.up (.refl _))
      repeat (first | refine branch_true ?_ | refine branch_false ?_ | refine branch_f' (bne_self_eq_false _) ?_ | refine branch_t' (beq_self_eq_true _) ?_ | refine branch_t' (decide_eq_true rfl) ?_)
      refine loop_weak (fun k : Nat => slots 59 [(1, .ptr ⟨0, 0, 0⟩), (2, .bool false), (4, .int .i64 0), (5, .int .i64 k)])
        (fun k => [.cells (dcells d)]) (fun k => k ≤ 5 ∧ okS d (3 + k)) (fun k => 5 - k) 0 ⟨Nat.zero_le _, hno, by simp only [stepP]; omega⟩ (weak_keep (keep 59 [1, 2, 4, 5]) [0] rfl rfl rfl) ?_
      intro k hk
      match k, hk with
      | 0, ⟨_, hk⟩ =>
        refine branch_true ?_
        repeat (refine need_intro (by decide) ?_)
        apply branch_intro <;> intro h2 <;> simp at h2
        · repeat (first | refine branch_true ?_ | refine branch_false ?_ | refine branch_f' (bne_self_eq_false _) ?_ | refine branch_t' (beq_self_eq_true _) ?_ | refine branch_t' (decide_eq_true rfl) ?_)
          show Eqv _ _
          rw [may_no (j := 7) (by decide) (by simp only [lim]; omega)]
          show Eqv _ _
          exact .up (.up (.refl _))
        repeat (first | refine branch_true ?_ | refine branch_false ?_ | refine branch_f' (bne_self_eq_false _) ?_ | refine branch_t' (beq_self_eq_true _) ?_ | refine branch_t' (decide_eq_true rfl) ?_)
        exact ⟨1, ⟨by decide, hk, by simp only [stepP]; omega⟩, by decide, weak_keep (keep 59 [1, 2, 4, 5]) [0] rfl rfl rfl⟩
      | 1, ⟨_, hk⟩ =>
        refine branch_true ?_
        repeat (refine need_intro (by decide) ?_)
        apply branch_intro <;> intro h2 <;> simp at h2
        · repeat (first | refine branch_true ?_ | refine branch_false ?_ | refine branch_f' (bne_self_eq_false _) ?_ | refine branch_t' (beq_self_eq_true _) ?_ | refine branch_t' (decide_eq_true rfl) ?_)
          show Eqv _ _
          rw [may_no (j := 8) (by decide) (by simp only [lim]; omega)]
          show Eqv _ _
          exact .up (.up (.refl _))
        repeat (first | refine branch_true ?_ | refine branch_false ?_ | refine branch_f' (bne_self_eq_false _) ?_ | refine branch_t' (beq_self_eq_true _) ?_ | refine branch_t' (decide_eq_true rfl) ?_)
        exact ⟨2, ⟨by decide, hk, by simp only [stepP]; omega⟩, by decide, weak_keep (keep 59 [1, 2, 4, 5]) [0] rfl rfl rfl⟩
      | 2, ⟨_, hk⟩ =>
        refine branch_true ?_
        repeat (refine need_intro (by decide) ?_)
        apply branch_intro <;> intro h2 <;> simp at h2
        · repeat (first | refine branch_true ?_ | refine branch_false ?_ | refine branch_f' (bne_self_eq_false _) ?_ | refine branch_t' (beq_self_eq_true _) ?_ | refine branch_t' (decide_eq_true rfl) ?_)
          show Eqv _ _
          rw [may_no (j := 9) (by decide) (by simp only [lim]; omega)]
          show Eqv _ _
          exact .up (.up (.refl _))
        repeat (first | refine branch_true ?_ | refine branch_false ?_ | refine branch_f' (bne_self_eq_false _) ?_ | refine branch_t' (beq_self_eq_true _) ?_ | refine branch_t' (decide_eq_true rfl) ?_)
        exact ⟨3, ⟨by decide, hk, by simp only [stepP]; omega⟩, by decide, weak_keep (keep 59 [1, 2, 4, 5]) [0] rfl rfl rfl⟩
      | 3, ⟨_, hk⟩ =>
        refine branch_true ?_
        repeat (refine need_intro (by decide) ?_)
        apply branch_intro <;> intro h2 <;> simp at h2
        · repeat (first | refine branch_true ?_ | refine branch_false ?_ | refine branch_f' (bne_self_eq_false _) ?_ | refine branch_t' (beq_self_eq_true _) ?_ | refine branch_t' (decide_eq_true rfl) ?_)
          show Eqv _ _
          rw [may_no (j := 10) (by decide) (by simp only [lim]; omega)]
          show Eqv _ _
          exact .up (.up (.refl _))
        repeat (first | refine branch_true ?_ | refine branch_false ?_ | refine branch_f' (bne_self_eq_false _) ?_ | refine branch_t' (beq_self_eq_true _) ?_ | refine branch_t' (decide_eq_true rfl) ?_)
        exact ⟨4, ⟨by decide, hk, by simp only [stepP]; omega⟩, by decide, weak_keep (keep 59 [1, 2, 4, 5]) [0] rfl rfl rfl⟩
      | 4, ⟨_, hk⟩ =>
        refine branch_true ?_
        repeat (refine need_intro (by decide) ?_)
        apply branch_intro <;> intro h2 <;> simp at h2
        · repeat (first | refine branch_true ?_ | refine branch_false ?_ | refine branch_f' (bne_self_eq_false _) ?_ | refine branch_t' (beq_self_eq_true _) ?_ | refine branch_t' (decide_eq_true rfl) ?_)
          show Eqv _ _
          rw [may_no (j := 11) (by decide) (by simp only [lim]; omega)]
          show Eqv _ _
          exact .up (.up (.refl _))
        repeat (first | refine branch_true ?_ | refine branch_false ?_ | refine branch_f' (bne_self_eq_false _) ?_ | refine branch_t' (beq_self_eq_true _) ?_ | refine branch_t' (decide_eq_true rfl) ?_)
        exact ⟨5, ⟨by decide, hk, by simp only [stepP]; omega⟩, by decide, weak_keep (keep 59 [1, 2, 4, 5]) [0] rfl rfl rfl⟩
      | 5, ⟨_, hk⟩ =>
        refine branch_false ?_
        exact ⟨1, ⟨by decide, hk⟩, by decide, weak_keep (keep 59 [1, 2, 4]) [0] rfl rfl rfl⟩
    | 1, ⟨_, hno⟩ =>
      refine branch_true ?_
      repeat (refine need_intro (by decide) ?_)
      apply branch_intro <;> intro h <;> simp at h
      · repeat (first | refine branch_true ?_ | refine branch_false ?_ | refine branch_f' (bne_self_eq_false _) ?_ | refine branch_t' (beq_self_eq_true _) ?_ | refine branch_t' (decide_eq_true rfl) ?_)
        show Eqv _ _
        rw [may_no (j := 12) (by decide) (by simp only [lim]; omega)]
        show Eqv _ _
        exact .up (.up (.refl _))
      repeat (first | refine branch_true ?_ | refine branch_false ?_ | refine branch_f' (bne_self_eq_false _) ?_ | refine branch_t' (beq_self_eq_true _) ?_ | refine branch_t' (decide_eq_true rfl) ?_)
      refine loop_weak (fun k : Nat => slots 59 [(1, .ptr ⟨0, 0, 0⟩), (2, .bool false), (4, .int .i64 1), (5, .int .i64 k)])
        (fun k => [.cells (dcells d)]) (fun k => k ≤ 5 ∧ okS d (9 + k)) (fun k => 5 - k) 0 ⟨Nat.zero_le _, hno, by simp only [stepP]; omega⟩ (weak_keep (keep 59 [1, 2, 4, 5]) [0] rfl rfl rfl) ?_
      intro k hk
      match k, hk with
      | 0, ⟨_, hk⟩ =>
        refine branch_true ?_
        repeat (refine need_intro (by decide) ?_)
        apply branch_intro <;> intro h2 <;> simp at h2
        · repeat (first | refine branch_true ?_ | refine branch_false ?_ | refine branch_f' (bne_self_eq_false _) ?_ | refine branch_t' (beq_self_eq_true _) ?_ | refine branch_t' (decide_eq_true rfl) ?_)
          show Eqv _ _
          rw [may_no (j := 13) (by decide) (by simp only [lim]; omega)]
          show Eqv _ _
          exact .up (.up (.refl _))
        repeat (first | refine branch_true ?_ | refine branch_false ?_ | refine branch_f' (bne_self_eq_false _) ?_ | refine branch_t' (beq_self_eq_true _) ?_ | refine branch_t' (decide_eq_true rfl) ?_)
        exact ⟨1, ⟨by decide, hk, by simp only [stepP]; omega⟩, by decide, weak_keep (keep 59 [1, 2, 4, 5]) [0] rfl rfl rfl⟩
      | 1, ⟨_, hk⟩ =>
        refine branch_true ?_
        repeat (refine need_intro (by decide) ?_)
        apply branch_intro <;> intro h2 <;> simp at h2
        · repeat (first | refine branch_true ?_ | refine branch_false ?_ | refine branch_f' (bne_self_eq_false _) ?_ | refine branch_t' (beq_self_eq_true _) ?_ | refine branch_t' (decide_eq_true rfl) ?_)
          show Eqv _ _
          rw [may_no (j := 14) (by decide) (by simp only [lim]; omega)]
          show Eqv _ _
          exact .up (.up (.refl _))
        repeat (first | refine branch_true ?_ | refine branch_false ?_ | refine branch_f' (bne_self_eq_false _) ?_ | refine branch_t' (beq_self_eq_true _) ?_ | refine branch_t' (decide_eq_true rfl) ?_)
        exact ⟨2, ⟨by decide, hk, by simp only [stepP]; omega⟩, by decide, weak_keep (keep 59 [1, 2, 4, 5]) [0] rfl rfl rfl⟩
      | 2, ⟨_, hk⟩ =>
        refine branch_true ?_
        repeat (refine need_intro (by decide) ?_)
        apply branch_intro <;> intro h2 <;> simp at h2
        · repeat (first | refine branch_true ?_ | refine branch_false ?_ | refine branch_f' (bne_self_eq_false _) ?_ | refine branch_t' (beq_self_eq_true _) ?_ | refine branch_t' (decide_eq_true rfl) ?_)
          show Eqv _ _
          rw [may_no (j := 15) (by decide) (by simp only [lim]; omega)]
          show Eqv _ _
          exact .up (.up (.refl _))
        repeat (first | refine branch_true ?_ | refine branch_false ?_ | refine branch_f' (bne_self_eq_false _) ?_ | refine branch_t' (beq_self_eq_true _) ?_ | refine branch_t' (decide_eq_true rfl) ?_)
        exact ⟨3, ⟨by decide, hk, by simp only [stepP]; omega⟩, by decide, weak_keep (keep 59 [1, 2, 4, 5]) [0] rfl rfl rfl⟩
      | 3, ⟨_, hk⟩ =>
        refine branch_true ?_
        repeat (refine need_intro (by decide) ?_)
        apply branch_intro <;> intro h2 <;> simp at h2
        · repeat (first | refine branch_true ?_ | refine branch_false ?_ | refine branch_f' (bne_self_eq_false _) ?_ | refine branch_t' (beq_self_eq_true _) ?_ | refine branch_t' (decide_eq_true rfl) ?_)
          show Eqv _ _
          rw [may_no (j := 16) (by decide) (by simp only [lim]; omega)]
          show Eqv _ _
          exact .up (.up (.refl _))
        repeat (first | refine branch_true ?_ | refine branch_false ?_ | refine branch_f' (bne_self_eq_false _) ?_ | refine branch_t' (beq_self_eq_true _) ?_ | refine branch_t' (decide_eq_true rfl) ?_)
        exact ⟨4, ⟨by decide, hk, by simp only [stepP]; omega⟩, by decide, weak_keep (keep 59 [1, 2, 4, 5]) [0] rfl rfl rfl⟩
      | 4, ⟨_, hk⟩ =>
        refine branch_true ?_
        repeat (refine need_intro (by decide) ?_)
        apply branch_intro <;> intro h2 <;> simp at h2
        · repeat (first | refine branch_true ?_ | refine branch_false ?_ | refine branch_f' (bne_self_eq_false _) ?_ | refine branch_t' (beq_self_eq_true _) ?_ | refine branch_t' (decide_eq_true rfl) ?_)
          show Eqv _ _
          rw [may_no (j := 17) (by decide) (by simp only [lim]; omega)]
          show Eqv _ _
          exact .up (.up (.refl _))
        repeat (first | refine branch_true ?_ | refine branch_false ?_ | refine branch_f' (bne_self_eq_false _) ?_ | refine branch_t' (beq_self_eq_true _) ?_ | refine branch_t' (decide_eq_true rfl) ?_)
        exact ⟨5, ⟨by decide, hk, by simp only [stepP]; omega⟩, by decide, weak_keep (keep 59 [1, 2, 4, 5]) [0] rfl rfl rfl⟩
      | 5, ⟨_, hk⟩ =>
        refine branch_false ?_
        exact ⟨2, ⟨by decide, hk⟩, by decide, weak_keep (keep 59 [1, 2, 4]) [0] rfl rfl rfl⟩
    | 2, ⟨_, hno⟩ =>
      refine branch_true ?_
      repeat (refine need_intro (by decide) ?_)
      apply branch_intro <;> intro h <;> simp at h
      · repeat (first | refine branch_true ?_ | refine branch_false ?_ | refine branch_f' (bne_self_eq_false _) ?_ | refine branch_t' (beq_self_eq_true _) ?_ | refine branch_t' (decide_eq_true rfl) ?_)
        show Eqv _ _
        rw [may_no (j := 18) (by decide) (by simp only [lim]; omega)]
        show Eqv _ _
        exact .up (.up (.refl _))
      repeat (first | refine branch_true ?_ | refine branch_false ?_ | refine branch_f' (bne_self_eq_false _) ?_ | refine branch_t' (beq_self_eq_true _) ?_ | refine branch_t' (decide_eq_true rfl) ?_)
      refine loop_weak (fun k : Nat => slots 59 [(1, .ptr ⟨0, 0, 0⟩), (2, .bool false), (4, .int .i64 2), (5, .int .i64 k)])
        (fun k => [.cells (dcells d)]) (fun k => k ≤ 5 ∧ okS d (15 + k)) (fun k => 5 - k) 0 ⟨Nat.zero_le _, hno, by simp only [stepP]; omega⟩ (weak_keep (keep 59 [1, 2, 4, 5]) [0] rfl rfl rfl) ?_
      intro k hk
      match k, hk with
      | 0, ⟨_, hk⟩ =>
        refine branch_true ?_
        repeat (refine need_intro (by decide) ?_)
        apply branch_intro <;> intro h2 <;> simp at h2
        · repeat (first | refine branch_true ?_ | refine branch_false ?_ | refine branch_f' (bne_self_eq_false _) ?_ | refine branch_t' (beq_self_eq_true _) ?_ | refine branch_t' (decide_eq_true rfl) ?_)
          show Eqv _ _
          rw [may_no (j := 19) (by decide) (by simp only [lim]; omega)]
          show Eqv _ _
          exact .up (.up (.refl _))
        repeat (first | refine branch_true ?_ | refine branch_false ?_ | refine branch_f' (bne_self_eq_false _) ?_ | refine branch_t' (beq_self_eq_true _) ?_ | refine branch_t' (decide_eq_true rfl) ?_)
        exact ⟨1, ⟨by decide, hk, by simp only [stepP]; omega⟩, by decide, weak_keep (keep 59 [1, 2, 4, 5]) [0] rfl rfl rfl⟩
      | 1, ⟨_, hk⟩ =>
        refine branch_true ?_
        repeat (refine need_intro (by decide) ?_)
        apply branch_intro <;> intro h2 <;> simp at h2
        · repeat (first | refine branch_true ?_ | refine branch_false ?_ | refine branch_f' (bne_self_eq_false _) ?_ | refine branch_t' (beq_self_eq_true _) ?_ | refine branch_t' (decide_eq_true rfl) ?_)
          show Eqv _ _
          rw [may_no (j := 20) (by decide) (by simp only [lim]; omega)]
          show Eqv _ _
          exact .up (.up (.refl _))
        repeat (first | refine branch_true ?_ | refine branch_false ?_ | refine branch_f' (bne_self_eq_false _) ?_ | refine branch_t' (beq_self_eq_true _) ?_ | refine branch_t' (decide_eq_true rfl) ?_)
        exact ⟨2, ⟨by decide, hk, by simp only [stepP]; omega⟩, by decide, weak_keep (keep 59 [1, 2, 4, 5]) [0] rfl rfl rfl⟩
      | 2, ⟨_, hk⟩ =>
        refine branch_true ?_
        repeat (refine need_intro (by decide) ?_)
        apply branch_intro <;> intro h2 <;> simp at h2
        · repeat (first | refine branch_true ?_ | refine branch_false ?_ | refine branch_f' (bne_self_eq_false _) ?_ | refine branch_t' (beq_self_eq_true _) ?_ | refine branch_t' (decide_eq_true rfl) ?_)
          show Eqv _ _
          rw [may_no (j := 21) (by decide) (by simp only [lim]; omega)]
          show Eqv _ _
          exact .up (.up (.refl _))
        repeat (first | refine branch_true ?_ | refine branch_false ?_ | refine branch_f' (bne_self_eq_false _) ?_ | refine branch_t' (beq_self_eq_true _) ?_ | refine branch_t' (decide_eq_true rfl) ?_)
        exact ⟨3, ⟨by decide, hk, by simp only [stepP]; omega⟩, by decide, weak_keep (keep 59 [1, 2, 4, 5]) [0] rfl rfl rfl⟩
      | 3, ⟨_, hk⟩ =>
        refine branch_true ?_
        repeat (refine need_intro (by decide) ?_)
        apply branch_intro <;> intro h2 <;> simp at h2
        · repeat (first | refine branch_true ?_ | refine branch_false ?_ | refine branch_f' (bne_self_eq_false _) ?_ | refine branch_t' (beq_self_eq_true _) ?_ | refine branch_t' (decide_eq_true rfl) ?_)
          show Eqv _ _
          rw [may_no (j := 22) (by decide) (by simp only [lim]; omega)]
          show Eqv _ _
          exact .up (.up (.refl _))
        repeat (first | refine branch_true ?_ | refine branch_false ?_ | refine branch_f' (bne_self_eq_false _) ?_ | refine branch_t' (beq_self_eq_true _) ?_ | refine branch_t' (decide_eq_true rfl) ?_)
        exact ⟨4, ⟨by decide, hk, by simp only [stepP]; omega⟩, by decide, weak_keep (keep 59 [1, 2, 4, 5]) [0] rfl rfl rfl⟩
      | 4, ⟨_, hk⟩ =>
        refine branch_true ?_
        repeat (refine need_intro (by decide) ?_)
        apply branch_intro <;> intro h2 <;> simp at h2
        · repeat (first | refine branch_true ?_ | refine branch_false ?_ | refine branch_f' (bne_self_eq_false _) ?_ | refine branch_t' (beq_self_eq_true _) ?_ | refine branch_t' (decide_eq_true rfl) ?_)
          show Eqv _ _
          rw [may_no (j := 23) (by decide) (by simp only [lim]; omega)]
          show Eqv _ _
          exact .up (.up (.refl _))
        repeat (first | refine branch_true ?_ | refine branch_false ?_ | refine branch_f' (bne_self_eq_false _) ?_ | refine branch_t' (beq_self_eq_true _) ?_ | refine branch_t' (decide_eq_true rfl) ?_)
        exact ⟨5, ⟨by decide, hk, by simp only [stepP]; omega⟩, by decide, weak_keep (keep 59 [1, 2, 4, 5]) [0] rfl rfl rfl⟩
      | 5, ⟨_, hk⟩ =>
        refine branch_false ?_
        exact ⟨3, ⟨by decide, hk⟩, by decide, weak_keep (keep 59 [1, 2, 4]) [0] rfl rfl rfl⟩
    | 3, ⟨_, hno⟩ =>
      refine branch_false ?_
      have hm := may_all hno
      apply branch_intro <;> intro h
      · repeat (first | refine branch_true ?_ | refine branch_false ?_ | refine branch_f' (bne_self_eq_false _) ?_ | refine branch_t' (beq_self_eq_true _) ?_ | refine branch_t' (decide_eq_true rfl) ?_)
        show Eqv _ _
        rw [hm, h, Bool.true_and]
        show Eqv _ _
        exact .up (.up (.refl _))
      · repeat (first | refine branch_true ?_ | refine branch_false ?_ | refine branch_f' (bne_self_eq_false _) ?_ | refine branch_t' (beq_self_eq_true _) ?_ | refine branch_t' (decide_eq_true rfl) ?_)
        show Eqv _ _
        rw [hm, h]
        show Eqv _ _
        exact .up (.up (.refl _))
def clR (n j : Nat) : Int := match j with
  | 6 => 0 | 12 => 0 | 18 => 0 | 24 => 0 | 25 => 0
  | j => match Nat.ble (stg j) n with | true => 10 | false => 0
set_option maxHeartbeats 4000000 in
theorem rclear_c : callP Try.prog 28 [] (· = dispA blankD) := by
  refine callE_def env (fn := Try.f28) rfl (by decide) rfl ?_
  refine loop_weak (fun i : Nat => slots 33 [(0, .ptr ⟨0, 0, 0⟩), (1, .ptr ⟨1, 0, 0⟩), (2, .int .i64 i)])
    (fun i => [.cells (dcells fun _ => 0), .cells (dcells (clR i))]) (fun i => i ≤ 2) (fun i => 2 - i) 0 (Nat.zero_le _) (weak_keep (keep 33 [0, 1, 2]) [0, 1] rfl rfl rfl) ?_
  intro i hi
  match i, hi with
  | 0, _ =>
    refine branch_true ?_
    repeat (refine need_intro (by decide) ?_)
    exact ⟨1, by decide, by decide, weak_keep (keep 33 [0, 1, 2]) [0, 1] rfl rfl rfl⟩
  | 1, _ =>
    refine branch_true ?_
    repeat (refine need_intro (by decide) ?_)
    exact ⟨2, by decide, by decide, weak_keep (keep 33 [0, 1, 2]) [0, 1] rfl rfl rfl⟩
  | 2, _ =>
    refine branch_false ?_
    refine loop_weak (fun i : Nat => slots 33 [(0, .ptr ⟨0, 0, 0⟩), (1, .ptr ⟨1, 0, 0⟩), (3, .int .i64 i)])
      (fun i => [.cells (dcells fun _ => 0), .cells (dcells (clR (2 + 6 * i)))]) (fun i => i ≤ 3) (fun i => 3 - i) 0 (Nat.zero_le _) (weak_keep (keep 33 [0, 1, 3]) [0, 1] rfl rfl rfl) ?_
    intro i hi
    match i, hi with
    | 0, _ =>
      refine branch_true ?_
      refine loop_weak (fun k : Nat => slots 33 [(0, .ptr ⟨0, 0, 0⟩), (1, .ptr ⟨1, 0, 0⟩), (3, .int .i64 0), (4, .int .i64 k)])
        (fun k => [.cells (dcells fun _ => 0), .cells (dcells (clR (3 + k)))]) (fun k => k ≤ 5) (fun k => 5 - k) 0 (Nat.zero_le _) (weak_keep (keep 33 [0, 1, 3, 4]) [0, 1] rfl rfl rfl) ?_
      intro k hk
      match k, hk with
      | 0, _ =>
        refine branch_true ?_
        repeat (refine need_intro (by decide) ?_)
        exact ⟨1, by decide, by decide, weak_keep (keep 33 [0, 1, 3, 4]) [0, 1] rfl rfl rfl⟩
      | 1, _ =>
        refine branch_true ?_
        repeat (refine need_intro (by decide) ?_)
        exact ⟨2, by decide, by decide, weak_keep (keep 33 [0, 1, 3, 4]) [0, 1] rfl rfl rfl⟩
      | 2, _ =>
        refine branch_true ?_
        repeat (refine need_intro (by decide) ?_)
        exact ⟨3, by decide, by decide, weak_keep (keep 33 [0, 1, 3, 4]) [0, 1] rfl rfl rfl⟩
      | 3, _ =>
        refine branch_true ?_
        repeat (refine need_intro (by decide) ?_)
        exact ⟨4, by decide, by decide, weak_keep (keep 33 [0, 1, 3, 4]) [0, 1] rfl rfl rfl⟩
      | 4, _ =>
        refine branch_true ?_
        repeat (refine need_intro (by decide) ?_)
        exact ⟨5, by decide, by decide, weak_keep (keep 33 [0, 1, 3, 4]) [0, 1] rfl rfl rfl⟩
      | 5, _ =>
        refine branch_false ?_
        exact ⟨1, by decide, by decide, weak_keep (keep 33 [0, 1, 3]) [0, 1] rfl rfl rfl⟩
    | 1, _ =>
      refine branch_true ?_
      refine loop_weak (fun k : Nat => slots 33 [(0, .ptr ⟨0, 0, 0⟩), (1, .ptr ⟨1, 0, 0⟩), (3, .int .i64 1), (4, .int .i64 k)])
        (fun k => [.cells (dcells fun _ => 0), .cells (dcells (clR (9 + k)))]) (fun k => k ≤ 5) (fun k => 5 - k) 0 (Nat.zero_le _) (weak_keep (keep 33 [0, 1, 3, 4]) [0, 1] rfl rfl rfl) ?_
      intro k hk
      match k, hk with
      | 0, _ =>
        refine branch_true ?_
        repeat (refine need_intro (by decide) ?_)
        exact ⟨1, by decide, by decide, weak_keep (keep 33 [0, 1, 3, 4]) [0, 1] rfl rfl rfl⟩
      | 1, _ =>
        refine branch_true ?_
        repeat (refine need_intro (by decide) ?_)
        exact ⟨2, by decide, by decide, weak_keep (keep 33 [0, 1, 3, 4]) [0, 1] rfl rfl rfl⟩
      | 2, _ =>
        refine branch_true ?_
        repeat (refine need_intro (by decide) ?_)
        exact ⟨3, by decide, by decide, weak_keep (keep 33 [0, 1, 3, 4]) [0, 1] rfl rfl rfl⟩
      | 3, _ =>
        refine branch_true ?_
        repeat (refine need_intro (by decide) ?_)
        exact ⟨4, by decide, by decide, weak_keep (keep 33 [0, 1, 3, 4]) [0, 1] rfl rfl rfl⟩
      | 4, _ =>
        refine branch_true ?_
        repeat (refine need_intro (by decide) ?_)
        exact ⟨5, by decide, by decide, weak_keep (keep 33 [0, 1, 3, 4]) [0, 1] rfl rfl rfl⟩
      | 5, _ =>
        refine branch_false ?_
        exact ⟨2, by decide, by decide, weak_keep (keep 33 [0, 1, 3]) [0, 1] rfl rfl rfl⟩
    | 2, _ =>
      refine branch_true ?_
      refine loop_weak (fun k : Nat => slots 33 [(0, .ptr ⟨0, 0, 0⟩), (1, .ptr ⟨1, 0, 0⟩), (3, .int .i64 2), (4, .int .i64 k)])
        (fun k => [.cells (dcells fun _ => 0), .cells (dcells (clR (15 + k)))]) (fun k => k ≤ 5) (fun k => 5 - k) 0 (Nat.zero_le _) (weak_keep (keep 33 [0, 1, 3, 4]) [0, 1] rfl rfl rfl) ?_
      intro k hk
      match k, hk with
      | 0, _ =>
        refine branch_true ?_
        repeat (refine need_intro (by decide) ?_)
        exact ⟨1, by decide, by decide, weak_keep (keep 33 [0, 1, 3, 4]) [0, 1] rfl rfl rfl⟩
      | 1, _ =>
        refine branch_true ?_
        repeat (refine need_intro (by decide) ?_)
        exact ⟨2, by decide, by decide, weak_keep (keep 33 [0, 1, 3, 4]) [0, 1] rfl rfl rfl⟩
      | 2, _ =>
        refine branch_true ?_
        repeat (refine need_intro (by decide) ?_)
        exact ⟨3, by decide, by decide, weak_keep (keep 33 [0, 1, 3, 4]) [0, 1] rfl rfl rfl⟩
      | 3, _ =>
        refine branch_true ?_
        repeat (refine need_intro (by decide) ?_)
        exact ⟨4, by decide, by decide, weak_keep (keep 33 [0, 1, 3, 4]) [0, 1] rfl rfl rfl⟩
      | 4, _ =>
        refine branch_true ?_
        repeat (refine need_intro (by decide) ?_)
        exact ⟨5, by decide, by decide, weak_keep (keep 33 [0, 1, 3, 4]) [0, 1] rfl rfl rfl⟩
      | 5, _ =>
        refine branch_false ?_
        exact ⟨3, by decide, by decide, weak_keep (keep 33 [0, 1, 3]) [0, 1] rfl rfl rfl⟩
    | 3, _ =>
      refine branch_false ?_
      show Eqv _ _
      exact .up (.up (.refl _))
end Go.Proofs
