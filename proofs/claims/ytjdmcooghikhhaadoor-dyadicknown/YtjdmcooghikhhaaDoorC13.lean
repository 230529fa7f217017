/- Chapter 14, part t: the law of the order. -/
import Derived.Test.YtjdmcooghikhhaaDoorC12
set_option linter.unusedVariables false
set_option linter.unusedSimpArgs false
/-! Dt. -/
namespace Go.Proofs.N13
open Go.E
set_option maxRecDepth 8000

theorem sg_three (z : Int) : sg z = -1 ∨ sg z = 0 ∨ sg z = 1 := by
  unfold sg; split
  · exact .inr (.inl rfl)
  split
  · exact .inl rfl
  · exact .inr (.inr rfl)
theorem sg_neg (z : Int) : sg (-z) = - sg z := by
  unfold sg
  by_cases h : z = 0
  · subst h; rfl
  · rw [if_neg (by omega), if_neg h]
    by_cases h2 : z < 0
    · rw [if_neg (by omega), if_pos h2]; rfl
    · rw [if_pos (by omega), if_neg h2]
theorem sg_le (z : Int) : sg z ≤ 0 ↔ z ≤ 0 := by
  unfold sg; split
  · omega
  split <;> omega
theorem sg_zero (z : Int) : sg z = 0 ↔ z = 0 := by
  unfold sg; split
  · omega
  split <;> omega
theorem order_s {u v : AVal} {x y : Dy} {K L : Nat} (hu : DArg u x) (hv : DArg v y) (bx : Bd K L x) (by' : Bd K L y) : callP Tryd.prog 32 [u, v] (· = .int .i64 (sg (V K x - V K y))) := by
  have := order_g hu hv
  rwa [V_sign K, V_sub bx.exp by'.exp] at this
theorem Bd.arg {K L : Nat} {x : Dy} (h : Bd K L x) (hk : K ≤ 8192) (hl : L ≤ 8192) (hb : K + L ≤ 8192) : DArg (dyA x) x := .self h.canon (h.within hk hl hb)
theorem same_d {x y : Dy} (h : x.within = true) : callP Tryd.prog 19 [dyA x, dyA y] (· = .bool (decide (x = y))) := dsame_c x y (by have := (within_fit h).1; omega)
theorem same_e {x y : Dy} (h : x.within = true) (e : x = y) : callP Tryd.prog 19 [dyA x, dyA y] (· = .bool true) := same_true e (by have := (within_fit h).1; omega)

/-- All orders of three boxes. -/
def plan3 : Plan := picks [0, 1, 2, 3, 4, 5] (.fork3 6 7 8 (picks [] (.fork 7 8 (picks [8, 9, 10, 11] .done) (picks [7, 9, 10, 11] .done))) (picks [] (.fork 6 8 (picks [8, 9, 10, 11] .done) (picks [6, 9, 10, 11] .done))) (picks [] (.fork 6 7 (picks [7, 9, 10, 11] .done) (picks [6, 9, 10, 11] .done))))

set_option maxHeartbeats 8000000 in
theorem order_law (n1 : Bool) (f1 : Nat → Int) (hf1 : HasL kSm f1) (n2 : Bool) (f2 : Nat → Int) (hf2 : HasL kSm f2) (n3 : Bool) (f3 : Nat → Int) (hf3 : HasL kSm f3) : callP Tryd.prog 6 [smA n1 f1, smA n2 f2, smA n3 f3] (· = .bool true) := by
  have b1 := sm_bd n1 hf1
  have b2 := sm_bd n2 hf2
  have b3 := sm_bd n3 hf3
  have a1 := sm_arg n1 hf1
  have a2 := sm_arg n2 hf2
  have a3 := sm_arg n3 hf3
  have o1 := of_c14 n1 hf1
  have o2 := of_c14 n2 hf2
  have o3 := of_c14 n3 hf3
  generalize smD n1 f1 = x at *
  generalize smD n2 f2 = y at *
  generalize smD n3 f3 = z at *
  have w : ∀ {t : Dy}, Bd 999 1130 t → t.within = true := fun h => h.within (by decide) (by decide) (by decide)
  have ar : ∀ {t : Dy}, Bd 999 1130 t → DArg (dyA t) t := fun h => h.arg (by decide) (by decide) (by decide)
  have bd := (b1.sub b2).mono (L' := 1130) (by decide)
  have bxz := (b1.plus b3).mono (L' := 1130) (by decide)
  have byz := (b2.plus b3).mono (L' := 1130) (by decide)
  have c1 := order_s a1 a2 b1 b2
  have c2 := order_s a2 a1 b2 b1
  have g1 := less_g a1 a2 (w bd)
  have c3 := zero_right (order_s (ar bd) zero_arg bd (.zero _ _))
  have g2 := sum_g a1 a3 (w bxz)
  have g3 := sum_g a2 a3 (w byz)
  have c4 := order_s (ar bxz) (ar byz) bxz byz
  have c5 := order_s a2 a3 b2 b3
  have c6 := order_s a1 a3 b1 b3
  have g4 := canon_g a1
  have g5 := canon_g a2
  have g6 := same_d (y := y) a1.fits
  rw [show V 999 y - V 999 x = -(V 999 x - V 999 y) by omega, sg_neg] at c2
  rw [V_zero, V_sub b1.exp b2.exp, Int.sub_zero] at c3
  rw [V_plus b1.exp b3.exp, V_plus b2.exp b3.exp, show V 999 x + V 999 z - (V 999 y + V 999 z) = V 999 x - V 999 y by omega] at c4
  have tr : sg (V 999 x - V 999 y) ≤ 0 → sg (V 999 y - V 999 z) ≤ 0 → sg (V 999 x - V 999 z) ≤ 0 := by
    rw [sg_le, sg_le, sg_le]; omega
  have eq0 : sg (V 999 x - V 999 y) = 0 ↔ x = y := by
    rw [sg_zero]
    constructor
    · intro h; exact V_inj b1.canon b2.canon b1.exp b2.exp (by omega)
    · rintro rfl; omega
  have t1 := sg_three (V 999 x - V 999 y)
  have t2 := sg_three (V 999 y - V 999 z)
  have t3 := sg_three (V 999 x - V 999 z)
  generalize sg (V 999 x - V 999 y) = s at *
  generalize sg (V 999 y - V 999 z) = t at *
  generalize sg (V 999 x - V 999 z) = r at *
  have heq : ((s == 0) == decide (x = y)) = true := by
    by_cases h : x = y
    · rw [decide_eq_true h, eq0.2 h]; rfl
    · rw [decide_eq_false h, beq_eq_false_iff_ne.2 (fun c => h (eq0.1 c))]; rfl
  refine callE_def env (fn := Tryd.f6) rfl (by decide) rfl ?_
  refine draw_tree plan3 (by decide +kernel) ?_
  refine ⟨_, ⟨o1, rfl⟩, ?_⟩
  refine ⟨_, ⟨o2, rfl⟩, ?_⟩
  refine ⟨_, ⟨o3, rfl⟩, ?_⟩
  refine ⟨⟨?_, ?_⟩, ⟨?_, ?_⟩, ⟨?_, ?_⟩⟩
  all_goals
    refine callT_E c1 rfl ?_
    refine draw_tree (picks [0, 1, 2, 3, 4, 5, 6, 7, 8, 9, 10, 11, 12, 13, 14, 15, 16, 17, 18, 19, 20, 21, 22, 23, 24, 25] .done) (by decide +kernel) ?_
    refine ⟨_, ⟨c2, rfl⟩, ?_⟩
    have w1 : IntKind.i64.wrap (0 - -s) = s := by rw [wi (by omega) (by omega)]; omega
    refine branch_f' (by rw [w1]; exact bne_self_eq_false s) ?_
    repeat (first | refine branch_true ?_ | refine branch_false ?_ | refine branch_f' (bne_self_eq_false _) ?_ | refine branch_t' (beq_self_eq_true _) ?_ | refine branch_t' (decide_eq_true rfl) ?_)
    refine ⟨_, ⟨g1, rfl⟩, ?_⟩
    repeat (first | refine branch_true ?_ | refine branch_false ?_ | refine branch_f' (bne_self_eq_false _) ?_ | refine branch_t' (beq_self_eq_true _) ?_ | refine branch_t' (decide_eq_true rfl) ?_)
    refine ⟨_, ⟨c3, rfl⟩, ?_⟩
    repeat (first | refine branch_true ?_ | refine branch_false ?_ | refine branch_f' (bne_self_eq_false _) ?_ | refine branch_t' (beq_self_eq_true _) ?_ | refine branch_t' (decide_eq_true rfl) ?_)
    refine ⟨_, ⟨g2, rfl⟩, ?_⟩
    repeat (first | refine branch_true ?_ | refine branch_false ?_ | refine branch_f' (bne_self_eq_false _) ?_ | refine branch_t' (beq_self_eq_true _) ?_ | refine branch_t' (decide_eq_true rfl) ?_)
    refine ⟨_, ⟨g3, rfl⟩, ?_⟩
    repeat (first | refine branch_true ?_ | refine branch_false ?_ | refine branch_f' (bne_self_eq_false _) ?_ | refine branch_t' (beq_self_eq_true _) ?_ | refine branch_t' (decide_eq_true rfl) ?_)
    refine ⟨_, ⟨c4, rfl⟩, ?_⟩
    repeat (first | refine branch_true ?_ | refine branch_false ?_ | refine branch_f' (bne_self_eq_false _) ?_ | refine branch_t' (beq_self_eq_true _) ?_ | refine branch_t' (decide_eq_true rfl) ?_)
    apply branch_intro <;> intro h1
    · have h1 := of_decide_eq_true h1
      repeat (first | refine branch_true ?_ | refine branch_false ?_ | refine branch_f' (bne_self_eq_false _) ?_ | refine branch_t' (beq_self_eq_true _) ?_ | refine branch_t' (decide_eq_true rfl) ?_)
      refine callT_E c5 rfl ?_
      repeat (first | refine branch_true ?_ | refine branch_false ?_ | refine branch_f' (bne_self_eq_false _) ?_ | refine branch_t' (beq_self_eq_true _) ?_ | refine branch_t' (decide_eq_true rfl) ?_)
      apply branch_intro <;> intro h2
      · have h2 := of_decide_eq_true h2
        repeat (first | refine branch_true ?_ | refine branch_false ?_ | refine branch_f' (bne_self_eq_false _) ?_ | refine branch_t' (beq_self_eq_true _) ?_ | refine branch_t' (decide_eq_true rfl) ?_)
        refine callT_E c6 rfl ?_
        repeat (first | refine branch_true ?_ | refine branch_false ?_ | refine branch_f' (bne_self_eq_false _) ?_ | refine branch_t' (beq_self_eq_true _) ?_ | refine branch_t' (decide_eq_true rfl) ?_)
        refine branch_f' (decide_eq_false (by have := tr h1 h2; omega)) ?_
        refine draw_tree (picks [0, 1, 2, 3, 4, 5, 6, 7, 8, 9, 10, 11] .done) (by decide +kernel) ?_
        refine ⟨_, ⟨g4, rfl⟩, ?_⟩
        refine ⟨_, ⟨g5, rfl⟩, ?_⟩
        refine ⟨_, ⟨g6, rfl⟩, ?_⟩
        refine branch_t' heq ?_
        repeat (first | refine branch_true ?_ | refine branch_false ?_ | refine branch_f' (bne_self_eq_false _) ?_ | refine branch_t' (beq_self_eq_true _) ?_ | refine branch_t' (decide_eq_true rfl) ?_)
        refine ⟨_, ⟨awake_c, rfl⟩, ?_⟩
        repeat (first | refine branch_true ?_ | refine branch_false ?_ | refine branch_f' (bne_self_eq_false _) ?_ | refine branch_t' (beq_self_eq_true _) ?_ | refine branch_t' (decide_eq_true rfl) ?_)
        show Eqv _ _
        exact .up (.up (.refl _))
      · repeat (first | refine branch_true ?_ | refine branch_false ?_ | refine branch_f' (bne_self_eq_false _) ?_ | refine branch_t' (beq_self_eq_true _) ?_ | refine branch_t' (decide_eq_true rfl) ?_)
        refine draw_tree (picks [0, 1, 2, 3, 4, 5, 6, 7, 8, 9, 10, 11] .done) (by decide +kernel) ?_
        refine ⟨_, ⟨g4, rfl⟩, ?_⟩
        refine ⟨_, ⟨g5, rfl⟩, ?_⟩
        refine ⟨_, ⟨g6, rfl⟩, ?_⟩
        refine branch_t' heq ?_
        repeat (first | refine branch_true ?_ | refine branch_false ?_ | refine branch_f' (bne_self_eq_false _) ?_ | refine branch_t' (beq_self_eq_true _) ?_ | refine branch_t' (decide_eq_true rfl) ?_)
        refine ⟨_, ⟨awake_c, rfl⟩, ?_⟩
        repeat (first | refine branch_true ?_ | refine branch_false ?_ | refine branch_f' (bne_self_eq_false _) ?_ | refine branch_t' (beq_self_eq_true _) ?_ | refine branch_t' (decide_eq_true rfl) ?_)
        show Eqv _ _
        exact .up (.up (.refl _))
    · repeat (first | refine branch_true ?_ | refine branch_false ?_ | refine branch_f' (bne_self_eq_false _) ?_ | refine branch_t' (beq_self_eq_true _) ?_ | refine branch_t' (decide_eq_true rfl) ?_)
      refine draw_tree (picks [0, 1, 2, 3, 4, 5, 6, 7, 8, 9, 10, 11] .done) (by decide +kernel) ?_
      refine ⟨_, ⟨g4, rfl⟩, ?_⟩
      refine ⟨_, ⟨g5, rfl⟩, ?_⟩
      refine ⟨_, ⟨g6, rfl⟩, ?_⟩
      refine branch_t' heq ?_
      repeat (first | refine branch_true ?_ | refine branch_false ?_ | refine branch_f' (bne_self_eq_false _) ?_ | refine branch_t' (beq_self_eq_true _) ?_ | refine branch_t' (decide_eq_true rfl) ?_)
      refine ⟨_, ⟨awake_c, rfl⟩, ?_⟩
      repeat (first | refine branch_true ?_ | refine branch_false ?_ | refine branch_f' (bne_self_eq_false _) ?_ | refine branch_t' (beq_self_eq_true _) ?_ | refine branch_t' (decide_eq_true rfl) ?_)
      show Eqv _ _
      exact .up (.up (.refl _))
end Go.Proofs.N13
