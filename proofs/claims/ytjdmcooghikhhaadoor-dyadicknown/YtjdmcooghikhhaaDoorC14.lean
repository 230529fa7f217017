/- Chapter 14, part u: the law of the distance. -/
import Derived.Test.YtjdmcooghikhhaaDoorC13
set_option linter.unusedVariables false
set_option linter.unusedSimpArgs false
/-! Du. -/
namespace Go.Proofs.N13
open Go.E
set_option maxRecDepth 8000

theorem beq_dec {q : Int} {p : Prop} [Decidable p] (h : q = 0 ↔ p) : ((q == 0) == decide p) = true := by
  by_cases hp : p
  · rw [decide_eq_true hp, h.2 hp]; rfl
  · have : ¬ q = 0 := fun c => hp (h.1 c)
    rw [decide_eq_false hp]; simp [this]
set_option maxHeartbeats 8000000 in
theorem distance_law (n1 : Bool) (f1 : Nat → Int) (hf1 : HasL kSm f1) (n2 : Bool) (f2 : Nat → Int) (hf2 : HasL kSm f2) (n3 : Bool) (f3 : Nat → Int) (hf3 : HasL kSm f3) : callP Tryd.prog 7 [smA n1 f1, smA n2 f2, smA n3 f3] (· = .bool true) := by
  have b1 := sm_bd n1 hf1
  have b2 := sm_bd n2 hf2
  have b3 := sm_bd n3 hf3
  have a1 := sm_arg n1 hf1
  have a2 := sm_arg n2 hf2
  have a3 := sm_arg n3 hf3
  have o1 := of_c14 n1 hf1
  have o2 := of_c14 n2 hf2
  have o3 := of_c14 n3 hf3
  generalize smD n1 f1 = x at *
  generalize smD n2 f2 = y at *
  generalize smD n3 f3 = z at *
  have w : ∀ {t : Dy}, Bd 999 1130 t → t.within = true := fun h => h.within (by decide) (by decide) (by decide)
  have ar : ∀ {t : Dy}, Bd 999 1130 t → DArg (dyA t) t := fun h => h.arg (by decide) (by decide) (by decide)
  have bd := (b1.sub b2).abs.mono (L' := 1130) (by decide)
  have bd' := (b2.sub b1).abs.mono (L' := 1130) (by decide)
  have bxz := (b1.sub b3).abs
  have bzy := (b3.sub b2).abs
  have bs := (bxz.plus bzy).mono (L' := 1130) (by decide)
  have d1 := distance_g a1 a2 (w bd)
  have d2 := distance_g a2 a1 (w bd')
  have d3 := distance_g a1 a3 (w (bxz.mono (by decide)))
  have d4 := distance_g a3 a2 (w (bzy.mono (by decide)))
  have s1 := sum_g (ar (bxz.mono (by decide))) (ar (bzy.mono (by decide))) (w bs)
  have c1 := order_s a1 a2 b1 b2
  have c2 := order_s (ar bd) (ar bs) bd bs
  have vd : V 999 (absD (subD x y)) = ((V 999 x - V 999 y).natAbs : Int) := by rw [V_abs, V_sub b1.exp b2.exp]
  have vd' : V 999 (absD (subD y x)) = ((V 999 y - V 999 x).natAbs : Int) := by rw [V_abs, V_sub b2.exp b1.exp]
  have vs : V 999 (plusD (absD (subD x z)) (absD (subD z y))) = ((V 999 x - V 999 z).natAbs : Int) + ((V 999 z - V 999 y).natAbs : Int) := by
    rw [V_plus bxz.exp bzy.exp, V_abs, V_abs, V_sub b1.exp b3.exp, V_sub b3.exp b2.exp]
  have e1 : absD (subD x y) = absD (subD y x) := V_inj bd.canon bd'.canon bd.exp bd'.exp (by rw [vd, vd']; omega)
  have g1 := same_e (w bd) e1
  have g2 := zero_right (same_d (y := .zero) (w bd))
  have hz : absD (subD x y) = .zero ↔ V 999 x = V 999 y := by
    constructor
    · intro h
      rw [h, V_zero] at vd
      omega
    · intro h
      exact V_inj bd.canon (.inl rfl) bd.exp (by show -(999 : Int) ≤ 0; decide) (by rw [vd, V_zero]; omega)
  have heq : ((sg (V 999 x - V 999 y) == 0) == decide (absD (subD x y) = .zero)) = true := beq_dec ((sg_zero _).trans ⟨fun h => hz.2 (by omega), fun h => by have := hz.1 h; omega⟩)
  rw [vd, vs] at c2
  have hle : sg (((V 999 x - V 999 y).natAbs : Int) - (((V 999 x - V 999 z).natAbs : Int) + ((V 999 z - V 999 y).natAbs : Int))) ≤ 0 := (sg_le _).2 (by omega)
  generalize hP : plusD (absD (subD x z)) (absD (subD z y)) = P at *
  have hneg : (absD (subD x y)).neg = false := rfl
  generalize absD (subD x y) = D at *
  generalize absD (subD y x) = D' at *
  generalize absD (subD x z) = E1 at *
  generalize absD (subD z y) = E2 at *
  refine callE_def env (fn := Tryd.f7) rfl (by decide) rfl ?_
  refine draw_tree plan3 (by decide +kernel) ?_
  refine ⟨_, ⟨o1, rfl⟩, ?_⟩
  refine ⟨_, ⟨o2, rfl⟩, ?_⟩
  refine ⟨_, ⟨o3, rfl⟩, ?_⟩
  refine ⟨⟨?_, ?_⟩, ⟨?_, ?_⟩, ⟨?_, ?_⟩⟩
  all_goals
    refine callT_E d1 rfl ?_
    refine draw_tree (picks [0, 1, 2, 3, 4, 5, 6, 7, 8, 9, 10, 11, 12, 13, 14, 15, 16, 17, 18, 19, 20, 21, 22, 23, 24, 25, 26, 27, 28, 29, 30, 31, 32, 33, 34, 35] .done) (by decide +kernel) ?_
    refine ⟨_, ⟨d2, rfl⟩, ?_⟩
    refine ⟨_, ⟨g1, rfl⟩, ?_⟩
    repeat (first | refine branch_true ?_ | refine branch_false ?_ | refine branch_f' (bne_self_eq_false _) ?_ | refine branch_t' (beq_self_eq_true _) ?_ | refine branch_t' (decide_eq_true rfl) ?_)
    refine branch_t' (by rw [hneg]; rfl) ?_
    repeat (first | refine branch_true ?_ | refine branch_false ?_ | refine branch_f' (bne_self_eq_false _) ?_ | refine branch_t' (beq_self_eq_true _) ?_ | refine branch_t' (decide_eq_true rfl) ?_)
    refine ⟨_, ⟨c1, rfl⟩, ?_⟩
    repeat (first | refine branch_true ?_ | refine branch_false ?_ | refine branch_f' (bne_self_eq_false _) ?_ | refine branch_t' (beq_self_eq_true _) ?_ | refine branch_t' (decide_eq_true rfl) ?_)
    refine ⟨_, ⟨g2, rfl⟩, ?_⟩
    repeat (first | refine branch_true ?_ | refine branch_false ?_ | refine branch_f' (bne_self_eq_false _) ?_ | refine branch_t' (beq_self_eq_true _) ?_ | refine branch_t' (decide_eq_true rfl) ?_)
    refine branch_t' heq ?_
    repeat (first | refine branch_true ?_ | refine branch_false ?_ | refine branch_f' (bne_self_eq_false _) ?_ | refine branch_t' (beq_self_eq_true _) ?_ | refine branch_t' (decide_eq_true rfl) ?_)
    refine ⟨_, ⟨d3, rfl⟩, ?_⟩
    repeat (first | refine branch_true ?_ | refine branch_false ?_ | refine branch_f' (bne_self_eq_false _) ?_ | refine branch_t' (beq_self_eq_true _) ?_ | refine branch_t' (decide_eq_true rfl) ?_)
    refine ⟨_, ⟨d4, rfl⟩, ?_⟩
    repeat (first | refine branch_true ?_ | refine branch_false ?_ | refine branch_f' (bne_self_eq_false _) ?_ | refine branch_t' (beq_self_eq_true _) ?_ | refine branch_t' (decide_eq_true rfl) ?_)
    refine ⟨_, ⟨s1, rfl⟩, ?_⟩
    repeat (first | refine branch_true ?_ | refine branch_false ?_ | refine branch_f' (bne_self_eq_false _) ?_ | refine branch_t' (beq_self_eq_true _) ?_ | refine branch_t' (decide_eq_true rfl) ?_)
    refine ⟨_, ⟨c2, rfl⟩, ?_⟩
    repeat (first | refine branch_true ?_ | refine branch_false ?_ | refine branch_f' (bne_self_eq_false _) ?_ | refine branch_t' (beq_self_eq_true _) ?_ | refine branch_t' (decide_eq_true rfl) ?_)
    refine branch_t' (decide_eq_true hle) ?_
    repeat (first | refine branch_true ?_ | refine branch_false ?_ | refine branch_f' (bne_self_eq_false _) ?_ | refine branch_t' (beq_self_eq_true _) ?_ | refine branch_t' (decide_eq_true rfl) ?_)
    refine ⟨_, ⟨awake_c, rfl⟩, ?_⟩
    repeat (first | refine branch_true ?_ | refine branch_false ?_ | refine branch_f' (bne_self_eq_false _) ?_ | refine branch_t' (beq_self_eq_true _) ?_ | refine branch_t' (decide_eq_true rfl) ?_)
    show Eqv _ _
    exact .up (.up (.refl _))
end Go.Proofs.N13
