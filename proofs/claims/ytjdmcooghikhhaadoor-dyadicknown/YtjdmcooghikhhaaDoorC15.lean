/- Chapter 14, part v: the law of the ring. -/
import Derived.Test.YtjdmcooghikhhaaDoorC14
set_option linter.unusedVariables false
set_option linter.unusedSimpArgs false
/-! Dv. -/
namespace Go.Proofs.N13
open Go.E
set_option maxRecDepth 8000

theorem one_arg (e : Int) (he : -8192 ≤ e ∧ e ≤ 8192) : DArg (dyA ⟨false, 1, e⟩) ⟨false, 1, e⟩ := .self (.inr rfl) (within_small _ (by decide) he)
theorem V_one {K : Nat} {e : Int} : V K ⟨false, 1, e⟩ = ((2 ^ (e + K).toNat : Nat) : Int) := by
  unfold V sgn
  simp
theorem Bd.plus' {K L L1 L2 : Nat} {x y : Dy} (hx : Bd K L1 x) (hy : Bd K L2 y) (h1 : L1 + 1 ≤ L) (h2 : L2 + 1 ≤ L) : Bd K L (plusD x y) :=
  ((hx.mono (show L1 ≤ L - 1 by omega)).plus (hy.mono (show L2 ≤ L - 1 by omega))).mono (by omega)
theorem Bd.sub' {K L L1 L2 : Nat} {x y : Dy} (hx : Bd K L1 x) (hy : Bd K L2 y) (h1 : L1 + 1 ≤ L) (h2 : L2 + 1 ≤ L) : Bd K L (subD x y) := hx.plus' hy.neg h1 h2
theorem Bd.mul' {K L K1 L1 K2 L2 : Nat} {x y : Dy} (hx : Bd K1 L1 x) (hy : Bd K2 L2 y) (hk : K1 + K2 = K) (hl : L1 + L2 ≤ L) : Bd K L (mulD x y) := by
  subst hk
  exact (hx.mul hy).mono hl
theorem Bd.eq {K L L' : Nat} {x y : Dy} (hx : Bd K L x) (hy : Bd K L' y) (h : V K x = V K y) : x = y := V_inj hx.canon hy.canon hx.exp hy.exp h
theorem V_mul' {K K1 K2 : Nat} {x y : Dy} (hx : -(K1 : Int) ≤ x.e) (hy : -(K2 : Int) ≤ y.e) (h : K1 + K2 = K) : V K (mulD x y) = V K1 x * V K2 y := by
  subst h
  exact V_mul hx hy
set_option maxHeartbeats 16000000 in
theorem ring_law (n1 : Bool) (f1 : Nat → Int) (hf1 : HasL kSm f1) (n2 : Bool) (f2 : Nat → Int) (hf2 : HasL kSm f2) (n3 : Bool) (f3 : Nat → Int) (hf3 : HasL kSm f3) : callP Tryd.prog 12 [smA n1 f1, smA n2 f2, smA n3 f3] (· = .bool true) := by
  have b1 := sm_bd n1 hf1
  have b2 := sm_bd n2 hf2
  have b3 := sm_bd n3 hf3
  have a1 := sm_arg n1 hf1
  have a2 := sm_arg n2 hf2
  have a3 := sm_arg n3 hf3
  have o1 := of_c14 n1 hf1
  have o2 := of_c14 n2 hf2
  have o3 := of_c14 n3 hf3
  generalize smD n1 f1 = x at *
  generalize smD n2 f2 = y at *
  generalize smD n3 f3 = z at *
  have w : ∀ {K L : Nat} {t : Dy}, Bd K L t → K ≤ 2997 → L ≤ 3390 → t.within = true := fun h hk hl => h.within (by omega) (by omega) (by omega)
  have ar : ∀ {K L : Nat} {t : Dy}, Bd K L t → K ≤ 2997 → L ≤ 3390 → DArg (dyA t) t := fun h hk hl => h.arg (by omega) (by omega) (by omega)
  -- sums
  have sxy : Bd 999 1130 (plusD x y) := b1.plus' b2 (by decide) (by decide)
  have syx : Bd 999 1130 (plusD y x) := b2.plus' b1 (by decide) (by decide)
  have syz : Bd 999 1130 (plusD y z) := b2.plus' b3 (by decide) (by decide)
  have l1 : Bd 999 1131 (plusD (plusD x y) z) := sxy.plus' b3 (by decide) (by decide)
  have l2 : Bd 999 1131 (plusD x (plusD y z)) := b1.plus' syz (by decide) (by decide)
  have cxy := sum_g a1 a2 (w sxy (by decide) (by decide))
  have cyx := sum_g a2 a1 (w syx (by decide) (by decide))
  have cyz := sum_g a2 a3 (w syz (by decide) (by decide))
  have cl1 := sum_g (ar sxy (by decide) (by decide)) a3 (w l1 (by decide) (by decide))
  have cl2 := sum_g a1 (ar syz (by decide) (by decide)) (w l2 (by decide) (by decide))
  have e1 := same_e (w sxy (by decide) (by decide)) (sxy.eq syx (by rw [V_plus b1.exp b2.exp, V_plus b2.exp b1.exp]; omega))
  have e2 := same_e (w l1 (by decide) (by decide)) (l1.eq l2 (by rw [V_plus sxy.exp b3.exp, V_plus b1.exp b2.exp, V_plus b1.exp syz.exp, V_plus b2.exp b3.exp]; omega))
  -- products
  have pxy : Bd 1998 2254 (mulD x y) := b1.mul' b2 (by decide) (by decide)
  have pyx : Bd 1998 2254 (mulD y x) := b2.mul' b1 (by decide) (by decide)
  have pyz : Bd 1998 2254 (mulD y z) := b2.mul' b3 (by decide) (by decide)
  have pxz : Bd 1998 2254 (mulD x z) := b1.mul' b3 (by decide) (by decide)
  have q1 : Bd 2997 3381 (mulD (mulD x y) z) := pxy.mul' b3 (by decide) (by decide)
  have q2 : Bd 2997 3381 (mulD x (mulD y z)) := b1.mul' pyz (by decide) (by decide)
  have kxy := product_g a1 a2 (w pxy (by decide) (by decide))
  have kyx := product_g a2 a1 (w pyx (by decide) (by decide))
  have kyz := product_g a2 a3 (w pyz (by decide) (by decide))
  have kxz := product_g a1 a3 (w pxz (by decide) (by decide))
  have kq1 := product_g (ar pxy (by decide) (by decide)) a3 (w q1 (by decide) (by decide))
  have kq2 := product_g a1 (ar pyz (by decide) (by decide)) (w q2 (by decide) (by decide))
  have vxy : V 1998 (mulD x y) = V 999 x * V 999 y := V_mul' b1.exp b2.exp rfl
  have vyx : V 1998 (mulD y x) = V 999 y * V 999 x := V_mul' b2.exp b1.exp rfl
  have vyz : V 1998 (mulD y z) = V 999 y * V 999 z := V_mul' b2.exp b3.exp rfl
  have vxz : V 1998 (mulD x z) = V 999 x * V 999 z := V_mul' b1.exp b3.exp rfl
  have vq1 : V 2997 (mulD (mulD x y) z) = V 1998 (mulD x y) * V 999 z := V_mul' pxy.exp b3.exp rfl
  have vq2 : V 2997 (mulD x (mulD y z)) = V 999 x * V 1998 (mulD y z) := V_mul' b1.exp pyz.exp rfl
  have e3 := same_e (w pxy (by decide) (by decide)) (pxy.eq pyx (by rw [vxy, vyx, Int.mul_comm]))
  have e4 := same_e (w q1 (by decide) (by decide)) (q1.eq q2 (by rw [vq1, vq2, vxy, vyz, Int.mul_assoc]))
  -- distribution
  have m1 : Bd 1998 2260 (mulD x (plusD y z)) := b1.mul' syz (by decide) (by decide)
  have m2 : Bd 1998 2260 (plusD (mulD x y) (mulD x z)) := pxy.plus' pxz (by decide) (by decide)
  have vm1 : V 1998 (mulD x (plusD y z)) = V 999 x * V 999 (plusD y z) := V_mul' b1.exp syz.exp rfl
  have km1 := product_g a1 (ar syz (by decide) (by decide)) (w m1 (by decide) (by decide))
  have cm2 := sum_g (ar pxy (by decide) (by decide)) (ar pxz (by decide) (by decide)) (w m2 (by decide) (by decide))
  have e5 := same_e (w m1 (by decide) (by decide)) (m1.eq m2 (by rw [vm1, V_plus b2.exp b3.exp, V_plus pxy.exp pxz.exp, vxy, vxz, Int.mul_add]))
  -- differences
  have dxy : Bd 999 1130 (subD x y) := b1.sub' b2 (by decide) (by decide)
  have dxx : Bd 999 1130 (subD x x) := b1.sub' b1 (by decide) (by decide)
  have dl : Bd 999 1131 (subD (plusD x y) y) := sxy.sub' b2 (by decide) (by decide)
  have gxy := less_g a1 a2 (w dxy (by decide) (by decide))
  have gxx := less_g a1 a1 (w dxx (by decide) (by decide))
  have gl := less_g (ar sxy (by decide) (by decide)) a2 (w dl (by decide) (by decide))
  have ny := negated_g a2
  have bny : Bd 999 1127 (negD y) := b2.neg
  have cs := sum_g a1 (ar bny (by decide) (by decide)) (w (show Bd 999 1130 (plusD x (negD y)) from dxy) (by decide) (by decide))
  have e6 := same_e (w dxy (by decide) (by decide)) (show subD x y = plusD x (negD y) from rfl)
  have kx := canon_g a1
  have e7 := same_e (w dl (by decide) (by decide)) (dl.eq b1 (by rw [V_sub sxy.exp b2.exp, V_plus b1.exp b2.exp]; omega))
  have e8 := zero_right (same_e (w dxx (by decide) (by decide)) (dxx.eq (.zero 999 0) (by rw [V_sub b1.exp b1.exp, V_zero]; omega)))
  have one := num_n false (m := 1) (k := 1) rfl 0 (by decide) (by decide)
  have po : Bd 999 1130 (mulD x ⟨false, 1, 0⟩) := b1.mul' (K2 := 0) (L2 := 1) ⟨.inr rfl, by decide, by rw [V_one]; decide⟩ (by decide) (by decide)
  have ko := product_g a1 (one_arg 0 (by decide)) (w po (by decide) (by decide))
  have vo : V 999 (mulD x ⟨false, 1, 0⟩) = V 999 x * V 0 ⟨false, 1, 0⟩ := V_mul' b1.exp (by decide) rfl
  have e9 := same_e (w po (by decide) (by decide)) (po.eq b1 (by rw [vo, V_one]; show _ * 1 = _; omega))
  clear vxy vyx vyz vxz vq1 vq2 vm1 vo w ar
  refine callE_def env (fn := Tryd.f12) rfl (by decide) rfl ?_
  refine draw_tree plan3 (by decide +kernel) ?_
  refine ⟨_, ⟨o1, rfl⟩, ?_⟩
  refine ⟨_, ⟨o2, rfl⟩, ?_⟩
  refine ⟨_, ⟨o3, rfl⟩, ?_⟩
  refine ⟨⟨?_, ?_⟩, ⟨?_, ?_⟩, ⟨?_, ?_⟩⟩
  all_goals
    refine draw_tree (picks [0, 1, 2, 3, 4, 5, 6, 7, 8, 9, 10, 11, 12, 13, 14, 15, 16, 17, 18, 19, 20, 21] .done) (by decide +kernel) ?_
    refine ⟨_, ⟨cxy, rfl⟩, ?_⟩
    refine ⟨_, ⟨cyx, rfl⟩, ?_⟩
    refine ⟨_, ⟨e1, rfl⟩, ?_⟩
    repeat (first | refine branch_true ?_ | refine branch_false ?_ | refine branch_f' (bne_self_eq_false _) ?_ | refine branch_t' (beq_self_eq_true _) ?_ | refine branch_t' (decide_eq_true rfl) ?_)
    refine ⟨_, ⟨cxy, rfl⟩, ?_⟩
    repeat (first | refine branch_true ?_ | refine branch_false ?_ | refine branch_f' (bne_self_eq_false _) ?_ | refine branch_t' (beq_self_eq_true _) ?_ | refine branch_t' (decide_eq_true rfl) ?_)
    refine ⟨_, ⟨cl1, rfl⟩, ?_⟩
    repeat (first | refine branch_true ?_ | refine branch_false ?_ | refine branch_f' (bne_self_eq_false _) ?_ | refine branch_t' (beq_self_eq_true _) ?_ | refine branch_t' (decide_eq_true rfl) ?_)
    refine ⟨_, ⟨cyz, rfl⟩, ?_⟩
    repeat (first | refine branch_true ?_ | refine branch_false ?_ | refine branch_f' (bne_self_eq_false _) ?_ | refine branch_t' (beq_self_eq_true _) ?_ | refine branch_t' (decide_eq_true rfl) ?_)
    refine ⟨_, ⟨cl2, rfl⟩, ?_⟩
    repeat (first | refine branch_true ?_ | refine branch_false ?_ | refine branch_f' (bne_self_eq_false _) ?_ | refine branch_t' (beq_self_eq_true _) ?_ | refine branch_t' (decide_eq_true rfl) ?_)
    refine ⟨_, ⟨e2, rfl⟩, ?_⟩
    repeat (first | refine branch_true ?_ | refine branch_false ?_ | refine branch_f' (bne_self_eq_false _) ?_ | refine branch_t' (beq_self_eq_true _) ?_ | refine branch_t' (decide_eq_true rfl) ?_)
    refine draw_tree (picks [0, 1, 2, 3, 4, 5, 6, 7, 8, 9, 10, 11, 12, 13, 14, 15, 16, 17, 18, 19, 20, 21] .done) (by decide +kernel) ?_
    refine ⟨_, ⟨kxy, rfl⟩, ?_⟩
    refine ⟨_, ⟨kyx, rfl⟩, ?_⟩
    refine ⟨_, ⟨e3, rfl⟩, ?_⟩
    repeat (first | refine branch_true ?_ | refine branch_false ?_ | refine branch_f' (bne_self_eq_false _) ?_ | refine branch_t' (beq_self_eq_true _) ?_ | refine branch_t' (decide_eq_true rfl) ?_)
    refine ⟨_, ⟨kxy, rfl⟩, ?_⟩
    repeat (first | refine branch_true ?_ | refine branch_false ?_ | refine branch_f' (bne_self_eq_false _) ?_ | refine branch_t' (beq_self_eq_true _) ?_ | refine branch_t' (decide_eq_true rfl) ?_)
    refine ⟨_, ⟨kq1, rfl⟩, ?_⟩
    repeat (first | refine branch_true ?_ | refine branch_false ?_ | refine branch_f' (bne_self_eq_false _) ?_ | refine branch_t' (beq_self_eq_true _) ?_ | refine branch_t' (decide_eq_true rfl) ?_)
    refine ⟨_, ⟨kyz, rfl⟩, ?_⟩
    repeat (first | refine branch_true ?_ | refine branch_false ?_ | refine branch_f' (bne_self_eq_false _) ?_ | refine branch_t' (beq_self_eq_true _) ?_ | refine branch_t' (decide_eq_true rfl) ?_)
    refine ⟨_, ⟨kq2, rfl⟩, ?_⟩
    repeat (first | refine branch_true ?_ | refine branch_false ?_ | refine branch_f' (bne_self_eq_false _) ?_ | refine branch_t' (beq_self_eq_true _) ?_ | refine branch_t' (decide_eq_true rfl) ?_)
    refine ⟨_, ⟨e4, rfl⟩, ?_⟩
    repeat (first | refine branch_true ?_ | refine branch_false ?_ | refine branch_f' (bne_self_eq_false _) ?_ | refine branch_t' (beq_self_eq_true _) ?_ | refine branch_t' (decide_eq_true rfl) ?_)
    refine draw_tree (picks [0, 1, 2, 3, 4, 5, 6, 7, 8, 9, 10, 11, 12, 13] .done) (by decide +kernel) ?_
    refine ⟨_, ⟨cyz, rfl⟩, ?_⟩
    refine ⟨_, ⟨km1, rfl⟩, ?_⟩
    refine ⟨_, ⟨kxy, rfl⟩, ?_⟩
    refine ⟨_, ⟨kxz, rfl⟩, ?_⟩
    refine ⟨_, ⟨cm2, rfl⟩, ?_⟩
    refine ⟨_, ⟨e5, rfl⟩, ?_⟩
    repeat (first | refine branch_true ?_ | refine branch_false ?_ | refine branch_f' (bne_self_eq_false _) ?_ | refine branch_t' (beq_self_eq_true _) ?_ | refine branch_t' (decide_eq_true rfl) ?_)
    refine draw_tree (picks [0, 1, 2, 3, 4, 5, 6, 7, 8, 9, 10, 11, 12, 13, 14, 15, 16, 17, 18, 19, 20, 21, 22, 23, 24, 25, 26, 27, 28, 29, 30, 31, 32, 33, 34, 35, 36] .done) (by decide +kernel) ?_
    refine ⟨_, ⟨gxy, rfl⟩, ?_⟩
    refine ⟨_, ⟨ny, rfl⟩, ?_⟩
    refine ⟨_, ⟨cs, rfl⟩, ?_⟩
    refine ⟨_, ⟨e6, rfl⟩, ?_⟩
    repeat (first | refine branch_true ?_ | refine branch_false ?_ | refine branch_f' (bne_self_eq_false _) ?_ | refine branch_t' (beq_self_eq_true _) ?_ | refine branch_t' (decide_eq_true rfl) ?_)
    refine ⟨_, ⟨cxy, rfl⟩, ?_⟩
    repeat (first | refine branch_true ?_ | refine branch_false ?_ | refine branch_f' (bne_self_eq_false _) ?_ | refine branch_t' (beq_self_eq_true _) ?_ | refine branch_t' (decide_eq_true rfl) ?_)
    refine ⟨_, ⟨gl, rfl⟩, ?_⟩
    repeat (first | refine branch_true ?_ | refine branch_false ?_ | refine branch_f' (bne_self_eq_false _) ?_ | refine branch_t' (beq_self_eq_true _) ?_ | refine branch_t' (decide_eq_true rfl) ?_)
    refine ⟨_, ⟨kx, rfl⟩, ?_⟩
    repeat (first | refine branch_true ?_ | refine branch_false ?_ | refine branch_f' (bne_self_eq_false _) ?_ | refine branch_t' (beq_self_eq_true _) ?_ | refine branch_t' (decide_eq_true rfl) ?_)
    refine ⟨_, ⟨e7, rfl⟩, ?_⟩
    repeat (first | refine branch_true ?_ | refine branch_false ?_ | refine branch_f' (bne_self_eq_false _) ?_ | refine branch_t' (beq_self_eq_true _) ?_ | refine branch_t' (decide_eq_true rfl) ?_)
    refine ⟨_, ⟨gxx, rfl⟩, ?_⟩
    repeat (first | refine branch_true ?_ | refine branch_false ?_ | refine branch_f' (bne_self_eq_false _) ?_ | refine branch_t' (beq_self_eq_true _) ?_ | refine branch_t' (decide_eq_true rfl) ?_)
    refine ⟨_, ⟨e8, rfl⟩, ?_⟩
    repeat (first | refine branch_true ?_ | refine branch_false ?_ | refine branch_f' (bne_self_eq_false _) ?_ | refine branch_t' (beq_self_eq_true _) ?_ | refine branch_t' (decide_eq_true rfl) ?_)
    refine ⟨_, ⟨one, rfl⟩, ?_⟩
    repeat (first | refine branch_true ?_ | refine branch_false ?_ | refine branch_f' (bne_self_eq_false _) ?_ | refine branch_t' (beq_self_eq_true _) ?_ | refine branch_t' (decide_eq_true rfl) ?_)
    refine ⟨_, ⟨ko, rfl⟩, ?_⟩
    repeat (first | refine branch_true ?_ | refine branch_false ?_ | refine branch_f' (bne_self_eq_false _) ?_ | refine branch_t' (beq_self_eq_true _) ?_ | refine branch_t' (decide_eq_true rfl) ?_)
    refine ⟨_, ⟨kx, rfl⟩, ?_⟩
    repeat (first | refine branch_true ?_ | refine branch_false ?_ | refine branch_f' (bne_self_eq_false _) ?_ | refine branch_t' (beq_self_eq_true _) ?_ | refine branch_t' (decide_eq_true rfl) ?_)
    refine ⟨_, ⟨e9, rfl⟩, ?_⟩
    repeat (first | refine branch_true ?_ | refine branch_false ?_ | refine branch_f' (bne_self_eq_false _) ?_ | refine branch_t' (beq_self_eq_true _) ?_ | refine branch_t' (decide_eq_true rfl) ?_)
    refine ⟨_, ⟨awake_c, rfl⟩, ?_⟩
    repeat (first | refine branch_true ?_ | refine branch_false ?_ | refine branch_f' (bne_self_eq_false _) ?_ | refine branch_t' (beq_self_eq_true _) ?_ | refine branch_t' (decide_eq_true rfl) ?_)
    show Eqv _ _
    exact .up (.up (.refl _))
end Go.Proofs.N13
