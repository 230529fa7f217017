/- Chapter 33: the reference's exact recursion, walked. -/
import Derived.Test.YtpgeapbmdljllaaC8
import Derived.Test.YtpgeapbmdljllaaE5
import Derived.Test.YtpgeapbmdljllaaC7
set_option linter.unusedVariables false
set_option linter.unusedSimpArgs false
/-! Ef. -/
namespace Go.Proofs.N13
open Go.E
set_option maxRecDepth 8000

theorem fitB {K L : Nat} {x : Dy} (h : Bd K L x) (hK : K ≤ 2000) (hL : L ≤ 2000) : x.fit := within_fit (h.within (by omega) (by omega) (by omega))
theorem pw_val {n : Nat} (hn : n ≤ 100) : rvalD false 1 (-(n : Int)) = pwD n := rvalD_ok ((pwD_bd n).within (by omega) (by omega) (by omega))
theorem power_c {n : Nat} (hn : n ≤ 100) : callP Try.prog 54 [.int .i64 n] (· = rA (pwD n)) := by
  have h := rofE_c (n := 1) (e := -(n : Int)) (by decide) (by omega)
  rw [show decide ((1 : Int) < 0) = false from rfl, show (1 : Int).natAbs = 1 from rfl, rvalV, pw_val hn] at h
  refine callE_def env (fn := Try.f54) rfl (by decide) rfl ?_
  have e : IntKind.i64.wrap (0 - (n : Int)) = -(n : Int) := by rw [wi (by omega) (by omega)]; omega
  refine callT_E (show callP Try.prog 56 [.int .i64 1, .int .i64 (IntKind.i64.wrap (0 - (n : Int)))] (· = _) from by rw [e]; exact h) rfl ?_
  show Eqv _ _
  exact .up (.up (.refl _))
theorem most_V {a : Nat} (m : Nat) : V (28 + m) (canonD false a (-28)) = (a : Int) * 2 ^ m := by
  rw [V_canonD (28 + m) false a (by omega), show ((-28 : Int) + ((28 + m : Nat) : Int)).toNat = m by omega]
  show (a : Int) * _ = _
  congr 1
theorem near_c {d0 d1 : Int} (h0 : 0 ≤ d0 ∧ d0 < 65536) (h1 : 0 ≤ d1 ∧ d1 < 65536) {x : Dy} {m L : Nat} (hx : Bd (28 + m) L x) (hm : m ≤ 1000) (hL : L ≤ 100) {a : Int} (ha : 0 ≤ a ∧ a < 1099511627777)
    (e1 : dblV d0 d1 * 2 ^ m - V (28 + m) x ≤ a * 2 ^ m) (e2 : -(a * 2 ^ m) ≤ dblV d0 d1 * 2 ^ m - V (28 + m) x) : callP Try.prog 24 [dblA d0 d1, rA x, .int .i64 a] (· = .bool true) := by
  obtain ⟨b, rfl⟩ := Int.eq_ofNat_of_zero_le ha.1
  have hd := dbl_bd d0 d1
  have h2 := (hd.wide (K' := 28 + m) (by omega)).mono (Nat.zero_le L)
  have h3 := h2.plus hx.neg
  have h4 := h3.abs
  have hb : Bd 28 20 (canonD false b (-28)) := by
    refine Bd.of false (by decide) ?_
    rw [show ((-28 : Int) + (28 : Nat)).toNat = 0 by decide]
    show b * 1 < 2 ^ 48
    omega
  have wb := hb.within (by decide) (by decide) (by decide)
  have o := rofE_c (n := (b : Int)) (e := -28) (by omega) (by decide)
  rw [decide_eq_false (by omega), show ((b : Int)).natAbs = b from rfl, rvalV, rvalD_ok wb] at o
  have c := rcmp14_c h4.canon hb.canon (fitB h4 (by omega) (by omega)) (fitB hb (by omega) (by omega))
  have hsg : signD (subD (absD (plusD (dblD d0 d1) (negD x))) (canonD false b (-28))) ≤ 0 := by
    rw [V_sign (28 + m), V_sub h4.exp (hb.wide (K' := 28 + m) (by omega)).exp, V_abs, V_plus h2.exp hx.neg.exp, V_neg, most_V, V_wide (K := 28) (by omega) hd.exp, dblV_V, show 28 + m - 28 = m by omega]
    unfold sg
    generalize dblV d0 d1 * 2 ^ m = A at *
    generalize V (28 + m) x = B at *
    generalize (b : Int) * 2 ^ m = C at *
    split
    · omega
    · split
      · omega
      · rename_i q1 q2
        exfalso
        omega
  refine callE_def env (fn := Try.f24) rfl (by decide) rfl ?_
  refine draw_tree (picks (List.range 8) .done) (by decide +kernel) ?_
  refine ⟨_, ⟨rdouble_c h0 h1, rfl⟩, ?_⟩
  refine ⟨_, ⟨rneg_c hx.canon, rfl⟩, ?_⟩
  refine ⟨_, ⟨radd14_c h2.canon hx.neg.canon (fitB h2 (by omega) (by omega)) (fitB hx.neg (by omega) (by omega)), rfl⟩, ?_⟩
  refine ⟨_, ⟨rabs_c _, rfl⟩, ?_⟩
  refine callT_E o rfl ?_
  refine callT_E c rfl ?_
  show Eqv _ _
  refine eqv_of_eq (congrArg AVal.bool ?_)
  exact decide_eq_true hsg

abbrev rL (x : Dy) : List AVal := [.bool x.neg, ints .u8 (bitsOf x.m), .int .i64 x.e]
set_option maxHeartbeats 4000000 in
theorem axis_c {g r v : Nat → Int} {k0 k1 : Int} {p n i : Nat} {D : Nat → Nat → Int} (hi : i < 3) (wg : WV g) (wr : WV r) (wv : WV v) (wD : ∀ j, j < n → WV (D j)) (w0 : W16 k0) (w1 : W16 k1) (hp : 4 ≤ p ∧ p ≤ 14) (hn : n ≤ 6) :
    callP Try.prog 23 [gravA g k0 k1 p, stateA r v, vecs n D, .int .i64 i] (· = .tuple [rA (axC p g k0 k1 D r v i n).1, rA (axC p g k0 k1 D r v i n).2]) := by
  have pp1 : callP Try.prog 54 [.int .i64 (IntKind.i64.wrap ((p : Int) + 1))] (· = rA (pwD (p + 1))) := by
    rw [wi (by omega) (by omega)]
    exact power_c (n := p + 1) (by omega)
  have pp2 : callP Try.prog 54 [.int .i64 (IntKind.i64.wrap (IntKind.i64.wrap (2 * (p : Int)) + 1))] (· = rA (pwD (2 * p + 1))) := by
    rw [wi (x := 2 * (p : Int)) (by omega) (by omega), wi (by omega) (by omega)]
    exact power_c (n := 2 * p + 1) (by omega)
  match i, hi with
  | 0, _ =>
    refine callE_def env (fn := Try.f23) rfl (by decide) rfl ?_
    repeat refine ndO ?_
    refine callT_E (rdouble_c (wr 0 (by decide)) (wr 1 (by decide))) rfl ?_
    repeat refine ndO ?_
    refine callT_E (rdouble_c (wv 0 (by decide)) (wv 1 (by decide))) rfl ?_
    repeat refine ndO ?_
    refine callT_E (rdouble_c w0 w1) rfl ?_
    have kb : axM p n ≤ 600 := by
      have : n * (3 * p + 58) ≤ 6 * 100 := Nat.mul_le_mul hn (by omega)
      unfold axM
      omega
    refine loop_weak (fun j : Nat => slots 102 [(2, vecs n D), (3, .int .i64 0), (4, .ptr ⟨0, 0, 0⟩), (5, .ptr ⟨1, 0, 0⟩), (8, .ptr ⟨2, 0, 0⟩), (9, .ptr ⟨3, 0, 0⟩), (10, .ptr ⟨4, 0, 0⟩), (11, .ptr ⟨5, 0, 0⟩), (12, .ptr ⟨6, 0, 0⟩), (13, .int .i64 j)])
      (fun j => [.cells (gcells g k0 k1 p), .cells (scells r v), .cells [.bool false, .nilslice, .int .i64 0], .cells [.bool false, .nilslice, .int .i64 0], .cells (rL (axC p g k0 k1 D r v 0 j).1), .cells (rL (axC p g k0 k1 D r v 0 j).2), .cells (rL (dblD k0 k1))])
      (fun j => j ≤ n) (fun j => n - j) 0 (Nat.zero_le _) (weak_keep (keep 102 [2, 3, 4, 5, 8, 9, 10, 11, 12, 13]) [0, 1, 2, 3, 4, 5, 6] rfl rfl rfl) ?_
    intro j hj
    have ej : IntKind.i64.wrap ((j : Int) + 1) = ((j + 1 : Nat) : Int) := by rw [wi (by omega) (by omega)]; rfl
    apply branch_intro <;> intro h
    · have hlt : j < n := by simp at h; omega
      have kj : axM p j ≤ 600 := by
        have : j * (3 * p + 58) ≤ 6 * 100 := Nat.mul_le_mul (by omega) (by omega)
        unfold axM
        omega
      obtain ⟨b1, b2⟩ := axC_bd p g k0 k1 D r v 0 j
      have eX : (axC p g k0 k1 D r v 0 (j + 1)).1 = axX p (axC p g k0 k1 D r v 0 j).1 (axC p g k0 k1 D r v 0 j).2 (dblD (D j 0) (D j 1)) (axG (dblD (g 0) (g 1)) (dblD k0 k1) (axC p g k0 k1 D r v 0 j).1) := rfl
      have eY : (axC p g k0 k1 D r v 0 (j + 1)).2 = axY p (axC p g k0 k1 D r v 0 j).2 (dblD (D j 0) (D j 1)) (axG (dblD (g 0) (g 1)) (dblD k0 k1) (axC p g k0 k1 D r v 0 j).1)
          (axG (dblD (g 0) (g 1)) (dblD k0 k1) (axX p (axC p g k0 k1 D r v 0 j).1 (axC p g k0 k1 D r v 0 j).2 (dblD (D j 0) (D j 1)) (axG (dblD (g 0) (g 1)) (dblD k0 k1) (axC p g k0 k1 D r v 0 j).1))) := rfl
      generalize hX : (axC p g k0 k1 D r v 0 j).1 = X at *
      generalize hY : (axC p g k0 k1 D r v 0 j).2 = Y at *
      have hG := dbl_bd (g 0) (g 1)
      have hK := dbl_bd k0 k1
      have hDj := dbl_bd (D j 0) (D j 1)
      have m1 := hK.mul b1
      have g1 := axG_bd hG hK b1
      have q1 := b1.wide (K' := 28 + (28 + axM p j) + (2 * p + 1)) (by omega)
      have q2 := b2.pw (n := p) (K' := 28 + (28 + axM p j) + (2 * p + 1)) (by omega)
      have s1 := (q1.mono (Nat.le_succ _)).plus q2
      have q3 := (hDj.pw (n := p + 1) (K' := 28 + (28 + axM p j) + (2 * p + 1)) (by omega)).mono (show 0 + 1 ≤ 10 * j + 1 + 1 by omega)
      have s2 := s1.plus q3
      have q4 := (g1.pw (n := 2 * p + 1) (K' := 28 + (28 + axM p j) + (2 * p + 1)) (by omega)).mono (show 10 * j + 1 + 1 ≤ 10 * j + 1 + 1 + 1 by omega)
      have s3 := s2.plus q4
      have m2 := hK.mul s3
      have h1 := axG_bd hG hK s3
      have t1 := (b2.wide (K' := 28 + (28 + (28 + axM p j) + (2 * p + 1)) + (p + 1)) (by omega)).plus ((hDj.wide (K' := 28 + (28 + (28 + axM p j) + (2 * p + 1)) + (p + 1)) (by omega)).mono (Nat.zero_le _))
      have q5 := (g1.wide (K' := 28 + (28 + (28 + axM p j) + (2 * p + 1))) (by omega)).mono (show 10 * j + 1 ≤ 10 * j + 1 + 1 + 1 + 1 + 1 by omega)
      have t2 := q5.plus h1
      have t3 := t2.pw (n := p + 1) (K' := 28 + (28 + (28 + axM p j) + (2 * p + 1)) + (p + 1)) (by omega)
      repeat refine ndO ?_
      refine callT_E (rdouble_c (wD j hlt 0 (by decide)) (wD j hlt 1 (by decide))) rfl ?_
      repeat refine ndO ?_
      refine draw_tree (picks (List.range 12) .done) (by decide +kernel) ?_
      repeat refine ndO ?_
      refine ⟨_, ⟨rdouble_c (wg 0 (by decide)) (wg 1 (by decide)), rfl⟩, ?_⟩
      repeat refine ndO ?_
      refine ⟨_, ⟨rmul14_c (fitB hK (by omega) (by omega)) (fitB b1 (by omega) (by omega)), rfl⟩, ?_⟩
      repeat refine ndO ?_
      refine ⟨_, ⟨rneg_c m1.canon, rfl⟩, ?_⟩
      repeat refine ndO ?_
      refine ⟨_, ⟨radd14_c hG.canon m1.neg.canon (fitB hG (by omega) (by omega)) (fitB m1.neg (by omega) (by omega)), rfl⟩, ?_⟩
      repeat refine ndO ?_
      refine draw_tree (picks (List.range 8) .done) (by decide +kernel) ?_
      repeat refine ndO ?_
      refine ⟨_, ⟨power_c (n := p) (by omega), rfl⟩, ?_⟩
      repeat refine ndO ?_
      refine ⟨_, ⟨rmul14_c ((fitB (pwD_bd p) (by omega) (by omega))) (fitB b2 (by omega) (by omega)), rfl⟩, ?_⟩
      repeat refine ndO ?_
      refine ⟨_, ⟨radd14_c b1.canon q2.canon (fitB b1 (by omega) (by omega)) (fitB q2 (by omega) (by omega)), rfl⟩, ?_⟩
      repeat refine ndO ?_
      refine draw_tree (picks (List.range 9) .done) (by decide +kernel) ?_
      repeat refine ndO ?_
      refine ⟨_, ⟨pp1, rfl⟩, ?_⟩
      repeat refine ndO ?_
      refine ⟨_, ⟨rmul14_c ((fitB (pwD_bd (p + 1)) (by omega) (by omega))) (fitB hDj (by omega) (by omega)), rfl⟩, ?_⟩
      repeat refine ndO ?_
      refine ⟨_, ⟨radd14_c s1.canon q3.canon (fitB s1 (by omega) (by omega)) (fitB q3 (by omega) (by omega)), rfl⟩, ?_⟩
      repeat refine ndO ?_
      refine draw_tree (picks (List.range 10) .done) (by decide +kernel) ?_
      repeat refine ndO ?_
      refine ⟨_, ⟨pp2, rfl⟩, ?_⟩
      repeat refine ndO ?_
      refine ⟨_, ⟨rmul14_c ((fitB (pwD_bd (2 * p + 1)) (by omega) (by omega))) (fitB g1 (by omega) (by omega)), rfl⟩, ?_⟩
      repeat refine ndO ?_
      refine ⟨_, ⟨radd14_c s2.canon q4.canon (fitB s2 (by omega) (by omega)) (fitB q4 (by omega) (by omega)), rfl⟩, ?_⟩
      repeat refine ndO ?_
      refine draw_tree (picks (List.range 12) .done) (by decide +kernel) ?_
      repeat refine ndO ?_
      refine ⟨_, ⟨rdouble_c (wg 0 (by decide)) (wg 1 (by decide)), rfl⟩, ?_⟩
      repeat refine ndO ?_
      refine ⟨_, ⟨rmul14_c (fitB hK (by omega) (by omega)) (fitB s3 (by omega) (by omega)), rfl⟩, ?_⟩
      repeat refine ndO ?_
      refine ⟨_, ⟨rneg_c m2.canon, rfl⟩, ?_⟩
      repeat refine ndO ?_
      refine ⟨_, ⟨radd14_c hG.canon m2.neg.canon (fitB hG (by omega) (by omega)) (fitB m2.neg (by omega) (by omega)), rfl⟩, ?_⟩
      repeat refine ndO ?_
      refine callT_E (radd14_c b2.canon hDj.canon (fitB b2 (by omega) (by omega)) (fitB hDj (by omega) (by omega))) rfl ?_
      repeat refine ndO ?_
      refine draw_tree (picks (List.range 11) .done) (by decide +kernel) ?_
      repeat refine ndO ?_
      refine ⟨_, ⟨pp1, rfl⟩, ?_⟩
      repeat refine ndO ?_
      refine ⟨_, ⟨radd14_c g1.canon h1.canon (fitB g1 (by omega) (by omega)) (fitB h1 (by omega) (by omega)), rfl⟩, ?_⟩
      repeat refine ndO ?_
      refine ⟨_, ⟨rmul14_c ((fitB (pwD_bd (p + 1)) (by omega) (by omega))) (fitB t2 (by omega) (by omega)), rfl⟩, ?_⟩
      repeat refine ndO ?_
      refine ⟨_, ⟨radd14_c t1.canon t3.canon (fitB t1 (by omega) (by omega)) (fitB t3 (by omega) (by omega)), rfl⟩, ?_⟩
      repeat refine ndO ?_
      refine ⟨j + 1, hlt, by omega, weak_keep (keep 102 [2, 3, 4, 5, 8, 9, 10, 11, 12, 13]) [0, 1, 2, 3, 4, 5, 6] rfl ?_ ?_⟩
      · show [_, _, _, _, _, _, _, _, _, _, _, _, _, _, _, _, _, _, _, _, _, _, _, _, _, _, _, _, _, _, _, _, _, _, _, _, _, _, _, _, _, _, _, _, _, _, _, _, _, _, _, _, _, _, _, _, _, _, _, _, _, _, _, _, _, _, _, _, _, _, _, _, _, _, _, _, _, _, _, _, _, _, _, _, _, _, _, _, _, _, _, _, _, _, _, _, _, _, _, _, _, _] = _
        rw [ej]
        rfl
      · rw [eX, eY]
        rfl
    · have : j = n := by simp at h; omega
      subst this
      refine draw_tree (picks [0] (.fork 1 2 (picks [2, 3] .done) (picks [1, 3] .done))) (by decide +kernel) ?_
      constructor <;> (show Eqv _ _; exact .up (.up (.refl _)))

  | 1, _ =>
    refine callE_def env (fn := Try.f23) rfl (by decide) rfl ?_
    repeat refine ndO ?_
    refine callT_E (rdouble_c (wr 2 (by decide)) (wr 3 (by decide))) rfl ?_
    repeat refine ndO ?_
    refine callT_E (rdouble_c (wv 2 (by decide)) (wv 3 (by decide))) rfl ?_
    repeat refine ndO ?_
    refine callT_E (rdouble_c w0 w1) rfl ?_
    have kb : axM p n ≤ 600 := by
      have : n * (3 * p + 58) ≤ 6 * 100 := Nat.mul_le_mul hn (by omega)
      unfold axM
      omega
    refine loop_weak (fun j : Nat => slots 102 [(2, vecs n D), (3, .int .i64 1), (4, .ptr ⟨0, 0, 0⟩), (5, .ptr ⟨1, 0, 0⟩), (8, .ptr ⟨2, 0, 0⟩), (9, .ptr ⟨3, 0, 0⟩), (10, .ptr ⟨4, 0, 0⟩), (11, .ptr ⟨5, 0, 0⟩), (12, .ptr ⟨6, 0, 0⟩), (13, .int .i64 j)])
      (fun j => [.cells (gcells g k0 k1 p), .cells (scells r v), .cells [.bool false, .nilslice, .int .i64 0], .cells [.bool false, .nilslice, .int .i64 0], .cells (rL (axC p g k0 k1 D r v 1 j).1), .cells (rL (axC p g k0 k1 D r v 1 j).2), .cells (rL (dblD k0 k1))])
      (fun j => j ≤ n) (fun j => n - j) 0 (Nat.zero_le _) (weak_keep (keep 102 [2, 3, 4, 5, 8, 9, 10, 11, 12, 13]) [0, 1, 2, 3, 4, 5, 6] rfl rfl rfl) ?_
    intro j hj
    have ej : IntKind.i64.wrap ((j : Int) + 1) = ((j + 1 : Nat) : Int) := by rw [wi (by omega) (by omega)]; rfl
    apply branch_intro <;> intro h
    · have hlt : j < n := by simp at h; omega
      have kj : axM p j ≤ 600 := by
        have : j * (3 * p + 58) ≤ 6 * 100 := Nat.mul_le_mul (by omega) (by omega)
        unfold axM
        omega
      obtain ⟨b1, b2⟩ := axC_bd p g k0 k1 D r v 1 j
      have eX : (axC p g k0 k1 D r v 1 (j + 1)).1 = axX p (axC p g k0 k1 D r v 1 j).1 (axC p g k0 k1 D r v 1 j).2 (dblD (D j 2) (D j 3)) (axG (dblD (g 2) (g 3)) (dblD k0 k1) (axC p g k0 k1 D r v 1 j).1) := rfl
      have eY : (axC p g k0 k1 D r v 1 (j + 1)).2 = axY p (axC p g k0 k1 D r v 1 j).2 (dblD (D j 2) (D j 3)) (axG (dblD (g 2) (g 3)) (dblD k0 k1) (axC p g k0 k1 D r v 1 j).1)
          (axG (dblD (g 2) (g 3)) (dblD k0 k1) (axX p (axC p g k0 k1 D r v 1 j).1 (axC p g k0 k1 D r v 1 j).2 (dblD (D j 2) (D j 3)) (axG (dblD (g 2) (g 3)) (dblD k0 k1) (axC p g k0 k1 D r v 1 j).1))) := rfl
      generalize hX : (axC p g k0 k1 D r v 1 j).1 = X at *
      generalize hY : (axC p g k0 k1 D r v 1 j).2 = Y at *
      have hG := dbl_bd (g 2) (g 3)
      have hK := dbl_bd k0 k1
      have hDj := dbl_bd (D j 2) (D j 3)
      have m1 := hK.mul b1
      have g1 := axG_bd hG hK b1
      have q1 := b1.wide (K' := 28 + (28 + axM p j) + (2 * p + 1)) (by omega)
      have q2 := b2.pw (n := p) (K' := 28 + (28 + axM p j) + (2 * p + 1)) (by omega)
      have s1 := (q1.mono (Nat.le_succ _)).plus q2
      have q3 := (hDj.pw (n := p + 1) (K' := 28 + (28 + axM p j) + (2 * p + 1)) (by omega)).mono (show 0 + 1 ≤ 10 * j + 1 + 1 by omega)
      have s2 := s1.plus q3
      have q4 := (g1.pw (n := 2 * p + 1) (K' := 28 + (28 + axM p j) + (2 * p + 1)) (by omega)).mono (show 10 * j + 1 + 1 ≤ 10 * j + 1 + 1 + 1 by omega)
      have s3 := s2.plus q4
      have m2 := hK.mul s3
      have h1 := axG_bd hG hK s3
      have t1 := (b2.wide (K' := 28 + (28 + (28 + axM p j) + (2 * p + 1)) + (p + 1)) (by omega)).plus ((hDj.wide (K' := 28 + (28 + (28 + axM p j) + (2 * p + 1)) + (p + 1)) (by omega)).mono (Nat.zero_le _))
      have q5 := (g1.wide (K' := 28 + (28 + (28 + axM p j) + (2 * p + 1))) (by omega)).mono (show 10 * j + 1 ≤ 10 * j + 1 + 1 + 1 + 1 + 1 by omega)
      have t2 := q5.plus h1
      have t3 := t2.pw (n := p + 1) (K' := 28 + (28 + (28 + axM p j) + (2 * p + 1)) + (p + 1)) (by omega)
      repeat refine ndO ?_
      refine callT_E (rdouble_c (wD j hlt 2 (by decide)) (wD j hlt 3 (by decide))) rfl ?_
      repeat refine ndO ?_
      refine draw_tree (picks (List.range 12) .done) (by decide +kernel) ?_
      repeat refine ndO ?_
      refine ⟨_, ⟨rdouble_c (wg 2 (by decide)) (wg 3 (by decide)), rfl⟩, ?_⟩
      repeat refine ndO ?_
      refine ⟨_, ⟨rmul14_c (fitB hK (by omega) (by omega)) (fitB b1 (by omega) (by omega)), rfl⟩, ?_⟩
      repeat refine ndO ?_
      refine ⟨_, ⟨rneg_c m1.canon, rfl⟩, ?_⟩
      repeat refine ndO ?_
      refine ⟨_, ⟨radd14_c hG.canon m1.neg.canon (fitB hG (by omega) (by omega)) (fitB m1.neg (by omega) (by omega)), rfl⟩, ?_⟩
      repeat refine ndO ?_
      refine draw_tree (picks (List.range 8) .done) (by decide +kernel) ?_
      repeat refine ndO ?_
      refine ⟨_, ⟨power_c (n := p) (by omega), rfl⟩, ?_⟩
      repeat refine ndO ?_
      refine ⟨_, ⟨rmul14_c ((fitB (pwD_bd p) (by omega) (by omega))) (fitB b2 (by omega) (by omega)), rfl⟩, ?_⟩
      repeat refine ndO ?_
      refine ⟨_, ⟨radd14_c b1.canon q2.canon (fitB b1 (by omega) (by omega)) (fitB q2 (by omega) (by omega)), rfl⟩, ?_⟩
      repeat refine ndO ?_
      refine draw_tree (picks (List.range 9) .done) (by decide +kernel) ?_
      repeat refine ndO ?_
      refine ⟨_, ⟨pp1, rfl⟩, ?_⟩
      repeat refine ndO ?_
      refine ⟨_, ⟨rmul14_c ((fitB (pwD_bd (p + 1)) (by omega) (by omega))) (fitB hDj (by omega) (by omega)), rfl⟩, ?_⟩
      repeat refine ndO ?_
      refine ⟨_, ⟨radd14_c s1.canon q3.canon (fitB s1 (by omega) (by omega)) (fitB q3 (by omega) (by omega)), rfl⟩, ?_⟩
      repeat refine ndO ?_
      refine draw_tree (picks (List.range 10) .done) (by decide +kernel) ?_
      repeat refine ndO ?_
      refine ⟨_, ⟨pp2, rfl⟩, ?_⟩
      repeat refine ndO ?_
      refine ⟨_, ⟨rmul14_c ((fitB (pwD_bd (2 * p + 1)) (by omega) (by omega))) (fitB g1 (by omega) (by omega)), rfl⟩, ?_⟩
      repeat refine ndO ?_
      refine ⟨_, ⟨radd14_c s2.canon q4.canon (fitB s2 (by omega) (by omega)) (fitB q4 (by omega) (by omega)), rfl⟩, ?_⟩
      repeat refine ndO ?_
      refine draw_tree (picks (List.range 12) .done) (by decide +kernel) ?_
      repeat refine ndO ?_
      refine ⟨_, ⟨rdouble_c (wg 2 (by decide)) (wg 3 (by decide)), rfl⟩, ?_⟩
      repeat refine ndO ?_
      refine ⟨_, ⟨rmul14_c (fitB hK (by omega) (by omega)) (fitB s3 (by omega) (by omega)), rfl⟩, ?_⟩
      repeat refine ndO ?_
      refine ⟨_, ⟨rneg_c m2.canon, rfl⟩, ?_⟩
      repeat refine ndO ?_
      refine ⟨_, ⟨radd14_c hG.canon m2.neg.canon (fitB hG (by omega) (by omega)) (fitB m2.neg (by omega) (by omega)), rfl⟩, ?_⟩
      repeat refine ndO ?_
      refine callT_E (radd14_c b2.canon hDj.canon (fitB b2 (by omega) (by omega)) (fitB hDj (by omega) (by omega))) rfl ?_
      repeat refine ndO ?_
      refine draw_tree (picks (List.range 11) .done) (by decide +kernel) ?_
      repeat refine ndO ?_
      refine ⟨_, ⟨pp1, rfl⟩, ?_⟩
      repeat refine ndO ?_
      refine ⟨_, ⟨radd14_c g1.canon h1.canon (fitB g1 (by omega) (by omega)) (fitB h1 (by omega) (by omega)), rfl⟩, ?_⟩
      repeat refine ndO ?_
      refine ⟨_, ⟨rmul14_c ((fitB (pwD_bd (p + 1)) (by omega) (by omega))) (fitB t2 (by omega) (by omega)), rfl⟩, ?_⟩
      repeat refine ndO ?_
      refine ⟨_, ⟨radd14_c t1.canon t3.canon (fitB t1 (by omega) (by omega)) (fitB t3 (by omega) (by omega)), rfl⟩, ?_⟩
      repeat refine ndO ?_
      refine ⟨j + 1, hlt, by omega, weak_keep (keep 102 [2, 3, 4, 5, 8, 9, 10, 11, 12, 13]) [0, 1, 2, 3, 4, 5, 6] rfl ?_ ?_⟩
      · show [_, _, _, _, _, _, _, _, _, _, _, _, _, _, _, _, _, _, _, _, _, _, _, _, _, _, _, _, _, _, _, _, _, _, _, _, _, _, _, _, _, _, _, _, _, _, _, _, _, _, _, _, _, _, _, _, _, _, _, _, _, _, _, _, _, _, _, _, _, _, _, _, _, _, _, _, _, _, _, _, _, _, _, _, _, _, _, _, _, _, _, _, _, _, _, _, _, _, _, _, _, _] = _
        rw [ej]
        rfl
      · rw [eX, eY]
        rfl
    · have : j = n := by simp at h; omega
      subst this
      refine draw_tree (picks [0] (.fork 1 2 (picks [2, 3] .done) (picks [1, 3] .done))) (by decide +kernel) ?_
      constructor <;> (show Eqv _ _; exact .up (.up (.refl _)))

  | 2, _ =>
    refine callE_def env (fn := Try.f23) rfl (by decide) rfl ?_
    repeat refine ndO ?_
    refine callT_E (rdouble_c (wr 4 (by decide)) (wr 5 (by decide))) rfl ?_
    repeat refine ndO ?_
    refine callT_E (rdouble_c (wv 4 (by decide)) (wv 5 (by decide))) rfl ?_
    repeat refine ndO ?_
    refine callT_E (rdouble_c w0 w1) rfl ?_
    have kb : axM p n ≤ 600 := by
      have : n * (3 * p + 58) ≤ 6 * 100 := Nat.mul_le_mul hn (by omega)
      unfold axM
      omega
    refine loop_weak (fun j : Nat => slots 102 [(2, vecs n D), (3, .int .i64 2), (4, .ptr ⟨0, 0, 0⟩), (5, .ptr ⟨1, 0, 0⟩), (8, .ptr ⟨2, 0, 0⟩), (9, .ptr ⟨3, 0, 0⟩), (10, .ptr ⟨4, 0, 0⟩), (11, .ptr ⟨5, 0, 0⟩), (12, .ptr ⟨6, 0, 0⟩), (13, .int .i64 j)])
      (fun j => [.cells (gcells g k0 k1 p), .cells (scells r v), .cells [.bool false, .nilslice, .int .i64 0], .cells [.bool false, .nilslice, .int .i64 0], .cells (rL (axC p g k0 k1 D r v 2 j).1), .cells (rL (axC p g k0 k1 D r v 2 j).2), .cells (rL (dblD k0 k1))])
      (fun j => j ≤ n) (fun j => n - j) 0 (Nat.zero_le _) (weak_keep (keep 102 [2, 3, 4, 5, 8, 9, 10, 11, 12, 13]) [0, 1, 2, 3, 4, 5, 6] rfl rfl rfl) ?_
    intro j hj
    have ej : IntKind.i64.wrap ((j : Int) + 1) = ((j + 1 : Nat) : Int) := by rw [wi (by omega) (by omega)]; rfl
    apply branch_intro <;> intro h
    · have hlt : j < n := by simp at h; omega
      have kj : axM p j ≤ 600 := by
        have : j * (3 * p + 58) ≤ 6 * 100 := Nat.mul_le_mul (by omega) (by omega)
        unfold axM
        omega
      obtain ⟨b1, b2⟩ := axC_bd p g k0 k1 D r v 2 j
      have eX : (axC p g k0 k1 D r v 2 (j + 1)).1 = axX p (axC p g k0 k1 D r v 2 j).1 (axC p g k0 k1 D r v 2 j).2 (dblD (D j 4) (D j 5)) (axG (dblD (g 4) (g 5)) (dblD k0 k1) (axC p g k0 k1 D r v 2 j).1) := rfl
      have eY : (axC p g k0 k1 D r v 2 (j + 1)).2 = axY p (axC p g k0 k1 D r v 2 j).2 (dblD (D j 4) (D j 5)) (axG (dblD (g 4) (g 5)) (dblD k0 k1) (axC p g k0 k1 D r v 2 j).1)
          (axG (dblD (g 4) (g 5)) (dblD k0 k1) (axX p (axC p g k0 k1 D r v 2 j).1 (axC p g k0 k1 D r v 2 j).2 (dblD (D j 4) (D j 5)) (axG (dblD (g 4) (g 5)) (dblD k0 k1) (axC p g k0 k1 D r v 2 j).1))) := rfl
      generalize hX : (axC p g k0 k1 D r v 2 j).1 = X at *
      generalize hY : (axC p g k0 k1 D r v 2 j).2 = Y at *
      have hG := dbl_bd (g 4) (g 5)
      have hK := dbl_bd k0 k1
      have hDj := dbl_bd (D j 4) (D j 5)
      have m1 := hK.mul b1
      have g1 := axG_bd hG hK b1
      have q1 := b1.wide (K' := 28 + (28 + axM p j) + (2 * p + 1)) (by omega)
      have q2 := b2.pw (n := p) (K' := 28 + (28 + axM p j) + (2 * p + 1)) (by omega)
      have s1 := (q1.mono (Nat.le_succ _)).plus q2
      have q3 := (hDj.pw (n := p + 1) (K' := 28 + (28 + axM p j) + (2 * p + 1)) (by omega)).mono (show 0 + 1 ≤ 10 * j + 1 + 1 by omega)
      have s2 := s1.plus q3
      have q4 := (g1.pw (n := 2 * p + 1) (K' := 28 + (28 + axM p j) + (2 * p + 1)) (by omega)).mono (show 10 * j + 1 + 1 ≤ 10 * j + 1 + 1 + 1 by omega)
      have s3 := s2.plus q4
      have m2 := hK.mul s3
      have h1 := axG_bd hG hK s3
      have t1 := (b2.wide (K' := 28 + (28 + (28 + axM p j) + (2 * p + 1)) + (p + 1)) (by omega)).plus ((hDj.wide (K' := 28 + (28 + (28 + axM p j) + (2 * p + 1)) + (p + 1)) (by omega)).mono (Nat.zero_le _))
      have q5 := (g1.wide (K' := 28 + (28 + (28 + axM p j) + (2 * p + 1))) (by omega)).mono (show 10 * j + 1 ≤ 10 * j + 1 + 1 + 1 + 1 + 1 by omega)
      have t2 := q5.plus h1
      have t3 := t2.pw (n := p + 1) (K' := 28 + (28 + (28 + axM p j) + (2 * p + 1)) + (p + 1)) (by omega)
      repeat refine ndO ?_
      refine callT_E (rdouble_c (wD j hlt 4 (by decide)) (wD j hlt 5 (by decide))) rfl ?_
      repeat refine ndO ?_
      refine draw_tree (picks (List.range 12) .done) (by decide +kernel) ?_
      repeat refine ndO ?_
      refine ⟨_, ⟨rdouble_c (wg 4 (by decide)) (wg 5 (by decide)), rfl⟩, ?_⟩
      repeat refine ndO ?_
      refine ⟨_, ⟨rmul14_c (fitB hK (by omega) (by omega)) (fitB b1 (by omega) (by omega)), rfl⟩, ?_⟩
      repeat refine ndO ?_
      refine ⟨_, ⟨rneg_c m1.canon, rfl⟩, ?_⟩
      repeat refine ndO ?_
      refine ⟨_, ⟨radd14_c hG.canon m1.neg.canon (fitB hG (by omega) (by omega)) (fitB m1.neg (by omega) (by omega)), rfl⟩, ?_⟩
      repeat refine ndO ?_
      refine draw_tree (picks (List.range 8) .done) (by decide +kernel) ?_
      repeat refine ndO ?_
      refine ⟨_, ⟨power_c (n := p) (by omega), rfl⟩, ?_⟩
      repeat refine ndO ?_
      refine ⟨_, ⟨rmul14_c ((fitB (pwD_bd p) (by omega) (by omega))) (fitB b2 (by omega) (by omega)), rfl⟩, ?_⟩
      repeat refine ndO ?_
      refine ⟨_, ⟨radd14_c b1.canon q2.canon (fitB b1 (by omega) (by omega)) (fitB q2 (by omega) (by omega)), rfl⟩, ?_⟩
      repeat refine ndO ?_
      refine draw_tree (picks (List.range 9) .done) (by decide +kernel) ?_
      repeat refine ndO ?_
      refine ⟨_, ⟨pp1, rfl⟩, ?_⟩
      repeat refine ndO ?_
      refine ⟨_, ⟨rmul14_c ((fitB (pwD_bd (p + 1)) (by omega) (by omega))) (fitB hDj (by omega) (by omega)), rfl⟩, ?_⟩
      repeat refine ndO ?_
      refine ⟨_, ⟨radd14_c s1.canon q3.canon (fitB s1 (by omega) (by omega)) (fitB q3 (by omega) (by omega)), rfl⟩, ?_⟩
      repeat refine ndO ?_
      refine draw_tree (picks (List.range 10) .done) (by decide +kernel) ?_
      repeat refine ndO ?_
      refine ⟨_, ⟨pp2, rfl⟩, ?_⟩
      repeat refine ndO ?_
      refine ⟨_, ⟨rmul14_c ((fitB (pwD_bd (2 * p + 1)) (by omega) (by omega))) (fitB g1 (by omega) (by omega)), rfl⟩, ?_⟩
      repeat refine ndO ?_
      refine ⟨_, ⟨radd14_c s2.canon q4.canon (fitB s2 (by omega) (by omega)) (fitB q4 (by omega) (by omega)), rfl⟩, ?_⟩
      repeat refine ndO ?_
      refine draw_tree (picks (List.range 12) .done) (by decide +kernel) ?_
      repeat refine ndO ?_
      refine ⟨_, ⟨rdouble_c (wg 4 (by decide)) (wg 5 (by decide)), rfl⟩, ?_⟩
      repeat refine ndO ?_
      refine ⟨_, ⟨rmul14_c (fitB hK (by omega) (by omega)) (fitB s3 (by omega) (by omega)), rfl⟩, ?_⟩
      repeat refine ndO ?_
      refine ⟨_, ⟨rneg_c m2.canon, rfl⟩, ?_⟩
      repeat refine ndO ?_
      refine ⟨_, ⟨radd14_c hG.canon m2.neg.canon (fitB hG (by omega) (by omega)) (fitB m2.neg (by omega) (by omega)), rfl⟩, ?_⟩
      repeat refine ndO ?_
      refine callT_E (radd14_c b2.canon hDj.canon (fitB b2 (by omega) (by omega)) (fitB hDj (by omega) (by omega))) rfl ?_
      repeat refine ndO ?_
      refine draw_tree (picks (List.range 11) .done) (by decide +kernel) ?_
      repeat refine ndO ?_
      refine ⟨_, ⟨pp1, rfl⟩, ?_⟩
      repeat refine ndO ?_
      refine ⟨_, ⟨radd14_c g1.canon h1.canon (fitB g1 (by omega) (by omega)) (fitB h1 (by omega) (by omega)), rfl⟩, ?_⟩
      repeat refine ndO ?_
      refine ⟨_, ⟨rmul14_c ((fitB (pwD_bd (p + 1)) (by omega) (by omega))) (fitB t2 (by omega) (by omega)), rfl⟩, ?_⟩
      repeat refine ndO ?_
      refine ⟨_, ⟨radd14_c t1.canon t3.canon (fitB t1 (by omega) (by omega)) (fitB t3 (by omega) (by omega)), rfl⟩, ?_⟩
      repeat refine ndO ?_
      refine ⟨j + 1, hlt, by omega, weak_keep (keep 102 [2, 3, 4, 5, 8, 9, 10, 11, 12, 13]) [0, 1, 2, 3, 4, 5, 6] rfl ?_ ?_⟩
      · show [_, _, _, _, _, _, _, _, _, _, _, _, _, _, _, _, _, _, _, _, _, _, _, _, _, _, _, _, _, _, _, _, _, _, _, _, _, _, _, _, _, _, _, _, _, _, _, _, _, _, _, _, _, _, _, _, _, _, _, _, _, _, _, _, _, _, _, _, _, _, _, _, _, _, _, _, _, _, _, _, _, _, _, _, _, _, _, _, _, _, _, _, _, _, _, _, _, _, _, _, _, _] = _
        rw [ej]
        rfl
      · rw [eX, eY]
        rfl
    · have : j = n := by simp at h; omega
      subst this
      refine draw_tree (picks [0] (.fork 1 2 (picks [2, 3] .done) (picks [1, 3] .done))) (by decide +kernel) ?_
      constructor <;> (show Eqv _ _; exact .up (.up (.refl _)))

end Go.Proofs.N13
/-! Eg. -/
namespace Go.Proofs
open Go.E
set_option maxRecDepth 8000

theorem near_i {g r v : Nat → Int} {k0 k1 : Int} {p n i : Nat} {D : Nat → Nat → Int} (hp : 4 ≤ p ∧ p ≤ 14) (hk : 0 ≤ valD k0 k1) (hi : i < 3) (hn : n ≤ 6) (ho : (runT g (valD k0 k1) p D r v n).2.2 = false) :
    callP Try.prog 24 [D2 ((runT g (valD k0 k1) p D r v n).1 (2 * i)) ((runT g (valD k0 k1) p D r v n).1 (2 * i + 1)), N13.rA (axC p g k0 k1 D r v i n).1, .int .i64 (bnd p n).1] (· = .bool true) ∧
    callP Try.prog 24 [D2 ((runT g (valD k0 k1) p D r v n).2.1 (2 * i)) ((runT g (valD k0 k1) p D r v n).2.1 (2 * i + 1)), N13.rA (axC p g k0 k1 D r v i n).2, .int .i64 (bnd p n).2] (· = .bool true) := by
  obtain ⟨e1, e2, e3, e4⟩ := err_all (r := r) (v := v) (g := g) (D := D) hp hk hi n ho
  obtain ⟨b1, b2⟩ := axC_bd p g k0 k1 D r v i n
  obtain ⟨w1, w2⟩ := runT_w g (valD k0 k1) p D r v n
  have bb := bnd_b hp.1 n
  have tb := topM_b (n := n) (by omega)
  have kb : N13.axM p n ≤ 1000 := by
    have : n * (3 * p + 58) ≤ 6 * 100 := Nat.mul_le_mul hn (by omega)
    unfold N13.axM
    omega
  exact ⟨N13.near_c (w1 _ (by omega)) (w1 _ (by omega)) b1 kb (by omega) (by omega) e1 e2, N13.near_c (w2 _ (by omega)) (w2 _ (by omega)) b2 kb (by omega) (by omega) e3 e4⟩
theorem valid_k {k0 k1 p : Int} (hv : validB k0 k1 p = true) : 0 ≤ valD k0 k1 := by
  unfold validB at hv
  simp at hv
  omega

set_option maxHeartbeats 4000000 in
theorem error_law (m : Nat → Int) (hm : HasL kG m) (s : Nat → Int) (hs : HasL kS s) (n : Nat) (D : Nat → Nat → Int) (hn : n ≤ maxLen) (hD : HasR n D) : callP Try.prog 6 [.agg (aggL m kG 0), .agg (aggL s kS 0), vecs n D] (· = .bool true) := by
  obtain ⟨wm, w6, w7, w8⟩ := g_w hm
  obtain ⟨wr, wv⟩ := s_w hs
  have wD : ∀ i, i < n → WV (D i) := fun i hi => v_w (hD i hi)
  show callP Try.prog 6 [gravA m (m 6) (m 7) (m 8), stateA s (hiV s), vecs n D] (· = .bool true)
  refine callE_def env (fn := Try.f6) rfl (by decide) rfl ?_
  refine callT_E lives_c rfl ?_
  repeat (first | refine branch_true ?_ | refine branch_false ?_ | refine branch_f' (bne_self_eq_false _) ?_ | refine branch_t' (beq_self_eq_true _) ?_ | refine branch_t' (decide_eq_true rfl) ?_)
  apply branch_intro <;> intro h2
  · repeat (first | refine branch_true ?_ | refine branch_false ?_ | refine branch_f' (bne_self_eq_false _) ?_ | refine branch_t' (beq_self_eq_true _) ?_ | refine branch_t' (decide_eq_true rfl) ?_)
    show Eqv _ _
    exact .up (.up (.refl _))
  have h6 : n ≤ 6 := by simp at h2; omega
  repeat (first | refine branch_true ?_ | refine branch_false ?_ | refine branch_f' (bne_self_eq_false _) ?_ | refine branch_t' (beq_self_eq_true _) ?_ | refine branch_t' (decide_eq_true rfl) ?_)
  refine callT_E (rvalid_c w6 w7) rfl ?_
  cases hv : validB (m 6) (m 7) (m 8) with
  | false =>
    repeat (first | refine branch_true ?_ | refine branch_false ?_ | refine branch_f' (bne_self_eq_false _) ?_ | refine branch_t' (beq_self_eq_true _) ?_ | refine branch_t' (decide_eq_true rfl) ?_)
    show Eqv _ _
    exact .up (.up (.refl _))
  | true =>
    obtain ⟨p, hp, hp4, hp14⟩ := nat_valid hv
    have hk := valid_k hv
    rw [hp] at hv ⊢
    repeat (first | refine branch_true ?_ | refine branch_false ?_ | refine branch_f' (bne_self_eq_false _) ?_ | refine branch_t' (beq_self_eq_true _) ?_ | refine branch_t' (decide_eq_true rfl) ?_)
    refine callT_E (run_c wm wr wv wD w6 w7 hv (by omega)) rfl ?_
    refine callT_E (bound_c (n := n) ⟨hp4, hp14⟩ (by omega)) rfl ?_
    repeat (first | refine branch_true ?_ | refine branch_false ?_ | refine branch_f' (bne_self_eq_false _) ?_ | refine branch_t' (beq_self_eq_true _) ?_ | refine branch_t' (decide_eq_true rfl) ?_)
    cases ho : (runT m (valD (m 6) (m 7)) p D s (hiV s) n).2.2 with
    | true =>
      repeat (first | refine branch_true ?_ | refine branch_false ?_ | refine branch_f' (bne_self_eq_false _) ?_ | refine branch_t' (beq_self_eq_true _) ?_ | refine branch_t' (decide_eq_true rfl) ?_)
      show Eqv _ _
      exact .up (.up (.refl _))
    | false =>
      have ax := fun (i : Nat) (hi : i < 3) => N13.axis_c (i := i) hi wm wr wv wD w6 w7 ⟨hp4, hp14⟩ h6
      have nr := fun (i : Nat) (hi : i < 3) => near_i (g := m) (r := s) (v := hiV s) (D := D) ⟨hp4, hp14⟩ hk hi h6 ho
      repeat (first | refine stp ?_ | refine loop_unr 4 ?_)
      refine callT_E (ax 0 (by decide)) rfl ?_
      refine draw_tree (picks (List.range 18) .done) (by decide +kernel) ?_
      repeat refine stp ?_
      refine ⟨_, ⟨(nr 0 (by decide)).1, rfl⟩, ?_⟩
      repeat refine stp ?_
      refine ⟨_, ⟨(nr 0 (by decide)).2, rfl⟩, ?_⟩
      repeat (first | refine stp ?_ | refine loop_unr 4 ?_)
      refine callT_E (ax 1 (by decide)) rfl ?_
      refine draw_tree (picks (List.range 18) .done) (by decide +kernel) ?_
      repeat refine stp ?_
      refine ⟨_, ⟨(nr 1 (by decide)).1, rfl⟩, ?_⟩
      repeat refine stp ?_
      refine ⟨_, ⟨(nr 1 (by decide)).2, rfl⟩, ?_⟩
      repeat (first | refine stp ?_ | refine loop_unr 4 ?_)
      refine callT_E (ax 2 (by decide)) rfl ?_
      refine draw_tree (picks (List.range 18) .done) (by decide +kernel) ?_
      repeat refine stp ?_
      refine ⟨_, ⟨(nr 2 (by decide)).1, rfl⟩, ?_⟩
      repeat refine stp ?_
      refine ⟨_, ⟨(nr 2 (by decide)).2, rfl⟩, ?_⟩
      repeat (first | refine stp ?_ | refine loop_unr 4 ?_)
      show Eqv _ _
      exact .up (.up (.refl _))
end Go.Proofs
