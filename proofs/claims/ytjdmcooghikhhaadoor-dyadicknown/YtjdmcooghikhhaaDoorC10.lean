/- Chapter 14, part n: the laws of doubles, products, sums. -/
import Derived.Test.YtjdmcooghikhhaaDoorC9
import Derived.Test.YtjdmcooghikhhaaDoorE5
set_option linter.unusedVariables false
set_option linter.unusedSimpArgs false
/-! Dn. -/
namespace Go.Proofs.N13
open Go.E
set_option maxRecDepth 8000

theorem wu16 {x : Int} (h0 : 0 ≤ x) (h1 : x < 65536) : IntKind.u16.wrap x = x := by
  rw [IntKind.wrap_u16]; omega
def wordV (w : Int) : Int := if w % 32768 ≥ 16384 then w % 32768 - 32767 else w % 32768
theorem word_b {w : Int} : -16383 ≤ wordV w ∧ wordV w ≤ 16383 := by
  unfold wordV; split <;> omega
theorem eqv_of_eq {v w : AVal} (h : v = w) : Eqv v w := by subst h; exact .up (.up (.refl _))
theorem mask16 {x : Int} {m : Nat} (hm : m ≤ 16) (h0 : 0 ≤ x) (h1 : x < 65536) :
    IntKind.u16.wrap ((BitVec.ofInt IntKind.u16.bits x &&& BitVec.ofInt IntKind.u16.bits (2 ^ m - 1)).toNat : Int) = x % 2 ^ m := by
  obtain ⟨n, rfl⟩ := Int.eq_ofNat_of_zero_le h0
  have hp : 2 ^ m ≤ 2 ^ 16 := Nat.pow_le_pow_right (by decide) hm
  have h2 : 0 < 2 ^ m := Nat.pow_pos (by decide)
  have e1 : (BitVec.ofInt IntKind.u16.bits (n : Int)).toNat = n := by
    rw [show IntKind.u16.bits = 16 from rfl, BitVec.ofInt_natCast, BitVec.toNat_ofNat]
    exact Nat.mod_eq_of_lt (by omega)
  have em : ((2 : Int) ^ m - 1) = ((2 ^ m - 1 : Nat) : Int) := by
    have : ((2 ^ m : Nat) : Int) = 2 ^ m := by simp
    omega
  have e2 : (BitVec.ofInt IntKind.u16.bits (2 ^ m - 1)).toNat = 2 ^ m - 1 := by
    rw [em, show IntKind.u16.bits = 16 from rfl, BitVec.ofInt_natCast, BitVec.toNat_ofNat]
    exact Nat.mod_eq_of_lt (by omega)
  rw [BitVec.toNat_and, e1, e2, Nat.and_two_pow_sub_one_eq_mod]
  have hlt2 : n % 2 ^ m < 2 ^ 16 := Nat.lt_of_lt_of_le (Nat.mod_lt _ h2) hp
  rw [wu16 (by omega) (by omega)]
  simp
theorem bit14 {x : Int} (h0 : 0 ≤ x) (h1 : x < 32768) :
    (IntKind.u16.wrap ((BitVec.ofInt IntKind.u16.bits x &&& BitVec.ofInt IntKind.u16.bits 16384).toNat : Int) != 0) = decide (16384 ≤ x) := by
  obtain ⟨n, rfl⟩ := Int.eq_ofNat_of_zero_le h0
  have e1 : (BitVec.ofInt IntKind.u16.bits (n : Int)).toNat = n := by
    rw [show IntKind.u16.bits = 16 from rfl, BitVec.ofInt_natCast, BitVec.toNat_ofNat]
    exact Nat.mod_eq_of_lt (by omega)
  have e2 : (BitVec.ofInt IntKind.u16.bits 16384).toNat = 2 ^ 14 := by decide
  have h3 : n.testBit 14 = decide (n / 2 ^ 14 % 2 = 1) := Nat.testBit_eq_decide_div_mod_eq
  rw [BitVec.toNat_and, e1, e2]
  by_cases h : 16384 ≤ n
  · rw [decide_eq_true (p := n / 2 ^ 14 % 2 = 1) (by omega)] at h3
    have h4 : n &&& 2 ^ 14 = 2 ^ 14 := Nat.eq_of_testBit_eq fun j => by
      rw [Nat.testBit_and, Nat.testBit_two_pow]
      by_cases hj : 14 = j
      · subst hj; rw [h3]; rfl
      · rw [decide_eq_false hj, Bool.and_false]
    rw [h4, decide_eq_true (by omega)]; rfl
  · rw [decide_eq_false (p := n / 2 ^ 14 % 2 = 1) (by omega)] at h3
    have h4 : n &&& 2 ^ 14 = 0 := Nat.eq_of_testBit_eq fun j => by
      rw [Nat.testBit_and, Nat.testBit_two_pow, Nat.zero_testBit]
      by_cases hj : 14 = j
      · subst hj; rw [h3]; rfl
      · rw [decide_eq_false hj, Bool.and_false]
    rw [h4, decide_eq_false (by omega)]; rfl
theorem word_c {w : Int} (h0 : 0 ≤ w) (h1 : w < 65536) : callP Tryd.prog 69 [.int .u16 w] (· = .int .i64 (wordV w)) := by
  refine callE_def env (fn := Tryd.f69) rfl (by decide) rfl ?_
  have e1 : IntKind.u16.wrap ((BitVec.ofInt IntKind.u16.bits w &&& BitVec.ofInt IntKind.u16.bits 32767).toNat : Int) = w % 32768 := mask16 (m := 15) (by decide) h0 h1
  have e2 := bit14 (x := w % 32768) (by omega) (by omega)
  apply branch_intro <;> intro h
  · rw [e1, e2] at h
    have h := of_decide_eq_true h
    show Eqv _ _
    refine eqv_of_eq (congrArg (AVal.int _) ?_)
    rw [e1, wu16 (by omega) (by omega), wi (x := 32767 - w % 32768) (by omega) (by omega), wi (by omega) (by omega), wordV, if_pos (by omega)]
    omega
  · rw [e1, e2] at h
    have h := of_decide_eq_false h
    show Eqv _ _
    refine eqv_of_eq (congrArg (AVal.int _) ?_)
    rw [e1, wordV, if_neg (by omega), wi (by omega) (by omega)]
theorem rword_c {w : Int} (h0 : 0 ≤ w) (h1 : w < 65536) : callP Tryd.prog 70 [.int .u16 w] (· = .int .i64 (wordV w)) := by
  refine callE_def env (fn := Tryd.f70) rfl (by decide) rfl ?_
  refine need_intro (by decide) ?_
  have e1 : w.tmod 32768 = w % 32768 := Int.tmod_eq_emod_of_nonneg h0
  have e2 : IntKind.i64.wrap (w % 32768) = w % 32768 := wi (by omega) (by omega)
  apply branch_intro <;> intro h
  · rw [e1, e2] at h
    have h := of_decide_eq_true h
    show Eqv _ _
    refine eqv_of_eq (congrArg (AVal.int _) ?_)
    rw [e1, e2, wi (by omega) (by omega), wordV, if_pos (by omega)]
  · rw [e1, e2] at h
    have h := of_decide_eq_false h
    show Eqv _ _
    refine eqv_of_eq (congrArg (AVal.int _) ?_)
    rw [e1, e2, wordV, if_neg (by omega)]
abbrev dblA (a b : Int) : AVal := .agg [.int .u16 a, .int .u16 b]
def dblV (a b : Int) : Int := wordV a * 16384 + wordV b
theorem dblV_b (a b : Int) : -300000000 ≤ dblV a b ∧ dblV a b ≤ 300000000 := by
  have := @word_b a; have := @word_b b
  unfold dblV; omega
def dblD (a b : Int) : Dy := canonD (decide (dblV a b < 0)) (dblV a b).natAbs (-28)
theorem dblD_fit (a b : Int) : (dblD a b).fit ∧ (dblD a b).within = true := by
  have h := dblV_b a b
  have h1 : bitLen (dblV a b).natAbs ≤ 32 := bitLen_small (by omega)
  have h2 := canonD_bits (decide (dblV a b < 0)) (dblV a b).natAbs (-28)
  have h3 : -8192 ≤ (dblD a b).e ∧ (dblD a b).e ≤ 8192 := by
    unfold dblD canonD
    split
    · exact ⟨by decide, by decide⟩
    · have := tz_lt (n := (dblV a b).natAbs) (by assumption)
      simp only
      omega
  have h4 : (dblD a b).fit := ⟨by unfold dblD; omega, h3⟩
  exact ⟨h4, decide_eq_true h4⟩
theorem double_c {a b : Int} (ha : 0 ≤ a ∧ a < 65536) (hb : 0 ≤ b ∧ b < 65536) : callP Tryd.prog 29 [dblA a b] (· = dyA (dblD a b)) := by
  have h1 := @word_b a
  have h2 := @word_b b
  have hv := dblV_b a b
  have w1 : IntKind.i64.wrap (wordV a * 2 ^ 14) = wordV a * 16384 := by rw [show (2 : Int) ^ 14 = 16384 from rfl, wi (by omega) (by omega)]
  have w2 : IntKind.i64.wrap (IntKind.i64.wrap (wordV a * 2 ^ 14) + wordV b) = dblV a b := by rw [w1, wi (by omega) (by omega)]; rfl
  refine callE_def env (fn := Tryd.f29) rfl (by decide) rfl ?_
  refine draw_tree (picks [0, 1, 2, 3, 4, 5, 6, 7, 8, 9, 10, 11, 12, 13, 14] .done) (by decide +kernel) ?_
  repeat (refine need_intro (by decide) ?_)
  refine ⟨_, ⟨word_c ha.1 ha.2, rfl⟩, ?_⟩
  repeat (refine need_intro (by decide) ?_)
  refine ⟨_, ⟨word_c hb.1 hb.2, rfl⟩, ?_⟩
  have cc : ∀ n' : Int, n' = dblV a b → callP Tryd.prog 22 [.int .i64 n', .int .i64 (-28)] (· = .tuple [dyA (dblD a b), .int .i64 0]) := by
    rintro _ rfl
    have := dof_c (n := dblV a b) (e := -28) (by omega) (by decide)
    rwa [show canonD (decide (dblV a b < 0)) (dblV a b).natAbs (-28) = dblD a b from rfl, resV_in (dblD_fit a b).2] at this
  refine ⟨_, ⟨cc _ w2, rfl⟩, ?_⟩
  show Eqv _ _
  exact .up (.up (.refl _))
end Go.Proofs.N13
/-! Dp. -/
namespace Go.Proofs.N13
open Go.E
set_option maxRecDepth 8000

theorem rdouble_c {a b : Int} (ha : 0 ≤ a ∧ a < 65536) (hb : 0 ≤ b ∧ b < 65536) : callP Tryd.prog 30 [dblA a b] (· = rA (dblD a b)) := by
  have h1 := @word_b a
  have h2 := @word_b b
  have hv := dblV_b a b
  have w1 : IntKind.i64.wrap (wordV a * 16384) = wordV a * 16384 := wi (by omega) (by omega)
  have w2 : IntKind.i64.wrap (IntKind.i64.wrap (wordV a * 16384) + wordV b) = dblV a b := by rw [w1, wi (by omega) (by omega)]; rfl
  refine callE_def env (fn := Tryd.f30) rfl (by decide) rfl ?_
  refine draw_tree (picks [0, 1, 2, 3, 4, 5, 6, 7, 8, 9, 10, 11, 12, 13, 14] .done) (by decide +kernel) ?_
  repeat (refine need_intro (by decide) ?_)
  refine ⟨_, ⟨rword_c ha.1 ha.2, rfl⟩, ?_⟩
  repeat (refine need_intro (by decide) ?_)
  refine ⟨_, ⟨rword_c hb.1 hb.2, rfl⟩, ?_⟩
  have cc : ∀ n' : Int, n' = dblV a b → callP Tryd.prog 23 [.int .i64 n', .int .i64 (-28)] (· = .tuple [rA (dblD a b), .bool true]) := by
    rintro _ rfl
    have := rofE_c (n := dblV a b) (e := -28) (by omega) (by decide)
    rwa [rvalV, rvalD_ok (dblD_fit a b).2, show canonD (decide (dblV a b < 0)) (dblV a b).natAbs (-28) = dblD a b from rfl, (dblD_fit a b).2] at this
  refine ⟨_, ⟨cc _ w2, rfl⟩, ?_⟩
  show Eqv _ _
  exact .up (.up (.refl _))
theorem doubles_law (f : Nat → Int) (hf : HasL [.u16, .u16] f) : callP Tryd.prog 5 [.agg (aggL f [.u16, .u16] 0)] (· = .bool true) := by
  have ha := has_u16 (hf 0 (by decide))
  have hb := has_u16 (hf 1 (by decide))
  show callP Tryd.prog 5 [dblA (f 0) (f 1)] (· = .bool true)
  generalize f 0 = a at *
  generalize f 1 = b at *
  have hd := dblD_fit a b
  refine callE_def env (fn := Tryd.f5) rfl (by decide) rfl ?_
  refine draw_tree (picks [0, 1, 2, 3, 4, 5, 6, 7, 8] .done) (by decide +kernel) ?_
  refine ⟨_, ⟨double_c ha hb, rfl⟩, ?_⟩
  refine ⟨_, ⟨rdouble_c ha hb, rfl⟩, ?_⟩
  refine ⟨_, ⟨is_c (d := dblD a b) (w := dblD a b) (e := 0) (by have := hd.1.1; omega) (resV_in hd.2) (by have := hd.1.1; omega), rfl⟩, ?_⟩
  repeat (first | refine branch_true ?_ | refine branch_false ?_ | refine branch_f' (bne_self_eq_false _) ?_ | refine branch_t' (beq_self_eq_true _) ?_ | refine branch_t' (decide_eq_true rfl) ?_)
  refine ⟨_, ⟨awake_c, rfl⟩, ?_⟩
  repeat (first | refine branch_true ?_ | refine branch_false ?_ | refine branch_f' (bne_self_eq_false _) ?_ | refine branch_t' (beq_self_eq_true _) ?_ | refine branch_t' (decide_eq_true rfl) ?_)
  show Eqv _ _
  exact .up (.up (.refl _))

theorem mulD_bits {x y : Dy} (hx : x.fit) (hy : y.fit) : bitLen (mulD x y).m ≤ 20000 := by
  obtain ⟨a1, a2, a3⟩ := hx
  obtain ⟨b1, b2, b3⟩ := hy
  have hm := bitLen_mul_le x.m y.m
  have hb := canonD_bits (x.neg != y.neg) (x.m * y.m) (x.e + y.e)
  unfold mulD; omega
set_option maxHeartbeats 4000000 in
theorem products_law (n1 : Bool) (l1 : List Int) (e1 : Int) (_ : l1.length ≤ maxLen) (hl1 : Limbs l1) (he1 : -9223372036854775808 ≤ e1 ∧ e1 ≤ 9223372036854775807) (n2 : Bool) (l2 : List Int) (e2 : Int) (_ : l2.length ≤ maxLen) (hl2 : Limbs l2) (he2 : -9223372036854775808 ≤ e2 ∧ e2 ≤ 9223372036854775807) : callP Tryd.prog 8 [dyL n1 l1 e1, dyL n2 l2 e2] (· = .bool true) := by
  refine callE_def env (fn := Tryd.f8) rfl (by decide) rfl ?_
  apply branch_intro <;> intro h
  · repeat (first | refine branch_true ?_ | refine branch_false ?_ | refine branch_f' (bne_self_eq_false _) ?_ | refine branch_t' (beq_self_eq_true _) ?_ | refine branch_t' (decide_eq_true rfl) ?_)
    refine callT_E awake_c rfl ?_
    repeat (first | refine branch_true ?_ | refine branch_false ?_ | refine branch_f' (bne_self_eq_false _) ?_ | refine branch_t' (beq_self_eq_true _) ?_ | refine branch_t' (decide_eq_true rfl) ?_)
    show Eqv _ _
    exact .up (.up (.refl _))
  have h := of_decide_eq_false h
  repeat (first | refine branch_true ?_ | refine branch_false ?_ | refine branch_f' (bne_self_eq_false _) ?_ | refine branch_t' (beq_self_eq_true _) ?_ | refine branch_t' (decide_eq_true rfl) ?_)
  apply branch_intro <;> intro h'
  · repeat (first | refine branch_true ?_ | refine branch_false ?_ | refine branch_f' (bne_self_eq_false _) ?_ | refine branch_t' (beq_self_eq_true _) ?_ | refine branch_t' (decide_eq_true rfl) ?_)
    refine callT_E awake_c rfl ?_
    repeat (first | refine branch_true ?_ | refine branch_false ?_ | refine branch_f' (bne_self_eq_false _) ?_ | refine branch_t' (beq_self_eq_true _) ?_ | refine branch_t' (decide_eq_true rfl) ?_)
    show Eqv _ _
    exact .up (.up (.refl _))
  have h' := of_decide_eq_false h'
  repeat (first | refine branch_true ?_ | refine branch_false ?_ | refine branch_f' (bne_self_eq_false _) ?_ | refine branch_t' (beq_self_eq_true _) ?_ | refine branch_t' (decide_eq_true rfl) ?_)
  have ha1 : ArgD l1 (val l1) e1 := ⟨by omega, hl1, rfl, he1⟩
  have ha2 : ArgD l2 (val l2) e2 := ⟨by omega, hl2, rfl, he2⟩
  generalize val l1 = m1 at ha1
  generalize val l2 = m2 at ha2
  have cm := dmul_c n1 n2 ha1 ha2
  have cv1 := rval_c n1 ha1
  have cv2 := rval_c n2 ha2
  unfold rvalV at cv1 cv2
  have hok1 := rvalD_ok (neg := n1) (m := m1) (e := e1)
  have hok2 := rvalD_ok (neg := n2) (m := m2) (e := e2)
  generalize canonD n1 m1 e1 = x at *
  generalize canonD n2 m2 e2 = y at *
  generalize rvalD n1 m1 e1 = x' at *
  generalize rvalD n2 m2 e2 = y' at *
  by_cases hw : x.within = true ∧ y.within = true
  case neg =>
    rw [opV_no hw] at cm
    refine callT_E cm rfl ?_
    refine callT_E cv1 rfl ?_
    refine callT_E cv2 rfl ?_
    by_cases hx : x.within = true
    · have hy : y.within = false := by
        cases hh : y.within with
        | false => rfl
        | true => exact absurd ⟨hx, hh⟩ hw
      rw [hx, hy]
      repeat (first | refine branch_true ?_ | refine branch_false ?_ | refine branch_f' (bne_self_eq_false _) ?_ | refine branch_t' (beq_self_eq_true _) ?_ | refine branch_t' (decide_eq_true rfl) ?_)
      refine callT_E same_zero rfl ?_
      repeat (first | refine branch_true ?_ | refine branch_false ?_ | refine branch_f' (bne_self_eq_false _) ?_ | refine branch_t' (beq_self_eq_true _) ?_ | refine branch_t' (decide_eq_true rfl) ?_)
      refine callT_E awake_c rfl ?_
      repeat (first | refine branch_true ?_ | refine branch_false ?_ | refine branch_f' (bne_self_eq_false _) ?_ | refine branch_t' (beq_self_eq_true _) ?_ | refine branch_t' (decide_eq_true rfl) ?_)
      show Eqv _ _
      exact .up (.up (.refl _))
    · rw [Bool.not_eq_true] at hx
      rw [hx]
      repeat (first | refine branch_true ?_ | refine branch_false ?_ | refine branch_f' (bne_self_eq_false _) ?_ | refine branch_t' (beq_self_eq_true _) ?_ | refine branch_t' (decide_eq_true rfl) ?_)
      refine callT_E same_zero rfl ?_
      repeat (first | refine branch_true ?_ | refine branch_false ?_ | refine branch_f' (bne_self_eq_false _) ?_ | refine branch_t' (beq_self_eq_true _) ?_ | refine branch_t' (decide_eq_true rfl) ?_)
      refine callT_E awake_c rfl ?_
      repeat (first | refine branch_true ?_ | refine branch_false ?_ | refine branch_f' (bne_self_eq_false _) ?_ | refine branch_t' (beq_self_eq_true _) ?_ | refine branch_t' (decide_eq_true rfl) ?_)
      show Eqv _ _
      exact .up (.up (.refl _))
  obtain ⟨hx, hy⟩ := hw
  rw [opV_ok hx hy] at cm
  rw [hok1 hx, hx] at cv1
  rw [hok2 hy, hy] at cv2
  have fx := within_fit hx
  have fy := within_fit hy
  have hb := mulD_bits fx fy
  have gm := rmul14_c fx fy
  generalize mulD x y = z at *
  obtain ⟨d, e, hr, hd⟩ := resV_form2 z
  rw [hr] at cm
  refine callT_E cm rfl ?_
  refine callT_E cv1 rfl ?_
  refine callT_E cv2 rfl ?_
  repeat (first | refine branch_true ?_ | refine branch_false ?_ | refine branch_f' (bne_self_eq_false _) ?_ | refine branch_t' (beq_self_eq_true _) ?_ | refine branch_t' (decide_eq_true rfl) ?_)
  refine draw_tree (picks [0, 1, 2, 3, 4, 5, 6, 7, 8, 9] .done) (by decide +kernel) ?_
  refine ⟨_, ⟨gm, rfl⟩, ?_⟩
  refine ⟨_, ⟨is_c (by omega) hr (by omega), rfl⟩, ?_⟩
  repeat (first | refine branch_true ?_ | refine branch_false ?_ | refine branch_f' (bne_self_eq_false _) ?_ | refine branch_t' (beq_self_eq_true _) ?_ | refine branch_t' (decide_eq_true rfl) ?_)
  refine ⟨_, ⟨awake_c, rfl⟩, ?_⟩
  repeat (first | refine branch_true ?_ | refine branch_false ?_ | refine branch_f' (bne_self_eq_false _) ?_ | refine branch_t' (beq_self_eq_true _) ?_ | refine branch_t' (decide_eq_true rfl) ?_)
  show Eqv _ _
  exact .up (.up (.refl _))

set_option maxHeartbeats 4000000 in
theorem sums_law (n1 : Bool) (l1 : List Int) (e1 : Int) (_ : l1.length ≤ maxLen) (hl1 : Limbs l1) (he1 : -9223372036854775808 ≤ e1 ∧ e1 ≤ 9223372036854775807) (n2 : Bool) (l2 : List Int) (e2 : Int) (_ : l2.length ≤ maxLen) (hl2 : Limbs l2) (he2 : -9223372036854775808 ≤ e2 ∧ e2 ≤ 9223372036854775807) : callP Tryd.prog 9 [dyL n1 l1 e1, dyL n2 l2 e2] (· = .bool true) := by
  refine callE_def env (fn := Tryd.f9) rfl (by decide) rfl ?_
  apply branch_intro <;> intro h
  · repeat (first | refine branch_true ?_ | refine branch_false ?_ | refine branch_f' (bne_self_eq_false _) ?_ | refine branch_t' (beq_self_eq_true _) ?_ | refine branch_t' (decide_eq_true rfl) ?_)
    refine callT_E awake_c rfl ?_
    repeat (first | refine branch_true ?_ | refine branch_false ?_ | refine branch_f' (bne_self_eq_false _) ?_ | refine branch_t' (beq_self_eq_true _) ?_ | refine branch_t' (decide_eq_true rfl) ?_)
    show Eqv _ _
    exact .up (.up (.refl _))
  have h := of_decide_eq_false h
  repeat (first | refine branch_true ?_ | refine branch_false ?_ | refine branch_f' (bne_self_eq_false _) ?_ | refine branch_t' (beq_self_eq_true _) ?_ | refine branch_t' (decide_eq_true rfl) ?_)
  apply branch_intro <;> intro h'
  · repeat (first | refine branch_true ?_ | refine branch_false ?_ | refine branch_f' (bne_self_eq_false _) ?_ | refine branch_t' (beq_self_eq_true _) ?_ | refine branch_t' (decide_eq_true rfl) ?_)
    refine callT_E awake_c rfl ?_
    repeat (first | refine branch_true ?_ | refine branch_false ?_ | refine branch_f' (bne_self_eq_false _) ?_ | refine branch_t' (beq_self_eq_true _) ?_ | refine branch_t' (decide_eq_true rfl) ?_)
    show Eqv _ _
    exact .up (.up (.refl _))
  have h' := of_decide_eq_false h'
  repeat (first | refine branch_true ?_ | refine branch_false ?_ | refine branch_f' (bne_self_eq_false _) ?_ | refine branch_t' (beq_self_eq_true _) ?_ | refine branch_t' (decide_eq_true rfl) ?_)
  have ha1 : ArgD l1 (val l1) e1 := ⟨by omega, hl1, rfl, he1⟩
  have ha2 : ArgD l2 (val l2) e2 := ⟨by omega, hl2, rfl, he2⟩
  generalize val l1 = m1 at ha1
  generalize val l2 = m2 at ha2
  have ca := dadd_c n1 n2 ha1 ha2
  have cs := dsub_c n1 n2 ha1 ha2
  have cc := dcmp_c n1 n2 ha1 ha2
  have cd := dist_c n1 n2 ha1 ha2
  have cv1 := rval_c n1 ha1
  have cv2 := rval_c n2 ha2
  unfold rvalV at cv1 cv2
  have hok1 := rvalD_ok (neg := n1) (m := m1) (e := e1)
  have hok2 := rvalD_ok (neg := n2) (m := m2) (e := e2)
  have kx := canonD_canon n1 m1 e1
  have ky := canonD_canon n2 m2 e2
  generalize canonD n1 m1 e1 = x at *
  generalize canonD n2 m2 e2 = y at *
  generalize rvalD n1 m1 e1 = x' at *
  generalize rvalD n2 m2 e2 = y' at *
  by_cases hw : x.within = true ∧ y.within = true
  case neg =>
    rw [opV_no hw] at ca cs cd
    rw [cmpV, if_neg hw] at cc
    refine callT_E ca rfl ?_
    refine callT_E cs rfl ?_
    refine callT_E cc rfl ?_
    refine callT_E cd rfl ?_
    refine callT_E cv1 rfl ?_
    refine callT_E cv2 rfl ?_
    by_cases hx : x.within = true
    · have hy : y.within = false := by
        cases hh : y.within with
        | false => rfl
        | true => exact absurd ⟨hx, hh⟩ hw
      rw [hx, hy]
      repeat (first | refine branch_true ?_ | refine branch_false ?_ | refine branch_f' (bne_self_eq_false _) ?_ | refine branch_t' (beq_self_eq_true _) ?_ | refine branch_t' (decide_eq_true rfl) ?_)
      refine callT_E same_zero rfl ?_
      repeat (first | refine branch_true ?_ | refine branch_false ?_ | refine branch_f' (bne_self_eq_false _) ?_ | refine branch_t' (beq_self_eq_true _) ?_ | refine branch_t' (decide_eq_true rfl) ?_)
      refine callT_E same_zero rfl ?_
      repeat (first | refine branch_true ?_ | refine branch_false ?_ | refine branch_f' (bne_self_eq_false _) ?_ | refine branch_t' (beq_self_eq_true _) ?_ | refine branch_t' (decide_eq_true rfl) ?_)
      refine callT_E same_zero rfl ?_
      repeat (first | refine branch_true ?_ | refine branch_false ?_ | refine branch_f' (bne_self_eq_false _) ?_ | refine branch_t' (beq_self_eq_true _) ?_ | refine branch_t' (decide_eq_true rfl) ?_)
      refine callT_E awake_c rfl ?_
      repeat (first | refine branch_true ?_ | refine branch_false ?_ | refine branch_f' (bne_self_eq_false _) ?_ | refine branch_t' (beq_self_eq_true _) ?_ | refine branch_t' (decide_eq_true rfl) ?_)
      show Eqv _ _
      exact .up (.up (.refl _))
    · rw [Bool.not_eq_true] at hx
      rw [hx]
      repeat (first | refine branch_true ?_ | refine branch_false ?_ | refine branch_f' (bne_self_eq_false _) ?_ | refine branch_t' (beq_self_eq_true _) ?_ | refine branch_t' (decide_eq_true rfl) ?_)
      refine callT_E same_zero rfl ?_
      repeat (first | refine branch_true ?_ | refine branch_false ?_ | refine branch_f' (bne_self_eq_false _) ?_ | refine branch_t' (beq_self_eq_true _) ?_ | refine branch_t' (decide_eq_true rfl) ?_)
      refine callT_E same_zero rfl ?_
      repeat (first | refine branch_true ?_ | refine branch_false ?_ | refine branch_f' (bne_self_eq_false _) ?_ | refine branch_t' (beq_self_eq_true _) ?_ | refine branch_t' (decide_eq_true rfl) ?_)
      refine callT_E same_zero rfl ?_
      repeat (first | refine branch_true ?_ | refine branch_false ?_ | refine branch_f' (bne_self_eq_false _) ?_ | refine branch_t' (beq_self_eq_true _) ?_ | refine branch_t' (decide_eq_true rfl) ?_)
      refine callT_E awake_c rfl ?_
      repeat (first | refine branch_true ?_ | refine branch_false ?_ | refine branch_f' (bne_self_eq_false _) ?_ | refine branch_t' (beq_self_eq_true _) ?_ | refine branch_t' (decide_eq_true rfl) ?_)
      show Eqv _ _
      exact .up (.up (.refl _))
  obtain ⟨hx, hy⟩ := hw
  rw [opV_ok hx hy] at ca cs cd
  rw [cmpV, if_pos ⟨hx, hy⟩] at cc
  rw [hok1 hx, hx] at cv1
  rw [hok2 hy, hy] at cv2
  have fx := within_fit hx
  have fy := within_fit hy
  have b1 := plusD_bits fx fy
  have b2 : bitLen (subD x y).m ≤ 30001 := plusD_bits fx (neg_fit fy)
  have b3 : bitLen (absD (subD x y)).m ≤ 30001 := b2
  have g1 := radd14_c kx ky fx fy
  have g0 := rneg_c ky
  have g2 : callP Tryd.prog 43 [rA x, rA (negD y)] (· = rA (subD x y)) := radd14_c kx (negD_canon ky) fx (neg_fit fy)
  have g3 := rcmp14_c kx ky fx fy
  have g4 := rabs_c (subD x y)
  generalize plusD x y = z1 at *
  generalize subD x y = z2 at *
  obtain ⟨d1, e1, hr1, hd1⟩ := resV_form2 z1
  obtain ⟨d2, e2, hr2, hd2⟩ := resV_form2 z2
  obtain ⟨d3, e3, hr3, hd3⟩ := resV_form2 (absD z2)
  rw [hr1] at ca
  rw [hr2] at cs
  rw [hr3] at cd
  refine callT_E ca rfl ?_
  refine callT_E cs rfl ?_
  refine callT_E cc rfl ?_
  refine callT_E cd rfl ?_
  refine callT_E cv1 rfl ?_
  refine callT_E cv2 rfl ?_
  repeat (first | refine branch_true ?_ | refine branch_false ?_ | refine branch_f' (bne_self_eq_false _) ?_ | refine branch_t' (beq_self_eq_true _) ?_ | refine branch_t' (decide_eq_true rfl) ?_)
  refine draw_tree (picks [0, 1, 2, 3, 4, 5] .done) (by decide +kernel) ?_
  refine ⟨_, ⟨g0, rfl⟩, ?_⟩
  refine ⟨_, ⟨g2, rfl⟩, ?_⟩
  refine draw_tree (picks [0, 1, 2, 3, 4, 5, 6, 7, 8, 9, 10, 11, 12, 13, 14, 15, 16, 17, 18, 19, 20, 21, 22, 23, 24, 25, 26, 27, 28, 29, 30, 31, 32, 33] .done) (by decide +kernel) ?_
  refine ⟨_, ⟨g1, rfl⟩, ?_⟩
  refine ⟨_, ⟨is_c (by omega) hr1 (by omega), rfl⟩, ?_⟩
  repeat (first | refine branch_true ?_ | refine branch_false ?_ | refine branch_f' (bne_self_eq_false _) ?_ | refine branch_t' (beq_self_eq_true _) ?_ | refine branch_t' (decide_eq_true rfl) ?_)
  refine ⟨_, ⟨is_c (by omega) hr2 (by omega), rfl⟩, ?_⟩
  repeat (first | refine branch_true ?_ | refine branch_false ?_ | refine branch_f' (bne_self_eq_false _) ?_ | refine branch_t' (beq_self_eq_true _) ?_ | refine branch_t' (decide_eq_true rfl) ?_)
  refine ⟨_, ⟨g3, rfl⟩, ?_⟩
  repeat (first | refine branch_true ?_ | refine branch_false ?_ | refine branch_f' (bne_self_eq_false _) ?_ | refine branch_t' (beq_self_eq_true _) ?_ | refine branch_t' (decide_eq_true rfl) ?_)
  refine ⟨_, ⟨g4, rfl⟩, ?_⟩
  repeat (first | refine branch_true ?_ | refine branch_false ?_ | refine branch_f' (bne_self_eq_false _) ?_ | refine branch_t' (beq_self_eq_true _) ?_ | refine branch_t' (decide_eq_true rfl) ?_)
  refine ⟨_, ⟨is_c (by omega) hr3 (by omega), rfl⟩, ?_⟩
  repeat (first | refine branch_true ?_ | refine branch_false ?_ | refine branch_f' (bne_self_eq_false _) ?_ | refine branch_t' (beq_self_eq_true _) ?_ | refine branch_t' (decide_eq_true rfl) ?_)
  refine ⟨_, ⟨awake_c, rfl⟩, ?_⟩
  repeat (first | refine branch_true ?_ | refine branch_false ?_ | refine branch_f' (bne_self_eq_false _) ?_ | refine branch_t' (beq_self_eq_true _) ?_ | refine branch_t' (decide_eq_true rfl) ?_)
  show Eqv _ _
  exact .up (.up (.refl _))
end Go.Proofs.N13
