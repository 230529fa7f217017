/- Chapter 13, laws, part c: NaturalShifts, NaturalDivides, NaturalRing. -/
import Derived.Test.YtkjljhpmkhmmoaaC2
set_option linter.unusedVariables false
set_option linter.unusedSimpArgs false
/-! Qa. -/
namespace Go.Proofs
open Go.E

def G (a : List Int) (x m : Nat) : Prop := Limbs a ∧ val a = x ∧ bitLen x ≤ 32 * m ∧ a.length ≤ m
theorem G.of {a : List Int} {m : Nat} (la : Limbs a) (h : a.length ≤ m) : G a (val a) m := ⟨la, rfl, val_bits la h, h⟩
theorem G.nat {x m : Nat} (h : bitLen x ≤ 32 * m) : G (limbsOf x) x m := ⟨limbs_limbsOf x, val_limbsOf x, h, limbsOf_lenb h⟩
theorem G.sum {a b : List Int} {x y m k : Nat} (ga : G a x m) (gb : G b y k) : G (limbsOf (x + y)) (x + y) (m + k + 1) := by
  obtain ⟨_, _, h1, _⟩ := ga
  obtain ⟨_, _, h2, _⟩ := gb
  refine .nat ?_
  have := bitLen_add_le (x := x) (y := y) (m := 32 * m + 32 * k) (by omega) (by omega)
  omega
theorem G.prod {a b : List Int} {x y m k : Nat} (ga : G a x m) (gb : G b y k) : G (limbsOf (x * y)) (x * y) (m + k) := by
  obtain ⟨_, _, h1, _⟩ := ga
  obtain ⟨_, _, h2, _⟩ := gb
  refine .nat ?_
  have := bitLen_mul_le x y
  omega
theorem sum_g {a b : List Int} {x y m k : Nat} (ga : G a x m) (gb : G b y k) (h : m + k + 1 ≤ 1024) : callP Try.prog 27 [ints .u32 a, ints .u32 b] (· = ints .u32 (limbsOf (x + y))) := by
  obtain ⟨_, _, h3, _⟩ := ga.sum gb
  obtain ⟨la, rfl, h1, h1'⟩ := ga
  obtain ⟨lb, rfl, h2, h2'⟩ := gb
  have c := add_c (a := a) (b := b) (small_of h1' (by omega)) (small_of h2' (by omega)) la lb
  rw [limited_fit (by omega)] at c
  refine callE_def env (fn := Try.f27) rfl (by decide) rfl ?_
  refine callT_E c rfl ?_
  show Eqv _ _
  exact .up (.up (.refl _))
theorem prod_g {a b : List Int} {x y m k : Nat} (ga : G a x m) (gb : G b y k) (h : m + k ≤ 1024) : callP Try.prog 28 [ints .u32 a, ints .u32 b] (· = ints .u32 (limbsOf (x * y))) := by
  obtain ⟨_, _, h3, _⟩ := ga.prod gb
  obtain ⟨la, rfl, h1, h1'⟩ := ga
  obtain ⟨lb, rfl, h2, h2'⟩ := gb
  have c := mul_c (a := a) (b := b) (small_of h1' (by omega)) (small_of h2' (by omega)) la lb
  rw [limited_fit (by omega)] at c
  refine callE_def env (fn := Try.f28) rfl (by decide) rfl ?_
  refine callT_E c rfl ?_
  show Eqv _ _
  exact .up (.up (.refl _))
theorem same_g {x y m : Nat} (hxy : x = y) (h : bitLen x ≤ 32 * m) (hm : m ≤ 1073741824) : callP Try.prog 19 [ints .u32 (limbsOf x), ints .u32 (limbsOf y)] (· = .bool true) := by
  subst hxy
  have := same_c (a := limbsOf x) (b := limbsOf x) (limbsOf_short h hm)
  rwa [decide_eq_true rfl] at this
theorem arg_nil {f : FuncId} {v : AVal} {R : AVal → Prop} (h : callP Try.prog f [v, ints .u32 []] R) : callP Try.prog f [v, .nilslice] R :=
  callP_arg (.cons (.up (.up (.refl _))) (.cons (.up (.up (.nil 1 _))) .nil)) h
theorem norm_g {a : List Int} {x m : Nat} (ga : G a x m) (h : m ≤ 1024) : callP Try.prog 25 [ints .u32 a] (· = ints .u32 (limbsOf x)) := by
  obtain ⟨la, rfl, h1, h1'⟩ := ga
  exact norm_c (small_of h1' (by omega)).short la

set_option maxRecDepth 8000 in
set_option maxHeartbeats 1000000 in
theorem divides_law (a : List Int) (_ : a.length ≤ maxLen) (la : Limbs a) (b : List Int) (_ : b.length ≤ maxLen) (lb : Limbs b) : callP Try.prog 5 [ints .u32 a, ints .u32 b] (· = .bool true) := by
  refine callE_def env (fn := Try.f5) rfl (by decide) rfl ?_
  apply branch_intro <;> intro h
  · repeat (first | refine branch_true ?_ | refine branch_false ?_ | refine branch_f' (bne_self_eq_false _) ?_ | refine branch_t' (beq_self_eq_true _) ?_ | refine branch_t' (decide_eq_true rfl) ?_)
    refine callT_E awake_c rfl ?_
    repeat (first | refine branch_true ?_ | refine branch_false ?_ | refine branch_f' (bne_self_eq_false _) ?_ | refine branch_t' (beq_self_eq_true _) ?_ | refine branch_t' (decide_eq_true rfl) ?_)
    show Eqv _ _
    exact .up (.up (.refl _))
  have ha : a.length ≤ 200 := by simp at h; omega
  repeat (first | refine branch_true ?_ | refine branch_false ?_ | refine branch_f' (bne_self_eq_false _) ?_ | refine branch_t' (beq_self_eq_true _) ?_ | refine branch_t' (decide_eq_true rfl) ?_)
  apply branch_intro <;> intro h'
  · repeat (first | refine branch_true ?_ | refine branch_false ?_ | refine branch_f' (bne_self_eq_false _) ?_ | refine branch_t' (beq_self_eq_true _) ?_ | refine branch_t' (decide_eq_true rfl) ?_)
    refine callT_E awake_c rfl ?_
    repeat (first | refine branch_true ?_ | refine branch_false ?_ | refine branch_f' (bne_self_eq_false _) ?_ | refine branch_t' (beq_self_eq_true _) ?_ | refine branch_t' (decide_eq_true rfl) ?_)
    show Eqv _ _
    exact .up (.up (.refl _))
  have hb : b.length ≤ 200 := by simp at h'; omega
  have sb := small_of hb (by decide)
  have c1 := div_c (by omega) (by omega) la lb
  have c2 := bits_c sb.short lb
  have ga := G.of la ha
  have gb := G.of lb hb
  have c3 := cmp_c (a := limbsOf (val a % val b)) (b := b) (small_of (limbsOf_lenb (m := 200) (Nat.le_trans (bitLen_mono (Nat.mod_le _ _)) ga.2.2.1)) (by decide)) sb (limbs_limbsOf _) lb
  rw [val_limbsOf] at c3
  generalize val a = x at *
  generalize val b = y at *
  repeat (first | refine branch_true ?_ | refine branch_false ?_ | refine branch_f' (bne_self_eq_false _) ?_ | refine branch_t' (beq_self_eq_true _) ?_ | refine branch_t' (decide_eq_true rfl) ?_)
  by_cases hy0 : y = 0
  · subst hy0
    rw [divV, if_pos rfl] at c1
    rw [bitLen_zero] at c2
    refine callT_E c1 rfl ?_
    repeat (first | refine branch_true ?_ | refine branch_false ?_ | refine branch_f' (bne_self_eq_false _) ?_ | refine branch_t' (beq_self_eq_true _) ?_ | refine branch_t' (decide_eq_true rfl) ?_)
    refine callT_E c2 rfl ?_
    repeat (first | refine branch_true ?_ | refine branch_false ?_ | refine branch_f' (bne_self_eq_false _) ?_ | refine branch_t' (beq_self_eq_true _) ?_ | refine branch_t' (decide_eq_true rfl) ?_)
    repeat (first | refine branch_true ?_ | refine branch_false ?_ | refine branch_f' (bne_self_eq_false _) ?_ | refine branch_t' (beq_self_eq_true _) ?_ | refine branch_t' (decide_eq_true rfl) ?_)
    refine callT_E awake_c rfl ?_
    repeat (first | refine branch_true ?_ | refine branch_false ?_ | refine branch_f' (bne_self_eq_false _) ?_ | refine branch_t' (beq_self_eq_true _) ?_ | refine branch_t' (decide_eq_true rfl) ?_)
    show Eqv _ _
    exact .up (.up (.refl _))
  · rw [divV, if_neg hy0] at c1
    refine callT_E c1 rfl ?_
    repeat (first | refine branch_true ?_ | refine branch_false ?_ | refine branch_f' (bne_self_eq_false _) ?_ | refine branch_t' (beq_self_eq_true _) ?_ | refine branch_t' (decide_eq_true rfl) ?_)
    refine callT_E c2 rfl ?_
    repeat (first | refine branch_true ?_ | refine branch_false ?_ | refine branch_f' (bne_self_eq_false _) ?_ | refine branch_t' (beq_self_eq_true _) ?_ | refine branch_t' (decide_eq_true rfl) ?_)
    have hpos := bitLen_pos hy0
    refine branch_f' (beq_eq_false_iff_ne.2 (by omega)) ?_
    have hlt := Nat.mod_lt x (Nat.pos_of_ne_zero hy0)
    rw [cmpN, if_pos hlt] at c3
    repeat (first | refine branch_true ?_ | refine branch_false ?_ | refine branch_f' (bne_self_eq_false _) ?_ | refine branch_t' (beq_self_eq_true _) ?_ | refine branch_t' (decide_eq_true rfl) ?_)
    refine callT_E c3 rfl ?_
    repeat (first | refine branch_true ?_ | refine branch_false ?_ | refine branch_f' (bne_self_eq_false _) ?_ | refine branch_t' (beq_self_eq_true _) ?_ | refine branch_t' (decide_eq_true rfl) ?_)
    have gq : G (limbsOf (x / y)) (x / y) 200 := .nat (Nat.le_trans (bitLen_mono (Nat.div_le_self _ _)) ga.2.2.1)
    have gr : G (limbsOf (x % y)) (x % y) 200 := .nat (Nat.le_trans (bitLen_mono (Nat.mod_le _ _)) ga.2.2.1)
    refine callT_E (prod_g gq gb (by decide)) rfl ?_
    repeat (first | refine branch_true ?_ | refine branch_false ?_ | refine branch_f' (bne_self_eq_false _) ?_ | refine branch_t' (beq_self_eq_true _) ?_ | refine branch_t' (decide_eq_true rfl) ?_)
    refine callT_E (sum_g (gq.prod gb) gr (by decide)) rfl ?_
    repeat (first | refine branch_true ?_ | refine branch_false ?_ | refine branch_f' (bne_self_eq_false _) ?_ | refine branch_t' (beq_self_eq_true _) ?_ | refine branch_t' (decide_eq_true rfl) ?_)
    refine callT_E (norm_g ga (by decide)) rfl ?_
    repeat (first | refine branch_true ?_ | refine branch_false ?_ | refine branch_f' (bne_self_eq_false _) ?_ | refine branch_t' (beq_self_eq_true _) ?_ | refine branch_t' (decide_eq_true rfl) ?_)
    refine callT_E (same_g (m := 601) (Nat.div_add_mod' x y) ((gq.prod gb).sum gr).2.2.1 (by decide)) rfl ?_
    repeat (first | refine branch_true ?_ | refine branch_false ?_ | refine branch_f' (bne_self_eq_false _) ?_ | refine branch_t' (beq_self_eq_true _) ?_ | refine branch_t' (decide_eq_true rfl) ?_)
    repeat (first | refine branch_true ?_ | refine branch_false ?_ | refine branch_f' (bne_self_eq_false _) ?_ | refine branch_t' (beq_self_eq_true _) ?_ | refine branch_t' (decide_eq_true rfl) ?_)
    refine callT_E awake_c rfl ?_
    repeat (first | refine branch_true ?_ | refine branch_false ?_ | refine branch_f' (bne_self_eq_false _) ?_ | refine branch_t' (beq_self_eq_true _) ?_ | refine branch_t' (decide_eq_true rfl) ?_)
    show Eqv _ _
    exact .up (.up (.refl _))

set_option maxRecDepth 8000 in
set_option maxHeartbeats 2000000 in
theorem ring_law (a : List Int) (_ : a.length ≤ maxLen) (la : Limbs a) (b : List Int) (_ : b.length ≤ maxLen) (lb : Limbs b) (c : List Int) (_ : c.length ≤ maxLen) (lc : Limbs c) : callP Try.prog 4 [ints .u32 a, ints .u32 b, ints .u32 c] (· = .bool true) := by
  refine callE_def env (fn := Try.f4) rfl (by decide) rfl ?_
  apply branch_intro <;> intro h
  · repeat (first | refine branch_true ?_ | refine branch_false ?_ | refine branch_f' (bne_self_eq_false _) ?_ | refine branch_t' (beq_self_eq_true _) ?_ | refine branch_t' (decide_eq_true rfl) ?_)
    refine callT_E awake_c rfl ?_
    repeat (first | refine branch_true ?_ | refine branch_false ?_ | refine branch_f' (bne_self_eq_false _) ?_ | refine branch_t' (beq_self_eq_true _) ?_ | refine branch_t' (decide_eq_true rfl) ?_)
    show Eqv _ _
    exact .up (.up (.refl _))
  have ha : a.length ≤ 40 := by simp at h; omega
  repeat (first | refine branch_true ?_ | refine branch_false ?_ | refine branch_f' (bne_self_eq_false _) ?_ | refine branch_t' (beq_self_eq_true _) ?_ | refine branch_t' (decide_eq_true rfl) ?_)
  apply branch_intro <;> intro h'
  · repeat (first | refine branch_true ?_ | refine branch_false ?_ | refine branch_f' (bne_self_eq_false _) ?_ | refine branch_t' (beq_self_eq_true _) ?_ | refine branch_t' (decide_eq_true rfl) ?_)
    refine callT_E awake_c rfl ?_
    repeat (first | refine branch_true ?_ | refine branch_false ?_ | refine branch_f' (bne_self_eq_false _) ?_ | refine branch_t' (beq_self_eq_true _) ?_ | refine branch_t' (decide_eq_true rfl) ?_)
    show Eqv _ _
    exact .up (.up (.refl _))
  have hb : b.length ≤ 40 := by simp at h'; omega
  repeat (first | refine branch_true ?_ | refine branch_false ?_ | refine branch_f' (bne_self_eq_false _) ?_ | refine branch_t' (beq_self_eq_true _) ?_ | refine branch_t' (decide_eq_true rfl) ?_)
  apply branch_intro <;> intro h''
  · repeat (first | refine branch_true ?_ | refine branch_false ?_ | refine branch_f' (bne_self_eq_false _) ?_ | refine branch_t' (beq_self_eq_true _) ?_ | refine branch_t' (decide_eq_true rfl) ?_)
    refine callT_E awake_c rfl ?_
    repeat (first | refine branch_true ?_ | refine branch_false ?_ | refine branch_f' (bne_self_eq_false _) ?_ | refine branch_t' (beq_self_eq_true _) ?_ | refine branch_t' (decide_eq_true rfl) ?_)
    show Eqv _ _
    exact .up (.up (.refl _))
  have hc : c.length ≤ 40 := by simp at h''; omega
  have ga := G.of la ha
  have gb := G.of lb hb
  have gc := G.of lc hc
  generalize val a = x at *
  generalize val b = y at *
  generalize val c = z at *
  have gs := ga.sum gb
  have c9 := sub_c (a := limbsOf (x + y)) (b := b) (small_of gs.2.2.2 (by decide)) (small_of hb (by decide)) gs.1 lb
  rw [gs.2.1, gb.2.1, subV, if_neg (by omega), Nat.add_sub_cancel, limited_fit (by have := ga.2.2.1; omega)] at c9
  have g0 : G [] 0 40 := ⟨by unfold Limbs; decide, rfl, by rw [bitLen_zero]; omega, by decide⟩
  have g1 : G [1] 1 40 := by
    have h : Limbs [1] := by unfold Limbs; decide
    have := G.of (m := 40) h (by decide)
    rwa [show val [1] = 1 by decide] at this
  repeat (first | refine branch_true ?_ | refine branch_false ?_ | refine branch_f' (bne_self_eq_false _) ?_ | refine branch_t' (beq_self_eq_true _) ?_ | refine branch_t' (decide_eq_true rfl) ?_)
  refine callT_E (sum_g ga gb (by decide)) rfl ?_
  repeat (first | refine branch_true ?_ | refine branch_false ?_ | refine branch_f' (bne_self_eq_false _) ?_ | refine branch_t' (beq_self_eq_true _) ?_ | refine branch_t' (decide_eq_true rfl) ?_)
  refine callT_E (sum_g gb ga (by decide)) rfl ?_
  repeat (first | refine branch_true ?_ | refine branch_false ?_ | refine branch_f' (bne_self_eq_false _) ?_ | refine branch_t' (beq_self_eq_true _) ?_ | refine branch_t' (decide_eq_true rfl) ?_)
  refine callT_E (same_g (m := 81) (Nat.add_comm x y) gs.2.2.1 (by decide)) rfl ?_
  repeat (first | refine branch_true ?_ | refine branch_false ?_ | refine branch_f' (bne_self_eq_false _) ?_ | refine branch_t' (beq_self_eq_true _) ?_ | refine branch_t' (decide_eq_true rfl) ?_)
  refine callT_E (sum_g ga gb (by decide)) rfl ?_
  repeat (first | refine branch_true ?_ | refine branch_false ?_ | refine branch_f' (bne_self_eq_false _) ?_ | refine branch_t' (beq_self_eq_true _) ?_ | refine branch_t' (decide_eq_true rfl) ?_)
  refine callT_E (sum_g gs gc (by decide)) rfl ?_
  repeat (first | refine branch_true ?_ | refine branch_false ?_ | refine branch_f' (bne_self_eq_false _) ?_ | refine branch_t' (beq_self_eq_true _) ?_ | refine branch_t' (decide_eq_true rfl) ?_)
  refine callT_E (sum_g gb gc (by decide)) rfl ?_
  repeat (first | refine branch_true ?_ | refine branch_false ?_ | refine branch_f' (bne_self_eq_false _) ?_ | refine branch_t' (beq_self_eq_true _) ?_ | refine branch_t' (decide_eq_true rfl) ?_)
  refine callT_E (sum_g ga (gb.sum gc) (by decide)) rfl ?_
  repeat (first | refine branch_true ?_ | refine branch_false ?_ | refine branch_f' (bne_self_eq_false _) ?_ | refine branch_t' (beq_self_eq_true _) ?_ | refine branch_t' (decide_eq_true rfl) ?_)
  refine callT_E (same_g (m := 122) (Nat.add_assoc x y z) (gs.sum gc).2.2.1 (by decide)) rfl ?_
  repeat (first | refine branch_true ?_ | refine branch_false ?_ | refine branch_f' (bne_self_eq_false _) ?_ | refine branch_t' (beq_self_eq_true _) ?_ | refine branch_t' (decide_eq_true rfl) ?_)
  refine callT_E (prod_g ga gb (by decide)) rfl ?_
  repeat (first | refine branch_true ?_ | refine branch_false ?_ | refine branch_f' (bne_self_eq_false _) ?_ | refine branch_t' (beq_self_eq_true _) ?_ | refine branch_t' (decide_eq_true rfl) ?_)
  refine callT_E (prod_g gb ga (by decide)) rfl ?_
  repeat (first | refine branch_true ?_ | refine branch_false ?_ | refine branch_f' (bne_self_eq_false _) ?_ | refine branch_t' (beq_self_eq_true _) ?_ | refine branch_t' (decide_eq_true rfl) ?_)
  refine callT_E (same_g (m := 80) (Nat.mul_comm x y) (ga.prod gb).2.2.1 (by decide)) rfl ?_
  repeat (first | refine branch_true ?_ | refine branch_false ?_ | refine branch_f' (bne_self_eq_false _) ?_ | refine branch_t' (beq_self_eq_true _) ?_ | refine branch_t' (decide_eq_true rfl) ?_)
  refine callT_E (prod_g ga gb (by decide)) rfl ?_
  repeat (first | refine branch_true ?_ | refine branch_false ?_ | refine branch_f' (bne_self_eq_false _) ?_ | refine branch_t' (beq_self_eq_true _) ?_ | refine branch_t' (decide_eq_true rfl) ?_)
  refine callT_E (prod_g (ga.prod gb) gc (by decide)) rfl ?_
  repeat (first | refine branch_true ?_ | refine branch_false ?_ | refine branch_f' (bne_self_eq_false _) ?_ | refine branch_t' (beq_self_eq_true _) ?_ | refine branch_t' (decide_eq_true rfl) ?_)
  refine callT_E (prod_g gb gc (by decide)) rfl ?_
  repeat (first | refine branch_true ?_ | refine branch_false ?_ | refine branch_f' (bne_self_eq_false _) ?_ | refine branch_t' (beq_self_eq_true _) ?_ | refine branch_t' (decide_eq_true rfl) ?_)
  refine callT_E (prod_g ga (gb.prod gc) (by decide)) rfl ?_
  repeat (first | refine branch_true ?_ | refine branch_false ?_ | refine branch_f' (bne_self_eq_false _) ?_ | refine branch_t' (beq_self_eq_true _) ?_ | refine branch_t' (decide_eq_true rfl) ?_)
  refine callT_E (same_g (m := 120) (Nat.mul_assoc x y z) ((ga.prod gb).prod gc).2.2.1 (by decide)) rfl ?_
  repeat (first | refine branch_true ?_ | refine branch_false ?_ | refine branch_f' (bne_self_eq_false _) ?_ | refine branch_t' (beq_self_eq_true _) ?_ | refine branch_t' (decide_eq_true rfl) ?_)
  refine callT_E (sum_g gb gc (by decide)) rfl ?_
  repeat (first | refine branch_true ?_ | refine branch_false ?_ | refine branch_f' (bne_self_eq_false _) ?_ | refine branch_t' (beq_self_eq_true _) ?_ | refine branch_t' (decide_eq_true rfl) ?_)
  refine callT_E (prod_g ga (gb.sum gc) (by decide)) rfl ?_
  repeat (first | refine branch_true ?_ | refine branch_false ?_ | refine branch_f' (bne_self_eq_false _) ?_ | refine branch_t' (beq_self_eq_true _) ?_ | refine branch_t' (decide_eq_true rfl) ?_)
  refine callT_E (prod_g ga gb (by decide)) rfl ?_
  repeat (first | refine branch_true ?_ | refine branch_false ?_ | refine branch_f' (bne_self_eq_false _) ?_ | refine branch_t' (beq_self_eq_true _) ?_ | refine branch_t' (decide_eq_true rfl) ?_)
  refine callT_E (prod_g ga gc (by decide)) rfl ?_
  repeat (first | refine branch_true ?_ | refine branch_false ?_ | refine branch_f' (bne_self_eq_false _) ?_ | refine branch_t' (beq_self_eq_true _) ?_ | refine branch_t' (decide_eq_true rfl) ?_)
  refine callT_E (sum_g (ga.prod gb) (ga.prod gc) (by decide)) rfl ?_
  repeat (first | refine branch_true ?_ | refine branch_false ?_ | refine branch_f' (bne_self_eq_false _) ?_ | refine branch_t' (beq_self_eq_true _) ?_ | refine branch_t' (decide_eq_true rfl) ?_)
  refine callT_E (same_g (m := 121) (Nat.mul_add x y z) (ga.prod (gb.sum gc)).2.2.1 (by decide)) rfl ?_
  repeat (first | refine branch_true ?_ | refine branch_false ?_ | refine branch_f' (bne_self_eq_false _) ?_ | refine branch_t' (beq_self_eq_true _) ?_ | refine branch_t' (decide_eq_true rfl) ?_)
  refine callT_E (sum_g ga gb (by decide)) rfl ?_
  repeat (first | refine branch_true ?_ | refine branch_false ?_ | refine branch_f' (bne_self_eq_false _) ?_ | refine branch_t' (beq_self_eq_true _) ?_ | refine branch_t' (decide_eq_true rfl) ?_)
  refine callT_E c9 rfl ?_
  repeat (first | refine branch_true ?_ | refine branch_false ?_ | refine branch_f' (bne_self_eq_false _) ?_ | refine branch_t' (beq_self_eq_true _) ?_ | refine branch_t' (decide_eq_true rfl) ?_)
  refine callT_E (norm_g ga (by decide)) rfl ?_
  repeat (first | refine branch_true ?_ | refine branch_false ?_ | refine branch_f' (bne_self_eq_false _) ?_ | refine branch_t' (beq_self_eq_true _) ?_ | refine branch_t' (decide_eq_true rfl) ?_)
  refine callT_E (same_g (m := 40) rfl ga.2.2.1 (by decide)) rfl ?_
  repeat (first | refine branch_true ?_ | refine branch_false ?_ | refine branch_f' (bne_self_eq_false _) ?_ | refine branch_t' (beq_self_eq_true _) ?_ | refine branch_t' (decide_eq_true rfl) ?_)
  refine callT_E (arg_nil (sum_g ga g0 (by decide))) rfl ?_
  repeat (first | refine branch_true ?_ | refine branch_false ?_ | refine branch_f' (bne_self_eq_false _) ?_ | refine branch_t' (beq_self_eq_true _) ?_ | refine branch_t' (decide_eq_true rfl) ?_)
  refine callT_E (norm_g ga (by decide)) rfl ?_
  repeat (first | refine branch_true ?_ | refine branch_false ?_ | refine branch_f' (bne_self_eq_false _) ?_ | refine branch_t' (beq_self_eq_true _) ?_ | refine branch_t' (decide_eq_true rfl) ?_)
  refine callT_E (same_g (m := 81) (Nat.add_zero x) (ga.sum g0).2.2.1 (by decide)) rfl ?_
  repeat (first | refine branch_true ?_ | refine branch_false ?_ | refine branch_f' (bne_self_eq_false _) ?_ | refine branch_t' (beq_self_eq_true _) ?_ | refine branch_t' (decide_eq_true rfl) ?_)
  apply choice_l
  repeat (first | refine branch_true ?_ | refine branch_false ?_ | refine branch_f' (bne_self_eq_false _) ?_ | refine branch_t' (beq_self_eq_true _) ?_ | refine branch_t' (decide_eq_true rfl) ?_)
  refine callT_E (prod_g ga g1 (by decide)) rfl ?_
  repeat (first | refine branch_true ?_ | refine branch_false ?_ | refine branch_f' (bne_self_eq_false _) ?_ | refine branch_t' (beq_self_eq_true _) ?_ | refine branch_t' (decide_eq_true rfl) ?_)
  refine callT_E (norm_g ga (by decide)) rfl ?_
  repeat (first | refine branch_true ?_ | refine branch_false ?_ | refine branch_f' (bne_self_eq_false _) ?_ | refine branch_t' (beq_self_eq_true _) ?_ | refine branch_t' (decide_eq_true rfl) ?_)
  refine callT_E (same_g (m := 80) (Nat.mul_one x) (ga.prod g1).2.2.1 (by decide)) rfl ?_
  repeat (first | refine branch_true ?_ | refine branch_false ?_ | refine branch_f' (bne_self_eq_false _) ?_ | refine branch_t' (beq_self_eq_true _) ?_ | refine branch_t' (decide_eq_true rfl) ?_)
  refine callT_E (arg_nil (prod_g ga g0 (by decide))) rfl ?_
  repeat (first | refine branch_true ?_ | refine branch_false ?_ | refine branch_f' (bne_self_eq_false _) ?_ | refine branch_t' (beq_self_eq_true _) ?_ | refine branch_t' (decide_eq_true rfl) ?_)
  refine branch_t' (by rw [Nat.mul_zero, limbsOf_zero]; rfl) ?_
  repeat (first | refine branch_true ?_ | refine branch_false ?_ | refine branch_f' (bne_self_eq_false _) ?_ | refine branch_t' (beq_self_eq_true _) ?_ | refine branch_t' (decide_eq_true rfl) ?_)
  refine callT_E awake_c rfl ?_
  repeat (first | refine branch_true ?_ | refine branch_false ?_ | refine branch_f' (bne_self_eq_false _) ?_ | refine branch_t' (beq_self_eq_true _) ?_ | refine branch_t' (decide_eq_true rfl) ?_)
  show Eqv _ _
  exact .up (.up (.refl _))
theorem lim_shl (x : Nat) {n k : Nat} (h : k = n ∨ 40000 ≤ k ∧ k ≤ n) : limited (2 ^ n * x) = limited (2 ^ k * x) := by
  rcases h with rfl | ⟨h1, h2⟩
  · rfl
  · by_cases hx : x = 0
    · subst hx; rw [Nat.mul_zero, Nat.mul_zero]
    · have e1 := bitLen_mul (k := n) hx
      have e2 := bitLen_mul (k := k) hx
      rw [limited, limited, if_pos (by omega), if_pos (by omega)]
theorem lim_shr {x n k : Nat} (hx : bitLen x ≤ 40000) (h : k = n ∨ 40000 ≤ k ∧ k ≤ n) : x / 2 ^ n = x / 2 ^ k := by
  rcases h with rfl | ⟨h1, h2⟩
  · rfl
  · have := bitLen_le.1 (Nat.le_trans hx h1)
    have := bitLen_le.1 (Nat.le_trans hx (Nat.le_trans h1 h2))
    rw [Nat.div_eq_of_lt (by assumption), Nat.div_eq_of_lt (by assumption)]
set_option maxRecDepth 8000 in
set_option maxHeartbeats 1000000 in
theorem shifts_law (a : List Int) (_ : a.length ≤ maxLen) (la : Limbs a) (n : Int) (hn : -9223372036854775808 ≤ n ∧ n ≤ 9223372036854775807) : callP Try.prog 9 [ints .u32 a, .int .i64 n] (· = .bool true) := by
  refine callE_def env (fn := Try.f9) rfl (by decide) rfl ?_
  apply branch_intro <;> intro h
  · repeat (first | refine branch_true ?_ | refine branch_false ?_ | refine branch_f' (bne_self_eq_false _) ?_ | refine branch_t' (beq_self_eq_true _) ?_ | refine branch_t' (decide_eq_true rfl) ?_)
    refine callT_E awake_c rfl ?_
    repeat (first | refine branch_true ?_ | refine branch_false ?_ | refine branch_f' (bne_self_eq_false _) ?_ | refine branch_t' (beq_self_eq_true _) ?_ | refine branch_t' (decide_eq_true rfl) ?_)
    show Eqv _ _
    exact .up (.up (.refl _))
  have ha : a.length ≤ 1100 := by simp at h; omega
  have sa := small_of ha (by decide)
  have xa := val_bits la ha
  have v1 := value_c sa la
  have c1 := shl_c sa la hn
  have c2 := shr_c sa la hn
  generalize val a = x at *
  repeat (first | refine branch_true ?_ | refine branch_false ?_ | refine branch_f' (bne_self_eq_false _) ?_ | refine branch_t' (beq_self_eq_true _) ?_ | refine branch_t' (decide_eq_true rfl) ?_)
  refine callT_E v1 rfl ?_
  by_cases h0 : n < 0
  · rw [shlV, if_pos h0] at c1
    rw [shrV, if_pos h0] at c2
    repeat (first | refine branch_true ?_ | refine branch_false ?_ | refine branch_f' (bne_self_eq_false _) ?_ | refine branch_t' (beq_self_eq_true _) ?_ | refine branch_t' (decide_eq_true rfl) ?_)
    refine callT_E c1 rfl ?_
    repeat (first | refine branch_true ?_ | refine branch_false ?_ | refine branch_f' (bne_self_eq_false _) ?_ | refine branch_t' (beq_self_eq_true _) ?_ | refine branch_t' (decide_eq_true rfl) ?_)
    refine callT_E c2 rfl ?_
    refine branch_t' (decide_eq_true h0) ?_
    repeat (first | refine branch_true ?_ | refine branch_false ?_ | refine branch_f' (bne_self_eq_false _) ?_ | refine branch_t' (beq_self_eq_true _) ?_ | refine branch_t' (decide_eq_true rfl) ?_)
    refine callT_E awake_c rfl ?_
    repeat (first | refine branch_true ?_ | refine branch_false ?_ | refine branch_f' (bne_self_eq_false _) ?_ | refine branch_t' (beq_self_eq_true _) ?_ | refine branch_t' (decide_eq_true rfl) ?_)
    show Eqv _ _
    exact .up (.up (.refl _))
  · rw [shlV, if_neg h0] at c1
    rw [shrV, if_neg h0] at c2
    obtain ⟨m, rfl⟩ : ∃ m : Nat, n = m := ⟨n.toNat, by omega⟩
    rw [Int.toNat_natCast] at c1 c2
    obtain ⟨k, hk⟩ : ∃ k : Nat, k = min m 40000 := ⟨_, rfl⟩
    have hkm : k = m ∨ 40000 ≤ k ∧ k ≤ m := by omega
    rw [lim_shl x hkm] at c1
    rw [lim_shr (by omega) hkm] at c2
    have b1 := bitLen_two_mul k x
    have b2 := bitLen_mono (Nat.div_le_self x (2 ^ k))
    have w1 := rshl_c x k (by omega) (by omega)
    have w2 := rshr_c x k (by omega) (by omega)
    have r1 := rlimit_c (2 ^ k * x) (by omega)
    have r2 := rlimit_c (x / 2 ^ k) (by omega)
    obtain ⟨s, e, hs, hsl, _⟩ := lim_form (2 ^ k * x)
    obtain ⟨t, f, ht, htl, _⟩ := lim_form (x / 2 ^ k)
    have hK : (k : Int) = if (40000 : Int) < (m : Int) then 40000 else (m : Int) := by split <;> omega
    rw [hK] at w1 w2
    rw [hs] at c1 r1
    rw [ht] at c2 r2
    repeat (first | refine branch_true ?_ | refine branch_false ?_ | refine branch_f' (bne_self_eq_false _) ?_ | refine branch_t' (beq_self_eq_true _) ?_ | refine branch_t' (decide_eq_true rfl) ?_)
    refine callT_E c1 rfl ?_
    repeat (first | refine branch_true ?_ | refine branch_false ?_ | refine branch_f' (bne_self_eq_false _) ?_ | refine branch_t' (beq_self_eq_true _) ?_ | refine branch_t' (decide_eq_true rfl) ?_)
    refine callT_E c2 rfl ?_
    refine branch_f' (decide_eq_false h0) ?_
    repeat (first | refine branch_true ?_ | refine branch_false ?_ | refine branch_f' (bne_self_eq_false _) ?_ | refine branch_t' (beq_self_eq_true _) ?_ | refine branch_t' (decide_eq_true rfl) ?_)
    refine callT_E w1 rfl ?_
    refine callT_E r1 rfl ?_
    repeat (first | refine branch_true ?_ | refine branch_false ?_ | refine branch_f' (bne_self_eq_false _) ?_ | refine branch_t' (beq_self_eq_true _) ?_ | refine branch_t' (decide_eq_true rfl) ?_)
    refine callT_E w2 rfl ?_
    refine callT_E r2 rfl ?_
    repeat (first | refine branch_true ?_ | refine branch_false ?_ | refine branch_f' (bne_self_eq_false _) ?_ | refine branch_t' (beq_self_eq_true _) ?_ | refine branch_t' (decide_eq_true rfl) ?_)
    refine callT_E (same_c (a := s) (b := s) (by unfold Short; omega)) rfl ?_
    repeat (first | refine branch_true ?_ | refine branch_false ?_ | refine branch_f' (bne_self_eq_false _) ?_ | refine branch_t' (beq_self_eq_true _) ?_ | refine branch_t' (decide_eq_true rfl) ?_)
    refine callT_E (same_c (a := t) (b := t) (by unfold Short; omega)) rfl ?_
    repeat (first | refine branch_true ?_ | refine branch_false ?_ | refine branch_f' (bne_self_eq_false _) ?_ | refine branch_t' (beq_self_eq_true _) ?_ | refine branch_t' (decide_eq_true rfl) ?_)
    refine callT_E awake_c rfl ?_
    repeat (first | refine branch_true ?_ | refine branch_false ?_ | refine branch_f' (bne_self_eq_false _) ?_ | refine branch_t' (beq_self_eq_true _) ?_ | refine branch_t' (decide_eq_true rfl) ?_)
    show Eqv _ _
    exact .up (.up (.refl _))
end Go.Proofs
