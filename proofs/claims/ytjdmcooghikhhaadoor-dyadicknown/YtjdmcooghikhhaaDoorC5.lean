/- Chapter 14, part f: plus. -/
import Derived.Test.YtjdmcooghikhhaaDoorC4
set_option linter.unusedVariables false
set_option linter.unusedSimpArgs false
/-! Df. -/
namespace Go.Proofs.N13
open Go.E
set_option maxRecDepth 8000

/-- The sum. -/
def plusD (x y : Dy) : Dy :=
  if x.m = 0 then y else if y.m = 0 then x else
    let e := if y.e < x.e then y.e else x.e
    let p := 2 ^ (x.e - e).toNat * x.m
    let q := 2 ^ (y.e - e).toNat * y.m
    if x.neg = y.neg then canonD x.neg (p + q) e else if p < q then canonD y.neg (q - p) e else canonD x.neg (p - q) e

/-- Numbers of the size that sums are made of. -/
def Dy.fit (x : Dy) : Prop := bitLen x.m ≤ 8192 ∧ -8192 ≤ x.e ∧ x.e ≤ 8192
theorem zero_eqv (x : Dy) (h : x.m = 0) (e : Int) : Eqv0 (ints .u32 (limbsOf 0)) (ints .u32 (limbsOf x.m)) := by rw [h]; exact .refl _

theorem bitLen_add_le {x y m : Nat} (hx : bitLen x ≤ m) (hy : bitLen y ≤ m) : bitLen (x + y) ≤ m + 1 := by
  have h1 := bitLen_le.1 hx
  have h2 := bitLen_le.1 hy
  refine bitLen_le.2 ?_
  rw [Nat.pow_succ]; omega
theorem add_nat {p q : Nat} (hp : bitLen p ≤ 32000) (hq : bitLen q ≤ 32000) : callP Tryd.prog 82 [ints .u32 (limbsOf p), ints .u32 (limbsOf q)] (· = .tuple [ints .u32 (limbsOf (p + q)), .int .i64 0]) := by
  have h := add_c (a := limbsOf p) (b := limbsOf q) (small_nat (by omega)) (small_nat (by omega)) (limbs_limbsOf _) (limbs_limbsOf _)
  have := bitLen_add_le hp hq
  rwa [val_limbsOf, val_limbsOf, limited_fits (by omega)] at h
theorem sub_nat {p q : Nat} (hp : bitLen p ≤ 32000) (hq : bitLen q ≤ 32000) (h : q ≤ p) : callP Tryd.prog 95 [ints .u32 (limbsOf p), ints .u32 (limbsOf q)] (· = .tuple [ints .u32 (limbsOf (p - q)), .int .i64 0]) := by
  have hc := sub_c (a := limbsOf p) (b := limbsOf q) (small_nat (by omega)) (small_nat (by omega)) (limbs_limbsOf _) (limbs_limbsOf _)
  have := bitLen_mono (show p - q ≤ p by omega)
  rwa [val_limbsOf, val_limbsOf, subV, if_neg (by omega), limited_fits (by omega)] at hc
theorem cmp_nat {p q : Nat} (hp : bitLen p ≤ 32000) (hq : bitLen q ≤ 32000) : callP Tryd.prog 94 [ints .u32 (limbsOf p), ints .u32 (limbsOf q)] (· = .int .i64 (cmpN p q)) := by
  have hc := cmp_c (a := limbsOf p) (b := limbsOf q) (small_nat (by omega)) (small_nat (by omega)) (limbs_limbsOf _) (limbs_limbsOf _)
  rwa [val_limbsOf, val_limbsOf] at hc
theorem aligned_c (x : Dy) {d : Int} {k : Nat} (hx : bitLen x.m ≤ 8192) (he : -1000000 ≤ x.e ∧ x.e ≤ 1000000) (hd : x.e - d = k) (hk : k ≤ 20000) : callP Tryd.prog 92 [dyA x, .roptr 1 1 (fun _ => [.int .i64 d]) 0 0] (· = ints .u32 (limbsOf (2 ^ k * x.m))) := by
  refine callE_def env (fn := Tryd.f92) rfl (by decide) rfl ?_
  refine callT_E (at_c x.m hx he hd hk) rfl ?_
  show Eqv _ _
  exact .up (.up (.refl _))

set_option maxHeartbeats 4000000 in
theorem plus_c (x y : Dy) (hx : x.fit) (hy : y.fit) : callP Tryd.prog 75 [dyA x, dyA y] (· = dyA (plusD x y)) := by
  obtain ⟨n1, m1, e1⟩ := x
  obtain ⟨n2, m2, e2⟩ := y
  obtain ⟨hx1, hx2, hx3⟩ := hx
  obtain ⟨hy1, hy2, hy3⟩ := hy
  simp only at hx1 hx2 hx3 hy1 hy2 hy3
  refine callE_def env (fn := Tryd.f75) rfl (by decide) rfl ?_
  refine callT_E (zero_c m1 e1) rfl ?_
  apply branch_intro <;> intro h1
  · have h1 := of_decide_eq_true h1
    show Eqv _ _
    rw [plusD, if_pos h1]
    exact .up (.up (.refl _))
  have h1 := of_decide_eq_false h1
  refine callT_E (zero_c m2 e2) rfl ?_
  apply branch_intro <;> intro h2
  · have h2 := of_decide_eq_true h2
    show Eqv _ _
    rw [plusD, if_neg h1, if_pos h2]
    exact .up (.up (.refl _))
  have h2 := of_decide_eq_false h2
  refine draw_box 3 (keep 72 [2, 3, 4, 5, 6]) rfl rfl (Nat.zero_le _) ?_
  refine draw_tree (picks [0, 1, 2, 3, 4, 5, 6, 7] .done) (by decide +kernel) ?_
  have hd : (if e2 < e1 then e2 else e1) ≤ e1 ∧ (if e2 < e1 then e2 else e1) ≤ e2 ∧ -8192 ≤ (if e2 < e1 then e2 else e1) ∧ (if e2 < e1 then e2 else e1) ≤ 8192 := by split <;> omega
  have hpl : plusD ⟨n1, m1, e1⟩ ⟨n2, m2, e2⟩ = (let e := if e2 < e1 then e2 else e1
    let p := 2 ^ (e1 - e).toNat * m1
    let q := 2 ^ (e2 - e).toNat * m2
    if n1 = n2 then canonD n1 (p + q) e else if p < q then canonD n2 (q - p) e else canonD n1 (p - q) e) := by
    rw [plusD, if_neg h1, if_neg h2]
  have cA := aligned_c ⟨n1, m1, e1⟩ (d := if e2 < e1 then e2 else e1) (k := (e1 - if e2 < e1 then e2 else e1).toNat) hx1 (by simp only; omega) (by simp only; omega) (by omega)
  have cB := aligned_c ⟨n2, m2, e2⟩ (d := if e2 < e1 then e2 else e1) (k := (e2 - if e2 < e1 then e2 else e1).toNat) hy1 (by simp only; omega) (by simp only; omega) (by omega)
  have hp := bitLen_two_mul (e1 - if e2 < e1 then e2 else e1).toNat m1
  have hq := bitLen_two_mul (e2 - if e2 < e1 then e2 else e1).toNat m2
  have hp : bitLen (2 ^ (e1 - if e2 < e1 then e2 else e1).toNat * m1) ≤ 30000 := by omega
  have hq : bitLen (2 ^ (e2 - if e2 < e1 then e2 else e1).toNat * m2) ≤ 30000 := by omega
  simp only at hpl cA cB
  rw [hpl]
  clear hpl
  generalize 2 ^ (e1 - if e2 < e1 then e2 else e1).toNat * m1 = p at *
  generalize 2 ^ (e2 - if e2 < e1 then e2 else e1).toNat * m2 = q at *
  have hs := bitLen_add_le hp hq
  refine ⟨_, ⟨cA, rfl⟩, ?_⟩
  refine ⟨_, ⟨cB, rfl⟩, ?_⟩
  clear cA cB
  apply branch_intro <;> intro h3
  · have h3 : n1 = n2 := by simpa using h3
    rw [if_pos h3]
    refine callT_E (add_nat (by omega) (by omega)) rfl ?_
    refine callT_E (canonical_c n1 (m := p + q) (e := if e2 < e1 then e2 else e1) (by omega) (by omega)) rfl ?_
    show Eqv _ _
    exact .up (.up (.refl _))
  have h3 : ¬ n1 = n2 := by simpa using h3
  rw [if_neg h3]
  refine callT_E (cmp_nat (by omega) (by omega)) rfl ?_
  apply branch_intro <;> intro h4
  · have h4 : p < q := by
      have := of_decide_eq_true h4
      unfold cmpN at this
      split at this
      · assumption
      · split at this <;> omega
    rw [if_pos h4]
    refine draw_tree (picks [0, 1, 2, 3, 4, 5, 6] .done) (by decide +kernel) ?_
    refine callT_E (sub_nat (by omega) (by omega) (by omega)) rfl ?_
    have := bitLen_mono (show q - p ≤ q by omega)
    refine callT_E (canonical_c n2 (m := q - p) (e := if e2 < e1 then e2 else e1) (by omega) (by omega)) rfl ?_
    show Eqv _ _
    exact .up (.up (.refl _))
  · have h4 : ¬ p < q := by
      intro hlt
      have := of_decide_eq_false h4
      rw [cmpN, if_pos hlt] at this
      omega
    rw [if_neg h4]
    refine callT_E (sub_nat (by omega) (by omega) (by omega)) rfl ?_
    have := bitLen_mono (show p - q ≤ p by omega)
    refine callT_E (canonical_c n1 (m := p - q) (e := if e2 < e1 then e2 else e1) (by omega) (by omega)) rfl ?_
    show Eqv _ _
    exact .up (.up (.refl _))
end Go.Proofs.N13
/-! Dg. -/
namespace Go.Proofs.N13
open Go.E
set_option maxRecDepth 8000

def negD (x : Dy) : Dy := ⟨!x.neg && decide (x.m ≠ 0), x.m, x.e⟩
def mulD (x y : Dy) : Dy := canonD (x.neg != y.neg) (x.m * y.m) (x.e + y.e)
def subD (x y : Dy) : Dy := plusD x (negD y)
def absD (x : Dy) : Dy := ⟨false, x.m, x.e⟩
def signD (x : Dy) : Int := if x.m = 0 then 0 else if x.neg = true then -1 else 1
theorem canonD_bits (n : Bool) (m : Nat) (e : Int) : bitLen (canonD n m e).m ≤ bitLen m := by
  unfold canonD
  split
  · simp [Dy.zero, bitLen_zero]
  · exact bitLen_mono (Nat.div_le_self _ _)
theorem plusD_bits {x y : Dy} (hx : x.fit) (hy : y.fit) : bitLen (plusD x y).m ≤ 30001 := by
  obtain ⟨a1, a2, a3⟩ := hx
  obtain ⟨b1, b2, b3⟩ := hy
  unfold plusD
  split
  · omega
  split
  · omega
  simp only
  have hd : (if y.e < x.e then y.e else x.e) ≤ x.e ∧ (if y.e < x.e then y.e else x.e) ≤ y.e ∧ -8192 ≤ (if y.e < x.e then y.e else x.e) ∧ (if y.e < x.e then y.e else x.e) ≤ 8192 := by split <;> omega
  have hp := bitLen_two_mul (x.e - if y.e < x.e then y.e else x.e).toNat x.m
  have hq := bitLen_two_mul (y.e - if y.e < x.e then y.e else x.e).toNat y.m
  have hp : bitLen (2 ^ (x.e - if y.e < x.e then y.e else x.e).toNat * x.m) ≤ 30000 := by omega
  have hq : bitLen (2 ^ (y.e - if y.e < x.e then y.e else x.e).toNat * y.m) ≤ 30000 := by omega
  generalize 2 ^ (x.e - if y.e < x.e then y.e else x.e).toNat * x.m = p at *
  generalize 2 ^ (y.e - if y.e < x.e then y.e else x.e).toNat * y.m = q at *
  split
  · exact Nat.le_trans (canonD_bits _ _ _) (bitLen_add_le hp hq)
  split
  · exact Nat.le_trans (canonD_bits _ _ _) (Nat.le_trans (bitLen_mono (show q - p ≤ q by omega)) (by omega))
  · exact Nat.le_trans (canonD_bits _ _ _) (Nat.le_trans (bitLen_mono (show p - q ≤ p by omega)) (by omega))
theorem within_fit {x : Dy} (h : x.within = true) : x.fit := fit_nat h
theorem neg_fit {x : Dy} (h : x.fit) : (negD x).fit := h

theorem resV_form (x : Dy) : ∃ d e, resV x = .tuple [dyA d, .int .i64 e] := by
  unfold resV
  split
  · exact ⟨_, _, rfl⟩
  · exact ⟨_, _, rfl⟩
/-- A result of two arguments. -/
def opV (x y : Dy) (r : AVal) : AVal := if x.within = true ∧ y.within = true then r else .tuple [dyA .zero, .int .i64 4]
theorem opV_closed {x y : Dy} {r : AVal} (h : r.closed2 = true) : (opV x y r).closed2 = true := by unfold opV; split; exact h; rfl
theorem opV_ok {x y : Dy} {r : AVal} (hx : x.within = true) (hy : y.within = true) : opV x y r = r := by rw [opV, if_pos ⟨hx, hy⟩]
theorem opV_no {x y : Dy} {r : AVal} (h : ¬ (x.within = true ∧ y.within = true)) : opV x y r = .tuple [dyA .zero, .int .i64 4] := by rw [opV, if_neg h]
theorem twoV_ok {x y : Dy} (hx : x.within = true) (hy : y.within = true) : twoV x y = .tuple [dyA x, dyA y, .int .i64 0] := by rw [twoV, if_pos hx, if_pos hy]
theorem twoV_no {x y : Dy} (h : ¬ (x.within = true ∧ y.within = true)) : ∃ a b, twoV x y = .tuple [dyA a, dyA b, .int .i64 4] := by
  unfold twoV
  split
  · split
    · exact absurd ⟨by assumption, by assumption⟩ h
    · exact ⟨_, _, rfl⟩
  · exact ⟨_, _, rfl⟩

theorem canon_c (n : Bool) {l : List Int} {m : Nat} {e : Int} (h : ArgD l m e) : callP Tryd.prog 24 [dyL n l e] (· = resV (canonD n m e)) := by
  have c1 := in_a n h
  generalize canonD n m e = x at *
  refine callE_def env (fn := Tryd.f24) rfl (by decide) (resV_closed _) ?_
  by_cases hx : x.within = true
  · rw [resV_in hx] at c1
    refine callT_E c1 rfl ?_
    repeat (first | refine branch_true ?_ | refine branch_false ?_ | refine branch_f' (bne_self_eq_false _) ?_ | refine branch_t' (beq_self_eq_true _) ?_ | refine branch_t' (decide_eq_true rfl) ?_)
    refine callT_E (by have := out_c x (by have := (within_fit hx).1; omega); rwa [resV_in hx] at this) rfl ?_
    rw [resV_in hx]
    show Eqv _ _
    exact .up (.up (.refl _))
  · rw [resV_out hx] at c1
    refine callT_E c1 rfl ?_
    repeat (first | refine branch_true ?_ | refine branch_false ?_ | refine branch_f' (bne_self_eq_false _) ?_ | refine branch_t' (beq_self_eq_true _) ?_ | refine branch_t' (decide_eq_true rfl) ?_)
    show Eqv _ _
    rw [resV_out hx]
    exact eqv_zero 4
theorem dneg_c (n : Bool) {l : List Int} {m : Nat} {e : Int} (h : ArgD l m e) : callP Tryd.prog 25 [dyL n l e] (· = if (canonD n m e).within = true then .tuple [dyA (negD (canonD n m e)), .int .i64 0] else .tuple [dyA .zero, .int .i64 4]) := by
  have c1 := in_a n h
  generalize canonD n m e = x at *
  refine callE_def env (fn := Tryd.f25) rfl (by decide) (by split <;> rfl) ?_
  by_cases hx : x.within = true
  · rw [resV_in hx] at c1
    rw [if_pos hx]
    refine callT_E c1 rfl ?_
    repeat (first | refine branch_true ?_ | refine branch_false ?_ | refine branch_f' (bne_self_eq_false _) ?_ | refine branch_t' (beq_self_eq_true _) ?_ | refine branch_t' (decide_eq_true rfl) ?_)
    refine callT_E (negated_c x) rfl ?_
    have hw : (negD x).within = true := hx
    have c2 := out_c (negD x) (by have := (within_fit hx).1; show bitLen x.m ≤ _; omega)
    rw [resV_in hw] at c2
    refine callT_E c2 rfl ?_
    show Eqv _ _
    exact .up (.up (.refl _))
  · rw [resV_out hx] at c1
    rw [if_neg hx]
    refine callT_E c1 rfl ?_
    repeat (first | refine branch_true ?_ | refine branch_false ?_ | refine branch_f' (bne_self_eq_false _) ?_ | refine branch_t' (beq_self_eq_true _) ?_ | refine branch_t' (decide_eq_true rfl) ?_)
    show Eqv _ _
    exact eqv_zero 4

section
variable (n1 n2 : Bool) {l1 l2 : List Int} {m1 m2 : Nat} {e1 e2 : Int}
theorem dadd_c (h1 : ArgD l1 m1 e1) (h2 : ArgD l2 m2 e2) : callP Tryd.prog 39 [dyL n1 l1 e1, dyL n2 l2 e2] (· = opV (canonD n1 m1 e1) (canonD n2 m2 e2) (resV (plusD (canonD n1 m1 e1) (canonD n2 m2 e2)))) := by
  have c1 := two_c n1 n2 h1 h2
  generalize canonD n1 m1 e1 = x at *
  generalize canonD n2 m2 e2 = y at *
  refine callE_def env (fn := Tryd.f39) rfl (by decide) (opV_closed (resV_closed _)) ?_
  by_cases hw : x.within = true ∧ y.within = true
  · obtain ⟨hx, hy⟩ := hw
    rw [twoV_ok hx hy] at c1
    rw [opV_ok hx hy]
    refine callT_E c1 rfl ?_
    repeat (first | refine branch_true ?_ | refine branch_false ?_ | refine branch_f' (bne_self_eq_false _) ?_ | refine branch_t' (beq_self_eq_true _) ?_ | refine branch_t' (decide_eq_true rfl) ?_)
    refine callT_E (plus_c x y (within_fit hx) (within_fit hy)) rfl ?_
    have hb := plusD_bits (within_fit hx) (within_fit hy)
    obtain ⟨d, e, hr⟩ := resV_form (plusD x y)
    have co := out_c (plusD x y) (by omega)
    rw [hr] at co ⊢
    refine callT_E co rfl ?_
    show Eqv _ _
    exact .up (.up (.refl _))
  · obtain ⟨a, b, hab⟩ := twoV_no hw
    rw [hab] at c1
    rw [opV_no hw]
    refine callT_E c1 rfl ?_
    repeat (first | refine branch_true ?_ | refine branch_false ?_ | refine branch_f' (bne_self_eq_false _) ?_ | refine branch_t' (beq_self_eq_true _) ?_ | refine branch_t' (decide_eq_true rfl) ?_)
    show Eqv _ _
    exact eqv_zero 4
theorem dsub_c (h1 : ArgD l1 m1 e1) (h2 : ArgD l2 m2 e2) : callP Tryd.prog 40 [dyL n1 l1 e1, dyL n2 l2 e2] (· = opV (canonD n1 m1 e1) (canonD n2 m2 e2) (resV (subD (canonD n1 m1 e1) (canonD n2 m2 e2)))) := by
  have c1 := two_c n1 n2 h1 h2
  generalize canonD n1 m1 e1 = x at *
  generalize canonD n2 m2 e2 = y at *
  refine callE_def env (fn := Tryd.f40) rfl (by decide) (opV_closed (resV_closed _)) ?_
  by_cases hw : x.within = true ∧ y.within = true
  · obtain ⟨hx, hy⟩ := hw
    rw [twoV_ok hx hy] at c1
    rw [opV_ok hx hy]
    refine callT_E c1 rfl ?_
    repeat (first | refine branch_true ?_ | refine branch_false ?_ | refine branch_f' (bne_self_eq_false _) ?_ | refine branch_t' (beq_self_eq_true _) ?_ | refine branch_t' (decide_eq_true rfl) ?_)
    refine draw_tree (picks [0, 1, 2, 3, 4, 5, 6, 7, 8] .done) (by decide +kernel) ?_
    refine ⟨_, ⟨negated_c y, rfl⟩, ?_⟩
    refine ⟨_, ⟨plus_c x (negD y) (within_fit hx) (within_fit hy), rfl⟩, ?_⟩
    have hb : bitLen (subD x y).m ≤ 30001 := plusD_bits (within_fit hx) (neg_fit (within_fit hy))
    obtain ⟨d, e, hr⟩ := resV_form (subD x y)
    have co := out_c (subD x y) (by omega)
    rw [hr] at co ⊢
    refine ⟨_, ⟨co, rfl⟩, ?_⟩
    show Eqv _ _
    exact .up (.up (.refl _))
  · obtain ⟨a, b, hab⟩ := twoV_no hw
    rw [hab] at c1
    rw [opV_no hw]
    refine callT_E c1 rfl ?_
    repeat (first | refine branch_true ?_ | refine branch_false ?_ | refine branch_f' (bne_self_eq_false _) ?_ | refine branch_t' (beq_self_eq_true _) ?_ | refine branch_t' (decide_eq_true rfl) ?_)
    show Eqv _ _
    exact eqv_zero 4
theorem dmul_c (h1 : ArgD l1 m1 e1) (h2 : ArgD l2 m2 e2) : callP Tryd.prog 37 [dyL n1 l1 e1, dyL n2 l2 e2] (· = opV (canonD n1 m1 e1) (canonD n2 m2 e2) (resV (mulD (canonD n1 m1 e1) (canonD n2 m2 e2)))) := by
  have c1 := two_c n1 n2 h1 h2
  generalize canonD n1 m1 e1 = x at *
  generalize canonD n2 m2 e2 = y at *
  refine callE_def env (fn := Tryd.f37) rfl (by decide) (opV_closed (resV_closed _)) ?_
  by_cases hw : x.within = true ∧ y.within = true
  · obtain ⟨hx, hy⟩ := hw
    rw [twoV_ok hx hy] at c1
    rw [opV_ok hx hy]
    refine callT_E c1 rfl ?_
    repeat (first | refine branch_true ?_ | refine branch_false ?_ | refine branch_f' (bne_self_eq_false _) ?_ | refine branch_t' (beq_self_eq_true _) ?_ | refine branch_t' (decide_eq_true rfl) ?_)
    have fx := within_fit hx
    have fy := within_fit hy
    obtain ⟨a1, a2, a3⟩ := fx
    obtain ⟨b1, b2, b3⟩ := fy
    have hm := bitLen_mul_le x.m y.m
    have cm := mul_c (a := limbsOf x.m) (b := limbsOf y.m) (small_nat (by omega)) (small_nat (by omega)) (limbs_limbsOf _) (limbs_limbsOf _)
    rw [val_limbsOf, val_limbsOf, limited_fits (by omega)] at cm
    refine callT_E cm rfl ?_
    have we : IntKind.i64.wrap (x.e + y.e) = x.e + y.e := wi (by omega) (by omega)
    have hb := canonD_bits (x.neg != y.neg) (x.m * y.m) (x.e + y.e)
    have hb : bitLen (mulD x y).m ≤ 30001 := by unfold mulD; omega
    have cc := canonical_c (x.neg != y.neg) (m := x.m * y.m) (e := IntKind.i64.wrap (x.e + y.e)) (by omega) (by rw [we]; omega)
    rw [we] at cc
    refine callT_E ((congrArg (fun z => callP Tryd.prog 73 [.bool (x.neg != y.neg), ints .u32 (limbsOf (x.m * y.m)), .int .i64 z] (· = dyA (canonD (x.neg != y.neg) (x.m * y.m) (x.e + y.e)))) we).mpr cc) rfl ?_
    have hmd : canonD (x.neg != y.neg) (x.m * y.m) (x.e + y.e) = mulD x y := rfl
    rw [hmd]
    obtain ⟨d, e, hr⟩ := resV_form (mulD x y)
    have co := out_c (mulD x y) (by omega)
    rw [hr] at co ⊢
    refine callT_E co rfl ?_
    show Eqv _ _
    exact .up (.up (.refl _))
  · obtain ⟨a, b, hab⟩ := twoV_no hw
    rw [hab] at c1
    rw [opV_no hw]
    refine callT_E c1 rfl ?_
    repeat (first | refine branch_true ?_ | refine branch_false ?_ | refine branch_f' (bne_self_eq_false _) ?_ | refine branch_t' (beq_self_eq_true _) ?_ | refine branch_t' (decide_eq_true rfl) ?_)
    show Eqv _ _
    exact eqv_zero 4
def cmpV (x y : Dy) : AVal := if x.within = true ∧ y.within = true then .tuple [.int .i64 (signD (subD x y)), .int .i64 0] else .tuple [.int .i64 0, .int .i64 4]
theorem dcmp_c (h1 : ArgD l1 m1 e1) (h2 : ArgD l2 m2 e2) : callP Tryd.prog 41 [dyL n1 l1 e1, dyL n2 l2 e2] (· = cmpV (canonD n1 m1 e1) (canonD n2 m2 e2)) := by
  have c1 := two_c n1 n2 h1 h2
  generalize canonD n1 m1 e1 = x at *
  generalize canonD n2 m2 e2 = y at *
  refine callE_def env (fn := Tryd.f41) rfl (by decide) (by unfold cmpV; split <;> rfl) ?_
  by_cases hw : x.within = true ∧ y.within = true
  · obtain ⟨hx, hy⟩ := hw
    rw [twoV_ok hx hy] at c1
    rw [cmpV, if_pos ⟨hx, hy⟩]
    refine callT_E c1 rfl ?_
    repeat (first | refine branch_true ?_ | refine branch_false ?_ | refine branch_f' (bne_self_eq_false _) ?_ | refine branch_t' (beq_self_eq_true _) ?_ | refine branch_t' (decide_eq_true rfl) ?_)
    refine draw_tree (picks [0, 1, 2, 3, 4, 5] .done) (by decide +kernel) ?_
    refine ⟨_, ⟨negated_c y, rfl⟩, ?_⟩
    refine ⟨_, ⟨plus_c x (negD y) (within_fit hx) (within_fit hy), rfl⟩, ?_⟩
    have hs : plusD x (negD y) = subD x y := rfl
    rw [hs]
    generalize subD x y = z
    refine callT_E (zero_c z.m z.e) rfl ?_
    apply branch_intro <;> intro hz
    · have hz := of_decide_eq_true hz
      rw [signD, if_pos hz]
      show Eqv _ _
      exact .up (.up (.refl _))
    have hz := of_decide_eq_false hz
    rw [signD, if_neg hz]
    apply branch_intro <;> intro hn
    · rw [if_pos hn]
      show Eqv _ _
      exact .up (.up (.refl _))
    · rw [if_neg (by rw [hn]; simp)]
      show Eqv _ _
      exact .up (.up (.refl _))
  · obtain ⟨a, b, hab⟩ := twoV_no hw
    rw [hab] at c1
    rw [cmpV, if_neg hw]
    refine callT_E c1 rfl ?_
    repeat (first | refine branch_true ?_ | refine branch_false ?_ | refine branch_f' (bne_self_eq_false _) ?_ | refine branch_t' (beq_self_eq_true _) ?_ | refine branch_t' (decide_eq_true rfl) ?_)
    show Eqv _ _
    exact .up (.up (.refl _))
theorem dist_c (h1 : ArgD l1 m1 e1) (h2 : ArgD l2 m2 e2) : callP Tryd.prog 42 [dyL n1 l1 e1, dyL n2 l2 e2] (· = opV (canonD n1 m1 e1) (canonD n2 m2 e2) (resV (absD (subD (canonD n1 m1 e1) (canonD n2 m2 e2))))) := by
  have c1 := two_c n1 n2 h1 h2
  generalize canonD n1 m1 e1 = x at *
  generalize canonD n2 m2 e2 = y at *
  refine callE_def env (fn := Tryd.f42) rfl (by decide) (opV_closed (resV_closed _)) ?_
  by_cases hw : x.within = true ∧ y.within = true
  · obtain ⟨hx, hy⟩ := hw
    rw [twoV_ok hx hy] at c1
    rw [opV_ok hx hy]
    refine callT_E c1 rfl ?_
    repeat (first | refine branch_true ?_ | refine branch_false ?_ | refine branch_f' (bne_self_eq_false _) ?_ | refine branch_t' (beq_self_eq_true _) ?_ | refine branch_t' (decide_eq_true rfl) ?_)
    refine draw_tree (picks [0, 1, 2, 3, 4, 5] .done) (by decide +kernel) ?_
    refine ⟨_, ⟨negated_c y, rfl⟩, ?_⟩
    refine ⟨_, ⟨plus_c x (negD y) (within_fit hx) (within_fit hy), rfl⟩, ?_⟩
    have hb : bitLen (absD (subD x y)).m ≤ 30001 := plusD_bits (within_fit hx) (neg_fit (within_fit hy))
    have hs : plusD x (negD y) = subD x y := rfl
    rw [hs]
    obtain ⟨d, e, hr⟩ := resV_form (absD (subD x y))
    have co := out_c (absD (subD x y)) (by omega)
    rw [hr] at co ⊢
    refine callT_E co rfl ?_
    show Eqv _ _
    exact .up (.up (.refl _))
  · obtain ⟨a, b, hab⟩ := twoV_no hw
    rw [hab] at c1
    rw [opV_no hw]
    refine callT_E c1 rfl ?_
    repeat (first | refine branch_true ?_ | refine branch_false ?_ | refine branch_f' (bne_self_eq_false _) ?_ | refine branch_t' (beq_self_eq_true _) ?_ | refine branch_t' (decide_eq_true rfl) ?_)
    show Eqv _ _
    exact eqv_zero 4
end
end Go.Proofs.N13
