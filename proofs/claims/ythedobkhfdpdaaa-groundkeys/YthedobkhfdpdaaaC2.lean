/- Chapter 29, part a: components. -/
import Derived.Test.YthedobkhfdpdaaaC1
import Derived.Test.YthedobkhfdpdaaaE5
import Derived.Laws.Bits64
import Derived.Laws.BitsLemmas
import Derived.Laws.BitsAllLaws
set_option linter.unusedVariables false
set_option linter.unusedSimpArgs false
namespace Go.Proofs
open Go.E
set_option maxRecDepth 8000
theorem env : Env Try.prog Tenv := ⟨tok, by decide +kernel⟩
theorem wi {x : Int} (h0 : -9223372036854775808 ≤ x) (h1 : x ≤ 9223372036854775807) : IntKind.i64.wrap x = x := by
  rw [IntKind.wrap_i64]; omega
theorem wu16 {x : Int} (h0 : 0 ≤ x) (h1 : x < 65536) : IntKind.u16.wrap x = x := by
  rw [IntKind.wrap_u16]; omega
theorem wu8 {x : Int} (h0 : 0 ≤ x) (h1 : x < 256) : IntKind.u8.wrap x = x := by
  rw [IntKind.wrap_u8]; omega
theorem branch_t' {b : Bool} {T E : Prop} (hb : b = true) (h : T) : branch b T E := branch_intro (fun _ => h) (fun h0 => by rw [hb] at h0; cases h0)
theorem branch_f' {b : Bool} {T E : Prop} (hb : b = false) (h : E) : branch b T E := branch_intro (fun h0 => by rw [hb] at h0; cases h0) (fun _ => h)
theorem eqv_of_eq {v w : AVal} (h : v = w) : Eqv v w := by subst h; exact .up (.up (.refl _))
structure Cmp where
  k : Int
  a : Int
  n : Int
  s : Int
abbrev cA (c : Cmp) : AVal := .agg [.int .u8 c.k, .int .i64 c.a, .int .i64 c.n, .int .i64 c.s]
structure Cmp.Ok (c : Cmp) : Prop where
  k : 0 ≤ c.k ∧ c.k < 256
  a : -9223372036854775808 ≤ c.a ∧ c.a ≤ 9223372036854775807
  n : -9223372036854775808 ≤ c.n ∧ c.n ≤ 9223372036854775807
  s : -9223372036854775808 ≤ c.s ∧ c.s ≤ 9223372036854775807
def sizeV (k : Int) : Int := if k = 3 then 2 else 1
def validC (c : Cmp) : Bool := decide (0 ≤ c.a ∧ c.a ≤ 2048 - sizeV c.k ∧ (c.k = 1 ∧ c.n = 0 ∧ c.s = 0 ∨ (c.k = 2 ∨ c.k = 3) ∧ 1 ≤ c.n ∧ c.n ≤ 100000 ∧ 0 ≤ c.s ∧ c.s ≤ 40))
def loV (k : Int) : Int := if k = 2 then -16383 else if k = 3 then -268435455 else 0
def hiV (k : Int) : Int := if k = 2 then 16383 else if k = 3 then 268435455 else 32767
def inV (v k : Int) : Bool := decide (loV k ≤ v ∧ v ≤ hiV k)
theorem size_c (c : Cmp) : callP Try.prog 36 [cA c] (· = .int .i64 (sizeV c.k)) := by
  refine callE_def env (fn := Try.f36) rfl (by decide) rfl ?_
  unfold sizeV
  apply branch_intro <;> intro h
  · rw [if_pos (eq_of_beq h)]
    show Eqv _ _
    exact .up (.up (.refl _))
  · rw [if_neg (of_decide_eq_false h)]
    show Eqv _ _
    exact .up (.up (.refl _))
theorem nat64 {a : Int} (ha : -9223372036854775808 ≤ a ∧ a ≤ 9223372036854775807) : (BitVec.ofInt 64 a).toNat = 0 ↔ a = 0 := by
  rw [BitVec.toNat_ofInt]
  omega
theorem or_zero (a b : Int) (ha : -9223372036854775808 ≤ a ∧ a ≤ 9223372036854775807) (hb : -9223372036854775808 ≤ b ∧ b ≤ 9223372036854775807) : (IntKind.i64.wrap ((BitVec.ofInt IntKind.i64.bits a ||| BitVec.ofInt IntKind.i64.bits b).toNat : Int) == 0) = decide (a = 0 ∧ b = 0) := by
  show (IntKind.i64.wrap ((BitVec.ofInt 64 a ||| BitVec.ofInt 64 b).toNat : Int) == 0) = _
  have h1 := nat64 ha
  have h2 := nat64 hb
  have hlt := (BitVec.ofInt 64 a ||| BitVec.ofInt 64 b).isLt
  rw [BitVec.toNat_or] at hlt ⊢
  have h3 : (BitVec.ofInt 64 a).toNat ||| (BitVec.ofInt 64 b).toNat = 0 ↔ (BitVec.ofInt 64 a).toNat = 0 ∧ (BitVec.ofInt 64 b).toNat = 0 := Nat.or_eq_zero_iff
  generalize (BitVec.ofInt 64 a).toNat = x at *
  generalize (BitVec.ofInt 64 b).toNat = y at *
  generalize hn : x ||| y = n at *
  have hw : IntKind.i64.wrap (n : Int) = 0 ↔ n = 0 := by
    rw [IntKind.wrap_i64]
    omega
  by_cases h : a = 0 ∧ b = 0
  · rw [decide_eq_true h]
    exact beq_iff_eq.2 (hw.2 (h3.2 ⟨h1.2 h.1, h2.2 h.2⟩))
  · rw [decide_eq_false h]
    refine beq_eq_false_iff_ne.2 fun c => h ?_
    have := h3.1 (hw.1 c)
    exact ⟨h1.1 this.1, h2.1 this.2⟩
theorem valid_c (c : Cmp) (hc : c.Ok) : callP Try.prog 25 [cA c] (· = .bool (validC c)) := by
  obtain ⟨⟨k0, k1⟩, ⟨a0, a1⟩, ⟨n0, n1⟩, ⟨s0, s1⟩⟩ := hc
  have cs := size_c c
  have hs : sizeV c.k = 1 ∨ sizeV c.k = 2 := by unfold sizeV; split <;> simp
  have w1 : IntKind.i64.wrap (2048 - sizeV c.k) = 2048 - sizeV c.k := wi (by omega) (by omega)
  refine callE_def env (fn := Try.f25) rfl (by decide) rfl ?_
  refine draw_tree (picks [0, 1, 2, 3, 4, 5, 6, 7, 8, 9, 10] .done) (by decide +kernel) ?_
  repeat refine sto ?_
  by_cases h1 : c.a < 0
  · repeat refine sto ?_
    rw [show validC c = false from decide_eq_false (by omega)]
    show Eqv _ _
    exact .up (.up (.refl _))
  repeat refine sto ?_
  refine ⟨_, ⟨cs, rfl⟩, ?_⟩
  by_cases h2 : c.a > 2048 - sizeV c.k
  · repeat refine sto ?_
    rw [show validC c = false from decide_eq_false (by omega)]
    show Eqv _ _
    exact .up (.up (.refl _))
  repeat refine sto ?_
  by_cases e1 : c.k = 1
  · repeat refine sto ?_
    show Eqv _ _
    refine eqv_of_eq (congrArg AVal.bool ?_)
    rw [or_zero _ _ ⟨n0, n1⟩ ⟨s0, s1⟩]
    exact decide_eq_decide.2 (by omega)
  by_cases e2 : c.k = 2 ∨ c.k = 3
  · rcases e2 with e2 | e2
    all_goals
      by_cases h3 : c.n > 0
      · by_cases h4 : c.n ≤ 100000
        · by_cases h5 : c.s ≥ 0
          · repeat refine sto ?_
            show Eqv _ _
            exact eqv_of_eq (congrArg AVal.bool (decide_eq_decide.2 (by omega)))
          · repeat refine sto ?_
            show Eqv _ _
            exact eqv_of_eq (congrArg AVal.bool (show _ = decide _ by rw [decide_eq_false (by omega)]))
        · repeat refine sto ?_
          show Eqv _ _
          exact eqv_of_eq (congrArg AVal.bool (show _ = decide _ by rw [decide_eq_false (by omega)]))
      · repeat refine sto ?_
        show Eqv _ _
        exact eqv_of_eq (congrArg AVal.bool (show _ = decide _ by rw [decide_eq_false (by omega)]))
  · repeat refine sto ?_
    rw [show validC c = false from decide_eq_false (by omega)]
    show Eqv _ _
    exact .up (.up (.refl _))
end Go.Proofs
namespace Go.Proofs
open Go.E
set_option maxRecDepth 8000
theorem within_c (v : Int) (c : Cmp) : callP Try.prog 59 [.int .i64 v, cA c] (· = .bool (inV v c.k)) := by
  refine callE_def env (fn := Try.f59) rfl (by decide) rfl ?_
  unfold inV loV hiV
  by_cases e2 : c.k = 2
  · rw [if_pos e2, if_pos e2]
    repeat refine sto ?_
    by_cases h : -16383 ≤ v
    · repeat refine sto ?_
      show Eqv _ _
      exact eqv_of_eq (congrArg AVal.bool (decide_eq_decide.2 (by omega)))
    · repeat refine sto ?_
      show Eqv _ _
      exact eqv_of_eq (congrArg AVal.bool (decide_eq_false (by omega)).symm)
  rw [if_neg e2, if_neg e2]
  by_cases e3 : c.k = 3
  · rw [if_pos e3, if_pos e3]
    repeat refine sto ?_
    by_cases h : -268435455 ≤ v
    · repeat refine sto ?_
      show Eqv _ _
      exact eqv_of_eq (congrArg AVal.bool (decide_eq_decide.2 (by omega)))
    · repeat refine sto ?_
      show Eqv _ _
      exact eqv_of_eq (congrArg AVal.bool (decide_eq_false (by omega)).symm)
  rw [if_neg e3, if_neg e3]
  repeat refine sto ?_
  by_cases h : 0 ≤ v
  · repeat refine sto ?_
    show Eqv _ _
    exact eqv_of_eq (congrArg AVal.bool (decide_eq_decide.2 (by omega)))
  · repeat refine sto ?_
    show Eqv _ _
    exact eqv_of_eq (congrArg AVal.bool (decide_eq_false (by omega)).symm)
def rpV (p q : Int) : Int := (2 * p + q) / (2 * q)
def rV (p q : Int) : Int := if p < 0 then -rpV (-p) q else rpV p q
theorem rpV_eq {p q : Int} (hq : 1 ≤ q) : rpV p q = p / q + if p % q ≥ q - p % q then 1 else 0 := by
  have e := Int.mul_ediv_add_emod p q
  have h0 := Int.emod_nonneg p (b := q) (by omega)
  have h1 := Int.emod_lt_of_pos p (b := q) (by omega)
  generalize p / q = n at *
  generalize p % q = r at *
  have e2 : 2 * p + q = (2 * r + q) + (2 * q) * n := by
    rw [← e, Int.mul_add, Int.mul_assoc]; omega
  unfold rpV
  rw [e2, Int.add_mul_ediv_left _ _ (by omega), Int.add_comm]
  congr 1
  split
  · refine Int.le_antisymm (Int.le_of_lt_add_one (Int.ediv_lt_of_lt_mul (by omega) (by omega))) (Int.le_ediv_of_mul_le (by omega) (by omega))
  · exact Int.ediv_eq_zero_of_lt (by omega) (by omega)
theorem rpV_b {p q : Int} (hp : 0 ≤ p) (hq : 1 ≤ q) : 0 ≤ rpV p q ∧ rpV p q ≤ p + 1 := by
  rw [rpV_eq hq]
  have h1 : 0 ≤ p / q := Int.ediv_nonneg hp (by omega)
  have h2 : p / q ≤ p := Int.ediv_le_self q hp
  split <;> omega
theorem quot_pos {p q : Int} (hp : 0 ≤ p ∧ p ≤ 1152921504606846976) (hq : 1 ≤ q ∧ q ≤ 2199023255552) : callP Try.prog 60 [.int .i64 p, .int .i64 q] (· = .int .i64 (rpV p q)) := by
  have h2 := Int.emod_nonneg p (b := q) (by omega)
  have h3 := Int.emod_lt_of_pos p (b := q) (by omega)
  have h4 : 0 ≤ p / q := Int.ediv_nonneg hp.1 (by omega)
  have h5 : p / q ≤ p := Int.ediv_le_self q hp.1
  have e1 : IntKind.i64.wrap (p.tdiv q) = p / q := by rw [Int.tdiv_eq_ediv_of_nonneg hp.1, wi (by omega) (by omega)]
  have e2 : p.tmod q = p % q := Int.tmod_eq_emod_of_nonneg hp.1
  have e3 : IntKind.i64.wrap (q - p.tmod q) = q - p % q := by rw [e2, wi (by omega) (by omega)]
  have hq0 : q ≠ 0 := by omega
  have hr := rpV_eq (p := p) hq.1
  refine callE_def env (fn := Try.f60) rfl (by decide) rfl ?_
  repeat refine sto ?_
  refine draw_tree (picks [0, 1, 2, 3, 4, 5, 6, 7] .done) (by decide +kernel) ?_
  refine need_intro hq0 ?_
  refine need_intro hq0 ?_
  apply branch_intro <;> intro h
  · have h := of_decide_eq_true h
    rw [e3, e2] at h
    rw [hr, if_pos h]
    show Eqv _ _
    refine eqv_of_eq (congrArg (AVal.int _) ?_)
    rw [e1, wi (by omega) (by omega)]
  · have h := of_decide_eq_false h
    rw [e3, e2] at h
    rw [hr, if_neg h]
    show Eqv _ _
    refine eqv_of_eq (congrArg (AVal.int _) ?_)
    rw [e1, Int.add_zero]
theorem quot_c {p q : Int} (hp : -1152921504606846976 ≤ p ∧ p ≤ 1152921504606846976) (hq : 1 ≤ q ∧ q ≤ 2199023255552) : callP Try.prog 60 [.int .i64 p, .int .i64 q] (· = .int .i64 (rV p q)) := by
  unfold rV
  by_cases h : p < 0
  · rw [if_pos h]
    have w1 : IntKind.i64.wrap (0 - p) = -p := by rw [wi (by omega) (by omega)]; omega
    have hb := rpV_b (p := -p) (q := q) (by omega) hq.1
    refine callE_def env (fn := Try.f60) rfl (by decide) rfl ?_
    repeat refine sto ?_
    refine callT_E ((congrArg (fun z => callP Try.prog 60 [.int .i64 z, .int .i64 q] (· = .int .i64 (rpV (-p) q))) w1).mpr (quot_pos (by omega) hq)) rfl ?_
    show Eqv _ _
    refine eqv_of_eq (congrArg (AVal.int _) ?_)
    rw [wi (by omega) (by omega)]; omega
  · rw [if_neg h]
    exact quot_pos (by omega) hq
theorem pow_b {n : Nat} (h : n ≤ 40) : 1 ≤ (2 : Int) ^ n ∧ (2 : Int) ^ n ≤ 1099511627776 := by
  have h1 : 2 ^ n ≤ 2 ^ 40 := Nat.pow_le_pow_right (by decide) h
  have h2 : 0 < 2 ^ n := Nat.two_pow_pos n
  have h3 : ((2 ^ n : Nat) : Int) = (2 : Int) ^ n := by simp
  omega
end Go.Proofs
namespace Go.Proofs
open Go.E
set_option maxRecDepth 8000
abbrev shA (s : Int) (f : Nat → Int) : AVal := .agg [.int .u8 s, .int .u8 (f 0), .int .u8 (f 1), .int .u8 (f 2), .int .u8 (f 3), .int .u8 (f 4)]
theorem mask15 {x : Int} (h0 : 0 ≤ x) (h1 : x < 65536) : RowKit.wrap64 (bits BinOp.and IntKind.u16 x 32767) = x % 32768 := by
  rw [u16_and x 32767 h0 h1 (by decide) (by decide), show (32767 : Int).toNat = 2 ^ 15 - 1 from rfl, Nat.and_two_pow_sub_one_eq_mod]
  unfold RowKit.wrap64
  omega
theorem shA_rel (c : Cx) (s : Int) (f : Nat → Int) : VRel c (shA s f) (shV s f) := by
  refine .agg rfl fun i v u h1 h2 => ?_
  rcases i with _ | _ | _ | _ | _ | _ | i
  all_goals
    simp at h1 h2
    try (subst h1; subst h2; exact .closed (.int _ _))
theorem args_one {c : Cx} {a : AVal} {us : Array Value} (h : CRel c [a] us.toList) : ∃ u, us = #[u] ∧ VRel c a u := by
  obtain ⟨u, hu⟩ : ∃ u, us.toList = [u] := List.length_eq_one_iff.1 (by have := h.1; simpa using this.symm)
  exact ⟨u, Array.toList_inj.1 (by simpa using hu), h.2 0 a u rfl (by rw [hu]; rfl)⟩
theorem args_two {c : Cx} {a b : AVal} {us : Array Value} (h : CRel c [a, b] us.toList) : ∃ u v, us = #[u, v] ∧ VRel c a u ∧ VRel c b v := by
  obtain ⟨u, v, hu⟩ : ∃ u v, us.toList = [u, v] := by
    have h2 : us.toList.length = 2 := by have := h.1; simpa using this.symm
    generalize us.toList = l at h2
    match l, h2 with
    | [u, v], _ => exact ⟨u, v, rfl⟩
  exact ⟨u, v, Array.toList_inj.1 (by simpa using hu), h.2 0 a u rfl (by rw [hu]; rfl), h.2 1 b v rfl (by rw [hu]; rfl)⟩
theorem octal_c {x : Int} (h : 0 ≤ x ∧ x < 65536) : callP Try.prog 44 [.int .u16 x] (· = shA 0 (digF 8 (x % 32768))) := by
  refine callP_of_walk (enters_of Try.func44 rfl (by kernel_rfl)) fun c us _ hr => ?_
  obtain ⟨u, rfl, hu⟩ := args_one hr
  rw [hu.inv_int]
  refine (octal_walk x (x % 32768) (mask15 h.1 h.2) (by omega) c.w).mono ?_
  rintro e w' ⟨rfl, hb⟩
  exact ⟨_, shA 0 (digF 8 (x % 32768)), rfl, hb, rfl, fun c' => shA_rel c' _ _, rfl⟩
end Go.Proofs
