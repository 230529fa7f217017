/- Chapter 33, part a: words, doubles, rounding. -/
import Derived.Test.YtpgeapbmdljllaaC1
import Derived.Test.YtpgeapbmdljllaaE5
import Derived.Laws.Bits64
import Derived.Laws.BitsLemmas
set_option linter.unusedVariables false
set_option linter.unusedSimpArgs false
/-! Ia. -/
namespace Go.Proofs
open Go.E
set_option maxRecDepth 8000
theorem env : Env Try.prog Tenv := ⟨tok, by decide +kernel⟩

theorem wi {x : Int} (h0 : -9223372036854775808 ≤ x) (h1 : x ≤ 9223372036854775807) : IntKind.i64.wrap x = x := by
  rw [IntKind.wrap_i64]; omega
theorem wu64 {x : Int} (h0 : 0 ≤ x) (h1 : x < 18446744073709551616) : IntKind.u64.wrap x = x := by
  rw [IntKind.wrap_u64]; omega
theorem wu16 {x : Int} (h0 : 0 ≤ x) (h1 : x < 65536) : IntKind.u16.wrap x = x := by
  rw [IntKind.wrap_u16]; omega
theorem and_mask {k : IntKind} {x : Int} {b m : Nat} (hb : k.bits = b) (hw : ∀ y : Int, 0 ≤ y → y < 2 ^ b → k.wrap y = y) (hm : m ≤ b) (h0 : 0 ≤ x) (h1 : x < 2 ^ b) :
    k.wrap ((BitVec.ofInt k.bits x &&& BitVec.ofInt k.bits (2 ^ m - 1)).toNat : Int) = x % 2 ^ m := by
  obtain ⟨n, rfl⟩ := Int.eq_ofNat_of_zero_le h0
  have hlt : n < 2 ^ b := by
    have : ((2 ^ b : Nat) : Int) = 2 ^ b := by simp
    omega
  have hp : 2 ^ m ≤ 2 ^ b := Nat.pow_le_pow_right (by decide) hm
  have h2 : 0 < 2 ^ m := Nat.pow_pos (by decide)
  have e1 : (BitVec.ofInt k.bits (n : Int)).toNat = n := by
    rw [hb, BitVec.toNat_ofInt]
    have : ((n : Int) % ((2 ^ b : Nat) : Int)).toNat = n := by
      rw [Int.emod_eq_of_lt (by omega) (by exact_mod_cast hlt)]; simp
    exact this
  have em : ((2 : Int) ^ m - 1) = ((2 ^ m - 1 : Nat) : Int) := by
    have : ((2 ^ m : Nat) : Int) = 2 ^ m := by simp
    omega
  have e2 : (BitVec.ofInt k.bits (2 ^ m - 1)).toNat = 2 ^ m - 1 := by
    rw [hb, em, BitVec.toNat_ofInt]
    have : (((2 ^ m - 1 : Nat) : Int) % ((2 ^ b : Nat) : Int)).toNat = 2 ^ m - 1 := by
      rw [Int.emod_eq_of_lt (by omega) (by omega)]; simp
    exact this
  rw [BitVec.toNat_and, e1, e2, Nat.and_two_pow_sub_one_eq_mod]
  have hlt2 : n % 2 ^ m < 2 ^ b := Nat.lt_of_lt_of_le (Nat.mod_lt _ h2) hp
  rw [hw _ (by omega) (by exact_mod_cast hlt2)]
  simp

theorem branch_t' {b : Bool} {T E : Prop} (hb : b = true) (h : T) : branch b T E := branch_intro (fun _ => h) (fun h0 => by rw [hb] at h0; cases h0)
theorem branch_f' {b : Bool} {T E : Prop} (hb : b = false) (h : E) : branch b T E := branch_intro (fun h0 => by rw [hb] at h0; cases h0) (fun _ => h)
def wordV (w : Int) : Int := if w % 32768 ≥ 16384 then w % 32768 - 32767 else w % 32768
theorem word_b {w : Int} : -16383 ≤ wordV w ∧ wordV w ≤ 16383 := by
  unfold wordV; split <;> omega
theorem eqv_of_eq {v w : AVal} (h : v = w) : Eqv v w := by subst h; exact .up (.up (.refl _))
theorem word_c {w : Int} (h0 : 0 ≤ w) (h1 : w < 65536) : callP Try.prog 78 [.int .u16 w] (· = .int .i64 (wordV w)) := by
  refine callE_def env (fn := Try.f78) rfl (by decide) rfl ?_
  have e1 : IntKind.u16.wrap ((BitVec.ofInt IntKind.u16.bits w &&& BitVec.ofInt IntKind.u16.bits 32767).toNat : Int) = w % 32768 :=
    and_mask (k := .u16) (b := 16) (m := 15) rfl (fun y a b => wu16 a b) (by decide) h0 h1
  have e2 : IntKind.i64.wrap (w % 32768) = w % 32768 := wi (by omega) (by omega)
  apply branch_intro <;> intro h <;> rw [e1, e2] at h <;> simp at h <;> show Eqv _ _ <;> refine eqv_of_eq (congrArg (AVal.int _) ?_) <;> rw [e1, e2]
  · rw [wi (by omega) (by omega)]; unfold wordV; rw [if_pos (by omega)]
  · unfold wordV; rw [if_neg (by omega)]
theorem tmod_pos {a b : Int} (h : 0 ≤ a) : a.tmod b = a % b := Int.tmod_eq_emod_of_nonneg h
theorem tdiv_pos {a b : Int} (h : 0 ≤ a) : a.tdiv b = a / b := Int.tdiv_eq_ediv_of_nonneg h
theorem rword_c {w : Int} (h0 : 0 ≤ w) (h1 : w < 65536) : callP Try.prog 79 [.int .u16 w] (· = .int .i64 (wordV w)) := by
  refine callE_def env (fn := Try.f79) rfl (by decide) rfl ?_
  refine need_intro (by decide) ?_
  have e1 : IntKind.i64.wrap w = w := wi (by omega) (by omega)
  have e2 : Int.tmod w 32768 = w % 32768 := tmod_pos h0
  apply branch_intro <;> intro h <;> rw [e1, e2] at h <;> simp at h <;> show Eqv _ _ <;> refine eqv_of_eq (congrArg (AVal.int _) ?_) <;> rw [e1, e2]
  · rw [wi (by omega) (by omega)]; unfold wordV; rw [if_pos (by omega)]
  · unfold wordV; rw [if_neg (by omega)]
abbrev D2 (a b : Int) : AVal := .agg [.int .u16 a, .int .u16 b]
def valD (a b : Int) : Int := wordV a * 16384 + wordV b
theorem valD_b {a b : Int} : -268435455 ≤ valD a b ∧ valD a b ≤ 268435455 := by
  have := @word_b a; have := @word_b b; unfold valD; omega
def W16 (a : Int) : Prop := 0 ≤ a ∧ a < 65536
theorem value_c {a b : Int} (ha : W16 a) (hb : W16 b) : callP Try.prog 42 [D2 a b] (· = .int .i64 (valD a b)) := by
  refine callE_def env (fn := Try.f42) rfl (by decide) rfl ?_
  refine draw_intro [0, 1, 2, 3, 4, 5, 6, 7, 8] (by decide +kernel) ?_
  repeat (refine need_intro (by decide) ?_)
  refine ⟨_, ⟨word_c ha.1 ha.2, rfl⟩, ?_⟩
  repeat (refine need_intro (by decide) ?_)
  refine ⟨_, ⟨word_c hb.1 hb.2, rfl⟩, ?_⟩
  show Eqv _ _
  refine eqv_of_eq (congrArg (AVal.int _) ?_)
  have := @word_b a; have := @word_b b
  rw [wi (x := wordV a * 16384) (by omega) (by omega), wi (by omega) (by omega)]
  rfl
theorem rvalue_c {a b : Int} (ha : W16 a) (hb : W16 b) : callP Try.prog 43 [D2 a b] (· = .int .i64 (valD a b)) := by
  refine callE_def env (fn := Try.f43) rfl (by decide) rfl ?_
  refine draw_intro [0, 1, 2, 3, 4, 5, 6, 7, 8] (by decide +kernel) ?_
  repeat (refine need_intro (by decide) ?_)
  refine ⟨_, ⟨rword_c ha.1 ha.2, rfl⟩, ?_⟩
  repeat (refine need_intro (by decide) ?_)
  refine ⟨_, ⟨rword_c hb.1 hb.2, rfl⟩, ?_⟩
  show Eqv _ _
  refine eqv_of_eq (congrArg (AVal.int _) ?_)
  have := @word_b a; have := @word_b b
  rw [wi (x := wordV a * 16384) (by omega) (by omega), wi (by omega) (by omega)]
  rfl

/-! Saturation. -/
def Big (v : Int) : Prop := -1152921504606846976 ≤ v ∧ v ≤ 1152921504606846976
def Fit (v : Int) : Prop := -268435455 ≤ v ∧ v ≤ 268435455
theorem Fit.big {v : Int} (h : Fit v) : Big v := by unfold Fit at h; unfold Big; omega
theorem valD_fit {a b : Int} : Fit (valD a b) := valD_b
def clampV (v : Int) : Int := if v > 268435455 then 268435455 else if v < -268435455 then -268435455 else v
def outV (v : Int) : Bool := decide (v > 268435455) || decide (v < -268435455)
theorem clamp_fit (v : Int) : Fit (clampV v) := by unfold clampV Fit; split <;> (try split) <;> omega
theorem clamp_id {v : Int} (h : Fit v) : clampV v = v := by unfold Fit at h; unfold clampV; rw [if_neg (by omega), if_neg (by omega)]
theorem out_id {v : Int} (h : Fit v) : outV v = false := by unfold Fit at h; unfold outV; simp; omega
theorem eM : IntKind.i64.wrap (0 - 268435455) = -268435455 := by decide
theorem bounded_c (v : Int) : callP Try.prog 115 [.int .i64 v, .int .i64 268435455] (· = .tuple [.int .i64 (clampV v), .bool (outV v)]) := by
  refine callE_def env (fn := Try.f115) rfl (by decide) rfl ?_
  apply branch_intro <;> intro h <;> simp at h
  · show Eqv _ _
    unfold clampV outV
    rw [if_pos h, decide_eq_true h]
    show Eqv _ _
    exact .up (.up (.refl _))
  apply branch_intro <;> intro h2 <;> rw [eM] at h2 <;> simp at h2
  · show Eqv _ _
    unfold clampV outV
    rw [if_neg (by omega), if_pos h2, decide_eq_true h2, Bool.or_true]
    show Eqv _ _
    exact .up (.up (.refl _))
  · show Eqv _ _
    unfold clampV outV
    rw [if_neg (by omega), if_neg (by omega), decide_eq_false (by omega), decide_eq_false (by omega)]
    show Eqv _ _
    exact .up (.up (.refl _))
theorem sat_c (v : Int) : callP Try.prog 29 [.int .i64 v, .int .i64 268435455] (· = .int .i64 (clampV v)) := by
  refine callE_def env (fn := Try.f29) rfl (by decide) rfl ?_
  apply branch_intro <;> intro h <;> simp at h
  · show Eqv _ _
    unfold clampV
    rw [if_pos h]
    show Eqv _ _
    exact .up (.up (.refl _))
  apply branch_intro <;> intro h2 <;> rw [eM] at h2 <;> simp at h2
  · show Eqv _ _
    unfold clampV
    rw [if_neg (by omega), if_pos h2]
    show Eqv _ _
    exact .up (.up (.refl _))
  · show Eqv _ _
    unfold clampV
    rw [if_neg (by omega), if_neg (by omega)]
    show Eqv _ _
    exact .up (.up (.refl _))
theorem out_c (v : Int) : callP Try.prog 27 [.int .i64 v, .int .i64 268435455] (· = .bool (outV v)) := by
  refine callE_def env (fn := Try.f27) rfl (by decide) rfl ?_
  apply branch_intro <;> intro h
  · have h' : v > 268435455 := of_decide_eq_true h
    repeat (first | refine branch_true ?_ | refine branch_false ?_ | refine branch_f' (bne_self_eq_false _) ?_ | refine branch_t' (beq_self_eq_true _) ?_ | refine branch_t' (decide_eq_true rfl) ?_)
    show Eqv _ _
    unfold outV
    rw [decide_eq_true h']
    show Eqv _ _
    exact .up (.up (.refl _))
  · have h' : ¬ v > 268435455 := of_decide_eq_false h
    repeat (first | refine branch_true ?_ | refine branch_false ?_ | refine branch_f' (bne_self_eq_false _) ?_ | refine branch_t' (beq_self_eq_true _) ?_ | refine branch_t' (decide_eq_true rfl) ?_)
    show Eqv _ _
    unfold outV
    rw [decide_eq_false h', Bool.false_or]
    show Eqv _ _
    exact .up (.up (.refl _))

/-! Doubles. -/
def hiD (v : Int) : Int := if v < 0 then 32767 - (-v) / 16384 else v / 16384
def loD (v : Int) : Int := if v < 0 then 32767 - (-v) % 16384 else v % 16384
abbrev dblA (v : Int) : AVal := D2 (hiD v) (loD v)
theorem hi_w {v : Int} (h : Fit v) : W16 (hiD v) := by unfold Fit at h; unfold W16 hiD; split <;> omega
theorem lo_w {v : Int} (h : Fit v) : W16 (loD v) := by unfold Fit at h; unfold W16 loD; split <;> omega
theorem val_dbl {v : Int} (h : Fit v) : valD (hiD v) (loD v) = v := by
  unfold Fit at h
  unfold valD hiD loD wordV
  split <;> split <;> split <;> omega

theorem digits_c {v : Int} (h : Fit v) : callN Try.prog 110 [.int .i64 v] [] fun x H' => x = .fn (.func 129) [] [.ptr ⟨1, 0, 0⟩, .ptr ⟨0, 0, 0⟩] ∧ H' = [.cells [.bool (decide (v < 0))], .cells [.int .u64 (if v < 0 then -v else v)]] := by
  unfold Fit at h
  refine callN_def env (fn := Try.f110) 0 rfl rfl (by decide) ?_
  apply branch_intro <;> intro hv
  · have h' : v < 0 := of_decide_eq_true hv
    refine ⟨rfl, ?_⟩
    rw [if_pos h']
    have : IntKind.u64.wrap (0 - (IntKind.u64.wrap v)) = -v := by simp only [IntKind.wrap_u64]; omega
    rw [← this]
  · have h' : ¬ v < 0 := of_decide_eq_false hv
    refine ⟨rfl, ?_⟩
    rw [if_neg h']
    have : IntKind.u64.wrap v = v := wu64 (by omega) (by omega)
    show [_, Blk.cells [.int .u64 (IntKind.u64.wrap v)]] = _
    rw [this]
theorem next_c {b : Bool} {m : Int} (h0 : 0 ≤ m) (h1 : m < 18446744073709551616) : callN Try.prog 129 [.ptr ⟨1, 0, 0⟩, .ptr ⟨0, 0, 0⟩] [.cells [.bool b], .cells [.int .u64 m]] fun x H' => x = .int .u16 (if b = true then 32767 - m % 16384 else m % 16384) ∧ H' = [.cells [.bool b], .cells [.int .u64 (m / 16384)]] := by
  refine callN_def env (fn := Try.f129) 2 rfl rfl (by decide) ?_
  have e1 : IntKind.u64.wrap ((BitVec.ofInt IntKind.u64.bits m &&& BitVec.ofInt IntKind.u64.bits 16383).toNat : Int) = m % 16384 :=
    and_mask (k := .u64) (b := 64) (m := 14) rfl (fun y a b => wu64 a b) (by decide) h0 h1
  have e2 : IntKind.u16.wrap (m % 16384) = m % 16384 := wu16 (by omega) (by omega)
  have e3 : IntKind.u16.wrap (32767 - m % 16384) = 32767 - m % 16384 := wu16 (by omega) (by omega)
  repeat (refine need_intro (by decide) ?_)
  have e4 : m.fdiv (2 ^ (min (14 : Int).toNat IntKind.u64.bits)) = m / 16384 := by
    rw [Int.fdiv_eq_ediv_of_nonneg _ (by decide)]; rfl
  apply branch_intro <;> intro hb <;> subst hb
  · refine ⟨?_, ?_⟩
    · show AVal.int .u16 (IntKind.u16.wrap (32767 - IntKind.u16.wrap (IntKind.u64.wrap _))) = _
      rw [e1, e2, e3]; rfl
    · show [_, Blk.cells [.int .u64 (m.fdiv _)]] = _
      rw [e4]
  · refine ⟨?_, ?_⟩
    · show AVal.int .u16 (IntKind.u16.wrap (IntKind.u64.wrap _)) = _
      rw [e1, e2]; rfl
    · show [_, Blk.cells [.int .u64 (m.fdiv _)]] = _
      rw [e4]
theorem double_c {v : Int} (h : Fit v) : callP Try.prog 81 [.int .i64 v] (· = dblA v) := by
  have hf := h
  unfold Fit at h
  refine callE_def env (fn := Try.f81) rfl (by decide) rfl ?_
  refine callT_part [] rfl (digits_c hf) ?_
  rintro x H' ⟨rfl, rfl⟩ y G hy hG
  obtain rfl : y = .fn (.func 129) [] [.ptr ⟨2, 0, 0⟩, .ptr ⟨1, 0, 0⟩] := hy
  obtain rfl : G = [_, .cells [.bool (decide (v < 0))], .cells [.int .u64 (if v < 0 then -v else v)]] := hG
  have hm : 0 ≤ (if v < 0 then -v else v) ∧ (if v < 0 then -v else v) < 268435456 := by split <;> omega
  refine callT_part [1, 2] rfl (next_c hm.1 (by omega)) ?_
  rintro x H' ⟨rfl, rfl⟩ y G hy hG
  obtain rfl : y = .int .u16 (if decide (v < 0) = true then 32767 - (if v < 0 then -v else v) % 16384 else (if v < 0 then -v else v) % 16384) := hy
  obtain rfl : G = [_, .cells [.bool (decide (v < 0))], .cells [.int .u64 ((if v < 0 then -v else v) / 16384)]] := hG
  refine callT_part [1, 2] rfl (next_c (b := decide (v < 0)) (m := (if v < 0 then -v else v) / 16384) (by omega) (by omega)) ?_
  rintro x H' ⟨rfl, rfl⟩ y G hy hG
  obtain rfl : y = .int .u16 (if decide (v < 0) = true then 32767 - ((if v < 0 then -v else v) / 16384) % 16384 else ((if v < 0 then -v else v) / 16384) % 16384) := hy
  obtain rfl : G = [_, .cells [.bool (decide (v < 0))], .cells [.int .u64 ((if v < 0 then -v else v) / 16384 / 16384)]] := hG
  show Eqv _ _
  refine eqv_of_eq ?_
  show AVal.agg [.int .u16 _, .int .u16 _] = AVal.agg [.int .u16 _, .int .u16 _]
  have e1 : (if decide (v < 0) = true then 32767 - (if v < 0 then -v else v) % 16384 else (if v < 0 then -v else v) % 16384) = loD v := by
    unfold loD
    by_cases h0 : v < 0 <;> simp [h0]
  have e2 : (if decide (v < 0) = true then 32767 - ((if v < 0 then -v else v) / 16384) % 16384 else ((if v < 0 then -v else v) / 16384) % 16384) = hiD v := by
    unfold hiD
    by_cases h0 : v < 0 <;> simp only [h0, decide_true, decide_false, if_true, if_false] <;> first | omega | (simp; omega)
  rw [e1, e2]
theorem rdouble_pos {v : Int} (h : Fit v) (h0 : 0 ≤ v) : callP Try.prog 28 [.int .i64 v] (· = dblA v) := by
  unfold Fit at h
  refine callE_def env (fn := Try.f28) rfl (by decide) rfl ?_
  apply branch_intro <;> intro hv
  · have := of_decide_eq_true hv; omega
  repeat (refine need_intro (by decide) ?_)
  show Eqv _ _
  refine eqv_of_eq ?_
  show AVal.agg [.int .u16 (IntKind.u16.wrap (IntKind.i64.wrap (v.tdiv 16384))), .int .u16 (IntKind.u16.wrap (v.tmod 16384))] = AVal.agg [.int .u16 _, .int .u16 _]
  rw [tdiv_pos h0, tmod_pos h0, wi (by omega) (by omega), wu16 (by omega) (by omega), wu16 (by omega) (by omega)]
  unfold hiD loD
  rw [if_neg (by omega), if_neg (by omega)]
theorem rdouble_c {v : Int} (h : Fit v) : callP Try.prog 28 [.int .i64 v] (· = dblA v) := by
  by_cases h0 : 0 ≤ v
  · exact rdouble_pos h h0
  have hf : Fit (-v) := by unfold Fit at h ⊢; omega
  have e0 : IntKind.i64.wrap (0 - v) = -v := by unfold Fit at h; rw [wi (by omega) (by omega)]; omega
  refine callE_def env (fn := Try.f28) rfl (by decide) rfl ?_
  refine branch_t' (decide_eq_true (by omega)) ?_
  refine callT_E (rdouble_pos (v := IntKind.i64.wrap (0 - v)) (by rw [e0]; exact hf) (by rw [e0]; omega)) rfl ?_
  rw [e0]
  repeat (refine need_intro (by decide) ?_)
  show Eqv _ _
  refine eqv_of_eq ?_
  show AVal.agg [.int .u16 (IntKind.u16.wrap (32767 - hiD (-v))), .int .u16 (IntKind.u16.wrap (32767 - loD (-v)))] = AVal.agg [.int .u16 _, .int .u16 _]
  unfold Fit at h
  unfold hiD loD
  rw [if_neg (by omega), if_neg (by omega), if_pos (by omega), if_pos (by omega), wu16 (by omega) (by omega), wu16 (by omega) (by omega)]

/-! Rounding. -/
def rnd (p q : Int) : Int := p / q + (if p % q ≥ q - p % q then 1 else 0)
def roundV (p q : Int) : Int := if p < 0 then -(rnd (-p) q) else rnd p q
theorem pow_b {n : Nat} (hn : n ≤ 56) : 0 < (2 : Int) ^ n ∧ (2 : Int) ^ n ≤ 72057594037927936 := by
  have h1 : (2 : Nat) ^ n ≤ 2 ^ 56 := Nat.pow_le_pow_right (by decide) hn
  have h2 : 0 < (2 : Nat) ^ n := Nat.pow_pos (by decide)
  have e : ((2 ^ n : Nat) : Int) = 2 ^ n := by simp
  have : (2 : Nat) ^ 56 = 72057594037927936 := by decide
  omega
theorem rnd_half {p h : Int} (h0 : 0 < h) : (p + h) / (h * 2) = rnd p (h * 2) := by
  unfold rnd
  have h1 := Int.emod_add_mul_ediv p (h * 2)
  have h2 := Int.emod_nonneg p (b := h * 2) (by omega)
  have h3 := Int.emod_lt_of_pos p (b := h * 2) (by omega)
  generalize p / (h * 2) = d at h1 ⊢
  generalize p % (h * 2) = r at h1 h2 h3 ⊢
  rw [← h1, show r + h * 2 * d + h = (r + h) + h * 2 * d by omega, Int.add_mul_ediv_left _ _ (by omega)]
  split
  · have e : (r + h) / (h * 2) = 1 := by
      rw [show r + h = (r - h) + (h * 2) * 1 by omega, Int.add_mul_ediv_left _ _ (by omega), Int.ediv_eq_zero_of_lt (by omega) (by omega)]
      rfl
    omega
  · have e : (r + h) / (h * 2) = 0 := Int.ediv_eq_zero_of_lt (by omega) (by omega)
    omega
theorem rnd_b {p q : Int} (h0 : 0 ≤ p) (hq : 0 < q) : 0 ≤ rnd p q ∧ rnd p q ≤ p + 1 := by
  unfold rnd
  have h1 : 0 ≤ p / q := Int.ediv_nonneg h0 (by omega)
  have h2 : p / q ≤ p := Int.ediv_le_self q h0
  split <;> omega
theorem half_pos {p : Int} {n : Nat} (h : Big p) (h0 : 0 ≤ p) (hn : 0 < n) (hn' : n ≤ 56) : callP Try.prog 107 [.int .i64 p, .int .i64 n] (· = .int .i64 (rnd p (2 ^ n))) := by
  unfold Big at h
  obtain ⟨m, rfl⟩ : ∃ m, n = m + 1 := ⟨n - 1, by omega⟩
  have hm := pow_b (n := m) (by omega)
  have e1 : IntKind.i64.wrap (((m + 1 : Nat) : Int) - 1) = (m : Int) := by rw [wi (by omega) (by omega)]; omega
  refine callE_def env (fn := Try.f107) rfl (by decide) rfl ?_
  refine branch_f' (decide_eq_false (by omega)) ?_
  apply need_intro
  · rw [e1]; omega
  apply need_intro
  · show (0 : Int) ≤ ((m + 1 : Nat) : Int)
    omega
  show Eqv _ _
  refine eqv_of_eq (congrArg (AVal.int _) ?_)
  have m1 : min ((m : Int)).toNat IntKind.i64.bits = m := by
    show min ((m : Int)).toNat 64 = m
    rw [Int.toNat_natCast]
    omega
  have m2 : min (((m + 1 : Nat) : Int)).toNat IntKind.i64.bits = m + 1 := by
    show min (((m + 1 : Nat) : Int)).toNat 64 = m + 1
    rw [Int.toNat_natCast]
    omega
  rw [e1, m1, m2, Int.one_mul, wi (x := 2 ^ m) (by omega) (by omega), wi (by omega) (by omega), Int.pow_succ, Int.fdiv_eq_ediv_of_nonneg _ (by omega)]
  exact rnd_half hm.1
theorem rounded_pos {p q : Int} (h : Big p) (h0 : 0 ≤ p) (hq : 0 < q) (hq' : q ≤ 1152921504606846976) : callP Try.prog 26 [.int .i64 p, .int .i64 q] (· = .int .i64 (rnd p q)) := by
  unfold Big at h
  have hb := rnd_b h0 hq
  have hr : 0 ≤ p % q ∧ p % q < q := ⟨Int.emod_nonneg p (by omega), Int.emod_lt_of_pos p hq⟩
  have h1 : 0 ≤ p / q := Int.ediv_nonneg h0 (by omega)
  have h2 : p / q ≤ p := Int.ediv_le_self q h0
  have e1 : IntKind.i64.wrap (p.tdiv q) = p / q := by rw [tdiv_pos h0]; exact wi (by omega) (by omega)
  have e2 : IntKind.i64.wrap (q - p % q) = q - p % q := wi (by omega) (by omega)
  refine callE_def env (fn := Try.f26) rfl (by decide) rfl ?_
  refine branch_f' (decide_eq_false (by omega)) ?_
  apply need_intro
  · omega
  refine draw_intro [0, 1, 2, 3, 4, 5, 6, 7, 8] (by decide +kernel) ?_
  apply need_intro
  · omega
  apply need_intro
  · omega
  apply branch_intro <;> intro hc <;> rw [tmod_pos h0, e2] at hc <;> simp at hc <;> show Eqv _ _ <;> refine eqv_of_eq (congrArg (AVal.int _) ?_) <;> rw [e1] <;> unfold rnd
  · rw [if_pos hc, wi (by omega) (by omega)]
  · rw [if_neg (by omega)]; omega
theorem half_c {p : Int} {n : Nat} (h : Big p) (hn : 0 < n) (hn' : n ≤ 56) : callP Try.prog 107 [.int .i64 p, .int .i64 n] (· = .int .i64 (roundV p (2 ^ n))) := by
  by_cases h0 : p < 0
  · have hb : Big (-p) := by unfold Big at h ⊢; omega
    have e0 : IntKind.i64.wrap (0 - p) = -p := by unfold Big at h; rw [wi (by omega) (by omega)]; omega
    have hr := rnd_b (p := -p) (q := 2 ^ n) (by omega) ((pow_b hn').1)
    refine callE_def env (fn := Try.f107) rfl (by decide) rfl ?_
    refine branch_t' (decide_eq_true h0) ?_
    refine callT_E (half_pos (p := IntKind.i64.wrap (0 - p)) (by rw [e0]; exact hb) (by rw [e0]; omega) hn hn') rfl ?_
    rw [e0]
    show Eqv _ _
    refine eqv_of_eq (congrArg (AVal.int _) ?_)
    unfold Big at h
    rw [wi (by omega) (by omega)]
    unfold roundV
    rw [if_pos h0]
    omega
  · have := half_pos h (by omega) hn hn'
    unfold roundV
    rw [if_neg h0]
    exact this
theorem rounded_c {p q : Int} (h : Big p) (hq : 0 < q) (hq' : q ≤ 1152921504606846976) : callP Try.prog 26 [.int .i64 p, .int .i64 q] (· = .int .i64 (roundV p (q))) := by
  by_cases h0 : p < 0
  · have hb : Big (-p) := by unfold Big at h ⊢; omega
    have e0 : IntKind.i64.wrap (0 - p) = -p := by unfold Big at h; rw [wi (by omega) (by omega)]; omega
    have hr := rnd_b (p := -p) (q := q) (by omega) (hq)
    refine callE_def env (fn := Try.f26) rfl (by decide) rfl ?_
    refine branch_t' (decide_eq_true h0) ?_
    refine callT_E (rounded_pos (p := IntKind.i64.wrap (0 - p)) (by rw [e0]; exact hb) (by rw [e0]; omega) hq hq') rfl ?_
    rw [e0]
    show Eqv _ _
    refine eqv_of_eq (congrArg (AVal.int _) ?_)
    unfold Big at h
    rw [wi (by omega) (by omega)]
    unfold roundV
    rw [if_pos h0]
    omega
  · have := rounded_pos h (by omega) hq hq'
    unfold roundV
    rw [if_neg h0]
    exact this
theorem quot_pos {p q : Int} (h : Big p) (h0 : 0 ≤ p) (hq : 0 < q) (hq' : q ≤ 1152921504606846976) : callP Try.prog 105 [.int .i64 p, .int .i64 q] (· = .int .i64 (rnd p q)) := by
  unfold Big at h
  have hb := rnd_b h0 hq
  have hr : 0 ≤ p % q ∧ p % q < q := ⟨Int.emod_nonneg p (by omega), Int.emod_lt_of_pos p hq⟩
  have h1 : 0 ≤ p / q := Int.ediv_nonneg h0 (by omega)
  have h2 : p / q ≤ p := Int.ediv_le_self q h0
  have e1 : IntKind.i64.wrap (p.tdiv q) = p / q := by rw [tdiv_pos h0]; exact wi (by omega) (by omega)
  have e2 : IntKind.i64.wrap (q - p % q) = q - p % q := wi (by omega) (by omega)
  refine callE_def env (fn := Try.f105) rfl (by decide) rfl ?_
  refine branch_f' (decide_eq_false (by omega)) ?_
  refine draw_intro [0, 1, 2, 3, 4, 5, 6, 7] (by decide +kernel) ?_
  apply need_intro
  · omega
  apply need_intro
  · omega
  apply branch_intro <;> intro hc <;> rw [tmod_pos h0, e2] at hc <;> simp at hc <;> show Eqv _ _ <;> refine eqv_of_eq (congrArg (AVal.int _) ?_) <;> rw [e1] <;> unfold rnd
  · rw [if_pos hc, wi (by omega) (by omega)]
  · rw [if_neg (by omega)]; omega
theorem quot_c {p q : Int} (h : Big p) (hq : 0 < q) (hq' : q ≤ 1152921504606846976) : callP Try.prog 105 [.int .i64 p, .int .i64 q] (· = .int .i64 (roundV p (q))) := by
  by_cases h0 : p < 0
  · have hb : Big (-p) := by unfold Big at h ⊢; omega
    have e0 : IntKind.i64.wrap (0 - p) = -p := by unfold Big at h; rw [wi (by omega) (by omega)]; omega
    have hr := rnd_b (p := -p) (q := q) (by omega) (hq)
    refine callE_def env (fn := Try.f105) rfl (by decide) rfl ?_
    refine branch_t' (decide_eq_true h0) ?_
    refine callT_E (quot_pos (p := IntKind.i64.wrap (0 - p)) (by rw [e0]; exact hb) (by rw [e0]; omega) hq hq') rfl ?_
    rw [e0]
    show Eqv _ _
    refine eqv_of_eq (congrArg (AVal.int _) ?_)
    unfold Big at h
    rw [wi (by omega) (by omega)]
    unfold roundV
    rw [if_pos h0]
    omega
  · have := quot_pos h (by omega) hq hq'
    unfold roundV
    rw [if_neg h0]
    exact this

/-! Sums, products, shifts of doubles. -/
theorem clampD_c (v : Int) : callP Try.prog 93 [.int .i64 v] (· = .tuple [dblA (clampV v), .bool (outV v)]) := by
  refine callE_def env (fn := Try.f93) rfl (by decide) rfl ?_
  refine callT_E (bounded_c v) rfl ?_
  refine callT_E (double_c (clamp_fit v)) rfl ?_
  show Eqv _ _
  exact .up (.up (.refl _))
theorem rclampD_c (v : Int) : callP Try.prog 106 [.int .i64 v] (· = .tuple [dblA (clampV v), .bool (outV v)]) := by
  refine callE_def env (fn := Try.f106) rfl (by decide) rfl ?_
  refine callT_E (sat_c v) rfl ?_
  refine callT_E (rdouble_c (clamp_fit v)) rfl ?_
  refine callT_E (out_c v) rfl ?_
  show Eqv _ _
  exact .up (.up (.refl _))
theorem canon_c {a b : Int} (ha : W16 a) (hb : W16 b) : callP Try.prog 48 [D2 a b] (· = dblA (valD a b)) := by
  refine callE_def env (fn := Try.f48) rfl (by decide) rfl ?_
  refine callT_E (value_c ha hb) rfl ?_
  refine callT_E (double_c valD_fit) rfl ?_
  show Eqv _ _
  exact .up (.up (.refl _))
theorem addD_c {a b c d : Int} (ha : W16 a) (hb : W16 b) (hc : W16 c) (hd : W16 d) : callP Try.prog 108 [D2 a b, D2 c d] (· = .tuple [dblA (clampV (valD a b + valD c d)), .bool (outV (valD a b + valD c d))]) := by
  refine callE_def env (fn := Try.f108) rfl (by decide) rfl ?_
  refine draw_intro [0, 1, 2, 3, 4, 5, 6, 7, 8, 9] (by decide +kernel) ?_
  refine ⟨_, ⟨value_c ha hb, rfl⟩, ?_⟩
  refine ⟨_, ⟨value_c hc hd, rfl⟩, ?_⟩
  have := @valD_b a b; have := @valD_b c d
  have e : IntKind.i64.wrap (valD a b + valD c d) = valD a b + valD c d := wi (by omega) (by omega)
  refine ⟨_, ⟨clampD_c (IntKind.i64.wrap (valD a b + valD c d)), rfl⟩, ?_⟩
  rw [e]
  show Eqv _ _
  exact .up (.up (.refl _))
theorem subD_c {a b c d : Int} (ha : W16 a) (hb : W16 b) (hc : W16 c) (hd : W16 d) : callP Try.prog 59 [D2 a b, D2 c d] (· = .tuple [dblA (clampV (valD a b - valD c d)), .bool (outV (valD a b - valD c d))]) := by
  refine callE_def env (fn := Try.f59) rfl (by decide) rfl ?_
  refine draw_intro [0, 1, 2, 3, 4, 5, 6, 7, 8, 9] (by decide +kernel) ?_
  refine ⟨_, ⟨value_c ha hb, rfl⟩, ?_⟩
  refine ⟨_, ⟨value_c hc hd, rfl⟩, ?_⟩
  have := @valD_b a b; have := @valD_b c d
  have e : IntKind.i64.wrap (valD a b - valD c d) = valD a b - valD c d := wi (by omega) (by omega)
  refine ⟨_, ⟨clampD_c (IntKind.i64.wrap (valD a b - valD c d)), rfl⟩, ?_⟩
  rw [e]
  show Eqv _ _
  exact .up (.up (.refl _))
end Go.Proofs
/-! Ib. -/
namespace Go.Proofs
open Go.E
set_option maxRecDepth 8000

theorem mul_b {x y : Int} (hx : Fit x) (hy : Fit y) : -72057593501057025 ≤ x * y ∧ x * y ≤ 72057593501057025 := by
  unfold Fit at hx hy
  have h1 : x.natAbs ≤ 268435455 := by omega
  have h2 : y.natAbs ≤ 268435455 := by omega
  have h3 : (x * y).natAbs ≤ 268435455 * 268435455 := by
    rw [Int.natAbs_mul]
    exact Nat.mul_le_mul h1 h2
  generalize x * y = z at h3 ⊢
  omega
theorem rnd_prod {p : Int} (h0 : 0 ≤ p) (h : p ≤ 72057593501057025) : 0 ≤ rnd p 268435456 ∧ rnd p 268435456 ≤ 268435455 := by
  unfold rnd
  split <;> omega
theorem round_fit {p : Int} (h : -72057593501057025 ≤ p ∧ p ≤ 72057593501057025) : Fit (roundV p 268435456) := by
  unfold roundV Fit
  split
  · have := rnd_prod (p := -p) (by omega) (by omega); omega
  · have := rnd_prod (p := p) (by omega) (by omega); omega
theorem rnd_le {p q : Int} (h0 : 0 ≤ p) (hq : 2 ≤ q) : 0 ≤ rnd p q ∧ rnd p q ≤ p := by
  refine ⟨(rnd_b h0 (by omega)).1, ?_⟩
  unfold rnd
  have h1 := Int.emod_add_mul_ediv p q
  have h2 := Int.emod_nonneg p (b := q) (by omega)
  have h3 := Int.emod_lt_of_pos p (b := q) (by omega)
  have h4 : 0 ≤ p / q := Int.ediv_nonneg h0 (by omega)
  have h5 : 2 * (p / q) ≤ q * (p / q) := Int.mul_le_mul_of_nonneg_right hq h4
  generalize p / q = d at *
  generalize p % q = r at *
  generalize q * d = m at *
  split <;> omega
theorem shift_fit {p : Int} (h : Fit p) {n : Nat} (hn : 0 < n) (hn' : n ≤ 56) : Fit (roundV p (2 ^ n)) := by
  unfold Fit at h ⊢
  have hq : (2 : Int) ≤ 2 ^ n := by
    obtain ⟨m, rfl⟩ : ∃ m, n = m + 1 := ⟨n - 1, by omega⟩
    have := (pow_b (n := m) (by omega)).1
    rw [Int.pow_succ]; omega
  unfold roundV
  split
  · have := rnd_le (p := -p) (by omega) hq; omega
  · have := rnd_le (p := p) (by omega) hq; omega
theorem exactly_c (v : Int) : callP Try.prog 104 [.int .i64 v] (· = dblA (clampV v)) := by
  refine callE_def env (fn := Try.f104) rfl (by decide) rfl ?_
  refine callT_E (clampD_c v) rfl ?_
  show Eqv _ _
  exact .up (.up (.refl _))
theorem mulD_c {a b c d : Int} (ha : W16 a) (hb : W16 b) (hc : W16 c) (hd : W16 d) : callP Try.prog 72 [D2 a b, D2 c d] (· = dblA (roundV (valD a b * valD c d) 268435456)) := by
  refine callE_def env (fn := Try.f72) rfl (by decide) rfl ?_
  refine draw_intro [0, 1, 2, 3, 4, 5, 6, 7] (by decide +kernel) ?_
  refine ⟨_, ⟨value_c ha hb, rfl⟩, ?_⟩
  refine ⟨_, ⟨value_c hc hd, rfl⟩, ?_⟩
  have hm := mul_b (@valD_fit a b) (@valD_fit c d)
  have hr := round_fit hm
  have e : IntKind.i64.wrap (valD a b * valD c d) = valD a b * valD c d := wi (by omega) (by omega)
  refine ⟨_, ⟨quot_c (p := IntKind.i64.wrap (valD a b * valD c d)) (q := 268435456) (by rw [e]; unfold Big; omega) (by decide) (by decide), rfl⟩, ?_⟩
  rw [e]
  refine ⟨_, ⟨exactly_c _, rfl⟩, ?_⟩
  rw [clamp_id hr]
  show Eqv _ _
  exact .up (.up (.refl _))
theorem rmulD_c {a b c d : Int} (ha : W16 a) (hb : W16 b) (hc : W16 c) (hd : W16 d) : callP Try.prog 74 [D2 a b, D2 c d] (· = dblA (roundV (valD a b * valD c d) 268435456)) := by
  refine callE_def env (fn := Try.f74) rfl (by decide) rfl ?_
  refine draw_intro [0, 1, 2, 3, 4, 5, 6, 7] (by decide +kernel) ?_
  refine ⟨_, ⟨rvalue_c ha hb, rfl⟩, ?_⟩
  refine ⟨_, ⟨rvalue_c hc hd, rfl⟩, ?_⟩
  have hm := mul_b (@valD_fit a b) (@valD_fit c d)
  have hr := round_fit hm
  have e : IntKind.i64.wrap (valD a b * valD c d) = valD a b * valD c d := wi (by omega) (by omega)
  refine ⟨_, ⟨rounded_c (p := IntKind.i64.wrap (valD a b * valD c d)) (q := 268435456) (by rw [e]; unfold Big; omega) (by decide) (by decide), rfl⟩, ?_⟩
  rw [e]
  refine ⟨_, ⟨rdouble_c hr, rfl⟩, ?_⟩
  show Eqv _ _
  exact .up (.up (.refl _))
/-- A shift to the right. -/
theorem shiftD_c {a b : Int} (ha : W16 a) (hb : W16 b) {n : Nat} (hn : 0 < n) (hn' : n ≤ 56) : callP Try.prog 76 [D2 a b, .int .i64 (-(n : Int))] (· = .tuple [dblA (roundV (valD a b) (2 ^ n)), .bool false]) := by
  refine callE_def env (fn := Try.f76) rfl (by decide) rfl ?_
  refine callT_E (value_c ha hb) rfl ?_
  refine branch_t' (decide_eq_true (by omega)) ?_
  have e : IntKind.i64.wrap (0 - (if (-56 : Int) > -(n : Int) then -56 else -(n : Int))) = (n : Int) := by
    rw [if_neg (by omega), wi (by omega) (by omega)]; omega
  have c := half_c (valD_fit (a := a) (b := b)).big hn hn'
  rw [← e] at c
  refine callT_E c rfl ?_
  refine callT_E (double_c (shift_fit valD_fit hn hn')) rfl ?_
  show Eqv _ _
  exact .up (.up (.refl _))
structure RsSt where
  i : Nat
theorem rshiftD_c {a b : Int} (ha : W16 a) (hb : W16 b) {n : Nat} (hn : 0 < n) (hn' : n ≤ 56) : callP Try.prog 109 [D2 a b, .int .i64 (-(n : Int))] (· = .tuple [dblA (roundV (valD a b) (2 ^ n)), .bool false]) := by
  refine callE_def env (fn := Try.f109) rfl (by decide) rfl ?_
  refine callT_E (rvalue_c ha hb) rfl ?_
  have e : (if (-56 : Int) > -(n : Int) then -56 else -(n : Int)) = -(n : Int) := if_neg (by omega)
  refine branch_t' (decide_eq_true (by show (if (-56 : Int) > -(n : Int) then (-56 : Int) else -(n : Int)) < 0; rw [e]; omega)) ?_
  refine loop_inv (keep 48 [1, 4, 5, 6, 7, 8]) (fun s : RsSt => slots 48 [(1, .int .i64 (-(n : Int))), (4, .ptr ⟨1, 0, 0⟩), (5, .bool false), (6, .int .i64 (valD a b)), (7, .int .i64 (2 ^ s.i)), (8, .int .i64 s.i)])
    (fun _ => [.cells [.int .u16 a, .int .u16 b], .cells [.int .u16 0, .int .u16 0]]) (fun s => s.i ≤ n) (fun s => n - s.i) ⟨0⟩ (Nat.zero_le _) ?_ rfl ?_
  · show [_, _, _, _, _, _, _, _, _, _, _, _, _, _, _, _, _, _, _, _, _, _, _, _, _, _, _, _, _, _, _, _, _, _, _, _, _, _, _, _, _, _, _, _, _, _, _, _] = _
    rw [e]
    rfl
  rintro ⟨i⟩ hi
  simp only at hi
  have e1 : IntKind.i64.wrap (0 - -(n : Int)) = n := by rw [wi (by omega) (by omega)]; omega
  have hp := pow_b (n := i) (by omega)
  apply branch_intro <;> intro h <;> rw [e1] at h <;> simp at h
  · refine ⟨⟨i + 1⟩, h, by simp only; omega, ?_, rfl⟩
    show [_, _, _, _, _, _, _, _, _, _, _, _, _, _, _, _, _, _, _, _, _, _, _, _, _, _, _, _, _, _, _, _, _, _, _, _, _, _, _, _, _, _, _, _, _, _, _, _] = _
    have e2 : IntKind.i64.wrap (2 * 2 ^ i) = 2 ^ (i + 1) := by rw [wi (by omega) (by omega), Int.pow_succ]; omega
    have e3 : IntKind.i64.wrap ((i : Int) + 1) = ((i + 1 : Nat) : Int) := by rw [wi (by omega) (by omega)]; rfl
    rw [e2, e3]
    rfl
  · have : i = n := by omega
    subst this
    refine callT_E (rounded_c valD_fit.big hp.1 (by simp only; omega)) rfl ?_
    refine callT_E (rdouble_c (shift_fit valD_fit hn hn')) rfl ?_
    show Eqv _ _
    exact .up (.up (.refl _))
end Go.Proofs
/-! Ic. -/
namespace Go.Proofs
open Go.E
set_option maxRecDepth 8000

def vcells (a : Nat → Int) : List AVal := [.int .u16 (a 0), .int .u16 (a 1), .int .u16 (a 2), .int .u16 (a 3), .int .u16 (a 4), .int .u16 (a 5)]
abbrev vecA (a : Nat → Int) : AVal := .agg [.int .u16 (a 0), .int .u16 (a 1), .int .u16 (a 2), .int .u16 (a 3), .int .u16 (a 4), .int .u16 (a 5)]
/-- The words of three values. -/
def dv (g : Nat → Int) (j : Nat) : Int := match j with
  | 0 => hiD (g 0) | 1 => loD (g 0) | 2 => hiD (g 1) | 3 => loD (g 1) | 4 => hiD (g 2) | 5 => loD (g 2)
  | _ => 0
/-- The values of a vector's components. -/
def cv (a : Nat → Int) (i : Nat) : Int := valD (a (2 * i)) (a (2 * i + 1))
def WV (a : Nat → Int) : Prop := ∀ j, j < 6 → W16 (a j)
def FV (g : Nat → Int) : Prop := ∀ i, i < 3 → Fit (g i)
theorem cv_fit (a : Nat → Int) : FV (cv a) := fun _ _ => valD_fit
theorem dv_w {g : Nat → Int} (h : FV g) : WV (dv g) := fun j hj => by
  match j, hj with
  | 0, _ => exact hi_w (h 0 (by decide))
  | 1, _ => exact lo_w (h 0 (by decide))
  | 2, _ => exact hi_w (h 1 (by decide))
  | 3, _ => exact lo_w (h 1 (by decide))
  | 4, _ => exact hi_w (h 2 (by decide))
  | 5, _ => exact lo_w (h 2 (by decide))
theorem cv_dv {g : Nat → Int} (h : FV g) {i : Nat} (hi : i < 3) : cv (dv g) i = g i := by
  match i, hi with
  | 0, _ => exact val_dbl (h 0 (by decide))
  | 1, _ => exact val_dbl (h 1 (by decide))
  | 2, _ => exact val_dbl (h 2 (by decide))
theorem dv_congr {g g' : Nat → Int} (h : ∀ i, i < 3 → g i = g' i) : dv g = dv g' := by
  funext j
  unfold dv
  rw [h 0 (by decide), h 1 (by decide), h 2 (by decide)]

/-- What each has written before round i. -/
def oc (g : Nat → Int) (i j : Nat) : Int := match Nat.blt j (2 * i) with | true => dv g j | false => 0
def acc (o : Nat → Bool) : Nat → Bool
  | 0 => false
  | i + 1 => acc o i || o i
theorem rdP_no {P : Program} {f : FuncId} {l : List AVal} {H : Heap} {v : AVal} (h : readFns.contains f = false) (hc : callP P f l (· = v) ∧ allClosed2 l = true) : rdP P f l H v := by
  unfold rdP
  rw [h]
  exact hc
theorem each_c {f : FuncId} {caps : List AVal} (hcaps : allClosed2 caps = true) (hren : caps.map (renS0 [0, 1, 2, 3]) = caps) {a b : Nat → Int} {g : Nat → Int} {o : Nat → Bool}
    (h : ∀ i, i < 3 → callP Try.prog f (D2 (a (2 * i)) (a (2 * i + 1)) :: D2 (b (2 * i)) (b (2 * i + 1)) :: caps) (· = .tuple [dblA (g i), .bool (o i)])) (hf : readFns.contains f = false := by decide) :
    callP Try.prog 58 [vecA a, vecA b, .fn (.func f) [] caps] (· = .tuple [vecA (dv g), .bool (acc o 3)]) := by
  refine callE_def env (fn := Try.f58) rfl (by decide) rfl ?_
  refine loop_weak (fun i : Nat => slots 37 [(2, .fn (.func f) [] caps), (3, .ptr ⟨0, 0, 0⟩), (4, .ptr ⟨1, 0, 0⟩), (6, .ptr ⟨2, 0, 0⟩), (7, .bool false), (8, .ptr ⟨3, 0, 0⟩), (9, .bool (acc o i)), (13, .int .i64 i)])
    (fun i => [.cells (vcells a), .cells (vcells b), .cells [.int .u16 0, .int .u16 0, .int .u16 0, .int .u16 0, .int .u16 0, .int .u16 0], .cells (vcells (oc g i))])
    (fun i => i ≤ 3) (fun i => 3 - i) 0 (Nat.zero_le _) (weak_keep (keep 37 [2, 3, 4, 6, 7, 8, 9, 13]) [0, 1, 2, 3] rfl (by show [_, _, AVal.fn (.func f) [] (List.map (renS0 [0, 1, 2, 3]) caps), _, _, _, _, _, _, _, _, _, _, _, _, _, _, _, _, _, _, _, _, _, _, _, _, _, _, _, _, _, _, _, _, _, _] = _; rw [hren]; rfl) rfl) ?_
  intro i hi
  match i, hi with
  | 0, _ =>
    refine branch_true ?_
    refine draw_intro [0, 1, 2, 3, 4, 5, 6, 7, 8, 9, 10, 11, 12, 13] (by decide +kernel) ?_
    repeat (refine need_intro (by decide) ?_)
    refine ⟨_, rdP_no hf ⟨h 0 (by decide), hcaps⟩, ?_⟩
    repeat (refine need_intro (by decide) ?_)
    apply branch_intro <;> intro hb
    · repeat (first | refine branch_true ?_ | refine branch_false ?_ | refine branch_f' (bne_self_eq_false _) ?_ | refine branch_t' (beq_self_eq_true _) ?_ | refine branch_t' (decide_eq_true rfl) ?_)
      repeat (refine need_intro (by decide) ?_)
      refine ⟨1, by decide, by decide, weak_keep (keep 37 [2, 3, 4, 6, 7, 8, 9, 13]) [0, 1, 2, 3] rfl ?_ rfl⟩
      show [_, _, AVal.fn (.func f) [] (List.map (renS0 [0, 1, 2, 3]) caps), _, _, _, _, _, _, AVal.bool true, _, _, _, _, _, _, _, _, _, _, _, _, _, _, _, _, _, _, _, _, _, _, _, _, _, _, _] = _
      rw [hren]
      have : acc o 1 = true := by show (acc o 0 || o 0) = true; rw [hb]; rfl
      show _ = slots 37 [(2, _), (3, _), (4, _), (6, _), (7, _), (8, _), (9, .bool (acc o 1)), (13, _)]
      rw [this]
      rfl
    · repeat (first | refine branch_true ?_ | refine branch_false ?_ | refine branch_f' (bne_self_eq_false _) ?_ | refine branch_t' (beq_self_eq_true _) ?_ | refine branch_t' (decide_eq_true rfl) ?_)
      repeat (refine need_intro (by decide) ?_)
      refine ⟨1, by decide, by decide, weak_keep (keep 37 [2, 3, 4, 6, 7, 8, 9, 13]) [0, 1, 2, 3] rfl ?_ rfl⟩
      show [_, _, AVal.fn (.func f) [] (List.map (renS0 [0, 1, 2, 3]) caps), _, _, _, _, _, _, AVal.bool (o 0), _, _, _, _, _, _, _, _, _, _, _, _, _, _, _, _, _, _, _, _, _, _, _, _, _, _, _] = _
      rw [hren]
      have : acc o 1 = o 0 := by show (acc o 0 || o 0) = _; rw [hb]; rfl
      show _ = slots 37 [(2, _), (3, _), (4, _), (6, _), (7, _), (8, _), (9, .bool (acc o 1)), (13, _)]
      rw [this]
      rfl
  | 1, _ =>
    refine branch_true ?_
    refine draw_intro [0, 1, 2, 3, 4, 5, 6, 7, 8, 9, 10, 11, 12, 13] (by decide +kernel) ?_
    repeat (refine need_intro (by decide) ?_)
    refine ⟨_, rdP_no hf ⟨h 1 (by decide), hcaps⟩, ?_⟩
    repeat (refine need_intro (by decide) ?_)
    apply branch_intro <;> intro hb
    · repeat (first | refine branch_true ?_ | refine branch_false ?_ | refine branch_f' (bne_self_eq_false _) ?_ | refine branch_t' (beq_self_eq_true _) ?_ | refine branch_t' (decide_eq_true rfl) ?_)
      repeat (refine need_intro (by decide) ?_)
      refine ⟨2, by decide, by decide, weak_keep (keep 37 [2, 3, 4, 6, 7, 8, 9, 13]) [0, 1, 2, 3] rfl ?_ rfl⟩
      show [_, _, AVal.fn (.func f) [] (List.map (renS0 [0, 1, 2, 3]) caps), _, _, _, _, _, _, AVal.bool true, _, _, _, _, _, _, _, _, _, _, _, _, _, _, _, _, _, _, _, _, _, _, _, _, _, _, _] = _
      rw [hren]
      have : acc o 2 = true := by show (acc o 1 || o 1) = true; rw [hb]; rfl
      show _ = slots 37 [(2, _), (3, _), (4, _), (6, _), (7, _), (8, _), (9, .bool (acc o 2)), (13, _)]
      rw [this]
      rfl
    · repeat (first | refine branch_true ?_ | refine branch_false ?_ | refine branch_f' (bne_self_eq_false _) ?_ | refine branch_t' (beq_self_eq_true _) ?_ | refine branch_t' (decide_eq_true rfl) ?_)
      repeat (refine need_intro (by decide) ?_)
      refine ⟨2, by decide, by decide, weak_keep (keep 37 [2, 3, 4, 6, 7, 8, 9, 13]) [0, 1, 2, 3] rfl ?_ rfl⟩
      show [_, _, AVal.fn (.func f) [] (List.map (renS0 [0, 1, 2, 3]) caps), _, _, _, _, _, _, AVal.bool (o 1), _, _, _, _, _, _, _, _, _, _, _, _, _, _, _, _, _, _, _, _, _, _, _, _, _, _, _] = _
      rw [hren]
      have : acc o 2 = o 1 := by show (acc o 1 || o 1) = _; rw [hb]; rfl
      show _ = slots 37 [(2, _), (3, _), (4, _), (6, _), (7, _), (8, _), (9, .bool (acc o 2)), (13, _)]
      rw [this]
      rfl
  | 2, _ =>
    refine branch_true ?_
    refine draw_intro [0, 1, 2, 3, 4, 5, 6, 7, 8, 9, 10, 11, 12, 13] (by decide +kernel) ?_
    repeat (refine need_intro (by decide) ?_)
    refine ⟨_, rdP_no hf ⟨h 2 (by decide), hcaps⟩, ?_⟩
    repeat (refine need_intro (by decide) ?_)
    apply branch_intro <;> intro hb
    · repeat (first | refine branch_true ?_ | refine branch_false ?_ | refine branch_f' (bne_self_eq_false _) ?_ | refine branch_t' (beq_self_eq_true _) ?_ | refine branch_t' (decide_eq_true rfl) ?_)
      repeat (refine need_intro (by decide) ?_)
      refine ⟨3, by decide, by decide, weak_keep (keep 37 [2, 3, 4, 6, 7, 8, 9, 13]) [0, 1, 2, 3] rfl ?_ rfl⟩
      show [_, _, AVal.fn (.func f) [] (List.map (renS0 [0, 1, 2, 3]) caps), _, _, _, _, _, _, AVal.bool true, _, _, _, _, _, _, _, _, _, _, _, _, _, _, _, _, _, _, _, _, _, _, _, _, _, _, _] = _
      rw [hren]
      have : acc o 3 = true := by show (acc o 2 || o 2) = true; rw [hb]; rfl
      show _ = slots 37 [(2, _), (3, _), (4, _), (6, _), (7, _), (8, _), (9, .bool (acc o 3)), (13, _)]
      rw [this]
      rfl
    · repeat (first | refine branch_true ?_ | refine branch_false ?_ | refine branch_f' (bne_self_eq_false _) ?_ | refine branch_t' (beq_self_eq_true _) ?_ | refine branch_t' (decide_eq_true rfl) ?_)
      repeat (refine need_intro (by decide) ?_)
      refine ⟨3, by decide, by decide, weak_keep (keep 37 [2, 3, 4, 6, 7, 8, 9, 13]) [0, 1, 2, 3] rfl ?_ rfl⟩
      show [_, _, AVal.fn (.func f) [] (List.map (renS0 [0, 1, 2, 3]) caps), _, _, _, _, _, _, AVal.bool (o 2), _, _, _, _, _, _, _, _, _, _, _, _, _, _, _, _, _, _, _, _, _, _, _, _, _, _, _] = _
      rw [hren]
      have : acc o 3 = o 2 := by show (acc o 2 || o 2) = _; rw [hb]; rfl
      show _ = slots 37 [(2, _), (3, _), (4, _), (6, _), (7, _), (8, _), (9, .bool (acc o 3)), (13, _)]
      rw [this]
      rfl
  | 3, _ =>
    refine branch_false ?_
    show Eqv _ _
    exact .up (.up (.refl _))
end Go.Proofs
/-! Id. -/
namespace Go.Proofs
open Go.E
set_option maxRecDepth 8000

def or3 (o : Nat → Bool) : Bool := o 0 || o 1 || o 2
theorem acc3 (o : Nat → Bool) : acc o 3 = or3 o := by simp [acc, or3]
def addF (a b : Nat → Int) (i : Nat) : Int := clampV (cv a i + cv b i)
def addO (a b : Nat → Int) (i : Nat) : Bool := outV (cv a i + cv b i)
def subF (a b : Nat → Int) (i : Nat) : Int := clampV (cv a i - cv b i)
def subO (a b : Nat → Int) (i : Nat) : Bool := outV (cv a i - cv b i)
def scaleF (a : Nat → Int) (k : Int) (i : Nat) : Int := roundV (cv a i * k) 268435456
def shiftF (a : Nat → Int) (n : Nat) (i : Nat) : Int := roundV (cv a i) (2 ^ n)
theorem addF_fit (a b : Nat → Int) : FV (addF a b) := fun _ _ => clamp_fit _
theorem subF_fit (a b : Nat → Int) : FV (subF a b) := fun _ _ => clamp_fit _
theorem scaleF_fit (a : Nat → Int) {k : Int} (hk : Fit k) : FV (scaleF a k) := fun _ _ => round_fit (mul_b valD_fit hk)
theorem shiftF_fit (a : Nat → Int) {n : Nat} (hn : 0 < n) (hn' : n ≤ 56) : FV (shiftF a n) := fun _ _ => shift_fit valD_fit hn hn'
theorem WV.at2 {a : Nat → Int} (h : WV a) {i : Nat} (hi : i < 3) : W16 (a (2 * i)) ∧ W16 (a (2 * i + 1)) := ⟨h _ (by omega), h _ (by omega)⟩

theorem vadd_c {a b : Nat → Int} (ha : WV a) (hb : WV b) : callP Try.prog 77 [vecA a, vecA b] (· = .tuple [vecA (dv (addF a b)), .bool (or3 (addO a b))]) := by
  rw [← acc3]
  refine callE_def env (fn := Try.f77) rfl (by decide) rfl ?_
  refine callT_E (each_c (f := 108) (caps := []) rfl rfl fun i hi => addD_c (ha.at2 hi).1 (ha.at2 hi).2 (hb.at2 hi).1 (hb.at2 hi).2) rfl ?_
  show Eqv _ _
  exact .up (.up (.refl _))
theorem vsub_c {a b : Nat → Int} (ha : WV a) (hb : WV b) : callP Try.prog 35 [vecA a, vecA b] (· = .tuple [vecA (dv (subF a b)), .bool (or3 (subO a b))]) := by
  rw [← acc3]
  refine callE_def env (fn := Try.f35) rfl (by decide) rfl ?_
  refine callT_E (each_c (f := 59) (caps := []) rfl rfl fun i hi => subD_c (ha.at2 hi).1 (ha.at2 hi).2 (hb.at2 hi).1 (hb.at2 hi).2) rfl ?_
  show Eqv _ _
  exact .up (.up (.refl _))
def zeroV (_ : Nat) : Int := 0
theorem zero_w : WV zeroV := fun _ _ => by unfold zeroV W16; omega
theorem vneg_c {a : Nat → Int} (ha : WV a) : callP Try.prog 31 [vecA a] (· = vecA (dv (subF zeroV a))) := by
  refine callE_def env (fn := Try.f31) rfl (by decide) rfl ?_
  refine callT_E (each_c (f := 59) (caps := []) (a := zeroV) rfl rfl fun i hi => subD_c (zero_w.at2 hi).1 (zero_w.at2 hi).2 (ha.at2 hi).1 (ha.at2 hi).2) rfl ?_
  show Eqv _ _
  exact .up (.up (.refl _))
theorem shift1_c {a b c d : Int} (ha : W16 a) (hb : W16 b) {n : Nat} (hn : 0 < n) (hn' : n ≤ 56) : callP Try.prog 75 [D2 a b, D2 c d, .roptr 1 1 (fun _ => [.int .i64 (-(n : Int))]) 0 0] (· = .tuple [dblA (roundV (valD a b) (2 ^ n)), .bool false]) := by
  refine callE_def env (fn := Try.f75) rfl (by decide) rfl ?_
  refine callT_E (shiftD_c ha hb hn hn') rfl ?_
  show Eqv _ _
  exact .up (.up (.refl _))
theorem scale1_c {a b c d k0 k1 : Int} (ha : W16 a) (hb : W16 b) (h0 : W16 k0) (h1 : W16 k1) : callP Try.prog 71 [D2 a b, D2 c d, .roptr 2 1 (fun _ => [.int .u16 k0, .int .u16 k1]) 0 0] (· = .tuple [dblA (roundV (valD a b * valD k0 k1) 268435456), .bool false]) := by
  refine callE_def env (fn := Try.f71) rfl (by decide) rfl ?_
  refine callT_E (mulD_c ha hb h0 h1) rfl ?_
  show Eqv _ _
  exact .up (.up (.refl _))
theorem vshift_c {a : Nat → Int} (ha : WV a) {n : Nat} (hn : 0 < n) (hn' : n ≤ 56) : callP Try.prog 40 [vecA a, .int .i64 (-(n : Int))] (· = .tuple [vecA (dv (shiftF a n)), .bool false]) := by
  refine callE_def env (fn := Try.f40) rfl (by decide) rfl ?_
  refine callT_box 1 (keep 12 [4]) rfl rfl (Nat.zero_le _) ?_
  refine callT_E (each_c (f := 75) (caps := [.roptr 1 1 (fun _ => [.int .i64 (-(n : Int))]) 0 0]) (o := fun _ => false) rfl rfl fun i hi => shift1_c (ha.at2 hi).1 (ha.at2 hi).2 hn hn') rfl ?_
  show Eqv _ _
  exact .up (.up (.refl _))
theorem vscale_c {a : Nat → Int} (ha : WV a) {k0 k1 : Int} (h0 : W16 k0) (h1 : W16 k1) : callP Try.prog 36 [vecA a, D2 k0 k1] (· = vecA (dv (scaleF a (valD k0 k1)))) := by
  refine callE_def env (fn := Try.f36) rfl (by decide) rfl ?_
  refine callT_box 1 (keep 15 [4]) rfl rfl (Nat.zero_le _) ?_
  refine callT_E (each_c (f := 71) (caps := [.roptr 2 1 (fun _ => [.int .u16 k0, .int .u16 k1]) 0 0]) (o := fun _ => false) rfl rfl fun i hi => scale1_c (ha.at2 hi).1 (ha.at2 hi).2 h0 h1) rfl ?_
  show Eqv _ _
  exact .up (.up (.refl _))

/-! The reference's. -/
theorem values_c {a : Nat → Int} (ha : WV a) : callP Try.prog 25 [vecA a] (· = .agg [.int .i64 (cv a 0), .int .i64 (cv a 1), .int .i64 (cv a 2)]) := by
  refine callE_def env (fn := Try.f25) rfl (by decide) rfl ?_
  refine draw_intro [0, 1, 2, 3, 4, 5, 6, 7, 8, 9, 10] (by decide +kernel) ?_
  repeat (refine need_intro (by decide) ?_)
  refine ⟨_, ⟨rvalue_c (ha 0 (by decide)) (ha 1 (by decide)), rfl⟩, ?_⟩
  repeat (refine need_intro (by decide) ?_)
  refine ⟨_, ⟨rvalue_c (ha 2 (by decide)) (ha 3 (by decide)), rfl⟩, ?_⟩
  repeat (refine need_intro (by decide) ?_)
  refine ⟨_, ⟨rvalue_c (ha 4 (by decide)) (ha 5 (by decide)), rfl⟩, ?_⟩
  show Eqv _ _
  exact .up (.up (.refl _))
theorem of_c (f : Nat → Int) : callP Try.prog 73 [.int .i64 (f 0), .int .i64 (f 1), .int .i64 (f 2)] (· = .tuple [vecA (dv fun i => clampV (f i)), .bool (or3 fun i => outV (f i))]) := by
  refine callE_def env (fn := Try.f73) rfl (by decide) rfl ?_
  refine callT_E (rclampD_c (f 0)) rfl ?_
  refine callT_E (rclampD_c (f 1)) rfl ?_
  refine callT_E (rclampD_c (f 2)) rfl ?_
  apply branch_intro <;> intro h0
  · repeat (first | refine branch_true ?_ | refine branch_false ?_ | refine branch_f' (bne_self_eq_false _) ?_ | refine branch_t' (beq_self_eq_true _) ?_ | refine branch_t' (decide_eq_true rfl) ?_)
    show Eqv _ _
    refine eqv_of_eq ?_
    show AVal.tuple [_, .bool true] = AVal.tuple [_, .bool (outV (f 0) || outV (f 1) || outV (f 2))]
    rw [h0]
    rfl
  repeat (first | refine branch_true ?_ | refine branch_false ?_ | refine branch_f' (bne_self_eq_false _) ?_ | refine branch_t' (beq_self_eq_true _) ?_ | refine branch_t' (decide_eq_true rfl) ?_)
  apply branch_intro <;> intro h1
  · repeat (first | refine branch_true ?_ | refine branch_false ?_ | refine branch_f' (bne_self_eq_false _) ?_ | refine branch_t' (beq_self_eq_true _) ?_ | refine branch_t' (decide_eq_true rfl) ?_)
    show Eqv _ _
    refine eqv_of_eq ?_
    show AVal.tuple [_, .bool true] = AVal.tuple [_, .bool (outV (f 0) || outV (f 1) || outV (f 2))]
    rw [h0, h1]
    rfl
  · repeat (first | refine branch_true ?_ | refine branch_false ?_ | refine branch_f' (bne_self_eq_false _) ?_ | refine branch_t' (beq_self_eq_true _) ?_ | refine branch_t' (decide_eq_true rfl) ?_)
    show Eqv _ _
    refine eqv_of_eq ?_
    show AVal.tuple [_, .bool (outV (f 2))] = AVal.tuple [_, .bool (outV (f 0) || outV (f 1) || outV (f 2))]
    rw [h0, h1]
    rfl
theorem rsum_c {a b : Nat → Int} (ha : WV a) (hb : WV b) : callP Try.prog 37 [vecA a, vecA b, .int .i64 1] (· = .tuple [vecA (dv (addF a b)), .bool (or3 (addO a b))]) := by
  refine callE_def env (fn := Try.f37) rfl (by decide) rfl ?_
  refine draw_tree (picks [0, 1, 2, 3] (.fork 4 5 (picks [5, 6, 7] .done) (picks [4, 6, 7] .done))) (by decide +kernel) ?_
  refine ⟨_, ⟨values_c ha, rfl⟩, ?_⟩
  refine ⟨_, ⟨values_c hb, rfl⟩, ?_⟩
  have e : ∀ i, i < 3 → IntKind.i64.wrap (cv a i + IntKind.i64.wrap (1 * cv b i)) = cv a i + cv b i := fun i hi => by
    have h1 := cv_fit a i hi; have h2 := cv_fit b i hi
    unfold Fit at h1 h2
    rw [Int.one_mul, wi (x := cv b i) (by omega) (by omega), wi (by omega) (by omega)]
  have e2 : or3 (fun i => outV (IntKind.i64.wrap (cv a i + IntKind.i64.wrap (1 * cv b i)))) = or3 (addO a b) := by
    show (outV _ || outV _ || outV _) = (outV _ || outV _ || outV _)
    rw [e 0 (by decide), e 1 (by decide), e 2 (by decide)]
  refine ⟨?_, ?_⟩
  · repeat (refine need_intro (by decide) ?_)
    refine callT_E (of_c fun i => IntKind.i64.wrap (cv a i + IntKind.i64.wrap (1 * cv b i))) rfl ?_
    show Eqv _ _
    refine eqv_of_eq ?_
    show AVal.tuple [vecA (dv _), .bool (or3 _)] = AVal.tuple [vecA (dv _), .bool (or3 _)]
    rw [dv_congr (g' := addF a b) (fun i hi => by show clampV _ = clampV _; rw [e i hi])]
    rw [e2]
  · repeat (refine need_intro (by decide) ?_)
    refine callT_E (of_c fun i => IntKind.i64.wrap (cv a i + IntKind.i64.wrap (1 * cv b i))) rfl ?_
    show Eqv _ _
    refine eqv_of_eq ?_
    show AVal.tuple [vecA (dv _), .bool (or3 _)] = AVal.tuple [vecA (dv _), .bool (or3 _)]
    rw [dv_congr (g' := addF a b) (fun i hi => by show clampV _ = clampV _; rw [e i hi])]
    rw [e2]
theorem rsub_c {a b : Nat → Int} (ha : WV a) (hb : WV b) : callP Try.prog 37 [vecA a, vecA b, .int .i64 (-1)] (· = .tuple [vecA (dv (subF a b)), .bool (or3 (subO a b))]) := by
  refine callE_def env (fn := Try.f37) rfl (by decide) rfl ?_
  refine draw_tree (picks [0, 1, 2, 3] (.fork 4 5 (picks [5, 6, 7] .done) (picks [4, 6, 7] .done))) (by decide +kernel) ?_
  refine ⟨_, ⟨values_c ha, rfl⟩, ?_⟩
  refine ⟨_, ⟨values_c hb, rfl⟩, ?_⟩
  have e : ∀ i, i < 3 → IntKind.i64.wrap (cv a i + IntKind.i64.wrap (-1 * cv b i)) = cv a i - cv b i := fun i hi => by
    have h1 := cv_fit a i hi; have h2 := cv_fit b i hi
    unfold Fit at h1 h2
    rw [wi (x := -1 * cv b i) (by omega) (by omega), wi (by omega) (by omega)]
    omega
  have e2 : or3 (fun i => outV (IntKind.i64.wrap (cv a i + IntKind.i64.wrap (-1 * cv b i)))) = or3 (subO a b) := by
    show (outV _ || outV _ || outV _) = (outV _ || outV _ || outV _)
    rw [e 0 (by decide), e 1 (by decide), e 2 (by decide)]
  refine ⟨?_, ?_⟩
  · repeat (refine need_intro (by decide) ?_)
    refine callT_E (of_c fun i => IntKind.i64.wrap (cv a i + IntKind.i64.wrap (-1 * cv b i))) rfl ?_
    show Eqv _ _
    refine eqv_of_eq ?_
    show AVal.tuple [vecA (dv _), .bool (or3 _)] = AVal.tuple [vecA (dv _), .bool (or3 _)]
    rw [dv_congr (g' := subF a b) (fun i hi => by show clampV _ = clampV _; rw [e i hi])]
    rw [e2]
  · repeat (refine need_intro (by decide) ?_)
    refine callT_E (of_c fun i => IntKind.i64.wrap (cv a i + IntKind.i64.wrap (-1 * cv b i))) rfl ?_
    show Eqv _ _
    refine eqv_of_eq ?_
    show AVal.tuple [vecA (dv _), .bool (or3 _)] = AVal.tuple [vecA (dv _), .bool (or3 _)]
    rw [dv_congr (g' := subF a b) (fun i hi => by show clampV _ = clampV _; rw [e i hi])]
    rw [e2]
theorem rshift_c {a : Nat → Int} (ha : WV a) {n : Nat} (hn : 0 < n) (hn' : n ≤ 56) : callP Try.prog 80 [vecA a, .int .i64 (-(n : Int))] (· = .tuple [vecA (dv (shiftF a n)), .bool false]) := by
  refine callE_def env (fn := Try.f80) rfl (by decide) rfl ?_
  repeat (refine need_intro (by decide) ?_)
  refine callT_E (rshiftD_c (ha 0 (by decide)) (ha 1 (by decide)) hn hn') rfl ?_
  repeat (refine need_intro (by decide) ?_)
  refine callT_E (rshiftD_c (ha 2 (by decide)) (ha 3 (by decide)) hn hn') rfl ?_
  repeat (refine need_intro (by decide) ?_)
  refine callT_E (rshiftD_c (ha 4 (by decide)) (ha 5 (by decide)) hn hn') rfl ?_
  repeat (first | refine branch_true ?_ | refine branch_false ?_ | refine branch_f' (bne_self_eq_false _) ?_ | refine branch_t' (beq_self_eq_true _) ?_ | refine branch_t' (decide_eq_true rfl) ?_)
  show Eqv _ _
  exact .up (.up (.refl _))
theorem rscale_c {a : Nat → Int} (ha : WV a) {k0 k1 : Int} (h0 : W16 k0) (h1 : W16 k1) : callP Try.prog 38 [vecA a, D2 k0 k1] (· = vecA (dv (scaleF a (valD k0 k1)))) := by
  refine callE_def env (fn := Try.f38) rfl (by decide) rfl ?_
  refine draw_intro [0, 1, 2, 3, 4, 5, 6, 7, 8, 9, 10, 11, 12, 13] (by decide +kernel) ?_
  repeat (refine need_intro (by decide) ?_)
  refine ⟨_, ⟨rmulD_c (ha 0 (by decide)) (ha 1 (by decide)) h0 h1, rfl⟩, ?_⟩
  repeat (refine need_intro (by decide) ?_)
  refine ⟨_, ⟨rmulD_c (ha 2 (by decide)) (ha 3 (by decide)) h0 h1, rfl⟩, ?_⟩
  repeat (refine need_intro (by decide) ?_)
  refine ⟨_, ⟨rmulD_c (ha 4 (by decide)) (ha 5 (by decide)) h0 h1, rfl⟩, ?_⟩
  show Eqv _ _
  exact .up (.up (.refl _))
end Go.Proofs
