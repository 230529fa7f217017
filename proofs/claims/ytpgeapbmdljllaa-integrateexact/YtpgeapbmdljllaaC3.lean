/- Chapter 14, part a: dyadic numbers; trailing zeros; zero, canonical. -/
import Derived.Test.YtpgeapbmdljllaaC2
import Derived.Test.YtpgeapbmdljllaaE5
set_option linter.unusedVariables false
set_option linter.unusedSimpArgs false
/-! Da. -/
namespace Go.Proofs.N13
open Go.E
set_option maxRecDepth 8000

/-- The number of zero bits at the end. -/
def tz (n : Nat) : Nat := if h : n = 0 then 0 else if n % 2 = 1 then 0 else tz (n / 2) + 1
theorem tz_odd {n : Nat} (h : n % 2 = 1) : tz n = 0 := by
  rw [tz]; split <;> simp [h]
theorem tz_even {n : Nat} (h0 : n ≠ 0) (h : n % 2 = 0) : tz n = tz (n / 2) + 1 := by
  rw [tz, dif_neg h0, if_neg (by omega)]
theorem tz_zero : tz 0 = 0 := by rw [tz, dif_pos rfl]
theorem tz_spec (n : Nat) : n ≠ 0 → n = 2 ^ tz n * (n / 2 ^ tz n) ∧ n / 2 ^ tz n % 2 = 1 := by
  induction n using Nat.strongRecOn with
  | _ n ih =>
    intro h0
    by_cases h : n % 2 = 1
    · rw [tz_odd h, Nat.pow_zero, Nat.div_one, Nat.one_mul]; exact ⟨rfl, h⟩
    · have h1 : n % 2 = 0 := by omega
      obtain ⟨e1, e2⟩ := ih (n / 2) (by omega) (by omega)
      rw [tz_even h0 h1, Nat.pow_succ, Nat.mul_comm _ 2, ← Nat.div_div_eq_div_mul]
      refine ⟨?_, e2⟩
      rw [Nat.mul_assoc, ← e1]; omega
theorem tz_unique {n q k : Nat} (hq : q % 2 = 1) (h : n = 2 ^ k * q) : tz n = k ∧ n / 2 ^ tz n = q := by
  have : ∀ k n, n = 2 ^ k * q → tz n = k := by
    intro k
    induction k with
    | zero => rintro n rfl; rw [Nat.pow_zero, Nat.one_mul]; exact tz_odd hq
    | succ k ih =>
      rintro n rfl
      have hp : 0 < 2 ^ k * q := Nat.mul_pos (Nat.two_pow_pos k) (by omega)
      have e : 2 ^ (k + 1) * q = 2 * (2 ^ k * q) := by rw [Nat.pow_succ, Nat.mul_comm _ 2, Nat.mul_assoc]
      rw [tz_even (by omega) (by omega), e, Nat.mul_div_cancel_left _ (by decide), ih _ rfl]
  have h1 := this k n h
  rw [h1]
  refine ⟨rfl, ?_⟩
  rw [h, Nat.mul_div_cancel_left _ (Nat.two_pow_pos k)]
theorem tz_bit {n z : Nat} (h0 : n ≠ 0) (hz : z ≤ tz n) : (n / 2 ^ z % 2 = 0 ↔ z < tz n) := by
  obtain ⟨e1, e2⟩ := tz_spec n h0
  constructor
  · intro h
    rcases Nat.lt_or_ge z (tz n) with h1 | h1
    · exact h1
    · have : z = tz n := by omega
      subst this; omega
  · intro h
    obtain ⟨d, hd⟩ : ∃ d, tz n = z + (d + 1) := ⟨tz n - z - 1, by omega⟩
    rw [hd] at e1
    have : n / 2 ^ z = 2 ^ (d + 1) * (n / 2 ^ (z + (d + 1))) := by
      conv => lhs; rw [e1]
      rw [Nat.pow_add, Nat.mul_assoc, Nat.mul_div_cancel_left _ (Nat.two_pow_pos z)]
    rw [this, Nat.pow_succ, Nat.mul_comm _ 2, Nat.mul_assoc]
    exact Nat.mul_mod_right 2 _
theorem bitLen_div_pow (n z : Nat) (h : z ≤ bitLen n) : bitLen (n / 2 ^ z) + z = bitLen n := by
  by_cases h1 : z = bitLen n
  · subst h1
    have := bitLen_le.1 (Nat.le_refl (bitLen n))
    rw [Nat.div_eq_of_lt this, bitLen_zero, Nat.zero_add]
  · have hz : z < bitLen n := by omega
    have hn : ¬ n < 2 ^ z := fun c => by have := bitLen_le.2 c; omega
    have hq : n / 2 ^ z ≠ 0 := by
      intro c
      rcases Nat.div_eq_zero_iff.1 c with c | c
      · exact absurd c (Nat.pos_iff_ne_zero.1 (Nat.two_pow_pos z))
      · exact hn c
    have := bitLen_add (m := z) (lo := n % 2 ^ z) (t := n / 2 ^ z) (Nat.mod_lt _ (Nat.two_pow_pos z)) hq
    rw [Nat.mod_add_div] at this
    omega
theorem tz_lt {n : Nat} (h0 : n ≠ 0) : tz n < bitLen n := by
  obtain ⟨e1, e2⟩ := tz_spec n h0
  have h1 : n / 2 ^ tz n ≠ 0 := by omega
  have := bitLen_mul (k := tz n) h1
  rw [← e1] at this
  have h2 := bitLen_pos h1
  omega
theorem bitLen_odd {n : Nat} (h0 : n ≠ 0) : bitLen (n / 2 ^ tz n) + tz n = bitLen n := bitLen_div_pow n _ (Nat.le_of_lt (tz_lt h0))

/-- An exact number: m * 2^e; negative. -/
structure Dy where
  neg : Bool
  m : Nat
  e : Int
deriving DecidableEq
def Dy.zero : Dy := ⟨false, 0, 0⟩
/-- The canonical form. -/
def canonD (neg : Bool) (m : Nat) (e : Int) : Dy := if m = 0 then .zero else ⟨neg, m / 2 ^ tz m, e + tz m⟩
def Dy.Canon (x : Dy) : Prop := x = .zero ∨ x.m % 2 = 1
theorem canonD_canon (neg : Bool) (m : Nat) (e : Int) : (canonD neg m e).Canon := by
  unfold canonD
  split
  · exact .inl rfl
  · exact .inr (tz_spec m (by assumption)).2
theorem canonD_self {x : Dy} (h : x.Canon) : canonD x.neg x.m x.e = x := by
  rcases h with rfl | h
  · rfl
  · rw [canonD, if_neg (by omega), tz_odd h]; simp
/-- Within the limits. -/
def Dy.within (x : Dy) : Bool := decide (bitLen x.m ≤ 8192 ∧ -8192 ≤ x.e ∧ x.e ≤ 8192)
abbrev dyL (neg : Bool) (l : List Int) (e : Int) : AVal := .agg [.bool neg, ints .u32 l, .int .i64 e]
abbrev dyA (x : Dy) : AVal := dyL x.neg (limbsOf x.m) x.e
abbrev dyZ : AVal := .agg [.bool false, .nilslice, .int .i64 0]
theorem eqv_dyZ : Eqv1 dyZ (dyA .zero) := by
  refine .agg (.cons (.refl _) (.cons ?_ (.cons (.refl _) .nil)))
  show Eqv0 _ (ints .u32 (limbsOf 0))
  rw [limbsOf_zero]
  exact .nil _ _
theorem small_nat {n : Nat} (h : bitLen n ≤ 1000000) : Small (limbsOf n) := by
  have := limbsOf_len n (bitLen n) (Nat.lt_of_lt_of_le (bitLen_le.1 (Nat.le_refl _)) (Nat.pow_le_pow_right (by decide) (by omega)))
  unfold Small; omega
theorem limited_fits {n : Nat} (h : bitLen n ≤ 32768) : limited n = .tuple [ints .u32 (limbsOf n), .int .i64 0] := by
  rw [limited, if_neg (by omega)]
theorem limbsOf_nil_iff (n : Nat) : limbsOf n = [] ↔ n = 0 := ⟨fun h => by have := val_limbsOf n; rw [h] at this; simpa [val] using this.symm, fun h => by subst h; exact limbsOf_zero⟩
theorem limbsOf_length0 (n : Nat) : (limbsOf n).length = 0 ↔ n = 0 := by rw [List.length_eq_zero_iff, limbsOf_nil_iff]

theorem zero_c (x : Nat) (e : Int) : callP Try.prog 123 [.agg [ints .u32 (limbsOf x), .int .i64 e]] (· = .bool (decide (x = 0))) := by
  refine callE_def env (fn := Try.f123) rfl (by decide) rfl ?_
  have : decide (((limbsOf x).length : Int) = 0) = decide (x = 0) := by
    have := limbsOf_length0 x
    simp only [decide_eq_decide]
    omega
  rw [← this]
  show Eqv _ _
  exact .up (.up (.refl _))

/-- One bit of a number, as the program reads it. -/
theorem bit_read {l : List Int} (la : Limbs l) {n z : Nat} (hv : val l = n) :
    IntKind.u32.wrap ((BitVec.ofInt IntKind.u32.bits ((l.getD (z / 32) 0).fdiv (2 ^ (min (z % 32) IntKind.u32.bits))) &&& BitVec.ofInt IntKind.u32.bits 1).toNat : Int) = ((n / 2 ^ z % 2 : Nat) : Int) := by
  subst hv
  have xa := limb_bound la (z / 32)
  obtain ⟨x, hx⟩ : ∃ x : Nat, l.getD (z / 32) 0 = x := ⟨(l.getD (z / 32) 0).toNat, by omega⟩
  have hb := bit_at la z
  rw [hx] at xa hb ⊢
  rw [shr_nat .u32 (by show z % 32 ≤ 32; omega), and_one32 (Nat.lt_of_le_of_lt (Nat.div_le_self _ _) (by omega))]
  rw [← hb, Int.toNat_natCast]
end Go.Proofs.N13
/-! Db. -/
namespace Go.Proofs.N13
open Go.E
set_option maxRecDepth 8000

theorem idiv32 (z : Nat) (h : z < 4611686018427387904) : IntKind.i64.wrap ((z : Int).tdiv 32) = ((z / 32 : Nat) : Int) := by
  rw [Int.tdiv_eq_ediv_of_nonneg (by omega), wi (by omega) (by omega)]; omega
theorem imod32 (z : Nat) (h : z < 4611686018427387904) : (z : Int).tmod 32 = ((z % 32 : Nat) : Int) := by
  rw [Int.tmod_eq_emod_of_nonneg (by omega)]; omega

set_option maxHeartbeats 1000000 in
theorem canonical_c (neg : Bool) {m : Nat} {e : Int} (hm : bitLen m ≤ 32768) (he : -1000000 ≤ e ∧ e ≤ 1000000) : callP Try.prog 98 [.bool neg, ints .u32 (limbsOf m), .int .i64 e] (· = dyA (canonD neg m e)) := by
  have hs := small_nat (n := m) (by omega)
  have hl := limbs_limbsOf m
  refine callE_def env (fn := Try.f98) rfl (by decide) rfl ?_
  have hc := norm_c hs.short hl
  rw [val_limbsOf] at hc
  refine callT_E hc rfl ?_
  apply branch_intro <;> intro h
  · have h0 : m = 0 := (limbsOf_length0 m).1 (by have := eq_of_beq h; omega)
    show Eqv _ _
    rw [canonD, if_pos h0]
    exact .up eqv_dyZ
  have h0 : m ≠ 0 := fun c => by subst c; rw [limbsOf_zero] at h; simp at h
  have htz := tz_lt h0
  refine loop_inv (keep 39 [0, 1, 2, 6, 7]) (fun z : Nat => slots 39 [(0, .bool neg), (1, ints .u32 (limbsOf m)), (2, .int .i64 e), (6, .ptr ⟨0, 0, 0⟩), (7, .int .i64 z)]) (fun _ => [.cells [.bool false, .nilslice, .int .i64 0]])
    (fun z => z ≤ tz m) (fun z => tz m - z) 0 (Nat.zero_le _) rfl rfl ?_
  intro z hz
  have hb := bit_read hl (n := m) (z := z) (val_limbsOf m)
  have hlen : z / 32 < (limbsOf m).length := by
    rcases Nat.lt_or_ge (z / 32) (limbsOf m).length with h | h
    · exact h
    · have := val_lt hl
      rw [val_limbsOf] at this
      have := bitLen_le.2 this
      omega
  have q1 := idiv32 z (by omega)
  have q2 := imod32 z (by omega)
  refine need_intro (by decide) ?_
  apply need_intro
  · rw [q1]; omega
  refine need_intro (by decide) ?_
  apply need_intro
  · rw [q2]; omega
  have hb' : ∀ a b : Int, a = ((z / 32 : Nat) : Int) → b = ((z % 32 : Nat) : Int) → IntKind.u32.wrap ((BitVec.ofInt IntKind.u32.bits (((limbsOf m).getD a.toNat 0).fdiv (2 ^ (min b.toNat IntKind.u32.bits))) &&& BitVec.ofInt IntKind.u32.bits 1).toNat : Int) = ((m / 2 ^ z % 2 : Nat) : Int) := by
    rintro _ _ rfl rfl
    exact hb
  apply branch_intro <;> intro h2
  · have h3 := eq_of_beq h2
    rw [hb' _ _ q1 q2] at h3
    have h4 : z < tz m := (tz_bit h0 hz).1 (by omega)
    refine ⟨z + 1, h4, by omega, ?_, rfl⟩
    show [_, _, _, _, _, _, _, _, _, _, _, _, _, _, _, _, _, _, _, _, _, _, _, _, _, _, _, _, _, _, _, _, _, _, _, _, _, _, _] = _
    rw [wi (x := (z : Int) + 1) (by omega) (by omega)]
    rfl
  · have h3 : ¬ z < tz m := fun c => by
      have h4 := (tz_bit h0 hz).2 c
      have h5 := hb' _ _ q1 q2
      rw [h4] at h5
      exact absurd (beq_iff_eq.2 h5) (by rw [Bool.not_eq_true]; exact h2)
    obtain rfl : z = tz m := by omega
    have hd := shr_c (a := limbsOf m) (n := (tz m : Int)) hs hl (by omega)
    have hr : shrV (val (limbsOf m)) (tz m : Int) = .tuple [ints .u32 (limbsOf (m / 2 ^ tz m)), .int .i64 0] := by
      rw [shrV, if_neg (by omega), val_limbsOf, Int.toNat_natCast, limited_fits]
      have := bitLen_odd h0
      omega
    rw [hr] at hd
    refine callT_E hd rfl ?_
    have hv : dyA (canonD neg m e) = .agg [.bool neg, ints .u32 (limbsOf (m / 2 ^ tz m)), .int .i64 (IntKind.i64.wrap (e + tz m))] := by
      rw [canonD, if_neg h0, wi (by omega) (by omega)]
    show Eqv _ _
    rw [hv]
    exact .up (.up (.refl _))
end Go.Proofs.N13
/-! Dc. -/
namespace Go.Proofs.N13
open Go.E
set_option maxRecDepth 8000

theorem shr_nat_c {l : List Int} (hs : Small l) (hl : Limbs l) {m z : Nat} (hv : val l = m) (hz : z ≤ 1000000000) (hb : bitLen (m / 2 ^ z) ≤ 32768) : callP Try.prog 121 [ints .u32 l, .int .i64 z] (· = .tuple [ints .u32 (limbsOf (m / 2 ^ z)), .int .i64 0]) := by
  have hd := shr_c (a := l) (n := (z : Int)) hs hl (by omega)
  rwa [shrV, if_neg (by omega), hv, Int.toNat_natCast, limited_fits hb] at hd
theorem shorter_c {l : List Int} (hs : Small l) (hl : Limbs l) {m z : Nat} (hv : val l = m) (hz : z ≤ 1000000000) (hb : bitLen (m / 2 ^ z) ≤ 32768) : callP Try.prog 130 [ints .u32 l, .int .i64 z] (· = ints .u32 (limbsOf (m / 2 ^ z))) := by
  refine callE_def env (fn := Try.f130) rfl (by decide) rfl ?_
  refine callT_E (shr_nat_c hs hl hv hz hb) rfl ?_
  show Eqv _ _
  exact .up (.up (.refl _))

/-- A result: within the limits, or ErrLimit. -/
def resV (x : Dy) : AVal := if x.within = true then .tuple [dyA x, .int .i64 0] else .tuple [dyA .zero, .int .i64 4]
theorem resV_in {x : Dy} (h : x.within = true) : resV x = .tuple [dyA x, .int .i64 0] := by rw [resV, if_pos h]
theorem resV_out {x : Dy} (h : ¬ x.within = true) : resV x = .tuple [dyA .zero, .int .i64 4] := by rw [resV, if_neg h]
theorem zero_within : Dy.zero.within = true := by rw [Dy.within]; simp [Dy.zero, bitLen_zero]
theorem resV_closed (x : Dy) : (resV x).closed2 = true := by unfold resV; split <;> rfl
theorem eqv_zero (e : Int) : Eqv (.tuple [dyZ, .int .i64 e]) (.tuple [dyA .zero, .int .i64 e]) := .tuple (.cons eqv_dyZ (.cons (.up (.refl _)) .nil))

set_option maxHeartbeats 2000000 in
theorem in_c (neg : Bool) {l : List Int} {m : Nat} {e : Int} (hs : l.length ≤ 1000) (hl : Limbs l) (hv : val l = m) (he : -9223372036854775808 ≤ e ∧ e ≤ 9223372036854775807) : callP Try.prog 116 [dyL neg l e] (· = resV (canonD neg m e)) := by
  have hsm : Small l := by unfold Small; omega
  have hbl : bitLen m ≤ 32000 := by
    have := val_lt hl
    rw [hv] at this
    have := bitLen_le.2 this
    omega
  refine callE_def env (fn := Try.f116) rfl (by decide) (resV_closed _) ?_
  have hc := bits_c hsm.short hl
  rw [hv] at hc
  refine callT_E hc rfl ?_
  apply branch_intro <;> intro h
  · have hb0 : bitLen m = 0 := by have := eq_of_beq h; omega
    have h0 : m = 0 := by
      rcases Nat.eq_zero_or_pos m with h | h
      · exact h
      · rw [bitLen_pos (by omega)] at hb0; omega
    show Eqv _ _
    rw [canonD, if_pos h0, resV_in zero_within]
    exact eqv_zero 0
  have h0 : m ≠ 0 := fun c => by subst c; rw [bitLen_zero] at h; simp at h
  have htz := tz_lt h0
  have hod := bitLen_odd h0
  refine loop_inv (keep 55 [1, 2, 4, 5]) (fun z : Nat => slots 55 [(1, .ptr ⟨0, 0, 0⟩), (2, .ptr ⟨1, 0, 0⟩), (4, .int .i64 (bitLen m)), (5, .int .i64 z)]) (fun _ => [.cells [.bool neg, ints .u32 l, .int .i64 e], .cells [.bool false, .nilslice, .int .i64 0]])
    (fun z => z ≤ tz m) (fun z => tz m - z) 0 (Nat.zero_le _) rfl rfl ?_
  intro z hz
  have hb := bit_read hl (n := m) (z := z) hv
  have hlen : z / 32 < l.length := by
    rcases Nat.lt_or_ge (z / 32) l.length with h | h
    · exact h
    · have := val_lt hl
      rw [hv] at this
      have := bitLen_le.2 this
      omega
  have q1 := idiv32 z (by omega)
  have q2 := imod32 z (by omega)
  refine need_intro (by decide) ?_
  apply need_intro
  · rw [q1]; omega
  refine need_intro (by decide) ?_
  apply need_intro
  · rw [q2]; omega
  have hb' : ∀ a b : Int, a = ((z / 32 : Nat) : Int) → b = ((z % 32 : Nat) : Int) → IntKind.u32.wrap ((BitVec.ofInt IntKind.u32.bits ((l.getD a.toNat 0).fdiv (2 ^ (min b.toNat IntKind.u32.bits))) &&& BitVec.ofInt IntKind.u32.bits 1).toNat : Int) = ((m / 2 ^ z % 2 : Nat) : Int) := by
    rintro _ _ rfl rfl
    exact hb
  apply branch_intro <;> intro h2
  · have h3 := eq_of_beq h2
    rw [hb' _ _ q1 q2] at h3
    have h4 : z < tz m := (tz_bit h0 hz).1 (by omega)
    refine ⟨z + 1, h4, by omega, ?_, rfl⟩
    show [_, _, _, _, _, _, _, _, _, _, _, _, _, _, _, _, _, _, _, _, _, _, _, _, _, _, _, _, _, _, _, _, _, _, _, _, _, _, _, _, _, _, _, _, _, _, _, _, _, _, _, _, _, _, _] = _
    rw [wi (x := (z : Int) + 1) (by omega) (by omega)]
    rfl
  · have h3 : ¬ z < tz m := fun c => by
      have h4 := (tz_bit h0 hz).2 c
      have h5 := hb' _ _ q1 q2
      rw [h4] at h5
      exact absurd (beq_iff_eq.2 h5) (by rw [Bool.not_eq_true]; exact h2)
    obtain rfl : z = tz m := by omega
    have w1 : IntKind.i64.wrap ((bitLen m : Int) - (tz m : Int)) = (bitLen m : Int) - tz m := wi (by omega) (by omega)
    have w2 : IntKind.i64.wrap ((8192 : Int) - (tz m : Int)) = 8192 - tz m := wi (by omega) (by omega)
    have w3 : IntKind.i64.wrap (-8192 - (tz m : Int)) = -8192 - tz m := wi (by omega) (by omega)
    have hcan : canonD neg m e = ⟨neg, m / 2 ^ tz m, e + tz m⟩ := by rw [canonD, if_neg h0]
    have hout : (8192 < bitLen (m / 2 ^ tz m) ∨ 8192 < e + tz m ∨ e + tz m < -8192) → retE (resV (canonD neg m e)) (.tuple [dyZ, .int .i64 4]) [] := by
      intro ho
      show Eqv _ _
      rw [resV_out]
      · exact eqv_zero 4
      · rw [hcan, Dy.within]
        simp only [decide_eq_true_eq]
        omega
    apply branch_intro <;> intro h4
    · have h5 := of_decide_eq_true h4
      rw [w1] at h5
      repeat (first | refine branch_true ?_ | refine branch_false ?_ | refine branch_f' (bne_self_eq_false _) ?_ | refine branch_t' (beq_self_eq_true _) ?_ | refine branch_t' (decide_eq_true rfl) ?_)
      exact hout (.inl (by omega))
    have h5 := of_decide_eq_false h4
    rw [w1] at h5
    repeat (first | refine branch_true ?_ | refine branch_false ?_ | refine branch_f' (bne_self_eq_false _) ?_ | refine branch_t' (beq_self_eq_true _) ?_ | refine branch_t' (decide_eq_true rfl) ?_)
    apply branch_intro <;> intro h6
    · have h7 := of_decide_eq_true h6
      rw [w2] at h7
      repeat (first | refine branch_true ?_ | refine branch_false ?_ | refine branch_f' (bne_self_eq_false _) ?_ | refine branch_t' (beq_self_eq_true _) ?_ | refine branch_t' (decide_eq_true rfl) ?_)
      exact hout (.inr (.inl (by omega)))
    have h7 := of_decide_eq_false h6
    rw [w2] at h7
    repeat (first | refine branch_true ?_ | refine branch_false ?_ | refine branch_f' (bne_self_eq_false _) ?_ | refine branch_t' (beq_self_eq_true _) ?_ | refine branch_t' (decide_eq_true rfl) ?_)
    apply branch_intro <;> intro h8
    · have h9 := of_decide_eq_true h8
      rw [w3] at h9
      repeat (first | refine branch_true ?_ | refine branch_false ?_ | refine branch_f' (bne_self_eq_false _) ?_ | refine branch_t' (beq_self_eq_true _) ?_ | refine branch_t' (decide_eq_true rfl) ?_)
      exact hout (.inr (.inr (by omega)))
    have h9 := of_decide_eq_false h8
    rw [w3] at h9
    repeat (first | refine branch_true ?_ | refine branch_false ?_ | refine branch_f' (bne_self_eq_false _) ?_ | refine branch_t' (beq_self_eq_true _) ?_ | refine branch_t' (decide_eq_true rfl) ?_)
    refine draw_tree (picks [0, 1, 2, 3, 4, 5, 6, 7, 8, 9, 10, 11, 12] .done) (by decide +kernel) ?_
    repeat (first | refine branch_true ?_ | refine branch_false ?_ | refine branch_f' (bne_self_eq_false _) ?_ | refine branch_t' (beq_self_eq_true _) ?_ | refine branch_t' (decide_eq_true rfl) ?_)
    refine ⟨_, ⟨shorter_c hsm hl hv (by omega) (by omega), rfl⟩, ?_⟩
    have w4 : IntKind.i64.wrap (e + (tz m : Int)) = e + tz m := wi (by omega) (by omega)
    have hk := canonical_c neg (m := m / 2 ^ tz m) (e := IntKind.i64.wrap (e + (tz m : Int))) (by omega) (by rw [w4]; omega)
    refine ⟨_, ⟨hk, rfl⟩, ?_⟩
    have hself := canonD_self (canonD_canon neg m e)
    rw [hcan] at hself
    simp only at hself
    rw [w4, hself, hcan]
    show Eqv _ _
    rw [resV_in]
    · exact .tuple (.cons (.up (.refl _)) (.cons (.up (.refl _)) .nil))
    · rw [Dy.within]; simp only [decide_eq_true_eq]; omega
end Go.Proofs.N13
/-! Dd. -/
namespace Go.Proofs.N13
open Go.E
set_option maxRecDepth 8000

theorem fit_nat {x : Dy} (h : x.within = true) : bitLen x.m ≤ 8192 ∧ -8192 ≤ x.e ∧ x.e ≤ 8192 := of_decide_eq_true h
theorem within_c (x : Dy) (hx : bitLen x.m ≤ 1000000) : callP Try.prog 122 [dyA x] (· = .bool x.within) := by
  have hc := bits_c (l := limbsOf x.m) (small_nat hx).short (limbs_limbsOf _)
  rw [val_limbsOf] at hc
  refine callE_def env (fn := Try.f122) rfl (by decide) rfl ?_
  refine callT_E hc rfl ?_
  apply branch_intro <;> intro h1
  · have h1 := of_decide_eq_true h1
    repeat (first | refine branch_true ?_ | refine branch_false ?_ | refine branch_f' (bne_self_eq_false _) ?_ | refine branch_t' (beq_self_eq_true _) ?_ | refine branch_t' (decide_eq_true rfl) ?_)
    apply branch_intro <;> intro h2
    · have h2 := of_decide_eq_true h2
      repeat (first | refine branch_true ?_ | refine branch_false ?_ | refine branch_f' (bne_self_eq_false _) ?_ | refine branch_t' (beq_self_eq_true _) ?_ | refine branch_t' (decide_eq_true rfl) ?_)
      have e : x.within = decide (x.e ≤ 8192) := by
        unfold Dy.within
        simp only [decide_eq_decide]
        omega
      rw [e]
      show Eqv _ _
      exact .up (.up (.refl _))
    · have h2 := of_decide_eq_false h2
      repeat (first | refine branch_true ?_ | refine branch_false ?_ | refine branch_f' (bne_self_eq_false _) ?_ | refine branch_t' (beq_self_eq_true _) ?_ | refine branch_t' (decide_eq_true rfl) ?_)
      have e : x.within = false := by
        unfold Dy.within
        simp only [decide_eq_false_iff_not]
        omega
      rw [e]
      show Eqv _ _
      exact .up (.up (.refl _))
  · have h1 := of_decide_eq_false h1
    repeat (first | refine branch_true ?_ | refine branch_false ?_ | refine branch_f' (bne_self_eq_false _) ?_ | refine branch_t' (beq_self_eq_true _) ?_ | refine branch_t' (decide_eq_true rfl) ?_)
    have e : x.within = false := by
      unfold Dy.within
      simp only [decide_eq_false_iff_not]
      omega
    rw [e]
    show Eqv _ _
    exact .up (.up (.refl _))
theorem out_c (x : Dy) (hx : bitLen x.m ≤ 1000000) : callP Try.prog 99 [dyA x] (· = resV x) := by
  refine callE_def env (fn := Try.f99) rfl (by decide) (resV_closed _) ?_
  refine callT_E (within_c x hx) rfl ?_
  apply branch_intro <;> intro h
  · show Eqv _ _
    rw [resV_out (by intro c; rw [c] at h; cases h)]
    exact eqv_zero 4
  · show Eqv _ _
    rw [resV_in (by revert h; cases x.within <;> simp)]
    exact .tuple (.cons (.up (.refl _)) (.cons (.up (.refl _)) .nil))
theorem at_c (x : Nat) {e d : Int} {k : Nat} (hx : bitLen x ≤ 8192) (he : -1000000 ≤ e ∧ e ≤ 1000000) (hd : e - d = k) (hk : k ≤ 20000) : callP Try.prog 125 [.agg [ints .u32 (limbsOf x), .int .i64 e], .int .i64 d] (· = ints .u32 (limbsOf (2 ^ k * x))) := by
  refine callE_def env (fn := Try.f125) rfl (by decide) rfl ?_
  refine callT_E (zero_c x e) rfl ?_
  apply branch_intro <;> intro h
  · have h0 : x = 0 := of_decide_eq_true h
    subst h0
    show Eqv _ _
    rw [Nat.mul_zero, limbsOf_zero]
    exact .up (.up (.nil _ _))
  have w : IntKind.i64.wrap (e - d) = (k : Int) := by rw [wi (by omega) (by omega), hd]
  have hs := small_nat (n := x) (by omega)
  have hc := shl_c (a := limbsOf x) (n := IntKind.i64.wrap (e - d)) hs (limbs_limbsOf x) (by rw [w]; omega)
  have := bitLen_two_mul k x
  have hv : shlV (val (limbsOf x)) (IntKind.i64.wrap (e - d)) = .tuple [ints .u32 (limbsOf (2 ^ k * x)), .int .i64 0] := by
    rw [w, shlV, if_neg (by omega), Int.toNat_natCast, val_limbsOf, limited_fits (by omega)]
  rw [hv] at hc
  refine callT_E hc rfl ?_
  show Eqv _ _
  exact .up (.up (.refl _))
theorem negated_c (x : Dy) : callP Try.prog 101 [dyA x] (· = dyA ⟨!x.neg && decide (x.m ≠ 0), x.m, x.e⟩) := by
  refine callE_def env (fn := Try.f101) rfl (by decide) rfl ?_
  obtain ⟨n, m, e⟩ := x
  cases n
  · repeat (first | refine branch_true ?_ | refine branch_false ?_ | refine branch_f' (bne_self_eq_false _) ?_ | refine branch_t' (beq_self_eq_true _) ?_ | refine branch_t' (decide_eq_true rfl) ?_)
    refine callT_E (zero_c m e) rfl ?_
    repeat (first | refine branch_true ?_ | refine branch_false ?_ | refine branch_f' (bne_self_eq_false _) ?_ | refine branch_t' (beq_self_eq_true _) ?_ | refine branch_t' (decide_eq_true rfl) ?_)
    show Eqv _ _
    by_cases h0 : m = 0
    · rw [decide_eq_true h0, decide_eq_false (p := m ≠ 0) (by simpa using h0)]
      exact .up (.up (.refl _))
    · rw [decide_eq_false h0, decide_eq_true (p := m ≠ 0) h0]
      exact .up (.up (.refl _))
  · repeat (first | refine branch_true ?_ | refine branch_false ?_ | refine branch_f' (bne_self_eq_false _) ?_ | refine branch_t' (beq_self_eq_true _) ?_ | refine branch_t' (decide_eq_true rfl) ?_)
    show Eqv _ _
    exact .up (.up (.refl _))

/-- Two arguments. -/
def twoV (x y : Dy) : AVal := if x.within = true then if y.within = true then .tuple [dyA x, dyA y, .int .i64 0] else .tuple [dyA x, dyA .zero, .int .i64 4] else .tuple [dyA .zero, dyA .zero, .int .i64 4]
theorem twoV_closed (x y : Dy) : (twoV x y).closed2 = true := by unfold twoV; split; split; all_goals rfl
end Go.Proofs.N13
/-! De. -/
namespace Go.Proofs.N13
open Go.E
set_option maxRecDepth 8000

/-- What an argument is. -/
structure ArgD (l : List Int) (m : Nat) (e : Int) : Prop where
  len : l.length ≤ 1000
  limbs : Limbs l
  val : val l = m
  exp : -9223372036854775808 ≤ e ∧ e ≤ 9223372036854775807
theorem ArgD.bits {l : List Int} {m : Nat} {e : Int} (h : ArgD l m e) : bitLen m ≤ 32000 := by
  have h1 := val_lt h.limbs
  rw [h.val] at h1
  have := bitLen_le.2 h1
  have := h.len
  omega
theorem limbsOf_len_le {n k : Nat} (h : bitLen n ≤ 32 * k) : (limbsOf n).length ≤ k := limbsOf_len n k (bitLen_le.1 h)
theorem ArgD.of {x : Dy} (h : x.within = true) : ArgD (limbsOf x.m) x.m x.e := by
  obtain ⟨h1, h2, h3⟩ := fit_nat h
  have := limbsOf_len_le (n := x.m) (k := 256) (by omega)
  exact ⟨by omega, limbs_limbsOf _, val_limbsOf _, by omega⟩
theorem in_a (neg : Bool) {l : List Int} {m : Nat} {e : Int} (h : ArgD l m e) : callP Try.prog 116 [dyL neg l e] (· = resV (canonD neg m e)) := in_c neg h.len h.limbs h.val h.exp

set_option maxHeartbeats 2000000 in
theorem two_c (n1 n2 : Bool) {l1 l2 : List Int} {m1 m2 : Nat} {e1 e2 : Int} (h1 : ArgD l1 m1 e1) (h2 : ArgD l2 m2 e2) : callP Try.prog 96 [dyL n1 l1 e1, dyL n2 l2 e2] (· = twoV (canonD n1 m1 e1) (canonD n2 m2 e2)) := by
  have c1 := in_a n1 h1
  have c2 := in_a n2 h2
  generalize canonD n1 m1 e1 = x at *
  generalize canonD n2 m2 e2 = y at *
  refine callE_def env (fn := Try.f96) rfl (by decide) (twoV_closed _ _) ?_
  by_cases hx : x.within = true
  · rw [resV_in hx] at c1
    refine callT_E c1 rfl ?_
    repeat (first | refine branch_true ?_ | refine branch_false ?_ | refine branch_f' (bne_self_eq_false _) ?_ | refine branch_t' (beq_self_eq_true _) ?_ | refine branch_t' (decide_eq_true rfl) ?_)
    by_cases hy : y.within = true
    · rw [resV_in hy] at c2
      refine callT_E c2 rfl ?_
      repeat (first | refine branch_true ?_ | refine branch_false ?_ | refine branch_f' (bne_self_eq_false _) ?_ | refine branch_t' (beq_self_eq_true _) ?_ | refine branch_t' (decide_eq_true rfl) ?_)
      refine draw_tree (picks [0, 2] (.fork 1 3 (picks [3, 4, 5] .done) (picks [1, 4, 5] .done))) (by decide +kernel) ?_
      constructor <;>
      · show Eqv _ _
        rw [twoV, if_pos hx, if_pos hy]
        exact .up (.up (.refl _))
    · rw [resV_out hy] at c2
      refine callT_E c2 rfl ?_
      repeat (first | refine branch_true ?_ | refine branch_false ?_ | refine branch_f' (bne_self_eq_false _) ?_ | refine branch_t' (beq_self_eq_true _) ?_ | refine branch_t' (decide_eq_true rfl) ?_)
      refine draw_tree (picks [0, 2] (.fork 1 3 (picks [3, 4, 5] .done) (picks [1, 4, 5] .done))) (by decide +kernel) ?_
      constructor <;>
      · show Eqv _ _
        rw [twoV, if_pos hx, if_neg hy]
        exact .up (.up (.refl _))
  · rw [resV_out hx] at c1
    refine callT_E c1 rfl ?_
    repeat (first | refine branch_true ?_ | refine branch_false ?_ | refine branch_f' (bne_self_eq_false _) ?_ | refine branch_t' (beq_self_eq_true _) ?_ | refine branch_t' (decide_eq_true rfl) ?_)
    refine draw_tree (picks [0, 2] (.fork 1 3 (picks [3, 4, 5] .done) (picks [1, 4, 5] .done))) (by decide +kernel) ?_
    constructor <;>
    · show Eqv _ _
      rw [twoV, if_neg hx]
      exact .tuple (.cons (.up (.refl _)) (.cons eqv_dyZ (.cons (.up (.refl _)) .nil)))
end Go.Proofs.N13
/-! Df. -/
namespace Go.Proofs.N13
open Go.E
set_option maxRecDepth 8000

/-- The sum. -/
def plusD (x y : Dy) : Dy :=
  if x.m = 0 then y else if y.m = 0 then x else
    let e := if y.e < x.e then y.e else x.e
    let p := 2 ^ (x.e - e).toNat * x.m
    let q := 2 ^ (y.e - e).toNat * y.m
    if x.neg = y.neg then canonD x.neg (p + q) e else if p < q then canonD y.neg (q - p) e else canonD x.neg (p - q) e

/-- Numbers of the size that sums are made of. -/
def Dy.fit (x : Dy) : Prop := bitLen x.m ≤ 8192 ∧ -8192 ≤ x.e ∧ x.e ≤ 8192
theorem zero_eqv (x : Dy) (h : x.m = 0) (e : Int) : Eqv0 (ints .u32 (limbsOf 0)) (ints .u32 (limbsOf x.m)) := by rw [h]; exact .refl _

theorem bitLen_add_le {x y m : Nat} (hx : bitLen x ≤ m) (hy : bitLen y ≤ m) : bitLen (x + y) ≤ m + 1 := by
  have h1 := bitLen_le.1 hx
  have h2 := bitLen_le.1 hy
  refine bitLen_le.2 ?_
  rw [Nat.pow_succ]; omega
theorem add_nat {p q : Nat} (hp : bitLen p ≤ 32000) (hq : bitLen q ≤ 32000) : callP Try.prog 126 [ints .u32 (limbsOf p), ints .u32 (limbsOf q)] (· = .tuple [ints .u32 (limbsOf (p + q)), .int .i64 0]) := by
  have h := add_c (a := limbsOf p) (b := limbsOf q) (small_nat (by omega)) (small_nat (by omega)) (limbs_limbsOf _) (limbs_limbsOf _)
  have := bitLen_add_le hp hq
  rwa [val_limbsOf, val_limbsOf, limited_fits (by omega)] at h
theorem sub_nat {p q : Nat} (hp : bitLen p ≤ 32000) (hq : bitLen q ≤ 32000) (h : q ≤ p) : callP Try.prog 128 [ints .u32 (limbsOf p), ints .u32 (limbsOf q)] (· = .tuple [ints .u32 (limbsOf (p - q)), .int .i64 0]) := by
  have hc := sub_c (a := limbsOf p) (b := limbsOf q) (small_nat (by omega)) (small_nat (by omega)) (limbs_limbsOf _) (limbs_limbsOf _)
  have := bitLen_mono (show p - q ≤ p by omega)
  rwa [val_limbsOf, val_limbsOf, subV, if_neg (by omega), limited_fits (by omega)] at hc
theorem cmp_nat {p q : Nat} (hp : bitLen p ≤ 32000) (hq : bitLen q ≤ 32000) : callP Try.prog 127 [ints .u32 (limbsOf p), ints .u32 (limbsOf q)] (· = .int .i64 (cmpN p q)) := by
  have hc := cmp_c (a := limbsOf p) (b := limbsOf q) (small_nat (by omega)) (small_nat (by omega)) (limbs_limbsOf _) (limbs_limbsOf _)
  rwa [val_limbsOf, val_limbsOf] at hc
theorem aligned_c (x : Dy) {d : Int} {k : Nat} (hx : bitLen x.m ≤ 8192) (he : -1000000 ≤ x.e ∧ x.e ≤ 1000000) (hd : x.e - d = k) (hk : k ≤ 20000) : callP Try.prog 124 [dyA x, .roptr 1 1 (fun _ => [.int .i64 d]) 0 0] (· = ints .u32 (limbsOf (2 ^ k * x.m))) := by
  refine callE_def env (fn := Try.f124) rfl (by decide) rfl ?_
  refine callT_E (at_c x.m hx he hd hk) rfl ?_
  show Eqv _ _
  exact .up (.up (.refl _))

set_option maxHeartbeats 4000000 in
theorem plus_c (x y : Dy) (hx : x.fit) (hy : y.fit) : callP Try.prog 100 [dyA x, dyA y] (· = dyA (plusD x y)) := by
  obtain ⟨n1, m1, e1⟩ := x
  obtain ⟨n2, m2, e2⟩ := y
  obtain ⟨hx1, hx2, hx3⟩ := hx
  obtain ⟨hy1, hy2, hy3⟩ := hy
  simp only at hx1 hx2 hx3 hy1 hy2 hy3
  refine callE_def env (fn := Try.f100) rfl (by decide) rfl ?_
  refine callT_E (zero_c m1 e1) rfl ?_
  apply branch_intro <;> intro h1
  · have h1 := of_decide_eq_true h1
    show Eqv _ _
    rw [plusD, if_pos h1]
    exact .up (.up (.refl _))
  have h1 := of_decide_eq_false h1
  refine callT_E (zero_c m2 e2) rfl ?_
  apply branch_intro <;> intro h2
  · have h2 := of_decide_eq_true h2
    show Eqv _ _
    rw [plusD, if_neg h1, if_pos h2]
    exact .up (.up (.refl _))
  have h2 := of_decide_eq_false h2
  refine draw_box 3 (keep 72 [2, 3, 4, 5, 6]) rfl rfl (Nat.zero_le _) ?_
  refine draw_tree (picks [0, 1, 2, 3, 4, 5, 6, 7] .done) (by decide +kernel) ?_
  have hd : (if e2 < e1 then e2 else e1) ≤ e1 ∧ (if e2 < e1 then e2 else e1) ≤ e2 ∧ -8192 ≤ (if e2 < e1 then e2 else e1) ∧ (if e2 < e1 then e2 else e1) ≤ 8192 := by split <;> omega
  have hpl : plusD ⟨n1, m1, e1⟩ ⟨n2, m2, e2⟩ = (let e := if e2 < e1 then e2 else e1
    let p := 2 ^ (e1 - e).toNat * m1
    let q := 2 ^ (e2 - e).toNat * m2
    if n1 = n2 then canonD n1 (p + q) e else if p < q then canonD n2 (q - p) e else canonD n1 (p - q) e) := by
    rw [plusD, if_neg h1, if_neg h2]
  have cA := aligned_c ⟨n1, m1, e1⟩ (d := if e2 < e1 then e2 else e1) (k := (e1 - if e2 < e1 then e2 else e1).toNat) hx1 (by simp only; omega) (by simp only; omega) (by omega)
  have cB := aligned_c ⟨n2, m2, e2⟩ (d := if e2 < e1 then e2 else e1) (k := (e2 - if e2 < e1 then e2 else e1).toNat) hy1 (by simp only; omega) (by simp only; omega) (by omega)
  have hp := bitLen_two_mul (e1 - if e2 < e1 then e2 else e1).toNat m1
  have hq := bitLen_two_mul (e2 - if e2 < e1 then e2 else e1).toNat m2
  have hp : bitLen (2 ^ (e1 - if e2 < e1 then e2 else e1).toNat * m1) ≤ 30000 := by omega
  have hq : bitLen (2 ^ (e2 - if e2 < e1 then e2 else e1).toNat * m2) ≤ 30000 := by omega
  simp only at hpl cA cB
  rw [hpl]
  clear hpl
  generalize 2 ^ (e1 - if e2 < e1 then e2 else e1).toNat * m1 = p at *
  generalize 2 ^ (e2 - if e2 < e1 then e2 else e1).toNat * m2 = q at *
  have hs := bitLen_add_le hp hq
  refine ⟨_, ⟨cA, rfl⟩, ?_⟩
  refine ⟨_, ⟨cB, rfl⟩, ?_⟩
  clear cA cB
  apply branch_intro <;> intro h3
  · have h3 : n1 = n2 := by simpa using h3
    rw [if_pos h3]
    refine callT_E (add_nat (by omega) (by omega)) rfl ?_
    refine callT_E (canonical_c n1 (m := p + q) (e := if e2 < e1 then e2 else e1) (by omega) (by omega)) rfl ?_
    show Eqv _ _
    exact .up (.up (.refl _))
  have h3 : ¬ n1 = n2 := by simpa using h3
  rw [if_neg h3]
  refine callT_E (cmp_nat (by omega) (by omega)) rfl ?_
  apply branch_intro <;> intro h4
  · have h4 : p < q := by
      have := of_decide_eq_true h4
      unfold cmpN at this
      split at this
      · assumption
      · split at this <;> omega
    rw [if_pos h4]
    refine draw_tree (picks [0, 1, 2, 3, 4, 5, 6] .done) (by decide +kernel) ?_
    refine callT_E (sub_nat (by omega) (by omega) (by omega)) rfl ?_
    have := bitLen_mono (show q - p ≤ q by omega)
    refine callT_E (canonical_c n2 (m := q - p) (e := if e2 < e1 then e2 else e1) (by omega) (by omega)) rfl ?_
    show Eqv _ _
    exact .up (.up (.refl _))
  · have h4 : ¬ p < q := by
      intro hlt
      have := of_decide_eq_false h4
      rw [cmpN, if_pos hlt] at this
      omega
    rw [if_neg h4]
    refine callT_E (sub_nat (by omega) (by omega) (by omega)) rfl ?_
    have := bitLen_mono (show p - q ≤ p by omega)
    refine callT_E (canonical_c n1 (m := p - q) (e := if e2 < e1 then e2 else e1) (by omega) (by omega)) rfl ?_
    show Eqv _ _
    exact .up (.up (.refl _))
end Go.Proofs.N13
