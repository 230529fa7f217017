/- Chapter 14, part h: Of, rounding. -/
import Derived.Test.YtjdmcooghikhhaaDoorC5
set_option linter.unusedVariables false
set_option linter.unusedSimpArgs false
/-! Dh. -/
namespace Go.Proofs.N13
open Go.E
set_option maxRecDepth 8000

theorem bitLen_small {n k : Nat} (h : n < 2 ^ k) : bitLen n ≤ k := bitLen_le.2 h
theorem ArgD.nat {m : Nat} {e : Int} (h : bitLen m ≤ 9600) (he : -9223372036854775808 ≤ e ∧ e ≤ 9223372036854775807) : ArgD (limbsOf m) m e :=
  ⟨Nat.le_trans (limbsOf_len_le (k := 300) (by omega)) (by omega), limbs_limbsOf _, val_limbsOf _, he⟩
theorem dof_c {n e : Int} (hn : -9223372036854775808 ≤ n ∧ n ≤ 9223372036854775807) (he : -9223372036854775808 ≤ e ∧ e ≤ 9223372036854775807) : callP Tryd.prog 22 [.int .i64 n, .int .i64 e] (· = resV (canonD (decide (n < 0)) n.natAbs e)) := by
  have hb : bitLen n.natAbs ≤ 64 := bitLen_small (by omega)
  obtain ⟨d, e', hr⟩ := resV_form (canonD (decide (n < 0)) n.natAbs e)
  have cc := canon_c (decide (n < 0)) (ArgD.nat (m := n.natAbs) (e := e) (by omega) he)
  rw [hr] at cc ⊢
  refine callE_def env (fn := Tryd.f22) rfl (by decide) rfl ?_
  apply branch_intro <;> intro h
  · have h0 := of_decide_eq_true h
    have w : IntKind.u64.wrap (0 - IntKind.u64.wrap n) = (n.natAbs : Int) := by rw [IntKind.wrap_u64, IntKind.wrap_u64]; omega
    have hc := of_c n.natAbs (by omega)
    refine callT_E ((congrArg (fun z => callP Tryd.prog 60 [.int .u64 z] (· = ints .u32 (limbsOf n.natAbs))) w).mpr hc) rfl ?_
    refine callT_E cc rfl ?_
    show Eqv _ _
    exact .up (.up (.refl _))
  · have h0 := of_decide_eq_false h
    have w : IntKind.u64.wrap n = (n.natAbs : Int) := by rw [IntKind.wrap_u64]; omega
    have hc := of_c n.natAbs (by omega)
    refine callT_E ((congrArg (fun z => callP Tryd.prog 60 [.int .u64 z] (· = ints .u32 (limbsOf n.natAbs))) w).mpr hc) rfl ?_
    refine callT_E cc rfl ?_
    show Eqv _ _
    exact .up (.up (.refl _))

theorem branch_f' {b : Bool} {T E : Prop} (hb : b = false) (h : E) : branch b T E := branch_intro (fun h0 => by rw [hb] at h0; cases h0) (fun _ => h)
theorem branch_t' {b : Bool} {T E : Prop} (hb : b = true) (h : T) : branch b T E := branch_intro (fun _ => h) (fun h0 => by rw [hb] at h0; cases h0)
theorem up_near (b : Bool) : callP Tryd.prog 50 [.bool b] (· = .bool (true && b)) := by
  refine callE_def env (fn := Tryd.f50) rfl (by decide) rfl ?_
  show Eqv _ _
  exact .up (.up (.refl _))
theorem up_trunc (b : Bool) : callP Tryd.prog 51 [.bool b] (· = .bool (false && b)) := by
  refine callE_def env (fn := Tryd.f51) rfl (by decide) rfl ?_
  show Eqv _ _
  exact .up (.up (.refl _))
/-- A multiple of 2^-k. -/
def roundD (near : Bool) (x : Dy) (k : Int) : Dy :=
  if -k - x.e ≤ 0 ∨ x.m = 0 then x
  else canonD x.neg (x.m / 2 ^ (-k - x.e).toNat + if near = true ∧ x.m / 2 ^ ((-k - x.e).toNat - 1) % 2 = 1 then 1 else 0) (-k)
def roundV (near : Bool) (x : Dy) (k : Int) : AVal :=
  if k < -8192 ∨ 8192 < k then .tuple [dyA .zero, .int .i64 2] else if x.within = true then resV (roundD near x k) else .tuple [dyA .zero, .int .i64 4]
theorem roundV_closed (near : Bool) (x : Dy) (k : Int) : (roundV near x k).closed2 = true := by
  unfold roundV
  split
  · rfl
  split
  · exact resV_closed _
  · rfl

set_option maxHeartbeats 4000000 in
theorem rounded_c {u : FuncId} {near : Bool} (hu : ∀ b, callP Tryd.prog u [.bool b] (· = .bool (near && b))) (n : Bool) {l : List Int} {m : Nat} {e : Int} (h : ArgD l m e) {k : Int} (hk : -9223372036854775808 ≤ k ∧ k ≤ 9223372036854775807) :
    callP Tryd.prog 49 [dyL n l e, .int .i64 k, .fn (.func u) [] []] (· = roundV near (canonD n m e) k) := by
  have c1 := in_a n h
  generalize canonD n m e = x at *
  refine callE_def env (fn := Tryd.f49) rfl (by decide) (roundV_closed _ _ _) ?_
  apply branch_intro <;> intro h1
  · have h1 := of_decide_eq_true h1
    repeat (first | refine branch_true ?_ | refine branch_false ?_ | refine branch_f' (bne_self_eq_false _) ?_ | refine branch_t' (beq_self_eq_true _) ?_ | refine branch_t' (decide_eq_true rfl) ?_)
    show Eqv _ _
    rw [roundV, if_pos (.inl h1)]
    exact eqv_zero 2
  have h1 := of_decide_eq_false h1
  repeat (first | refine branch_true ?_ | refine branch_false ?_ | refine branch_f' (bne_self_eq_false _) ?_ | refine branch_t' (beq_self_eq_true _) ?_ | refine branch_t' (decide_eq_true rfl) ?_)
  apply branch_intro <;> intro h2
  · have h2 := of_decide_eq_true h2
    repeat (first | refine branch_true ?_ | refine branch_false ?_ | refine branch_f' (bne_self_eq_false _) ?_ | refine branch_t' (beq_self_eq_true _) ?_ | refine branch_t' (decide_eq_true rfl) ?_)
    show Eqv _ _
    rw [roundV, if_pos (.inr h2)]
    exact eqv_zero 2
  have h2 := of_decide_eq_false h2
  repeat (first | refine branch_true ?_ | refine branch_false ?_ | refine branch_f' (bne_self_eq_false _) ?_ | refine branch_t' (beq_self_eq_true _) ?_ | refine branch_t' (decide_eq_true rfl) ?_)
  rw [roundV, if_neg (by omega)]
  by_cases hx : x.within = true
  case neg =>
    rw [resV_out hx] at c1
    rw [if_neg hx]
    refine callT_E c1 rfl ?_
    repeat (first | refine branch_true ?_ | refine branch_false ?_ | refine branch_f' (bne_self_eq_false _) ?_ | refine branch_t' (beq_self_eq_true _) ?_ | refine branch_t' (decide_eq_true rfl) ?_)
    show Eqv _ _
    exact eqv_zero 4
  rw [resV_in hx] at c1
  rw [if_pos hx]
  have hf := within_fit hx
  obtain ⟨f1, f2, f3⟩ := hf
  refine callT_E c1 rfl ?_
  repeat (first | refine branch_true ?_ | refine branch_false ?_ | refine branch_f' (bne_self_eq_false _) ?_ | refine branch_t' (beq_self_eq_true _) ?_ | refine branch_t' (decide_eq_true rfl) ?_)
  have w1 : IntKind.i64.wrap (IntKind.i64.wrap (0 - k) - x.e) = -k - x.e := by rw [wi (x := 0 - k) (by omega) (by omega), wi (by omega) (by omega)]; omega
  apply branch_intro <;> intro h3
  · have h3 := of_decide_eq_true h3
    rw [w1] at h3
    repeat (first | refine branch_true ?_ | refine branch_false ?_ | refine branch_f' (bne_self_eq_false _) ?_ | refine branch_t' (beq_self_eq_true _) ?_ | refine branch_t' (decide_eq_true rfl) ?_)
    have co := out_c x (by omega)
    rw [resV_in hx] at co
    refine callT_E co rfl ?_
    rw [roundD, if_pos (.inl h3), resV_in hx]
    show Eqv _ _
    exact .up (.up (.refl _))
  have h3 := of_decide_eq_false h3
  rw [w1] at h3
  repeat (first | refine branch_true ?_ | refine branch_false ?_ | refine branch_f' (bne_self_eq_false _) ?_ | refine branch_t' (beq_self_eq_true _) ?_ | refine branch_t' (decide_eq_true rfl) ?_)
  refine callT_E (zero_c x.m x.e) rfl ?_
  repeat (first | refine branch_true ?_ | refine branch_false ?_ | refine branch_f' (bne_self_eq_false _) ?_ | refine branch_t' (beq_self_eq_true _) ?_ | refine branch_t' (decide_eq_true rfl) ?_)
  apply branch_intro <;> intro h4
  · have h4 := of_decide_eq_true h4
    have co := out_c x (by omega)
    rw [resV_in hx] at co
    refine callT_E co rfl ?_
    rw [roundD, if_pos (.inr h4), resV_in hx]
    show Eqv _ _
    exact .up (.up (.refl _))
  have h4 := of_decide_eq_false h4
  have hrd : roundD near x k = canonD x.neg (x.m / 2 ^ (-k - x.e).toNat + if near = true ∧ x.m / 2 ^ ((-k - x.e).toNat - 1) % 2 = 1 then 1 else 0) (-k) := by rw [roundD, if_neg (by omega)]
  rw [hrd]
  clear hrd
  obtain ⟨s, hs⟩ : ∃ s : Nat, -k - x.e = ((s + 1 : Nat) : Int) := ⟨(-k - x.e).toNat - 1, by omega⟩
  rw [hs] at w1 ⊢
  rw [Int.toNat_natCast, Nat.add_sub_cancel]
  have hsb : s ≤ 20000 := by omega
  have hq := bitLen_mono (Nat.div_le_self x.m (2 ^ (s + 1)))
  refine callT_E ((congrArg (fun z => callP Tryd.prog 81 [ints .u32 (limbsOf x.m), .int .i64 z] (· = .tuple [ints .u32 (limbsOf (x.m / 2 ^ (s + 1))), .int .i64 0])) w1).mpr (shr_nat_c (small_nat (by omega)) (limbs_limbsOf x.m) (val_limbsOf x.m) (by omega) (by omega))) rfl ?_
  have w2 : IntKind.i64.wrap (IntKind.i64.wrap (IntKind.i64.wrap (0 - k) - x.e) - 1) = (s : Int) := by rw [w1, wi (by omega) (by omega)]; omega
  have hb := bit_read (limbs_limbsOf x.m) (n := x.m) (z := s) (val_limbsOf x.m)
  have q1 := idiv32 s (by omega)
  have q2 := imod32 s (by omega)
  have r1 : IntKind.i64.wrap ((IntKind.i64.wrap (IntKind.i64.wrap (IntKind.i64.wrap (0 - k) - x.e) - 1)).tdiv 32) = ((s / 32 : Nat) : Int) := by rw [w2]; exact q1
  have r2 : (IntKind.i64.wrap (IntKind.i64.wrap (IntKind.i64.wrap (0 - k) - x.e) - 1)).tmod 32 = ((s % 32 : Nat) : Int) := by rw [w2]; exact q2
  have wk : IntKind.i64.wrap (0 - k) = -k := by rw [wi (by omega) (by omega)]; omega
  have fin : ∀ c : Nat, c ≤ 1 → callP Tryd.prog 73 [.bool x.neg, ints .u32 (limbsOf (x.m / 2 ^ (s + 1) + c)), .int .i64 (IntKind.i64.wrap (0 - k))] (· = dyA (canonD x.neg (x.m / 2 ^ (s + 1) + c) (-k))) := by
    intro c hc
    have hcb := bitLen_add_le (x := x.m / 2 ^ (s + 1)) (y := c) (m := 8192) (by omega) (Nat.le_trans (bitLen_small (k := 1) (by omega)) (by omega))
    have cc := canonical_c x.neg (m := x.m / 2 ^ (s + 1) + c) (e := IntKind.i64.wrap (0 - k)) (by omega) (by rw [wk]; omega)
    rwa [wk] at cc ⊢
  have fino : ∀ c : Nat, c ≤ 1 → bitLen (canonD x.neg (x.m / 2 ^ (s + 1) + c) (-k)).m ≤ 1000000 := by
    intro c hc
    have hcb := bitLen_add_le (x := x.m / 2 ^ (s + 1)) (y := c) (m := 8192) (by omega) (Nat.le_trans (bitLen_small (k := 1) (by omega)) (by omega))
    have := canonD_bits x.neg (x.m / 2 ^ (s + 1) + c) (-k)
    omega
  have adder : callP Tryd.prog 82 [ints .u32 (limbsOf (x.m / 2 ^ (s + 1))), ints .u32 (limbsOf 1)] (· = .tuple [ints .u32 (limbsOf (x.m / 2 ^ (s + 1) + 1)), .int .i64 0]) := add_nat (by omega) (Nat.le_trans (bitLen_small (k := 1) (by decide)) (by omega))
  refine need_intro (by decide) ?_
  apply branch_intro <;> intro h5
  · have h5 := of_decide_eq_true h5
    rw [r1] at h5
    repeat (first | refine branch_true ?_ | refine branch_false ?_ | refine branch_f' (bne_self_eq_false _) ?_ | refine branch_t' (beq_self_eq_true _) ?_ | refine branch_t' (decide_eq_true rfl) ?_)
    refine need_intro (by decide) ?_
    repeat (first | refine branch_true ?_ | refine branch_false ?_ | refine branch_f' (bne_self_eq_false _) ?_ | refine branch_t' (beq_self_eq_true _) ?_ | refine branch_t' (decide_eq_true rfl) ?_)
    apply need_intro
    · rw [r1]; omega
    repeat (first | refine branch_true ?_ | refine branch_false ?_ | refine branch_f' (bne_self_eq_false _) ?_ | refine branch_t' (beq_self_eq_true _) ?_ | refine branch_t' (decide_eq_true rfl) ?_)
    refine need_intro (by decide) ?_
    repeat (first | refine branch_true ?_ | refine branch_false ?_ | refine branch_f' (bne_self_eq_false _) ?_ | refine branch_t' (beq_self_eq_true _) ?_ | refine branch_t' (decide_eq_true rfl) ?_)
    apply need_intro
    · rw [r2]; omega
    repeat (first | refine branch_true ?_ | refine branch_false ?_ | refine branch_f' (bne_self_eq_false _) ?_ | refine branch_t' (beq_self_eq_true _) ?_ | refine branch_t' (decide_eq_true rfl) ?_)
    have hbit : ∀ a b : Int, a = ((s / 32 : Nat) : Int) → b = ((s % 32 : Nat) : Int) → (IntKind.u32.wrap ((BitVec.ofInt IntKind.u32.bits (((limbsOf x.m).getD a.toNat 0).fdiv (2 ^ (min b.toNat IntKind.u32.bits))) &&& BitVec.ofInt IntKind.u32.bits 1).toNat : Int) == 1) = decide (x.m / 2 ^ s % 2 = 1) := by
      rintro _ _ rfl rfl
      rw [Int.toNat_natCast, Int.toNat_natCast, hb]
      by_cases hq : x.m / 2 ^ s % 2 = 1
      · rw [hq, decide_eq_true rfl]; rfl
      · rw [decide_eq_false hq, beq_eq_false_iff_ne]
        omega
    refine callT_E (hu _) rfl ?_
    apply branch_intro <;> intro h6
    · rw [hbit _ _ r1 r2] at h6
      simp only [Bool.and_eq_true, decide_eq_true_eq] at h6
      rw [if_pos h6]
      refine callT_E (of_c 1 (by decide)) rfl ?_
      refine callT_E adder rfl ?_
      refine callT_E (fin 1 (by omega)) rfl ?_
      obtain ⟨d, e', hr⟩ := resV_form (canonD x.neg (x.m / 2 ^ (s + 1) + 1) (-k))
      have co := out_c _ (fino 1 (by omega))
      rw [hr] at co ⊢
      refine callT_E co rfl ?_
      show Eqv _ _
      exact .up (.up (.refl _))
    · rw [hbit _ _ r1 r2] at h6
      rw [if_neg (by intro c; rw [c.1, decide_eq_true c.2] at h6; cases h6)]
      refine callT_E (fin 0 (by omega)) rfl ?_
      obtain ⟨d, e', hr⟩ := resV_form (canonD x.neg (x.m / 2 ^ (s + 1) + 0) (-k))
      have co := out_c _ (fino 0 (by omega))
      rw [hr] at co ⊢
      refine callT_E co rfl ?_
      show Eqv _ _
      exact .up (.up (.refl _))
  · have h5 := of_decide_eq_false h5
    rw [r1] at h5
    repeat (first | refine branch_true ?_ | refine branch_false ?_ | refine branch_f' (bne_self_eq_false _) ?_ | refine branch_t' (beq_self_eq_true _) ?_ | refine branch_t' (decide_eq_true rfl) ?_)
    refine callT_E (hu _) rfl ?_
    have h0 : x.m / 2 ^ s % 2 = 0 := by
      have h7 : (limbsOf x.m).getD (s / 32) 0 = 0 := by rw [List.getD_eq_getElem?_getD, List.getElem?_eq_none (by omega)]; rfl
      have := bit_at (limbs_limbsOf x.m) s
      rw [h7, val_limbsOf] at this
      simpa using this.symm
    rw [if_neg (by intro c; omega)]
    refine branch_f' (Bool.and_false _) ?_
    refine callT_E (fin 0 (by omega)) rfl ?_
    obtain ⟨d, e', hr⟩ := resV_form (canonD x.neg (x.m / 2 ^ (s + 1) + 0) (-k))
    have co := out_c _ (fino 0 (by omega))
    rw [hr] at co ⊢
    refine callT_E co rfl ?_
    show Eqv _ _
    exact .up (.up (.refl _))
theorem round_c (n : Bool) {l : List Int} {m : Nat} {e : Int} (h : ArgD l m e) {k : Int} (hk : -9223372036854775808 ≤ k ∧ k ≤ 9223372036854775807) :
    callP Tryd.prog 16 [dyL n l e, .int .i64 k] (· = roundV true (canonD n m e) k) := by
  have hf : ∃ d e', roundV true (canonD n m e) k = .tuple [dyA d, .int .i64 e'] := by
    unfold roundV
    split
    · exact ⟨_, _, rfl⟩
    split
    · exact resV_form _
    · exact ⟨_, _, rfl⟩
  obtain ⟨d, e', hr⟩ := hf
  have cr := rounded_c up_near n h hk
  rw [hr] at cr ⊢
  refine callE_def env (fn := Tryd.f16) rfl (by decide) rfl ?_
  refine callT_E cr rfl ?_
  show Eqv _ _
  exact .up (.up (.refl _))
theorem trunc_c (n : Bool) {l : List Int} {m : Nat} {e : Int} (h : ArgD l m e) {k : Int} (hk : -9223372036854775808 ≤ k ∧ k ≤ 9223372036854775807) :
    callP Tryd.prog 17 [dyL n l e, .int .i64 k] (· = roundV false (canonD n m e) k) := by
  have hf : ∃ d e', roundV false (canonD n m e) k = .tuple [dyA d, .int .i64 e'] := by
    unfold roundV
    split
    · exact ⟨_, _, rfl⟩
    split
    · exact resV_form _
    · exact ⟨_, _, rfl⟩
  obtain ⟨d, e', hr⟩ := hf
  have cr := rounded_c up_trunc n h hk
  rw [hr] at cr ⊢
  refine callE_def env (fn := Tryd.f17) rfl (by decide) rfl ?_
  refine callT_E cr rfl ?_
  show Eqv _ _
  exact .up (.up (.refl _))
end Go.Proofs.N13
/-! Di. -/
namespace Go.Proofs.N13
open Go.E
set_option maxRecDepth 8000

abbrev rA (x : Dy) : AVal := .agg [.bool x.neg, ints .u8 (bitsOf x.m), .int .i64 x.e]
abbrev rZ : AVal := .agg [.bool false, .nilslice, .int .i64 0]
theorem eqv_rZ : Eqv1 rZ (rA .zero) := by
  refine .agg (.cons (.refl _) (.cons ?_ (.cons (.refl _) .nil)))
  show Eqv0 _ (ints .u8 (bitsOf 0))
  rw [bitsOf_zero]
  exact .nil _ _
theorem bits_len0 (n : Nat) : (bitsOf n).length = 0 ↔ n = 0 := by
  rw [bitsOf_len]
  constructor
  · intro h
    rcases Nat.eq_zero_or_pos n with h0 | h0
    · exact h0
    · rw [bitLen_pos (by omega)] at h; omega
  · rintro rfl; exact bitLen_zero
theorem bit_of (n i : Nat) : (bitsOf n).getD i 0 = ((n / 2 ^ i % 2 : Nat) : Int) := by
  have := bv_at (bin_bitsOf n) i
  rwa [bv_bitsOf] at this

set_option maxHeartbeats 1000000 in
theorem make2_c (neg : Bool) {m : Nat} {e : Int} (hm : bitLen m ≤ 1000000) (he : -1000000 ≤ e ∧ e ≤ 1000000) : callP Tryd.prog 53 [.bool neg, ints .u8 (bitsOf m), .int .i64 e] (· = rA (canonD neg m e)) := by
  refine callE_def env (fn := Tryd.f53) rfl (by decide) rfl ?_
  apply branch_intro <;> intro h
  · have h0 : m = 0 := (bits_len0 m).1 (by have := eq_of_beq h; omega)
    show Eqv _ _
    rw [canonD, if_pos h0]
    exact .up eqv_rZ
  have h0 : m ≠ 0 := fun c => by subst c; rw [bitsOf_zero] at h; simp at h
  have htz := tz_lt h0
  have hlen := bitsOf_len m
  refine loop_inv (keep 27 [0, 1, 2, 6, 7]) (fun z : Nat => slots 27 [(0, .bool neg), (1, ints .u8 (bitsOf m)), (2, .int .i64 e), (6, .ptr ⟨0, 0, 0⟩), (7, .int .i64 z)]) (fun _ => [.cells [.bool false, .nilslice, .int .i64 0]])
    (fun z => z ≤ tz m) (fun z => tz m - z) 0 (Nat.zero_le _) rfl rfl ?_
  intro z hz
  have hb : (bitsOf m).getD ((z : Int)).toNat 0 = ((m / 2 ^ z % 2 : Nat) : Int) := by rw [Int.toNat_natCast]; exact bit_of m z
  apply need_intro
  · rw [hlen]; omega
  apply branch_intro <;> intro h2
  · have h3 := eq_of_beq h2
    rw [hb] at h3
    have h4 : z < tz m := (tz_bit h0 hz).1 (by omega)
    refine ⟨z + 1, h4, by omega, ?_, rfl⟩
    show [_, _, _, _, _, _, _, _, _, _, _, _, _, _, _, _, _, _, _, _, _, _, _, _, _, _, _] = _
    rw [wi (x := (z : Int) + 1) (by omega) (by omega)]
    rfl
  · have h3 : ¬ z < tz m := fun c => by
      have h4 := (tz_bit h0 hz).2 c
      rw [h4] at hb
      exact absurd (beq_iff_eq.2 hb) (by rw [Bool.not_eq_true]; exact h2)
    obtain rfl : z = tz m := by omega
    refine callT_E (rshr_c m (tz m) (by omega) (by omega)) rfl ?_
    have hv : rA (canonD neg m e) = .agg [.bool neg, ints .u8 (bitsOf (m / 2 ^ tz m)), .int .i64 (IntKind.i64.wrap (e + tz m))] := by
      rw [canonD, if_neg h0, wi (by omega) (by omega)]
    show Eqv _ _
    rw [hv]
    exact .up (.up (.refl _))
theorem rwithin_c (x : Dy) : callP Tryd.prog 54 [rA x] (· = .bool x.within) := by
  have hl := bitsOf_len x.m
  refine callE_def env (fn := Tryd.f54) rfl (by decide) rfl ?_
  apply branch_intro <;> intro h1
  · have h1 := of_decide_eq_true h1
    repeat (first | refine branch_true ?_ | refine branch_false ?_ | refine branch_f' (bne_self_eq_false _) ?_ | refine branch_t' (beq_self_eq_true _) ?_ | refine branch_t' (decide_eq_true rfl) ?_)
    apply branch_intro <;> intro h2
    · have h2 := of_decide_eq_true h2
      repeat (first | refine branch_true ?_ | refine branch_false ?_ | refine branch_f' (bne_self_eq_false _) ?_ | refine branch_t' (beq_self_eq_true _) ?_ | refine branch_t' (decide_eq_true rfl) ?_)
      have e : x.within = decide (x.e ≤ 8192) := by
        unfold Dy.within
        simp only [decide_eq_decide]
        omega
      rw [e]
      show Eqv _ _
      exact .up (.up (.refl _))
    · have h2 := of_decide_eq_false h2
      repeat (first | refine branch_true ?_ | refine branch_false ?_ | refine branch_f' (bne_self_eq_false _) ?_ | refine branch_t' (beq_self_eq_true _) ?_ | refine branch_t' (decide_eq_true rfl) ?_)
      have e : x.within = false := by
        unfold Dy.within
        simp only [decide_eq_false_iff_not]
        omega
      rw [e]
      show Eqv _ _
      exact .up (.up (.refl _))
  · have h1 := of_decide_eq_false h1
    repeat (first | refine branch_true ?_ | refine branch_false ?_ | refine branch_f' (bne_self_eq_false _) ?_ | refine branch_t' (beq_self_eq_true _) ?_ | refine branch_t' (decide_eq_true rfl) ?_)
    have e : x.within = false := by
      unfold Dy.within
      simp only [decide_eq_false_iff_not]
      omega
    rw [e]
    show Eqv _ _
    exact .up (.up (.refl _))

/-- What the reference reads off an argument. -/
def rvalD (neg : Bool) (m : Nat) (e : Int) : Dy := if m = 0 then .zero else if 8192 < e ∨ e < -8192 - (bitLen m : Int) then .zero else canonD neg m e
def rvalV (neg : Bool) (m : Nat) (e : Int) : AVal := .tuple [rA (rvalD neg m e), .bool (canonD neg m e).within]
theorem rvalD_ok {neg : Bool} {m : Nat} {e : Int} (h : (canonD neg m e).within = true) : rvalD neg m e = canonD neg m e := by
  unfold rvalD
  split
  · rw [canonD, if_pos (by assumption)]
  split
  · rename_i h0 hc
    exfalso
    rw [canonD, if_neg h0] at h
    obtain ⟨a, b, c⟩ := fit_nat h
    simp only at b c
    have := tz_lt h0
    omega
  · rfl
set_option maxHeartbeats 1000000 in
theorem rval_c (neg : Bool) {l : List Int} {m : Nat} {e : Int} (h : ArgD l m e) : callP Tryd.prog 18 [dyL neg l e] (· = rvalV neg m e) := by
  have hbl := h.bits
  obtain ⟨h1, h2, h3, h4⟩ := h
  have hc := value_c (a := l) (by unfold Small; omega) h2
  rw [h3] at hc
  have hlen := bitsOf_len m
  refine callE_def env (fn := Tryd.f18) rfl (by decide) rfl ?_
  refine callT_E hc rfl ?_
  apply branch_intro <;> intro h
  · have h0 : m = 0 := (bits_len0 m).1 (by have := eq_of_beq h; omega)
    show Eqv _ _
    rw [rvalV, rvalD, if_pos h0, canonD, if_pos h0, zero_within]
    exact .tuple (.cons eqv_rZ (.cons (.up (.refl _)) .nil))
  have h0 : m ≠ 0 := fun c => by subst c; rw [bitsOf_zero] at h; simp at h
  have htz := tz_lt h0
  have hod := bitLen_odd h0
  have w1 : IntKind.i64.wrap ((-8192 : Int) - ((bitsOf m).length : Int)) = -8192 - (bitLen m : Int) := by rw [hlen]; exact wi (by omega) (by omega)
  have hz : (8192 < e ∨ e < -8192 - (bitLen m : Int)) → retE (rvalV neg m e) (.tuple [rZ, .bool false]) [] := by
    intro ho
    show Eqv _ _
    have hw : (canonD neg m e).within = false := by
      rw [canonD, if_neg h0, Dy.within]
      simp only [decide_eq_false_iff_not]
      omega
    rw [rvalV, rvalD, if_neg h0, if_pos ho, hw]
    exact .tuple (.cons eqv_rZ (.cons (.up (.refl _)) .nil))
  apply branch_intro <;> intro h5
  · have h5 := of_decide_eq_true h5
    repeat (first | refine branch_true ?_ | refine branch_false ?_ | refine branch_f' (bne_self_eq_false _) ?_ | refine branch_t' (beq_self_eq_true _) ?_ | refine branch_t' (decide_eq_true rfl) ?_)
    exact hz (.inl (by omega))
  have h5 := of_decide_eq_false h5
  repeat (first | refine branch_true ?_ | refine branch_false ?_ | refine branch_f' (bne_self_eq_false _) ?_ | refine branch_t' (beq_self_eq_true _) ?_ | refine branch_t' (decide_eq_true rfl) ?_)
  apply branch_intro <;> intro h6
  · have h6 := of_decide_eq_true h6
    rw [w1] at h6
    repeat (first | refine branch_true ?_ | refine branch_false ?_ | refine branch_f' (bne_self_eq_false _) ?_ | refine branch_t' (beq_self_eq_true _) ?_ | refine branch_t' (decide_eq_true rfl) ?_)
    exact hz (.inr h6)
  have h6 := of_decide_eq_false h6
  rw [w1] at h6
  repeat (first | refine branch_true ?_ | refine branch_false ?_ | refine branch_f' (bne_self_eq_false _) ?_ | refine branch_t' (beq_self_eq_true _) ?_ | refine branch_t' (decide_eq_true rfl) ?_)
  refine callT_E (make2_c neg (m := m) (e := e) (by omega) (by omega)) rfl ?_
  refine draw_tree (picks [0, 1, 2, 3, 4] .done) (by decide +kernel) ?_
  refine ⟨_, ⟨rwithin_c (canonD neg m e), rfl⟩, ?_⟩
  show Eqv _ _
  rw [rvalV, rvalD, if_neg h0, if_neg (by omega)]
  exact .up (.up (.refl _))
theorem rout_c (x : Dy) (hx : bitLen x.m ≤ 1000000) : callP Tryd.prog 56 [rA x] (· = resV x) := by
  refine callE_def env (fn := Tryd.f56) rfl (by decide) (resV_closed _) ?_
  refine callT_E (rwithin_c x) rfl ?_
  apply branch_intro <;> intro h
  · show Eqv _ _
    rw [resV_out (by intro c; rw [c] at h; cases h)]
    exact eqv_zero 4
  · refine draw_tree (picks [0, 1, 2, 3, 4, 5, 6, 7, 8, 9] .done) (by decide +kernel) ?_
    refine ⟨_, ⟨rnat_c x.m (by omega), rfl⟩, ?_⟩
    show Eqv _ _
    rw [resV_in (by revert h; cases x.within <;> simp)]
    exact .up (.up (.refl _))
theorem rofE_c {n e : Int} (hn : -9223372036854775808 ≤ n ∧ n ≤ 9223372036854775807) (he : -9223372036854775808 ≤ e ∧ e ≤ 9223372036854775807) : callP Tryd.prog 23 [.int .i64 n, .int .i64 e] (· = rvalV (decide (n < 0)) n.natAbs e) := by
  have hb : bitLen n.natAbs ≤ 64 := bitLen_small (by omega)
  have cc := rval_c (decide (n < 0)) (ArgD.nat (m := n.natAbs) (e := e) (by omega) he)
  have w0 : IntKind.u64.wrap n = ((n % 18446744073709551616).toNat : Int) := by rw [IntKind.wrap_u64]; omega
  have hc := rof_c (n := (n % 18446744073709551616).toNat) (by omega)
  refine callE_def env (fn := Tryd.f23) rfl (by decide) rfl ?_
  refine callT_E ((congrArg (fun z => callP Tryd.prog 59 [.int .u64 z] (· = ints .u8 (bitsOf (n % 18446744073709551616).toNat))) w0).mpr hc) rfl ?_
  apply branch_intro <;> intro h
  · have h0 := of_decide_eq_true h
    have w : IntKind.u64.wrap (0 - IntKind.u64.wrap n) = (n.natAbs : Int) := by rw [IntKind.wrap_u64, IntKind.wrap_u64]; omega
    refine callT_E ((congrArg (fun z => callP Tryd.prog 59 [.int .u64 z] (· = ints .u8 (bitsOf n.natAbs))) w).mpr (rof_c (by omega))) rfl ?_
    refine callT_E (rnat_c n.natAbs (by omega)) rfl ?_
    refine callT_E cc rfl ?_
    show Eqv _ _
    exact .up (.up (.refl _))
  · have h0 := of_decide_eq_false h
    have hm : (n % 18446744073709551616).toNat = n.natAbs := by omega
    rw [hm]
    refine callT_E (rnat_c n.natAbs (by omega)) rfl ?_
    refine callT_E cc rfl ?_
    show Eqv _ _
    exact .up (.up (.refl _))
end Go.Proofs.N13
