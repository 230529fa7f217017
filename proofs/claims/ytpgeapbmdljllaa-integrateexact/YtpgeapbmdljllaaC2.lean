/- Chapter 13, part oa: numbers as lists of binary digits. -/
import Derived.Test.YtpgeapbmdljllaaC1
import Derived.Test.YtpgeapbmdljllaaE4
set_option linter.unusedVariables false
set_option linter.unusedSimpArgs false
/-! Oa. -/
namespace Go.Proofs.N13
open Go.E
set_option maxRecDepth 8000

def bv : List Int → Nat
  | [] => 0
  | x :: r => x.toNat + 2 * bv r
def Bin (l : List Int) : Prop := ∀ x ∈ l, x = 0 ∨ x = 1
def bitsOf (n : Nat) : List Int := if h : n = 0 then [] else ((n % 2 : Nat) : Int) :: bitsOf (n / 2)
termination_by n
decreasing_by exact Nat.div_lt_self (by omega) (by omega)
theorem bitsOf_zero : bitsOf 0 = [] := by rw [bitsOf]; rfl
theorem bitsOf_pos {n : Nat} (h : n ≠ 0) : bitsOf n = ((n % 2 : Nat) : Int) :: bitsOf (n / 2) := by rw [bitsOf, dif_neg h]
theorem bv_bitsOf (n : Nat) : bv (bitsOf n) = n := by
  induction n using Nat.strongRecOn with
  | _ n ih =>
    by_cases h : n = 0
    · subst h; rw [bitsOf_zero]; rfl
    · rw [bitsOf_pos h, bv, ih _ (Nat.div_lt_self (by omega) (by omega))]
      omega
theorem bin_bitsOf (n : Nat) : Bin (bitsOf n) := by
  induction n using Nat.strongRecOn with
  | _ n ih =>
    by_cases h : n = 0
    · subst h; rw [bitsOf_zero]; intro x hx; cases hx
    · rw [bitsOf_pos h]
      intro x hx
      rcases List.mem_cons.1 hx with rfl | hx
      · omega
      · exact ih _ (Nat.div_lt_self (by omega) (by omega)) x hx
theorem bitsOf_len (n : Nat) : (bitsOf n).length = bitLen n := by
  induction n using Nat.strongRecOn with
  | _ n ih =>
    by_cases h : n = 0
    · subst h; rw [bitsOf_zero, bitLen_zero]; rfl
    · rw [bitsOf_pos h, bitLen_pos h, List.length_cons, ih _ (Nat.div_lt_self (by omega) (by omega))]
theorem trim_bits {l : List Int} (hl : Bin l) : trimL l = bitsOf (bv l) := by
  induction l with
  | nil => rw [bv, bitsOf_zero]; rfl
  | cons x r ih =>
    have hx := hl x List.mem_cons_self
    have ih := ih fun y hy => hl y (List.mem_cons_of_mem _ hy)
    simp only [trimL, bv]
    by_cases hv : bv r = 0
    · rw [hv, bitsOf_zero] at ih
      rw [ih, hv]
      by_cases h0 : x = 0
      · subst h0; simp [bitsOf_zero]
      · rw [bitsOf_pos (by omega)]
        have e1 : (x.toNat + 2 * 0) % 2 = x.toNat := by omega
        have e2 : (x.toNat + 2 * 0) / 2 = 0 := by omega
        simp only [h0, if_false, e1, e2, bitsOf_zero]
        congr 1
        omega
    · have e1 : (x.toNat + 2 * bv r) % 2 = x.toNat := by omega
      have e2 : (x.toNat + 2 * bv r) / 2 = bv r := by omega
      rw [ih, bitsOf_pos (n := x.toNat + 2 * bv r) (by omega), e1, e2]
      cases h : bitsOf (bv r) with
      | nil =>
        have := bv_bitsOf (bv r)
        rw [h, bv] at this
        omega
      | cons a b =>
        simp only
        congr 1
        omega
theorem bv_snoc : ∀ (l : List Int) (x : Int), bv (l ++ [x]) = bv l + 2 ^ l.length * x.toNat
  | [], x => by simp [bv]
  | y :: r, x => by
    simp only [List.cons_append, bv, bv_snoc r x, List.length_cons]
    have : 2 ^ (r.length + 1) * x.toNat = 2 * (2 ^ r.length * x.toNat) := by rw [Nat.pow_succ, Nat.mul_comm (2 ^ r.length) 2, Nat.mul_assoc]
    omega
theorem bv_append : ∀ (l m : List Int), bv (l ++ m) = bv l + 2 ^ l.length * bv m
  | [], m => by simp [bv]
  | y :: r, m => by
    simp only [List.cons_append, bv, bv_append r m, List.length_cons]
    have : 2 ^ (r.length + 1) * bv m = 2 * (2 ^ r.length * bv m) := by rw [Nat.pow_succ, Nat.mul_comm (2 ^ r.length) 2, Nat.mul_assoc]
    omega
theorem bv_take_succ (l : List Int) (i : Nat) : bv (l.take (i + 1)) = bv (l.take i) + 2 ^ i * (l.getD i 0).toNat := by
  by_cases h : i < l.length
  · rw [List.take_add_one, List.getElem?_eq_getElem h, List.getD_eq_getElem?_getD, List.getElem?_eq_getElem h]
    show bv (l.take i ++ [l[i]]) = _
    rw [bv_snoc, List.length_take, Nat.min_eq_left (by omega)]
    rfl
  · rw [List.take_of_length_le (by omega), List.take_of_length_le (by omega), List.getD_eq_getElem?_getD, List.getElem?_eq_none (by omega)]
    simp
theorem bv_lt : ∀ {l : List Int}, Bin l → bv l < 2 ^ l.length
  | [], _ => by simp [bv]
  | x :: r, h => by
    have hx := h x List.mem_cons_self
    have := bv_lt (l := r) fun y hy => h y (List.mem_cons_of_mem _ hy)
    simp only [bv, List.length_cons, Nat.pow_succ]
    omega
theorem bin_at {l : List Int} (h : Bin l) (i : Nat) : l.getD i 0 = 0 ∨ l.getD i 0 = 1 := by
  rw [List.getD_eq_getElem?_getD]
  by_cases hi : i < l.length
  · rw [List.getElem?_eq_getElem hi]; exact h _ (List.getElem_mem _)
  · rw [List.getElem?_eq_none (by omega)]; simp
theorem bin_snoc {l : List Int} (h : Bin l) {x : Int} (hx : x = 0 ∨ x = 1) : Bin (l ++ [x]) := fun y hy => by
  rcases List.mem_append.1 hy with hy | hy
  · exact h y hy
  · simp at hy; subst hy; exact hx
/-- The digit i. -/
theorem bv_at {l : List Int} (h : Bin l) (i : Nat) : l.getD i 0 = ((bv l / 2 ^ i % 2 : Nat) : Int) := by
  induction i generalizing l with
  | zero =>
    cases l with
    | nil => simp [bv]
    | cons x r =>
      have hx := h x List.mem_cons_self
      simp only [bv, Nat.pow_zero, Nat.div_one, List.getD_cons_zero]
      omega
  | succ i ih =>
    cases l with
    | nil => simp [bv]
    | cons x r =>
      have hx := h x List.mem_cons_self
      have := ih (l := r) fun y hy => h y (List.mem_cons_of_mem _ hy)
      simp only [bv, List.getD_cons_succ]
      rw [this, Nat.pow_succ, Nat.mul_comm (2 ^ i) 2, ← Nat.div_div_eq_div_mul, show (x.toNat + 2 * bv r) / 2 = bv r by omega]

/-! Shifts and masks of one digit. -/
theorem shr_nat (kk : IntKind) {x s : Nat} (hs : s ≤ kk.bits) : (x : Int).fdiv (2 ^ (min s kk.bits)) = ((x / 2 ^ s : Nat) : Int) := by
  rw [Nat.min_eq_left hs, Int.fdiv_eq_ediv_of_nonneg _ (Int.le_of_lt (Int.pow_pos (by decide)))]
  simp
theorem and_one32 {y : Nat} (hy : y < 4294967296) : IntKind.u32.wrap ((BitVec.ofInt IntKind.u32.bits (y : Int) &&& BitVec.ofInt IntKind.u32.bits 1).toNat : Int) = ((y % 2 : Nat) : Int) := by
  have h1 : (BitVec.ofInt IntKind.u32.bits (y : Int)).toNat = y := by
    rw [BitVec.ofInt_natCast, BitVec.toNat_ofNat]
    exact Nat.mod_eq_of_lt hy
  have h2 : (BitVec.ofInt IntKind.u32.bits 1).toNat = 1 := by decide
  rw [BitVec.toNat_and, h1, h2, Nat.and_one_is_mod]
  exact wu32 (by omega) (by omega)
theorem and_one64 {y : Nat} (hy : y < 18446744073709551616) : IntKind.u64.wrap ((BitVec.ofInt IntKind.u64.bits (y : Int) &&& BitVec.ofInt IntKind.u64.bits 1).toNat : Int) = ((y % 2 : Nat) : Int) := by
  have h1 : (BitVec.ofInt IntKind.u64.bits (y : Int)).toNat = y := by
    rw [BitVec.ofInt_natCast, BitVec.toNat_ofNat]
    exact Nat.mod_eq_of_lt hy
  have h2 : (BitVec.ofInt IntKind.u64.bits 1).toNat = 1 := by decide
  rw [BitVec.toNat_and, h1, h2, Nat.and_one_is_mod]
  exact wu64 (by omega) (by omega)
theorem wu8 {x : Int} (h0 : 0 ≤ x) (h1 : x < 256) : IntKind.u8.wrap x = x := by
  rw [IntKind.wrap_u8]; omega
theorem ints_of_row {kk : IntKind} (l : List Int) : rowsInts kk l.length (irow kk l) = l := by
  refine List.ext_getElem (rowsInts_len kk _ _) fun i h1 h2 => ?_
  have hk : sameKind kk kk = true := sameKind_iff.2 rfl
  simp [rowsInts, irow, rowInt, hk, List.getElem?_eq_getElem h2]
theorem isRow_irow (kk : IntKind) (m : Nat) (l : List Int) : isRow kk m (irow kk l) := fun _ _ => ⟨_, rfl⟩
theorem snoc_row {kk : IntKind} (l : List Int) (x : Int) : List.drop 0 l ++ rowsInts kk 1 (irow kk [x]) = l ++ [x] := by
  have hk : sameKind kk kk = true := sameKind_iff.2 rfl
  simp [rowsInts, irow, rowInt, hk]

structure BitSt where
  i : Nat
  out : List Int

set_option maxRecDepth 4000 in
set_option maxHeartbeats 1000000 in
theorem value_c {a : List Int} (ha : Small a) (la : Limbs a) : callP Try.prog 114 [ints .u32 a] (· = ints .u8 (bitsOf (val a))) := by
  unfold Small at ha
  refine callE_def env (fn := Try.f114) rfl (by decide) rfl ?_
  refine loop_weak (fun s : BitSt => slots 29 [(0, ints .u32 a), (3, .slice ⟨0, 0, 0⟩ (32 * s.i)), (4, .int .i64 s.i)]) (fun s => [.ints .u8 s.out])
    (fun s => s.i ≤ a.length ∧ s.out.length = 32 * s.i ∧ Bin s.out ∧ bv s.out = val (a.take s.i)) (fun s => a.length - s.i) ⟨0, []⟩ ⟨by simp, rfl, (fun x hx => by cases hx), rfl⟩
    ((weak_nil 3 (.ints .u8 []) rfl rfl).trans (weak_keep (keep 29 [0, 3, 4]) [0] rfl rfl rfl)) ?_
  rintro ⟨i, out⟩ ⟨hi, hlen, hb, hv⟩
  simp only at hi hlen hb hv
  have et : ((i : Int)).toNat = i := by omega
  have ei : IntKind.i64.wrap ((i : Int) + 1) = ((i + 1 : Nat) : Int) := by rw [wi (by omega) (by omega)]; rfl
  apply branch_intro <;> intro h
  · have hlt : i < a.length := by simp at h; omega
    have xa := limb_bound la i
    obtain ⟨x, hx⟩ : ∃ x : Nat, a.getD i 0 = x := ⟨(a.getD i 0).toNat, by omega⟩
    refine loop_inv (keep 29 [0, 3, 4, 5]) (fun s : BitSt => slots 29 [(0, ints .u32 a), (3, .slice ⟨0, 0, 0⟩ (32 * i + s.i)), (4, .int .i64 i), (5, .int .i64 s.i)]) (fun s => [.ints .u8 s.out])
      (fun s => s.i ≤ 32 ∧ s.out.length = 32 * i + s.i ∧ Bin s.out ∧ bv s.out = val (a.take i) + 2 ^ (32 * i) * (x % 2 ^ s.i)) (fun s => 32 - s.i) ⟨0, out⟩ ⟨by simp, hlen, hb, by simp [hv, Nat.mod_one]⟩ rfl rfl ?_
    rintro ⟨k, o⟩ ⟨hk, hol, hob, hov⟩
    simp only at hk hol hob hov
    apply branch_intro <;> intro h2
    · have hk2 : k < 32 := by simp at h2; omega
      apply need_intro
      · first | omega | (dsimp only; omega)
      apply need_intro
      · first | omega | (dsimp only; omega)
      apply choice_l
      apply need_intro
      · show (32 * i + k + 1) * 1 ≤ 2 ^ 47
        omega
      apply need_intro
      · exact ⟨by show 0 + (32 * i + k) = o.length; omega, isRow_irow _ _ _⟩
      have hq : x / 2 ^ k < 4294967296 := Nat.lt_of_le_of_lt (Nat.div_le_self _ _) (by omega)
      have e1 : IntKind.u8.wrap (IntKind.u32.wrap ((BitVec.ofInt IntKind.u32.bits ((a.getD ((i : Int)).toNat 0).fdiv (2 ^ (min ((k : Int)).toNat IntKind.u32.bits))) &&& BitVec.ofInt IntKind.u32.bits 1).toNat : Int)) = ((x / 2 ^ k % 2 : Nat) : Int) := by
        rw [et, hx, Int.toNat_natCast, shr_nat .u32 (by show k ≤ 32; omega), and_one32 hq]
        exact wu8 (by omega) (by omega)
      have hbit : ((x / 2 ^ k % 2 : Nat) : Int) = 0 ∨ ((x / 2 ^ k % 2 : Nat) : Int) = 1 := by omega
      refine ⟨⟨k + 1, o ++ [((x / 2 ^ k % 2 : Nat) : Int)]⟩, ⟨by simp only; omega, by simp only [List.length_append, List.length_cons, List.length_nil]; omega, bin_snoc hob hbit, ?_⟩, by simp only; omega, ?_, ?_⟩
      · simp only
        rw [bv_snoc, hov, hol, Int.toNat_natCast, Nat.mod_pow_succ, Nat.mul_add, Nat.pow_add, Nat.mul_assoc, Nat.add_assoc]
      · rw [wi (x := (k : Int) + 1) (by omega) (by omega)]
        rfl
      · show [Blk.ints _ _] = _
        rw [e1, snoc_row]
    · have hk2 : k = 32 := by simp at h2; omega
      subst hk2
      refine ⟨⟨i + 1, o⟩, ⟨hlt, by simp only; omega, hob, ?_⟩, by simp only; omega, weak_keep (keep 29 [0, 3, 4]) [0] rfl ?_ rfl⟩
      · simp only
        rw [hov, val_take_succ, hx, Int.toNat_natCast, Nat.mod_eq_of_lt (by show x < 4294967296; omega)]
      · rw [ei]
        rfl
  · have hlt : i = a.length := by simp at h; omega
    subst hlt
    rw [List.take_of_length_le (Nat.le_refl _)] at hv
    have hc := rtrim_c (l := out) (by unfold Short; omega)
    rw [trim_bits hb, hv] at hc
    refine callT_last 0 rfl (Nat.le_refl _) hlen.symm ?_
    refine callT_E hc rfl ?_
    show Eqv _ _
    exact .up (.up (.refl _))

set_option maxRecDepth 4000 in
theorem rof_c {n : Nat} (hn : n < 18446744073709551616) : callP Try.prog 89 [.int .u64 n] (· = ints .u8 (bitsOf n)) := by
  refine callE_def env (fn := Try.f89) rfl (by decide) rfl ?_
  refine loop_weak (fun s : BitSt => slots 19 [(0, .int .u64 n), (3, .slice ⟨0, 0, 0⟩ s.i), (4, .int .i64 s.i)]) (fun s => [.ints .u8 s.out])
    (fun s => s.i ≤ 64 ∧ s.out.length = s.i ∧ Bin s.out ∧ bv s.out = n % 2 ^ s.i) (fun s => 64 - s.i) ⟨0, []⟩ ⟨by simp, rfl, (fun x hx => by cases hx), by simp [bv, Nat.mod_one]⟩
    ((weak_nil 3 (.ints .u8 []) rfl rfl).trans (weak_keep (keep 19 [0, 3, 4]) [0] rfl rfl rfl)) ?_
  rintro ⟨k, o⟩ ⟨hk, hol, hob, hov⟩
  simp only at hk hol hob hov
  apply branch_intro <;> intro h2
  · have hk2 : k < 64 := by simp at h2; omega
    apply need_intro
    · first | omega | (dsimp only; omega)
    apply choice_l
    apply need_intro
    · show (k + 1) * 1 ≤ 2 ^ 47
      omega
    apply need_intro
    · exact ⟨by show 0 + k = o.length; omega, isRow_irow _ _ _⟩
    have hq : n / 2 ^ k < 18446744073709551616 := Nat.lt_of_le_of_lt (Nat.div_le_self _ _) hn
    have e1 : IntKind.u8.wrap (IntKind.u64.wrap ((BitVec.ofInt IntKind.u64.bits ((n : Int).fdiv (2 ^ (min ((k : Int)).toNat IntKind.u64.bits))) &&& BitVec.ofInt IntKind.u64.bits 1).toNat : Int)) = ((n / 2 ^ k % 2 : Nat) : Int) := by
      rw [Int.toNat_natCast, shr_nat .u64 (by show k ≤ 64; omega), and_one64 hq]
      exact wu8 (by omega) (by omega)
    have hbit : ((n / 2 ^ k % 2 : Nat) : Int) = 0 ∨ ((n / 2 ^ k % 2 : Nat) : Int) = 1 := by omega
    refine ⟨⟨k + 1, o ++ [((n / 2 ^ k % 2 : Nat) : Int)]⟩, ⟨by simp only; omega, by simp only [List.length_append, List.length_cons, List.length_nil]; omega, bin_snoc hob hbit, ?_⟩, by simp only; omega, weak_keep (keep 19 [0, 3, 4]) [0] rfl ?_ ?_⟩
    · simp only
      rw [bv_snoc, hov, hol, Int.toNat_natCast, Nat.mod_pow_succ]
    · rw [wi (x := (k : Int) + 1) (by omega) (by omega)]
      rfl
    · show [Blk.ints _ _] = _
      rw [e1, snoc_row]
  · have hk2 : k = 64 := by simp at h2; omega
    subst hk2
    rw [Nat.mod_eq_of_lt (by show n < 18446744073709551616; exact hn)] at hov
    have hc := rtrim_c (l := o) (by unfold Short; omega)
    rw [trim_bits hob, hov] at hc
    refine callT_last 0 rfl (Nat.le_refl _) hol.symm ?_
    refine callT_E hc rfl ?_
    show Eqv _ _
    exact .up (.up (.refl _))
end Go.Proofs.N13
/-! Ob. -/
namespace Go.Proofs.N13
open Go.E
set_option maxRecDepth 8000

theorem digit_c {l : List Int} {i : Int} (hi : 0 ≤ i) : callP Try.prog 112 [ints .u8 l, .int .i64 i] (· = .int .u8 (l.getD i.toNat 0)) := by
  refine callE_def env (fn := Try.f112) rfl (by decide) rfl ?_
  apply branch_intro <;> intro h
  · apply need_intro
    · simp at h; omega
    · show Eqv _ _
      exact .up (.up (.refl _))
  · show Eqv _ _
    have : l.getD i.toNat 0 = 0 := by
      rw [List.getD_eq_getElem?_getD, List.getElem?_eq_none (by simp at h; omega)]
      rfl
    rw [this]
    exact .up (.up (.refl _))

theorem len_lt {x y : Nat} (h : bitLen x < bitLen y) : x < y := by
  apply Classical.byContradiction
  intro hn
  have h1 := bitLen_le.1 (Nat.le_refl (bitLen x))
  have h2 := bitLen_le.2 (Nat.lt_of_le_of_lt (Nat.le_of_not_lt hn) h1)
  omega
theorem bv_split (l : List Int) (i : Nat) : bv l = bv (l.take i) + 2 ^ i * bv (l.drop i) := by
  by_cases h : i ≤ l.length
  · have : l = l.take i ++ l.drop i := (List.take_append_drop i l).symm
    conv => lhs; rw [this]
    rw [bv_append, List.length_take, Nat.min_eq_left h]
  · rw [List.take_of_length_le (by omega), List.drop_of_length_le (by omega)]
    simp [bv]
theorem bv_drop_lt {a b : List Int} (ha : Bin a) (hb : Bin b) {i : Nat} (h : bv (a.drop i) = bv (b.drop i)) (hi : 1 ≤ i) (hlt : a.getD (i - 1) 0 < b.getD (i - 1) 0) : bv a < bv b := by
  have e1 := bv_split a (i - 1)
  have e2 := bv_split b (i - 1)
  have s1 : bv (a.drop (i - 1)) = (a.getD (i - 1) 0).toNat + 2 * bv (a.drop i) := by
    by_cases hl : i - 1 < a.length
    · rw [List.drop_eq_getElem_cons hl, bv, List.getD_eq_getElem?_getD, List.getElem?_eq_getElem hl, show i - 1 + 1 = i by omega]
      rfl
    · rw [List.drop_of_length_le (by omega), List.drop_of_length_le (by omega), List.getD_eq_getElem?_getD, List.getElem?_eq_none (by omega)]
      rfl
  have s2 : bv (b.drop (i - 1)) = (b.getD (i - 1) 0).toNat + 2 * bv (b.drop i) := by
    by_cases hl : i - 1 < b.length
    · rw [List.drop_eq_getElem_cons hl, bv, List.getD_eq_getElem?_getD, List.getElem?_eq_getElem hl, show i - 1 + 1 = i by omega]
      rfl
    · rw [List.drop_of_length_le (by omega), List.drop_of_length_le (by omega), List.getD_eq_getElem?_getD, List.getElem?_eq_none (by omega)]
      rfl
  have la := bv_lt (l := a.take (i - 1)) fun x hx => ha x (List.mem_of_mem_take hx)
  have lt1 : bv (a.take (i - 1)) < 2 ^ (i - 1) := Nat.lt_of_lt_of_le la (Nat.pow_le_pow_right (by omega) (by simp; omega))
  have xa := bin_at ha (i - 1)
  have xb := bin_at hb (i - 1)
  rw [e1, e2, s1, s2, h]
  generalize 2 ^ (i - 1) = p at *
  generalize bv (b.drop i) = q
  have ha0 : (a.getD (i - 1) 0).toNat = 0 := by omega
  have hb1 : (b.getD (i - 1) 0).toNat = 1 := by omega
  rw [ha0, hb1, Nat.mul_add p 0, Nat.mul_add p 1]
  omega

set_option maxRecDepth 4000 in
theorem rcmp_c (x y : Nat) (hx : bitLen x ≤ 1073741824) (hy : bitLen y ≤ 1073741824) : callP Try.prog 86 [ints .u8 (bitsOf x), ints .u8 (bitsOf y)] (· = .int .i64 (cmpN x y)) := by
  have la := bitsOf_len x
  have lb := bitsOf_len y
  have ba := bin_bitsOf x
  have bb := bin_bitsOf y
  have va := bv_bitsOf x
  have vb := bv_bitsOf y
  generalize bitsOf x = a at *
  generalize bitsOf y = b at *
  refine callE_def env (fn := Try.f86) rfl (by decide) rfl ?_
  apply branch_intro <;> intro h
  · have h : a.length < b.length := by simp at h; omega
    show Eqv _ _
    have := len_lt (x := x) (y := y) (by omega)
    rw [cmpN, if_pos this]
    exact .up (.up (.refl _))
  apply branch_intro <;> intro h'
  · have h' : b.length < a.length := by simp at h'; omega
    show Eqv _ _
    have := len_lt (x := y) (y := x) (by omega)
    rw [cmpN, if_neg (by omega), if_pos (by omega)]
    exact .up (.up (.refl _))
  have hl : a.length = b.length := by simp at h h'; omega
  have e0 : IntKind.i64.wrap ((a.length : Int) - 1) = (a.length : Int) - 1 := wi (by omega) (by omega)
  refine loop_inv (keep 41 [0, 1, 5]) (fun m : Nat => slots 41 [(0, ints .u8 a), (1, ints .u8 b), (5, .int .i64 ((m : Int) - 1))]) (fun _ => [])
    (fun m => m ≤ a.length ∧ bv (a.drop m) = bv (b.drop m)) (fun m => m) a.length ⟨Nat.le_refl _, by rw [List.drop_of_length_le (Nat.le_refl _), List.drop_of_length_le (by omega)]⟩ ?_ rfl ?_
  · rw [e0]
    rfl
  rintro m ⟨hm, hv⟩
  apply branch_intro <;> intro h3
  · obtain ⟨j, rfl⟩ : ∃ j, m = j + 1 := ⟨m - 1, by simp at h3; omega⟩
    have ej : ((j + 1 : Nat) : Int) - 1 = j := by omega
    have et : ((j : Int)).toNat = j := by omega
    have xa := bin_at ba j
    have xb := bin_at bb j
    refine draw_intro [0, 1, 2, 3, 4, 5, 6, 7, 8] (by decide +kernel) ?_
    apply need_intro
    · omega
    apply need_intro
    · omega
    conv => whnf
    simp only [ej, et]
    apply branch_intro <;> intro h4
    · have h4 : a.getD j 0 < b.getD j 0 := by simpa using h4
      show Eqv _ _
      have := bv_drop_lt ba bb hv (by omega) (by simpa using h4)
      rw [cmpN, if_pos (by omega)]
      exact .up (.up (.refl _))
    refine draw_intro [0, 1, 2, 3, 4, 5, 6, 7, 8] (by decide +kernel) ?_
    apply need_intro
    · omega
    apply need_intro
    · omega
    conv => whnf
    simp only [et]
    apply branch_intro <;> intro h5
    · have h5 : b.getD j 0 < a.getD j 0 := by simpa using h5
      show Eqv _ _
      have := bv_drop_lt bb ba hv.symm (by omega) (by simpa using h5)
      rw [cmpN, if_neg (by omega), if_pos (by omega)]
      exact .up (.up (.refl _))
    have he : a.getD j 0 = b.getD j 0 := by
      simp only [decide_eq_false_iff_not] at h4 h5
      omega
    refine ⟨j, ⟨by omega, ?_⟩, by omega, ?_, rfl⟩
    · have h6 : j < a.length := by omega
      have h7 : j < b.length := by omega
      rw [List.drop_eq_getElem_cons h6, List.drop_eq_getElem_cons h7, bv, bv, hv]
      rw [List.getD_eq_getElem?_getD, List.getElem?_eq_getElem h6, List.getD_eq_getElem?_getD, List.getElem?_eq_getElem h7] at he
      simp only [Option.getD_some] at he
      rw [he]
    · rw [wi (x := (j : Int) - 1) (by omega) (by omega)]
      rfl
  · have hm0 : m = 0 := by simp at h3; omega
    subst hm0
    simp only [List.drop_zero] at hv
    show Eqv _ _
    rw [cmpN, if_neg (by omega), if_neg (by omega)]
    exact .up (.up (.refl _))

theorem add_bits (p x y c s V W X : Nat) (hs : s = x + y + c) (h : V + p * c = W + X) : V + p * (s % 2) + p * 2 * (s / 2) = W + p * x + (X + p * y) := by
  have hd := Nat.div_add_mod s 2
  generalize s / 2 = q at hd ⊢
  generalize s % 2 = r at hd ⊢
  have h1 : p * r + p * 2 * q = p * x + p * y + p * c := by
    rw [Nat.mul_assoc, ← Nat.mul_add, Nat.add_comm r, hd, hs, Nat.mul_add, Nat.mul_add]
  omega

set_option maxRecDepth 4000 in
set_option maxHeartbeats 1000000 in
theorem radd_c (x y : Nat) (hx : bitLen x ≤ 1073741824) (hy : bitLen y ≤ 1073741824) : callP Try.prog 85 [ints .u8 (bitsOf x), ints .u8 (bitsOf y)] (· = ints .u8 (bitsOf (x + y))) := by
  have la := bitsOf_len x
  have lb := bitsOf_len y
  have ba := bin_bitsOf x
  have bb := bin_bitsOf y
  have va := bv_bitsOf x
  have vb := bv_bitsOf y
  generalize bitsOf x = a at *
  generalize bitsOf y = b at *
  refine callE_def env (fn := Try.f85) rfl (by decide) rfl ?_
  refine loop_weak (fun s : AddSt => slots 42 [(0, ints .u8 a), (1, ints .u8 b), (5, .slice ⟨0, 0, 0⟩ s.i), (6, .int .u8 s.c), (7, .int .i64 s.i)]) (fun s => [.ints .u8 s.out])
    (fun s => (s.i ≤ a.length ∨ s.i ≤ b.length) ∧ s.out.length = s.i ∧ Bin s.out ∧ s.c ≤ 1 ∧ bv s.out + 2 ^ s.i * s.c = bv (a.take s.i) + bv (b.take s.i)) (fun s => max a.length b.length - s.i) ⟨0, 0, []⟩ ⟨by simp, rfl, (fun x hx => by cases hx), by simp, by simp [bv]⟩
    ((weak_nil 5 (.ints .u8 []) rfl rfl).trans (weak_keep (keep 42 [0, 1, 5, 6, 7]) [0] rfl rfl rfl)) ?_
  rintro ⟨i, c, out⟩ ⟨hi, hlen, hb, hc, hv⟩
  simp only at hi hlen hb hc hv
  have et : ((i : Int)).toNat = i := by omega
  have ei : IntKind.i64.wrap ((i : Int) + 1) = ((i + 1 : Nat) : Int) := by rw [wi (by omega) (by omega)]; rfl
  have xa := bin_at ba i
  have xb := bin_at bb i
  have go : (i < a.length ∨ i < b.length) → ∀ tm : List AVal, forget (keep 42 [0, 1, 5, 6, 7]) tm = slots 42 [(0, ints .u8 a), (1, ints .u8 b), (5, .slice ⟨0, 0, 0⟩ i), (6, .int .u8 c), (7, .int .i64 i)] → True := fun _ _ _ => trivial
  have fin : ¬ i < a.length → ¬ i < b.length → bv out + 2 ^ i * c = x + y := fun h1 h2 => by
    rw [hv, List.take_of_length_le (by omega), List.take_of_length_le (by omega), va, vb]
  obtain ⟨p, hp⟩ : ∃ p : Nat, a.getD i 0 = p := ⟨(a.getD i 0).toNat, by omega⟩
  obtain ⟨q, hq⟩ : ∃ q : Nat, b.getD i 0 = q := ⟨(b.getD i 0).toNat, by omega⟩
  have e1 : IntKind.u8.wrap ((p : Int) + q) = ((p + q : Nat) : Int) := by rw [wu8 (by omega) (by omega)]; omega
  have e2 : IntKind.u8.wrap (((p + q : Nat) : Int) + c) = ((p + q + c : Nat) : Int) := by rw [wu8 (by omega) (by omega)]; omega
  have e3 : ((p + q + c : Nat) : Int).tmod 2 = (((p + q + c) % 2 : Nat) : Int) := by rw [Int.tmod_eq_emod_of_nonneg (by omega)]; omega
  have e4 : IntKind.u8.wrap (((p + q + c : Nat) : Int).tdiv 2) = (((p + q + c) / 2 : Nat) : Int) := by rw [Int.tdiv_eq_ediv_of_nonneg (by omega), wu8 (by omega) (by omega)]; omega
  have step : ∀ (hor : i < a.length ∨ i < b.length), bv (out ++ [(((p + q + c) % 2 : Nat) : Int)]) + 2 ^ (i + 1) * ((p + q + c) / 2) = bv (a.take (i + 1)) + bv (b.take (i + 1)) := fun _ => by
    rw [bv_snoc, bv_take_succ, bv_take_succ, hlen, hp, hq, Int.toNat_natCast, Int.toNat_natCast, Int.toNat_natCast, Nat.pow_succ]
    exact add_bits _ _ _ _ _ _ _ _ rfl hv
  have hbit : (((p + q + c) % 2 : Nat) : Int) = 0 ∨ (((p + q + c) % 2 : Nat) : Int) = 1 := by omega
  apply branch_intro <;> intro h
  · have h : i < a.length := by simp at h; omega
    repeat (first | refine branch_true ?_ | refine branch_false ?_)
    refine callT_E (digit_c (by omega)) rfl ?_
    refine callT_E (digit_c (by omega)) rfl ?_
    apply need_intro
    · decide
    apply choice_l
    apply need_intro
    · show (i + 1) * 1 ≤ 2 ^ 47
      omega
    apply need_intro
    · exact ⟨by show 0 + i = out.length; omega, isRow_irow _ _ _⟩
    apply need_intro
    · decide
    refine ⟨⟨i + 1, (p + q + c) / 2, out ++ [(((p + q + c) % 2 : Nat) : Int)]⟩, ⟨by simp only; omega, by simp [hlen], bin_snoc hb hbit, by simp only; omega, step (.inl h)⟩, by simp only; omega, weak_keep (keep 42 [0, 1, 5, 6, 7]) [0] rfl ?_ ?_⟩
    · simp only [et, hp, hq, e1, e2, e4, ei]
      rfl
    · show [Blk.ints _ _] = _
      simp only [et, hp, hq, e1, e2, e3]
      rw [snoc_row]
  · have h : ¬ i < a.length := by simp at h; omega
    repeat (first | refine branch_true ?_ | refine branch_false ?_)
    apply branch_intro <;> intro h'
    · have h' : i < b.length := by simp at h'; omega
      repeat (first | refine branch_true ?_ | refine branch_false ?_)
      refine callT_E (digit_c (by omega)) rfl ?_
      refine callT_E (digit_c (by omega)) rfl ?_
      apply need_intro
      · decide
      apply choice_l
      apply need_intro
      · show (i + 1) * 1 ≤ 2 ^ 47
        omega
      apply need_intro
      · exact ⟨by show 0 + i = out.length; omega, isRow_irow _ _ _⟩
      apply need_intro
      · decide
      refine ⟨⟨i + 1, (p + q + c) / 2, out ++ [(((p + q + c) % 2 : Nat) : Int)]⟩, ⟨by simp only; omega, by simp [hlen], bin_snoc hb hbit, by simp only; omega, step (.inr h')⟩, by simp only; omega, weak_keep (keep 42 [0, 1, 5, 6, 7]) [0] rfl ?_ ?_⟩
      · simp only [et, hp, hq, e1, e2, e4, ei]
        rfl
      · show [Blk.ints _ _] = _
        simp only [et, hp, hq, e1, e2, e3]
        rw [snoc_row]
    · have h' : ¬ i < b.length := by simp at h'; omega
      repeat (first | refine branch_true ?_ | refine branch_false ?_)
      apply choice_l
      apply need_intro
      · show (i + 1) * 1 ≤ 2 ^ 47
        omega
      apply need_intro
      · exact ⟨by show 0 + i = out.length; omega, isRow_irow _ _ _⟩
      have hcb : (c : Int) = 0 ∨ (c : Int) = 1 := by omega
      have hfb := bin_snoc hb hcb
      have hc := rtrim_c (l := out ++ [(c : Int)]) (by unfold Short; simp [hlen]; omega)
      rw [trim_bits hfb, bv_snoc, hlen, Int.toNat_natCast, fin h h'] at hc
      refine callT_last 0 rfl (Nat.le_refl _) ?_ ?_
      · rw [snoc_row]; simp [hlen]
      · rw [snoc_row]
        refine callT_E hc rfl ?_
        show Eqv _ _
        exact .up (.up (.refl _))

theorem sub_bits (p x y c s V W X : Nat) (hs : s = 2 + x - y - c) (hx : x ≤ 1) (hy : y ≤ 1) (hc : c ≤ 1) (h : W + p * c = V + X) : W + p * x + p * 2 * (1 - s / 2) = V + p * (s % 2) + (X + p * y) := by
  have hd := Nat.div_add_mod s 2
  have hs2 : s / 2 ≤ 1 := by omega
  have h1 : x + 2 * (1 - s / 2) = s % 2 + y + c := by omega
  have h2 : p * x + p * 2 * (1 - s / 2) = p * (s % 2) + p * y + p * c := by
    rw [Nat.mul_assoc, ← Nat.mul_add, h1, Nat.mul_add, Nat.mul_add]
  omega

set_option maxRecDepth 4000 in
set_option maxHeartbeats 1000000 in
theorem rsub_c (x y : Nat) (hx : bitLen x ≤ 1073741824) (hxy : y ≤ x) : callP Try.prog 87 [ints .u8 (bitsOf x), ints .u8 (bitsOf y)] (· = ints .u8 (bitsOf (x - y))) := by
  have la := bitsOf_len x
  have lb := bitsOf_len y
  have hlen2 : bitLen y ≤ bitLen x := bitLen_le.2 (Nat.lt_of_le_of_lt hxy (bitLen_le.1 (Nat.le_refl _)))
  have ba := bin_bitsOf x
  have bb := bin_bitsOf y
  have va := bv_bitsOf x
  have vb := bv_bitsOf y
  generalize bitsOf x = a at *
  generalize bitsOf y = b at *
  refine callE_def env (fn := Try.f87) rfl (by decide) rfl ?_
  refine loop_weak (fun s : AddSt => slots 35 [(0, ints .u8 a), (1, ints .u8 b), (5, .slice ⟨0, 0, 0⟩ s.i), (6, .int .u8 s.c), (7, .int .i64 s.i)]) (fun s => [.ints .u8 s.out])
    (fun s => s.i ≤ a.length ∧ s.out.length = s.i ∧ Bin s.out ∧ s.c ≤ 1 ∧ bv (a.take s.i) + 2 ^ s.i * s.c = bv s.out + bv (b.take s.i)) (fun s => a.length - s.i) ⟨0, 0, []⟩ ⟨by simp, rfl, (fun x hx => by cases hx), by simp, by simp [bv]⟩
    ((weak_nil 5 (.ints .u8 []) rfl rfl).trans (weak_keep (keep 35 [0, 1, 5, 6, 7]) [0] rfl rfl rfl)) ?_
  rintro ⟨i, c, out⟩ ⟨hi, hlen, hb, hc, hv⟩
  simp only at hi hlen hb hc hv
  have et : ((i : Int)).toNat = i := by omega
  have ei : IntKind.i64.wrap ((i : Int) + 1) = ((i + 1 : Nat) : Int) := by rw [wi (by omega) (by omega)]; rfl
  have xa := bin_at ba i
  have xb := bin_at bb i
  obtain ⟨p, hp⟩ : ∃ p : Nat, a.getD i 0 = p := ⟨(a.getD i 0).toNat, by omega⟩
  obtain ⟨q, hq⟩ : ∃ q : Nat, b.getD i 0 = q := ⟨(b.getD i 0).toNat, by omega⟩
  obtain ⟨s, hs⟩ : ∃ s : Nat, s = 2 + p - q - c := ⟨_, rfl⟩
  have e1 : IntKind.u8.wrap (2 + (p : Int)) = ((2 + p : Nat) : Int) := by rw [wu8 (by omega) (by omega)]; omega
  have e2 : IntKind.u8.wrap (((2 + p : Nat) : Int) - q) = ((2 + p - q : Nat) : Int) := by rw [wu8 (by omega) (by omega)]; omega
  have e3 : IntKind.u8.wrap (((2 + p - q : Nat) : Int) - c) = (s : Int) := by rw [wu8 (by omega) (by omega)]; omega
  have e4 : (s : Int).tmod 2 = ((s % 2 : Nat) : Int) := by rw [Int.tmod_eq_emod_of_nonneg (by omega)]; omega
  have e5 : IntKind.u8.wrap ((s : Int).tdiv 2) = ((s / 2 : Nat) : Int) := by rw [Int.tdiv_eq_ediv_of_nonneg (by omega), wu8 (by omega) (by omega)]; omega
  have e6 : IntKind.u8.wrap (1 - ((s / 2 : Nat) : Int)) = ((1 - s / 2 : Nat) : Int) := by rw [wu8 (by omega) (by omega)]; omega
  have hbit : ((s % 2 : Nat) : Int) = 0 ∨ ((s % 2 : Nat) : Int) = 1 := by omega
  apply branch_intro <;> intro h
  · have h : i < a.length := by simp at h; omega
    refine callT_E (digit_c (by omega)) rfl ?_
    refine callT_E (digit_c (by omega)) rfl ?_
    apply need_intro
    · decide
    apply choice_l
    apply need_intro
    · show (i + 1) * 1 ≤ 2 ^ 47
      omega
    apply need_intro
    · exact ⟨by show 0 + i = out.length; omega, isRow_irow _ _ _⟩
    apply need_intro
    · decide
    refine ⟨⟨i + 1, 1 - s / 2, out ++ [((s % 2 : Nat) : Int)]⟩, ⟨by simp only; omega, by simp [hlen], bin_snoc hb hbit, by simp only; omega, ?_⟩, by simp only; omega, weak_keep (keep 35 [0, 1, 5, 6, 7]) [0] rfl ?_ ?_⟩
    · simp only
      rw [bv_snoc, bv_take_succ, bv_take_succ, hlen, hp, hq, Int.toNat_natCast, Int.toNat_natCast, Int.toNat_natCast, Nat.pow_succ]
      exact sub_bits _ _ _ _ _ _ _ _ hs (by omega) (by omega) hc hv
    · simp only [et, hp, hq, e1, e2, e3, e5, e6, ei]
      rfl
    · show [Blk.ints _ _] = _
      simp only [et, hp, hq, e1, e2, e3, e4]
      rw [snoc_row]
  · have h : i = a.length := by simp at h; omega
    subst h
    rw [List.take_of_length_le (Nat.le_refl _), List.take_of_length_le (by omega), va, vb] at hv
    have hlt := bv_lt hb
    rw [hlen] at hlt
    have hc0 : c = 0 := by
      apply Classical.byContradiction
      intro hn
      have : c = 1 := by omega
      subst this
      omega
    subst hc0
    have hc := rtrim_c (l := out) (by unfold Short; omega)
    rw [trim_bits hb, show bv out = x - y by omega] at hc
    refine callT_last 0 rfl (Nat.le_refl _) hlen.symm ?_
    refine callT_E hc rfl ?_
    show Eqv _ _
    exact .up (.up (.refl _))

theorem bitsOf_shl (n x : Nat) (h : x ≠ 0) : bitsOf (2 ^ n * x) = List.replicate n 0 ++ bitsOf x := by
  induction n with
  | zero => simp
  | succ n ih =>
    have h0 : 2 ^ (n + 1) * x ≠ 0 := Nat.mul_ne_zero (Nat.pos_iff_ne_zero.1 (Nat.two_pow_pos _)) h
    have e : 2 ^ (n + 1) * x = 2 * (2 ^ n * x) := by rw [Nat.pow_succ, Nat.mul_comm (2 ^ n) 2, Nat.mul_assoc]
    rw [bitsOf_pos h0, e, show 2 * (2 ^ n * x) % 2 = 0 by omega, show 2 * (2 ^ n * x) / 2 = 2 ^ n * x by omega, ih]
    rfl
theorem bitsOf_shr (n x : Nat) : (bitsOf x).drop n = bitsOf (x / 2 ^ n) := by
  induction n generalizing x with
  | zero => simp
  | succ n ih =>
    by_cases h : x = 0
    · subst h; simp [bitsOf_zero]
    · rw [bitsOf_pos h, List.drop_succ_cons, ih, Nat.div_div_eq_div_mul, Nat.pow_succ, Nat.mul_comm 2]

set_option maxRecDepth 4000 in
theorem rshl_c (x n : Nat) (hx : bitLen x ≤ 1073741824) (hn : n ≤ 1073741824) : callP Try.prog 83 [ints .u8 (bitsOf x), .int .i64 n] (· = ints .u8 (bitsOf (2 ^ n * x))) := by
  have la := bitsOf_len x
  refine callE_def env (fn := Try.f83) rfl (by decide) rfl ?_
  apply branch_intro <;> intro h
  · have h0 : bitsOf x = [] := List.eq_nil_of_length_eq_zero (by simp at h; simp [h])
    have hx0 : x = 0 := by rw [← bv_bitsOf x, h0]; rfl
    subst hx0
    show Eqv _ _
    rw [Nat.mul_zero, bitsOf_zero]
    exact .up (.up (.nil _ _))
  · have hx0 : x ≠ 0 := by
      rintro rfl
      rw [bitsOf_zero] at h
      simp at h
    rw [bitsOf_shl n x hx0]
    generalize bitsOf x = a at *
    apply need_intro
    · omega
    apply choice_r
    apply need_intro
    · show (((n : Int)).toNat + a.length) * 1 ≤ 2 ^ 47
      omega
    apply need_intro
    · exact ⟨by simp, isRow_irow _ _ _⟩
    have e1 : List.drop 0 (List.replicate ((n : Int)).toNat (0 : Int)) ++ rowsInts .u8 a.length (irow .u8 a) = List.replicate n 0 ++ a := by
      rw [ints_of_row, List.drop_zero, Int.toNat_natCast]
    apply need_intro
    · rw [e1]; simp
    conv => whnf
    rw [e1]
    refine .up (.up (eqv_ints (by simp) fun i hi => rfl))

set_option maxRecDepth 4000 in
theorem rshr_c (x n : Nat) (hx : bitLen x ≤ 1073741824) (hn : n ≤ 1073741824) : callP Try.prog 111 [ints .u8 (bitsOf x), .int .i64 n] (· = ints .u8 (bitsOf (x / 2 ^ n))) := by
  have la := bitsOf_len x
  refine callE_def env (fn := Try.f111) rfl (by decide) rfl ?_
  rw [← bitsOf_shr]
  generalize bitsOf x = a at *
  apply branch_intro <;> intro h
  · have h : a.length ≤ n := by simp at h; omega
    show Eqv _ _
    rw [List.drop_of_length_le h]
    exact .up (.up (.nil _ _))
  · have h : n < a.length := by simp at h; omega
    apply choice_r
    apply need_intro
    · omega
    apply need_intro
    · show (0 + (a.length - ((n : Int)).toNat)) * 1 ≤ 2 ^ 47
      omega
    apply need_intro
    · exact ⟨rfl, fun _ _ => ⟨_, rfl⟩⟩
    have e1 : ∀ l : List Int, List.drop 0 ([] : List Int) ++ l = l := fun l => rfl
    apply need_intro
    · rw [e1, rowsInts_len]; omega
    conv => whnf
    rw [e1]
    refine .up (.up (eqv_ints (by simp) fun i hi => ?_))
    have hi : i < a.length - n := by simp at hi; omega
    simp [irow, rowsInts, rowInt, sameKind, List.getElem?_drop, hi, List.getElem?_eq_getElem (show n + i < a.length by omega)]
end Go.Proofs.N13
/-! Oc. -/
namespace Go.Proofs.N13
open Go.E
set_option maxRecDepth 8000

/-- Limbs whose last one is needed are the number's. -/
theorem limbs_unique {l : List Int} (hl : Limbs l) (h : l = [] ∨ 2 ^ (32 * (l.length - 1)) ≤ val l) : l = limbsOf (val l) := by
  rcases h with rfl | h
  · rw [val, limbsOf_zero]
  · rw [← trim_val hl]
    by_cases h0 : l = []
    · subst h0; rfl
    · obtain ⟨m, x, rfl⟩ : ∃ m x, l = m ++ [x] := ⟨l.dropLast, l.getLast h0, (List.dropLast_concat_getLast h0).symm⟩
      rw [trimL_snoc]
      rw [if_neg]
      rintro rfl
      have hm : Limbs m := fun y hy => hl y (List.mem_append_left _ hy)
      have := val_lt hm
      rw [val_snoc] at h
      simp at h
      omega

theorem or_low32 {x b s : Nat} (hx : x < 2 ^ s) (hs : s < 32) (hb : b ≤ 1) : IntKind.u32.wrap ((BitVec.ofInt IntKind.u32.bits (x : Int) ||| BitVec.ofInt IntKind.u32.bits ((b * 2 ^ s : Nat) : Int)).toNat : Int) = ((x + 2 ^ s * b : Nat) : Int) ∧ x + 2 ^ s * b < 2 ^ (s + 1) := by
  have hp : 2 ^ (s + 1) ≤ 2 ^ 32 := Nat.pow_le_pow_right (by omega) (by omega)
  have h32 : (2 : Nat) ^ 32 = 4294967296 := rfl
  rw [h32] at hp
  have hmul : b * 2 ^ s ≤ 2 ^ s := by
    rcases (show b = 0 ∨ b = 1 by omega) with rfl | rfl
    · simp
    · simp
  have hcomm : 2 ^ s * b = b * 2 ^ s := Nat.mul_comm _ _
  have hlt : x + 2 ^ s * b < 2 ^ (s + 1) := by rw [Nat.pow_succ, hcomm]; omega
  refine ⟨?_, hlt⟩
  have h1 : (BitVec.ofInt IntKind.u32.bits (x : Int)).toNat = x := by
    rw [BitVec.ofInt_natCast, BitVec.toNat_ofNat]
    exact Nat.mod_eq_of_lt (by show x < 4294967296; rw [Nat.pow_succ] at hp; omega)
  have h2 : (BitVec.ofInt IntKind.u32.bits ((b * 2 ^ s : Nat) : Int)).toNat = b * 2 ^ s := by
    rw [BitVec.ofInt_natCast, BitVec.toNat_ofNat]
    exact Nat.mod_eq_of_lt (by show b * 2 ^ s < 4294967296; rw [Nat.pow_succ] at hp; omega)
  rw [BitVec.toNat_or, h1, h2]
  have h3 := Nat.two_pow_add_eq_or_of_lt (i := s) (b := x) hx b
  rw [Nat.or_comm, hcomm.symm, ← h3, Nat.add_comm]
  exact wu32 (by omega) (by omega)

theorem getD_last (l : List Int) (x : Int) : (l ++ [x]).getD l.length 0 = x := by
  rw [List.getD_eq_getElem?_getD, List.getElem?_append_right (Nat.le_refl _), Nat.sub_self]
  rfl
theorem set_last (l : List Int) (x y : Int) : (l ++ [x]).set l.length y = l ++ [y] := by
  rw [List.set_append_right _ _ (Nat.le_refl _), Nat.sub_self]
  rfl

/-- So far i digits are in the limbs. -/
structure NatSt where
  i : Nat
  full : List Int
  top : Nat
def natBlk (s : NatSt) : List Int := if s.i % 32 = 0 then s.full else s.full ++ [(s.top : Int)]
def natLen (s : NatSt) : Nat := if s.i % 32 = 0 then s.full.length else s.full.length + 1
def NatOk (a : List Int) (s : NatSt) : Prop := s.i ≤ a.length ∧ Limbs s.full ∧ s.full.length = s.i / 32 ∧ s.top < 2 ^ (s.i % 32) ∧ val s.full + 2 ^ (32 * (s.i / 32)) * s.top = bv (a.take s.i)

set_option maxRecDepth 4000 in
set_option maxHeartbeats 1000000 in
theorem nat_c {a : List Int} (ba : Bin a) (ha : a.length ≤ 1073741824) (htop : a = [] ∨ 2 ^ (a.length - 1) ≤ bv a) : callP Try.prog 91 [ints .u8 a] (· = ints .u32 (limbsOf (bv a))) := by
  refine callE_def env (fn := Try.f91) rfl (by decide) rfl ?_
  refine loop_weak (fun s : NatSt => slots 36 [(0, ints .u8 a), (3, .slice ⟨0, 0, 0⟩ (natLen s)), (4, .int .i64 s.i)]) (fun s => [.ints .u32 (natBlk s)])
    (NatOk a) (fun s => a.length - s.i) ⟨0, [], 0⟩ ⟨by simp, (fun x hx => by cases hx), rfl, by simp, by simp [val, bv]⟩
    ((weak_nil 3 (.ints .u32 []) rfl rfl).trans (weak_keep (keep 36 [0, 3, 4]) [0] rfl rfl rfl)) ?_
  rintro ⟨i, full, top⟩ ⟨hi, hl, hlen, ht, hv⟩
  simp only at hi hl hlen ht hv
  have et : ((i : Int)).toNat = i := by omega
  have ei : IntKind.i64.wrap ((i : Int) + 1) = ((i + 1 : Nat) : Int) := by rw [wi (by omega) (by omega)]; rfl
  have t1 : (i : Int).tdiv 32 = ((i / 32 : Nat) : Int) := by rw [Int.tdiv_eq_ediv_of_nonneg (by omega)]; omega
  have t2 : (i : Int).tmod 32 = ((i % 32 : Nat) : Int) := by rw [Int.tmod_eq_emod_of_nonneg (by omega)]; omega
  have t3 : IntKind.i64.wrap ((i / 32 : Nat) : Int) = ((i / 32 : Nat) : Int) := wi (by omega) (by omega)
  apply branch_intro <;> intro h
  · have hlt : i < a.length := by simp at h; omega
    have xa := bin_at ba i
    obtain ⟨x, hx⟩ : ∃ x : Nat, a.getD i 0 = x := ⟨(a.getD i 0).toNat, by omega⟩
    have hx1 : x ≤ 1 := by omega
    have hi32 : i % 32 < 32 := Nat.mod_lt _ (by omega)
    obtain ⟨o1, o2⟩ := or_low32 (s := i % 32) ht hi32 hx1
    have e1 : IntKind.u32.wrap (x : Int) = (x : Int) := wu32 (by omega) (by omega)
    have e2 : IntKind.u32.wrap ((x : Int) * 2 ^ (min (i % 32) IntKind.u32.bits)) = ((x * 2 ^ (i % 32) : Nat) : Int) := by
      have hb : IntKind.u32.bits = 32 := rfl
      rw [hb, Nat.min_eq_left (by omega)]
      have hp : 2 ^ (i % 32) ≤ 2 ^ 31 := Nat.pow_le_pow_right (by omega) (by omega)
      have h31 : (2 : Nat) ^ 31 = 2147483648 := rfl
      have hm : x * 2 ^ (i % 32) ≤ 1 * 2 ^ (i % 32) := Nat.mul_le_mul_right _ hx1
      have : (x : Int) * 2 ^ (i % 32) = ((x * 2 ^ (i % 32) : Nat) : Int) := by simp
      rw [this]
      exact wu32 (by omega) (by omega)
    -- the new state
    have next : ∀ (tm : List AVal) (hp : Heap), (∀ s : NatSt, NatOk a s → s.i = i + 1 → natBlk s = full ++ [((top + 2 ^ (i % 32) * x : Nat) : Int)] → natLen s = full.length + 1 → ∃ s', NatOk a s' ∧ a.length - s'.i < a.length - i ∧ WeakS 0 tm hp (slots 36 [(0, ints .u8 a), (3, .slice ⟨0, 0, 0⟩ (natLen s')), (4, .int .i64 s'.i)]) [.ints .u32 (natBlk s')]) →
        ∃ s', NatOk a s' ∧ a.length - s'.i < a.length - i ∧ WeakS 0 tm hp (slots 36 [(0, ints .u8 a), (3, .slice ⟨0, 0, 0⟩ (natLen s')), (4, .int .i64 s'.i)]) [.ints .u32 (natBlk s')] := by
      intro tm hp hs
      have hsum : bv (a.take (i + 1)) = val full + 2 ^ (32 * (i / 32)) * (top + 2 ^ (i % 32) * x) := by
        rw [bv_take_succ, ← hv, hx, Int.toNat_natCast, Nat.mul_add, ← Nat.mul_assoc, ← Nat.pow_add, Nat.div_add_mod]
        omega
      by_cases h31 : i % 32 = 31
      · have hq : (i + 1) / 32 = i / 32 + 1 := by omega
        have hr : (i + 1) % 32 = 0 := by omega
        have hlim : Limbs (full ++ [((top + 2 ^ (i % 32) * x : Nat) : Int)]) := by
          intro y hy
          rcases List.mem_append.1 hy with hy | hy
          · exact hl y hy
          · simp only [List.mem_singleton] at hy
            subst hy
            rw [h31] at o2 ⊢
            exact ⟨Int.natCast_nonneg _, Int.ofNat_lt.2 o2⟩
        refine hs ⟨i + 1, full ++ [((top + 2 ^ (i % 32) * x : Nat) : Int)], 0⟩ ⟨hlt, hlim, by simp [hlen, hq], by simp [hr], ?_⟩ rfl (by simp [natBlk, hr]) (by simp [natLen, hr])
        simp only
        rw [Nat.mul_zero, Nat.add_zero, val_snoc, hsum, hlen, Int.toNat_natCast]
      · have hq : (i + 1) / 32 = i / 32 := by omega
        have hr : (i + 1) % 32 = i % 32 + 1 := by omega
        refine hs ⟨i + 1, full, top + 2 ^ (i % 32) * x⟩ ⟨hlt, hl, by simp only; rw [hlen, hq], by simp only; rw [hr]; exact o2, ?_⟩ rfl (by simp [natBlk, hr]) (by simp [natLen, hr])
        simp only
        rw [hq, hsum]
    apply need_intro
    · decide
    conv => whnf
    rw [t2]
    apply branch_intro <;> intro h0
    · have h0 : i % 32 = 0 := by simp at h0; omega
      have ht0 : top = 0 := by rw [h0] at ht; simpa using ht
      subst ht0
      apply choice_l
      have hbk : natBlk ⟨i, full, 0⟩ = full := by simp [natBlk, h0]
      have hln : natLen ⟨i, full, 0⟩ = full.length := by simp [natLen, h0]
      apply need_intro
      · rw [hln]
        show (full.length + 1) * 4 ≤ 2 ^ 47
        omega
      apply need_intro
      · exact ⟨by rw [hln, hbk]; simp, isRow_irow _ _ _⟩
      have eb : List.drop 0 (natBlk ⟨i, full, 0⟩) ++ rowsInts .u32 1 (irow .u32 [0]) = full ++ [0] := by rw [hbk, snoc_row]
      refine draw_intro [0, 1, 2, 3, 4, 5, 6, 7, 8, 9, 10, 11, 12, 13, 14, 15, 16, 17, 18] (by decide +kernel) ?_
      have o1' := o1
      simp only [Int.natCast_zero, Nat.zero_add] at o1'
      apply need_intro
      · decide
      apply need_intro
      · decide
      apply need_intro
      · simp only [t1, t3, hln]; omega
      apply need_intro
      · simp only [t1, t3, Int.toNat_natCast, Nat.zero_add, Nat.add_zero, eb]; simp [hlen]
      apply need_intro
      · simp only; omega
      apply need_intro
      · decide
      apply need_intro
      · simp only [t2]; omega
      apply need_intro
      · simp only [t1, t3, hln]; omega
      apply need_intro
      · simp only [t1, t3, Int.toNat_natCast, Nat.zero_add, Nat.add_zero, eb]; simp [hlen]
      refine next _ _ fun s h1 h2 h3 h4 => ⟨s, h1, by omega, weak_keep (keep 36 [0, 3, 4]) [0] rfl ?_ ?_⟩
      · rw [h4, h2]
        simp only [ei, hln]
        rfl
      · rw [h3]
        show [Blk.ints _ _] = _
        simp only [t1, t2, t3, et, Int.toNat_natCast, Nat.zero_add, Nat.add_zero, eb, hx, e1, e2]
        simp only [← hlen, getD_last, set_last, o1']
    · have h0 : i % 32 ≠ 0 := by simp at h0; omega
      have hbk : natBlk ⟨i, full, top⟩ = full ++ [(top : Int)] := by simp [natBlk, h0]
      have hln : natLen ⟨i, full, top⟩ = full.length + 1 := by simp [natLen, h0]
      refine draw_intro [0, 1, 2, 3, 4, 5, 6, 7, 8, 9, 10, 11, 12, 13, 14, 15, 16, 17, 18] (by decide +kernel) ?_
      apply need_intro
      · decide
      apply need_intro
      · decide
      apply need_intro
      · simp only [t1, t3, hln]; omega
      apply need_intro
      · simp only [t1, t3, Int.toNat_natCast, Nat.zero_add, Nat.add_zero, hbk]; simp [hlen]
      apply need_intro
      · simp only; omega
      apply need_intro
      · decide
      apply need_intro
      · simp only [t2]; omega
      apply need_intro
      · simp only [t1, t3, hln]; omega
      apply need_intro
      · simp only [t1, t3, Int.toNat_natCast, Nat.zero_add, Nat.add_zero, hbk]; simp [hlen]
      refine next _ _ fun s h1 h2 h3 h4 => ⟨s, h1, by omega, weak_keep (keep 36 [0, 3, 4]) [0] rfl ?_ ?_⟩
      · rw [h4, h2]
        simp only [ei, hln]
        rfl
      · rw [h3]
        show [Blk.ints _ _] = _
        simp only [t1, t2, t3, et, Int.toNat_natCast, Nat.zero_add, Nat.add_zero, hbk, hx, e1, e2]
        simp only [← hlen, getD_last, set_last, o1]
  · have hlt : i = a.length := by simp at h; omega
    subst hlt
    rw [List.take_of_length_le (Nat.le_refl _)] at hv
    have hlim : Limbs (natBlk ⟨a.length, full, top⟩) := by
      unfold natBlk
      split
      · exact hl
      · intro y hy
        rcases List.mem_append.1 hy with hy | hy
        · exact hl y hy
        · simp only [List.mem_singleton] at hy
          subst hy
          have hp : 2 ^ (a.length % 32) ≤ 2 ^ 32 := Nat.pow_le_pow_right (by omega) (by omega)
          have h32 : (2 : Nat) ^ 32 = 4294967296 := rfl
          rw [h32] at hp
          exact ⟨Int.natCast_nonneg _, Int.ofNat_lt.2 (by simp only; omega)⟩
    have hval : val (natBlk ⟨a.length, full, top⟩) = bv a := by
      unfold natBlk
      split
      · rename_i hr
        simp only at hr ⊢
        rw [hr] at ht
        have : top = 0 := by simpa using ht
        subst this
        simpa using hv
      · simp only
        rw [val_snoc, hlen, Int.toNat_natCast]
        exact hv
    have hnl : natLen ⟨a.length, full, top⟩ = (natBlk ⟨a.length, full, top⟩).length := by
      unfold natLen natBlk
      split <;> simp
    have huniq := limbs_unique hlim (by
      rw [hval, ← hnl]
      rcases htop with h0 | h0
      · subst h0
        left
        have : full = [] := List.eq_nil_of_length_eq_zero (by simpa using hlen)
        subst this
        rfl
      · right
        refine Nat.le_trans (Nat.pow_le_pow_right (by omega) ?_) h0
        unfold natLen
        simp only
        split <;> omega)
    rw [hval] at huniq
    apply need_intro
    · rw [hnl]; omega
    show Eqv _ _
    rw [← huniq]
    exact .up (.up (eqv_ints hnl fun i hi => rfl))
end Go.Proofs.N13
/-! Od. -/
namespace Go.Proofs.N13
open Go.E
set_option maxRecDepth 8000

theorem bits_top (x : Nat) : bitsOf x = [] ∨ 2 ^ ((bitsOf x).length - 1) ≤ bv (bitsOf x) := by
  by_cases h : x = 0
  · subst h; left; exact bitsOf_zero
  · right
    rw [bitsOf_len, bv_bitsOf]
    have hp := bitLen_pos h
    apply Classical.byContradiction
    intro hn
    have := bitLen_le.2 (Nat.lt_of_not_le hn)
    omega
theorem rnat_c (x : Nat) (hx : bitLen x ≤ 1073741824) : callP Try.prog 91 [ints .u8 (bitsOf x)] (· = ints .u32 (limbsOf x)) := by
  have := nat_c (bin_bitsOf x) (by rw [bitsOf_len]; exact hx) (bits_top x)
  rw [bv_bitsOf] at this
  exact this
theorem bitLen_mul_le (x y : Nat) : bitLen (x * y) ≤ bitLen x + bitLen y := by
  refine bitLen_le.2 ?_
  have h1 := bitLen_le.1 (Nat.le_refl (bitLen x))
  have h2 := bitLen_le.1 (Nat.le_refl (bitLen y))
  rw [Nat.pow_add]
  exact Nat.lt_of_le_of_lt (Nat.mul_le_mul_left x (Nat.le_of_lt h2)) ((Nat.mul_lt_mul_right (Nat.two_pow_pos _)).2 h1)
theorem bitLen_mono {x y : Nat} (h : x ≤ y) : bitLen x ≤ bitLen y := bitLen_le.2 (Nat.lt_of_le_of_lt h (bitLen_le.1 (Nat.le_refl _)))
theorem bitLen_two_mul (n x : Nat) : bitLen (2 ^ n * x) ≤ n + bitLen x := by
  refine bitLen_le.2 ?_
  rw [Nat.pow_add]
  exact Nat.mul_lt_mul_of_pos_left (bitLen_le.1 (Nat.le_refl _)) (Nat.two_pow_pos _)

set_option maxRecDepth 4000 in
theorem rmul_c (x y : Nat) (hx : bitLen x ≤ 268435456) (hy : bitLen y ≤ 268435456) : callP Try.prog 88 [ints .u8 (bitsOf x), ints .u8 (bitsOf y)] (· = ints .u8 (bitsOf (x * y))) := by
  have lb := bitsOf_len y
  have bb := bin_bitsOf y
  have vb := bv_bitsOf y
  refine callE_def env (fn := Try.f88) rfl (by decide) rfl ?_
  have hdig : ∀ i, (bitsOf y).getD i 0 = ((y / 2 ^ i % 2 : Nat) : Int) := fun i => by rw [bv_at bb, vb]
  have hmod : y % 2 ^ (bitsOf y).length = y := by rw [lb]; exact Nat.mod_eq_of_lt (bitLen_le.1 (Nat.le_refl _))
  generalize bitsOf y = b at *
  refine loop_weak (fun i : Nat => slots 24 [(0, ints .u8 (bitsOf x)), (1, ints .u8 b), (5, ints .u8 (bitsOf (x * (y % 2 ^ i)))), (6, .int .i64 i)]) (fun _ => [])
    (fun i => i ≤ b.length) (fun i => b.length - i) 0 (by omega) ((weak_slot 5 (v' := ints .u8 (bitsOf (x * (y % 2 ^ 0)))) (by
      rw [Nat.pow_zero, Nat.mod_one, Nat.mul_zero, bitsOf_zero]
      exact .up (.up (.nil _ _))) rfl).trans (weak_keep (keep 24 [0, 1, 5, 6]) [] rfl rfl rfl)) ?_
  intro i hi
  have et : ((i : Int)).toNat = i := by omega
  have ei : IntKind.i64.wrap ((i : Int) + 1) = ((i + 1 : Nat) : Int) := by rw [wi (by omega) (by omega)]; rfl
  apply branch_intro <;> intro h
  · have h : i < b.length := by simp at h; omega
    apply need_intro
    · omega
    conv => whnf
    simp only [et, hdig]
    have hsplit : y % 2 ^ (i + 1) = y % 2 ^ i + 2 ^ i * (y / 2 ^ i % 2) := Nat.mod_pow_succ
    apply branch_intro <;> intro h1
    · have h1 : y / 2 ^ i % 2 = 1 := by have := eq_of_beq h1; omega
      refine callT_E (rshl_c x i (by omega) (by omega)) rfl ?_
      have b1 : bitLen (x * (y % 2 ^ i)) ≤ 1073741824 := by
        have := bitLen_mul_le x (y % 2 ^ i)
        have := bitLen_mono (Nat.mod_le y (2 ^ i))
        omega
      have b2 : bitLen (2 ^ i * x) ≤ 1073741824 := by
        have := bitLen_two_mul i x
        omega
      refine callT_E (radd_c _ _ b1 b2) rfl ?_
      refine ⟨i + 1, by omega, by omega, weak_keep (keep 24 [0, 1, 5, 6]) [] rfl ?_ rfl⟩
      rw [hsplit, h1, Nat.mul_one, Nat.mul_add, Nat.mul_comm x (2 ^ i), ei]
      rfl
    · have h1 : y / 2 ^ i % 2 = 0 := by have := ne_of_beq_false h1; omega
      refine ⟨i + 1, by omega, by omega, weak_keep (keep 24 [0, 1, 5, 6]) [] rfl ?_ rfl⟩
      rw [hsplit, h1, Nat.mul_zero, Nat.add_zero, ei]
      rfl
  · have h : i = b.length := by simp at h; omega
    subst h
    rw [hmod]
    show Eqv _ _
    exact .up (.up (.refl _))

theorem bv_set {l : List Int} {k : Nat} (h : k < l.length) (x : Int) : bv (l.set k x) + 2 ^ k * (l.getD k 0).toNat = bv l + 2 ^ k * x.toNat := by
  induction l generalizing k with
  | nil => simp at h
  | cons y r ih =>
    cases k with
    | zero => simp [bv]; omega
    | succ k =>
      have := ih (k := k) (by simpa using h)
      simp only [List.set_cons_succ, bv, List.getD_cons_succ]
      have hp : ∀ z : Nat, 2 ^ (k + 1) * z = 2 * (2 ^ k * z) := fun z => by rw [Nat.pow_succ, Nat.mul_comm (2 ^ k) 2, Nat.mul_assoc]
      rw [hp, hp]
      omega
theorem bin_set {l : List Int} (h : Bin l) {k : Nat} {x : Int} (hx : x = 0 ∨ x = 1) : Bin (l.set k x) := fun y hy => by
  rcases List.mem_or_eq_of_mem_set hy with hy | rfl
  · exact h y hy
  · exact hx
theorem bv_zeros : ∀ m, bv (List.replicate m 0) = 0
  | 0 => rfl
  | m + 1 => by rw [List.replicate_succ, bv, bv_zeros m]; rfl
structure RDivSt where
  m : Nat
  q : List Int

end Go.Proofs.N13
/-! Oe. -/
namespace Go.Proofs.N13
open Go.E
set_option maxRecDepth 8000

/-- trim, of a slice that the caller owns: the same block, fewer elements. -/
theorem trim_own {l : List Int} {m : Nat} (hm : m ≤ l.length) (hs : Short l) : callN Try.prog 117 [.slice ⟨0, 0, 0⟩ m] [.ints .u32 l] fun v H' => v = .slice ⟨0, 0, 0⟩ (trimL (l.take m)).length ∧ H' = [.ints .u32 l] := by
  unfold Short at hs
  refine callN_def env (fn := Try.f117) 1 rfl rfl (by decide) ?_
  refine loop_inv (keep 21 [0, 3]) (fun n : Nat => slots 21 [(0, .slice ⟨0, 0, 0⟩ m), (3, .int .i64 n)]) (fun _ => [.ints .u32 l])
    (fun n => n ≤ m ∧ trimL (l.take n) = trimL (l.take m)) (fun n => n) m ⟨Nat.le_refl _, rfl⟩ rfl rfl ?_
  rintro n ⟨hn, ht⟩
  have stop : ∀ n : Nat, n ≤ m → trimL (l.take n) = trimL (l.take m) → (n = 0 ∨ l.getD (n - 1) 0 ≠ 0) → (trimL (l.take m)).length = n := by
    intro n hn ht h
    rw [← ht]
    rcases h with rfl | h
    · simp [trimL]
    · cases n with
      | zero => simp [trimL]
      | succ n => rw [trimL_take (by omega), if_neg (by simpa using h)]; simp; omega
  apply branch_intro <;> intro h
  · repeat refine branch_true ?_
    obtain ⟨j, rfl⟩ : ∃ k, n = k + 1 := ⟨n - 1, by simp at h; omega⟩
    have e : IntKind.i64.wrap (((j + 1 : Nat) : Int) - 1) = j := by rw [wi (by omega) (by omega)]; omega
    have et : ((j : Int)).toNat = j := by omega
    rw [e]
    apply need_intro
    · omega
    repeat refine branch_true ?_
    apply need_intro
    · rw [et]; omega
    repeat refine branch_true ?_
    conv => whnf
    simp only [et, Nat.zero_add, Nat.add_zero]
    apply branch_intro <;> intro h2
    · refine ⟨j, ⟨by omega, ?_⟩, by omega, ?_, rfl⟩
      · rw [← ht, trimL_take (by omega), if_pos (eq_of_beq h2)]
      · rw [e]; rfl
    · apply need_intro
      · omega
      · refine ⟨?_, rfl⟩
        rw [stop (j + 1) hn ht (.inr (by simpa using ne_of_beq_false h2))]
        rfl
  · repeat refine branch_false ?_
    apply need_intro
    · omega
    · refine ⟨?_, rfl⟩
      rw [stop n hn ht (.inl (by simp at h; omega))]
      show AVal.slice ⟨0, 0 + 0, 0⟩ ((n : Int).toNat - 0) = _
      simp

theorem norm_own {l : List Int} (hs : Short l) (hl : Limbs l) : callN Try.prog 120 [ints .u32 l] [] fun v H' => v = .slice ⟨0, 0, 0⟩ (limbsOf (val l)).length ∧ H' = [.ints .u32 (limbsOf (val l))] := by
  refine callN_def env (fn := Try.f120) 0 rfl rfl (by decide) ?_
  refine callT_E (trim_c hs) rfl ?_
  have ht := trim_short hs
  rw [trim_val hl] at ht ⊢
  apply need_intro
  · unfold Short at ht
    unfold roomFor
    show _ * 4 ≤ _
    omega
  apply need_intro
  · exact isRow_irow _ _ _
  apply choice_r
  refine ⟨rfl, ?_⟩
  rw [ints_of_row]

/-! Decimal digits, the last one first. -/
def decD (n : Nat) : List Int := if h : n < 10 then [(n : Int)] else ((n % 10 : Nat) : Int) :: decD (n / 10)
termination_by n
decreasing_by exact Nat.div_lt_self (by omega) (by omega)
theorem decD_small {n : Nat} (h : n < 10) : decD n = [(n : Int)] := by rw [decD, dif_pos h]
theorem decD_big {n : Nat} (h : ¬ n < 10) : decD n = ((n % 10 : Nat) : Int) :: decD (n / 10) := by rw [decD, dif_neg h]
def ascii (l : List Int) : List Int := l.map fun d => 48 + d
def decL (n : Nat) : List Int := if n = 0 then [] else ascii (decD n)
def decS (n : Nat) : ByteArray := bytesI (ascii (decD n)).reverse
theorem decL_step {n : Nat} (h : n ≠ 0) : decL n = (48 + ((n % 10 : Nat) : Int)) :: decL (n / 10) := by
  rw [decL, if_neg h]
  by_cases h1 : n < 10
  · rw [decD_small h1, decL, if_pos (by omega), Nat.mod_eq_of_lt h1]
    rfl
  · rw [decD_big h1, decL, if_neg (by omega)]
    rfl
theorem decD_bound (n : Nat) : ∀ x ∈ decD n, 0 ≤ x ∧ x ≤ 9 := by
  induction n using Nat.strongRecOn with
  | _ n ih =>
    intro x hx
    by_cases h : n < 10
    · rw [decD_small h] at hx
      simp at hx
      omega
    · rw [decD_big h] at hx
      rcases List.mem_cons.1 hx with rfl | hx
      · omega
      · exact ih _ (Nat.div_lt_self (by omega) (by omega)) x hx
theorem decD_len (n k : Nat) (h : n < 10 ^ (k + 1)) : (decD n).length ≤ k + 1 := by
  induction k generalizing n with
  | zero => rw [decD_small (by simpa using h)]; simp
  | succ k ih =>
    by_cases h1 : n < 10
    · rw [decD_small h1]; simp
    · rw [decD_big h1, List.length_cons]
      have := ih (n / 10) (by rw [Nat.pow_succ] at h; omega)
      omega

theorem or_shl32 {r x : Nat} (hr : r < 1073741824) (hx : x < 4294967296) : IntKind.u64.wrap ((BitVec.ofInt IntKind.u64.bits ((r * 4294967296 : Nat) : Int) ||| BitVec.ofInt IntKind.u64.bits (x : Int)).toNat : Int) = ((r * 4294967296 + x : Nat) : Int) := by
  have h1 : (BitVec.ofInt IntKind.u64.bits ((r * 4294967296 : Nat) : Int)).toNat = r * 4294967296 := by
    rw [BitVec.ofInt_natCast, BitVec.toNat_ofNat]
    exact Nat.mod_eq_of_lt (by show r * 4294967296 < 18446744073709551616; omega)
  have h2 : (BitVec.ofInt IntKind.u64.bits (x : Int)).toNat = x := by
    rw [BitVec.ofInt_natCast, BitVec.toNat_ofNat]
    exact Nat.mod_eq_of_lt (by show x < 18446744073709551616; omega)
  rw [BitVec.toNat_or, h1, h2]
  have h3 := Nat.two_pow_add_eq_or_of_lt (i := 32) (b := x) hx r
  have h32 : 2 ^ 32 * r = r * 4294967296 := Nat.mul_comm _ _
  rw [h32] at h3
  rw [← h3]
  exact wu64 (by omega) (by omega)
theorem val_append : ∀ (l m : List Int), val (l ++ m) = val l + 2 ^ (32 * l.length) * val m
  | [], m => by simp [val]
  | y :: r, m => by
    simp only [List.cons_append, val, val_append r m, List.length_cons]
    have : 2 ^ (32 * (r.length + 1)) * val m = 4294967296 * (2 ^ (32 * r.length) * val m) := by
      rw [pow_limb, Nat.mul_comm (2 ^ (32 * r.length)) 4294967296, Nat.mul_assoc]
    omega

theorem long_step {Q r x t B W : Nat} (ht : t = r * W + x) : (Q * B + r) * W + x = (t / B + W * Q) * B + t % B := by
  have hd := Nat.div_add_mod t B
  generalize t / B = q at *
  generalize t % B = s at *
  have h1 : Q * B * W = W * Q * B := by rw [Nat.mul_right_comm, Nat.mul_comm Q W]
  have h2 : q * B = B * q := Nat.mul_comm _ _
  rw [Nat.add_mul, Nat.add_mul, h1, h2]
  omega
/-- One step of the division by 10^9. -/
theorem nine_step {Q r x t : Nat} (ht : t = r * 4294967296 + x) (hr : r < 1000000000) (hx : x < 4294967296) :
    (Q * 1000000000 + r) * 4294967296 + x = (t / 1000000000 + 4294967296 * Q) * 1000000000 + t % 1000000000 ∧ t / 1000000000 < 4294967296 :=
  ⟨long_step ht, by omega⟩
end Go.Proofs.N13
/-! Of. -/
namespace Go.Proofs.N13
open Go.E
set_option maxRecDepth 8000

/-- What is left of the number: the first m limbs of a block. -/
structure DcSt where
  l : List Int
  m : Nat
  d : List Int
def DcOk (n k : Nat) (s : DcSt) : Prop := s.l.length = k ∧ s.m ≤ k ∧ Limbs s.l ∧ trimL (s.l.take s.m) = s.l.take s.m ∧ decL n = s.d ++ decL (val (s.l.take s.m))
structure DvSt where
  j : Nat
  r : Nat
  b : List Int
theorem take_len (l : List Int) {m : Nat} (h : m ≤ l.length) : (l.take m).length = m := by simp; omega
theorem limbs_take {l : List Int} (h : Limbs l) (m : Nat) : Limbs (l.take m) := fun x hx => h x (List.mem_of_mem_take hx)
theorem limbs_app {a b : List Int} (ha : Limbs a) (hb : Limbs b) : Limbs (a ++ b) := fun x hx => by
  rcases List.mem_append.1 hx with h | h
  · exact ha x h
  · exact hb x h
theorem limbs_drop {l : List Int} (h : Limbs l) (m : Nat) : Limbs (l.drop m) := fun x hx => h x (List.mem_of_mem_drop hx)
theorem take_at {l : List Int} {j : Nat} (h : j < l.length) : l.take (j + 1) = l.take j ++ [l.getD j 0] := by
  rw [List.take_add_one, List.getD_eq_getElem?_getD, List.getElem?_eq_getElem h]
  rfl
theorem mid_at {l b : List Int} {j : Nat} (h : j < l.length) : (l.take (j + 1) ++ b).getD j 0 = l.getD j 0 := by
  rw [List.getD_eq_getElem?_getD, List.getElem?_append_left (by simp; omega), List.getElem?_take, if_pos (by omega), List.getD_eq_getElem?_getD]
theorem mid_put {l b : List Int} {j : Nat} (h : j < l.length) (y : Int) : (l.take (j + 1) ++ b).set j y = l.take j ++ (y :: b) := by
  have hl : (l.take j).length = j := by simp; omega
  rw [take_at h, List.append_assoc, List.set_append_right _ _ (by omega), hl, Nat.sub_self]
  rfl

/-- The inner division: what it leaves. -/
theorem div_inv {L : List Int} (hL : Limbs L) {m j r : Nat} {b : List Int} (hm : m ≤ L.length) (hj : j + 1 ≤ m) (hr : r < 1000000000) (hv : val (L.take m) / 2 ^ (32 * (j + 1)) = val b * 1000000000 + r) {x t : Nat} (hx : L.getD j 0 = x) (ht : t = r * 4294967296 + x) :
    val (L.take m) / 2 ^ (32 * j) = val (((t / 1000000000 : Nat) : Int) :: b) * 1000000000 + t % 1000000000 ∧ t / 1000000000 < 4294967296 := by
  have hb := limb_bound hL j
  obtain ⟨h1, h2⟩ := nine_step (Q := val b) ht hr (by omega)
  refine ⟨?_, h2⟩
  have h3 := val_div (limbs_take hL m) j
  have h4 := val_div (limbs_take hL m) (j + 1)
  have h5 := val_drop_succ (L.take m) j
  have h6 : (L.take m).getD j 0 = x := by rw [List.getD_eq_getElem?_getD, List.getElem?_take, if_pos (by omega), ← List.getD_eq_getElem?_getD, hx]
  have h7 : val (L.take m) / 2 ^ (32 * (j + 1)) = val ((L.take m).drop (j + 1)) := by
    rw [h4, ← val_drop_succ]
  rw [h3, h6, Int.toNat_natCast, ← h7, hv, val, Int.toNat_natCast, ← h1]
  omega

theorem bitLen_div10 {n : Nat} (h : n ≠ 0) : bitLen (n / 10) + 1 ≤ bitLen n := by
  rw [bitLen_pos h]
  have := bitLen_mono (show n / 10 ≤ n / 2 by omega)
  omega
theorem decL_len (n : Nat) : (decL n).length ≤ bitLen n := by
  induction n using Nat.strongRecOn with
  | _ n ih =>
    by_cases h : n = 0
    · subst h; rw [decL, if_pos rfl]; simp
    · rw [decL_step h, List.length_cons]
      have := ih (n / 10) (Nat.div_lt_self (by omega) (by omega))
      have := bitLen_div10 h
      omega
theorem trimmed_zero {l : List Int} (hl : Limbs l) (ht : trimL l = l) : val l = 0 ↔ l = [] := by
  constructor
  · intro h
    rw [trim_val hl, h, limbsOf_zero] at ht
    exact ht.symm
  · rintro rfl; rfl
theorem trimL_le' (l : List Int) : (trimL l).length ≤ l.length := trimL_le l
theorem trimL_prefix : ∀ l : List Int, l.take (trimL l).length = trimL l
  | [] => rfl
  | x :: r => by
    have ih := trimL_prefix r
    simp only [trimL]
    cases h : trimL r with
    | nil =>
      simp only
      split <;> rfl
    | cons a b =>
      simp only
      rw [h] at ih
      rw [List.length_cons, List.take_succ_cons, ih]
theorem trimL_idem {l : List Int} (h : Limbs l) : trimL (trimL l) = trimL l := by
  rw [trim_val h, trim_val (limbs_limbsOf _), val_limbsOf]
theorem val_trim {l : List Int} (h : Limbs l) : val (trimL l) = val l := by rw [trim_val h, val_limbsOf]

theorem take_full {A B : List Int} {m : Nat} (h : A.length = m) : (A ++ B).take m = A := by subst h; simp

structure EmSt where
  k : Nat
  r : Nat
  d : List Int

theorem emit_step {r q k : Nat} (hk : k < 9) (hr : r < 10 ^ (9 - k)) (h : r + 10 ^ (9 - k) * q ≠ 0) :
    decL (r + 10 ^ (9 - k) * q) = (48 + ((r % 10 : Nat) : Int)) :: decL (r / 10 + 10 ^ (9 - (k + 1)) * q) ∧ r / 10 < 10 ^ (9 - (k + 1)) := by
  have hp : 10 ^ (9 - k) = 10 * 10 ^ (9 - (k + 1)) := by rw [show 9 - k = (9 - (k + 1)) + 1 by omega, Nat.pow_succ, Nat.mul_comm]
  rw [hp] at hr h ⊢
  rw [decL_step h, Nat.mul_assoc]
  generalize 10 ^ (9 - (k + 1)) = p at *
  generalize p * q = t at *
  refine ⟨?_, by omega⟩
  rw [show (r + 10 * t) % 10 = r % 10 by omega, show (r + 10 * t) / 10 = r / 10 + t by omega]

theorem getD_set (l : List Int) (k : Nat) (y : Int) (x : Nat) (h : k < l.length) : (l.set k y).getD x 0 = if x = k then y else l.getD x 0 := by
  rw [List.getD_eq_getElem?_getD, List.getElem?_set, List.getD_eq_getElem?_getD]
  by_cases hx : k = x
  · subst hx; simp [h]
  · rw [if_neg hx, if_neg (fun e => hx e.symm)]
structure RevSt where
  i : Nat
  l : List Int
end Go.Proofs.N13
/-! Og. -/
namespace Go.Proofs.N13
open Go.E
set_option maxRecDepth 8000

def shlV (v : Nat) (n : Int) : AVal := if n < 0 then .tuple [.ro 1 0 (irow .u32 []), .int .i64 2] else limited (2 ^ n.toNat * v)
theorem shlV_closed (v : Nat) (n : Int) : (shlV v n).closed2 = true := by unfold shlV; split; rfl; exact limited_closed _
def shrV (v : Nat) (n : Int) : AVal := if n < 0 then .tuple [.ro 1 0 (irow .u32 []), .int .i64 2] else limited (v / 2 ^ n.toNat)
theorem shrV_closed (v : Nat) (n : Int) : (shrV v n).closed2 = true := by unfold shrV; split; rfl; exact limited_closed _
theorem limited_zero : limited 0 = .tuple [.ro 1 0 (irow .u32 []), .int .i64 0] := by rw [limited, bitLen_zero, if_neg (by omega), limbsOf_zero]; rfl

theorem two_mid {s : Nat} (hs : s < 32) : ∃ e, 4294967296 = 2 ^ s * e ∧ 2 ^ s < 4294967296 := by
  obtain ⟨e, he⟩ := two32 hs
  refine ⟨2 * e, he, ?_⟩
  have : 2 ^ s < 2 ^ 32 := Nat.pow_lt_pow_right (by omega) hs
  exact this
/-- A limb shifted, and the carry. -/
theorem shl_limb {c x s : Nat} (hs : s < 32) (hc : c < 2 ^ s) (hx : x < 4294967296) :
    IntKind.u64.wrap ((BitVec.ofInt IntKind.u64.bits (c : Int) ||| BitVec.ofInt IntKind.u64.bits (IntKind.u64.wrap ((x : Int) * 2 ^ (min s IntKind.u64.bits)))).toNat : Int) = ((c + 2 ^ s * x : Nat) : Int) ∧ c + 2 ^ s * x < 18446744073709551616 ∧ (c + 2 ^ s * x) / 4294967296 < 2 ^ s := by
  obtain ⟨e, he, hlt⟩ := two_mid hs
  have hm : 2 ^ s * (x + 1) ≤ 2 ^ s * 4294967296 := Nat.mul_le_mul_left _ (by omega)
  rw [Nat.mul_add, Nat.mul_one] at hm
  have hb : 2 ^ s * 4294967296 ≤ 4294967296 * 4294967296 := Nat.mul_le_mul_right _ (Nat.le_of_lt hlt)
  have hdiv : (c + 2 ^ s * x) / 4294967296 < 2 ^ s := (Nat.div_lt_iff_lt_mul (by omega)).2 (by omega)
  generalize hp : 2 ^ s * x = t at *
  have e1 : IntKind.u64.wrap ((x : Int) * 2 ^ (min s IntKind.u64.bits)) = (t : Int) := by
    have h64 : IntKind.u64.bits = 64 := rfl
    rw [h64, Nat.min_eq_left (by omega)]
    have : (x : Int) * 2 ^ s = ((2 ^ s * x : Nat) : Int) := by rw [Nat.mul_comm]; simp
    rw [this, hp]
    exact wu64 (by omega) (by omega)
  rw [e1]
  have h1 : (BitVec.ofInt IntKind.u64.bits (c : Int)).toNat = c := by
    rw [BitVec.ofInt_natCast, BitVec.toNat_ofNat]
    exact Nat.mod_eq_of_lt (by show c < 18446744073709551616; omega)
  have h2 : (BitVec.ofInt IntKind.u64.bits (t : Int)).toNat = t := by
    rw [BitVec.ofInt_natCast, BitVec.toNat_ofNat]
    exact Nat.mod_eq_of_lt (by show t < 18446744073709551616; omega)
  rw [BitVec.toNat_or, h1, h2]
  have h3 := Nat.two_pow_add_eq_or_of_lt (i := s) (b := c) hc x
  rw [hp] at h3
  rw [Nat.or_comm, ← h3, Nat.add_comm t c]
  exact ⟨wu64 (by omega) (by omega), by omega, hdiv⟩
theorem shl_sum {p c x s V P : Nat} (S : Nat) (hs : s = c + S * x) (h : V + p * c = P) : V + p * (s % 4294967296) + p * 4294967296 * (s / 4294967296) = P + p * S * x := by
  have hd := Nat.div_add_mod s 4294967296
  generalize s / 4294967296 = q at *
  generalize s % 4294967296 = r at *
  have h1 : p * r + p * 4294967296 * q = p * c + p * S * x := by
    rw [Nat.mul_assoc p 4294967296, ← Nat.mul_add, Nat.add_comm r, hd, hs, Nat.mul_add, Nat.mul_assoc]
  omega

set_option maxRecDepth 4000 in
set_option maxHeartbeats 2000000 in
theorem shl_c {a : List Int} (ha : Small a) (la : Limbs a) {n : Int} (hn : -9223372036854775808 ≤ n ∧ n ≤ 9223372036854775807) : callP Try.prog 132 [ints .u32 a, .int .i64 n] (· = shlV (val a) n) := by
  have sa := trim_short ha.short
  refine callE_def env (fn := Try.f132) rfl (by decide) (shlV_closed _ _) ?_
  apply branch_intro <;> intro h
  · have h : n < 0 := by simpa using h
    show Eqv _ (shlV _ _)
    rw [shlV, if_pos h]
    exact .tuple (.cons (.up (.nil _ _)) (.cons (.up (.refl _)) .nil))
  have h : ¬ n < 0 := by simpa using h
  refine callT_E (trim_c ha.short) rfl ?_
  unfold Small at ha
  rw [trim_val la] at sa ⊢
  have na : (limbsOf (val a)).length ≤ a.length := by rw [← trim_val la]; exact trimL_le a
  have va := val_limbsOf (val a)
  have la' := limbs_limbsOf (val a)
  generalize hA : limbsOf (val a) = A at sa na va la' ⊢
  rw [← va]
  obtain ⟨k, rfl⟩ : ∃ k : Nat, n = k := ⟨n.toNat, by omega⟩
  rw [shlV, if_neg h, Int.toNat_natCast]
  apply branch_intro <;> intro h2
  · have : A = [] := List.eq_nil_of_length_eq_zero (by simpa using h2)
    subst this
    show Eqv _ (limited _)
    rw [val, Nat.mul_zero, limited_zero]
    exact .tuple (.cons (.up (.nil _ _)) (.cons (.up (.refl _)) .nil))
  have hA0 : val A ≠ 0 := fun h0 => by
    rw [← va] at hA
    rw [h0, limbsOf_zero] at hA
    subst hA
    simp at h2
  have hmul := bitLen_mul (k := k) hA0
  have big : 32768 < k + bitLen (val A) → retE (limited (2 ^ k * val A)) (.tuple [.nilslice, .int .i64 4]) [] := fun hb => by
    show Eqv _ (limited _)
    rw [limited, if_pos (by omega)]
    exact .tuple (.cons (.up (.nil _ _)) (.cons (.up (.refl _)) .nil))
  have hp1 := bitLen_pos hA0
  apply branch_intro <;> intro h3
  · have h3 : 32768 < k := by simp at h3; omega
    repeat (first | refine branch_true ?_ | refine branch_false ?_)
    exact big (by omega)
  have h3 : k ≤ 32768 := by simp at h3; omega
  repeat (first | refine branch_true ?_ | refine branch_false ?_)
  refine callT_E (bits_c sa la') rfl ?_
  repeat (first | refine branch_true ?_ | refine branch_false ?_)
  have ek : IntKind.i64.wrap (32768 - (k : Int)) = 32768 - (k : Int) := wi (by omega) (by omega)
  conv => whnf
  rw [ek]
  apply branch_intro <;> intro h4
  · exact big (by simp at h4; omega)
  have h4 : k + bitLen (val A) ≤ 32768 := by simp at h4; omega
  have t1 : (k : Int).tdiv 32 = ((k / 32 : Nat) : Int) := by rw [Int.tdiv_eq_ediv_of_nonneg (by omega)]; omega
  have t2 : (k : Int).tmod 32 = ((k % 32 : Nat) : Int) := by rw [Int.tmod_eq_emod_of_nonneg (by omega)]; omega
  have t3 : IntKind.i64.wrap ((k / 32 : Nat) : Int) = ((k / 32 : Nat) : Int) := wi (by omega) (by omega)
  have t4 : IntKind.i64.wrap (IntKind.i64.wrap (((k / 32 : Nat) : Int) + A.length) + 1) = ((k / 32 + A.length + 1 : Nat) : Int) := by rw [wi (x := ((k / 32 : Nat) : Int) + A.length) (by omega) (by omega), wi (by omega) (by omega)]; omega
  apply need_intro
  · decide
  apply need_intro
  · decide
  apply need_intro
  · simp only [t1, t3, t4]
    refine ⟨by omega, by omega, ?_, ?_⟩ <;> omega
  apply choice_r
  have hs : k % 32 < 32 := Nat.mod_lt _ (by omega)
  have hkd : 2 ^ k = 2 ^ (32 * (k / 32)) * 2 ^ (k % 32) := by rw [← Nat.pow_add, Nat.div_add_mod]
  refine loop_weak (fun s : AddSt => slots 64 [(1, .int .i64 k), (6, .slice ⟨0, 0, 0⟩ (k / 32 + s.i)), (7, .int .u64 s.c), (35, ints .u32 A), (36, .int .i64 A.length), (37, .int .i64 s.i)]) (fun s => [.ints .u32 s.out])
    (fun s => s.i ≤ A.length ∧ s.out.length = k / 32 + s.i ∧ Limbs s.out ∧ s.c < 2 ^ (k % 32) ∧ val s.out + 2 ^ (32 * (k / 32 + s.i)) * s.c = 2 ^ k * val (A.take s.i)) (fun s => A.length - s.i) ⟨0, 0, List.replicate (k / 32) 0⟩
    ⟨by simp, by simp, (fun x hx => by rw [List.eq_of_mem_replicate hx]; omega), Nat.two_pow_pos _, by simp [zeros_val, val]⟩
    (weak_keep (keep 64 [1, 6, 7, 35, 36, 37]) [0] rfl (by simp only [t1, t3, Int.toNat_natCast]; rfl) (by simp only [t1, t3, Int.toNat_natCast]; rfl)) ?_
  rintro ⟨i, c, out⟩ ⟨hi, hlen, hlo, hc, hv⟩
  simp only at hi hlen hlo hc hv
  have et : ((i : Int)).toNat = i := by omega
  have ei : IntKind.i64.wrap ((i : Int) + 1) = ((i + 1 : Nat) : Int) := by rw [wi (by omega) (by omega)]; rfl
  apply branch_intro <;> intro h5
  · have hin : i < A.length := by simp at h5; omega
    have xa := limb_bound la' i
    obtain ⟨x, hx⟩ : ∃ x : Nat, A.getD i 0 = x := ⟨(A.getD i 0).toNat, by omega⟩
    obtain ⟨s1, s2, s3⟩ := shl_limb (c := c) (x := x) hs hc (by omega)
    obtain ⟨t, ht⟩ : ∃ t, t = c + 2 ^ (k % 32) * x := ⟨_, rfl⟩
    rw [← ht] at s1 s2 s3
    have e2 : IntKind.u64.wrap (x : Int) = (x : Int) := wu64 (by omega) (by omega)
    have e3 : IntKind.u32.wrap (t : Int) = ((t % 4294967296 : Nat) : Int) := by rw [IntKind.wrap_u32]; omega
    have e4 : (t : Int).fdiv (2 ^ (min (32 : Int).toNat IntKind.u64.bits)) = ((t / 4294967296 : Nat) : Int) := by
      have : min (32 : Int).toNat IntKind.u64.bits = 32 := by decide
      rw [this, Int.fdiv_eq_ediv_of_nonneg _ (by decide)]
      omega
    apply need_intro
    · simp only; omega
    apply need_intro
    · decide
    apply need_intro
    · simp only [t2]; omega
    apply choice_l
    apply need_intro
    · show (k / 32 + i + 1) * 4 ≤ 2 ^ 47
      omega
    apply need_intro
    · exact ⟨by show 0 + (k / 32 + i) = out.length; omega, isRow_irow _ _ _⟩
    apply need_intro
    · decide
    refine ⟨⟨i + 1, t / 4294967296, out ++ [((t % 4294967296 : Nat) : Int)]⟩, ⟨by simp only; omega, by simp only [List.length_append, List.length_cons, List.length_nil]; omega, ?_, s3, ?_⟩, by simp only; omega, weak_keep (keep 64 [1, 6, 7, 35, 36, 37]) [0] rfl ?_ ?_⟩
    · intro z hz
      rcases List.mem_append.1 hz with hz | hz
      · exact hlo z hz
      · simp at hz
        omega
    · simp only
      rw [val_snoc, val_take_succ, hlen, hx, Int.toNat_natCast, Int.toNat_natCast, show k / 32 + (i + 1) = (k / 32 + i) + 1 by omega, pow_limb, shl_sum (2 ^ (k % 32)) ht hv, Nat.mul_add (2 ^ k)]
      congr 1
      rw [← Nat.mul_assoc, ← Nat.pow_add, ← Nat.pow_add]
      congr 2
      omega
    · simp only [et, hx, t2, Int.toNat_natCast, e2, s1, e4, ei]
      rfl
    · show [Blk.ints _ _] = _
      simp only [et, hx, t2, Int.toNat_natCast, e2, s1, e3]
      rw [snoc_row]
  · have hin : i = A.length := by simp at h5; omega
    subst hin
    rw [List.take_of_length_le (Nat.le_refl _)] at hv
    obtain ⟨e, he, hpl⟩ := two_mid hs
    have e3 : IntKind.u32.wrap (c : Int) = (c : Int) := wu32 (by omega) (by omega)
    apply choice_l
    apply need_intro
    · show (k / 32 + A.length + 1) * 4 ≤ 2 ^ 47
      omega
    apply need_intro
    · exact ⟨by show 0 + (k / 32 + A.length) = out.length; omega, isRow_irow _ _ _⟩
    have hc := limit_c (l := out ++ [(c : Int)]) (by unfold Short; simp only [List.length_append, List.length_cons, List.length_nil]; omega) (fun z hz => by
      rcases List.mem_append.1 hz with hz | hz
      · exact hlo z hz
      · simp at hz
        omega)
    rw [val_snoc, hlen, Int.toNat_natCast, hv] at hc
    refine callT_last 0 rfl (Nat.le_refl _) ?_ ?_
    · rw [snoc_row]; simp only [List.length_append, List.length_cons, List.length_nil]; omega
    · rw [e3, snoc_row]
      refine callT_E hc rfl ?_
      rw [limited, if_neg (by omega)]
      show Eqv _ _
      exact .up (.up (.refl _))

/-- A limb and the next one, shifted to the right. -/
theorem shr_limb {x y s : Nat} (hs : s < 32) (hx : x < 4294967296) (hy : y < 4294967296) :
    IntKind.u32.wrap ((IntKind.u64.wrap ((BitVec.ofInt IntKind.u64.bits (x : Int) ||| BitVec.ofInt IntKind.u64.bits (IntKind.u64.wrap ((y : Int) * 2 ^ (min (32 : Int).toNat IntKind.u64.bits)))).toNat : Int)).fdiv (2 ^ (min s IntKind.u64.bits))) = (((x + 4294967296 * y) / 2 ^ s % 4294967296 : Nat) : Int) := by
  have e1 : IntKind.u64.wrap ((y : Int) * 2 ^ (min (32 : Int).toNat IntKind.u64.bits)) = ((4294967296 * y : Nat) : Int) := by
    have : min (32 : Int).toNat IntKind.u64.bits = 32 := by decide
    rw [this, wu64 (by omega) (by omega)]
    omega
  have h1 : (BitVec.ofInt IntKind.u64.bits (x : Int)).toNat = x := by
    rw [BitVec.ofInt_natCast, BitVec.toNat_ofNat]
    exact Nat.mod_eq_of_lt (by show x < 18446744073709551616; omega)
  have h2 : (BitVec.ofInt IntKind.u64.bits ((4294967296 * y : Nat) : Int)).toNat = 4294967296 * y := by
    rw [BitVec.ofInt_natCast, BitVec.toNat_ofNat]
    exact Nat.mod_eq_of_lt (by show 4294967296 * y < 18446744073709551616; omega)
  rw [e1, BitVec.toNat_or, h1, h2]
  have h3 := Nat.two_pow_add_eq_or_of_lt (i := 32) (b := x) hx y
  have h32 : 2 ^ 32 * y = 4294967296 * y := rfl
  rw [h32] at h3
  rw [Nat.or_comm, ← h3, Nat.add_comm, wu64 (by omega) (by omega), shr_nat .u64 (by show s ≤ 64; omega), IntKind.wrap_u32]
  omega
theorem shr_digit {l : List Int} (h : Limbs l) {q s i : Nat} (hs : s < 32) (hi : q ≤ i) : ((l.getD i 0).toNat + 4294967296 * (l.getD (i + 1) 0).toNat) / 2 ^ s % 4294967296 = val l / (2 ^ (32 * q) * 2 ^ s) / 2 ^ (32 * (i - q)) % 4294967296 := by
  obtain ⟨e, he, hpl⟩ := two_mid hs
  have h1 := val_div h i
  have h2 := val_drop_succ l (i + 1)
  have h3 : val l / (2 ^ (32 * q) * 2 ^ s) / 2 ^ (32 * (i - q)) = val l / 2 ^ (32 * i) / 2 ^ s := by
    rw [Nat.div_div_eq_div_mul, Nat.div_div_eq_div_mul, Nat.mul_right_comm, ← Nat.pow_add]
    congr 3
    omega
  have h4 : val (l.drop (i + 1)) = (l.getD (i + 1) 0).toNat + 4294967296 * val (l.drop (i + 1 + 1)) := h2
  rw [h3, h1, h4]
  generalize (l.getD i 0).toNat = x
  generalize (l.getD (i + 1) 0).toNat = y
  generalize val (l.drop (i + 1 + 1)) = z
  have h5 : x + 4294967296 * (y + 4294967296 * z) = (x + 4294967296 * y) + 2 ^ s * (e * (4294967296 * z)) := by
    rw [← Nat.mul_assoc, ← he]
    omega
  rw [h5, Nat.add_mul_div_left _ _ (Nat.two_pow_pos _), Nat.mul_left_comm, Nat.add_mul_mod_self_left]

set_option maxRecDepth 4000 in
set_option maxHeartbeats 2000000 in
theorem shr_c {a : List Int} (ha : Small a) (la : Limbs a) {n : Int} (hn : -9223372036854775808 ≤ n ∧ n ≤ 9223372036854775807) : callP Try.prog 121 [ints .u32 a, .int .i64 n] (· = shrV (val a) n) := by
  unfold Small at ha
  refine callE_def env (fn := Try.f121) rfl (by decide) (shrV_closed _ _) ?_
  apply branch_intro <;> intro h
  · have h : n < 0 := by simpa using h
    show Eqv _ (shrV _ _)
    rw [shrV, if_pos h]
    exact .tuple (.cons (.up (.nil _ _)) (.cons (.up (.refl _)) .nil))
  have h : ¬ n < 0 := by simpa using h
  obtain ⟨k, rfl⟩ : ∃ k : Nat, n = k := ⟨n.toNat, by omega⟩
  rw [shrV, if_neg h, Int.toNat_natCast]
  have t1 : (k : Int).tdiv 32 = ((k / 32 : Nat) : Int) := by rw [Int.tdiv_eq_ediv_of_nonneg (by omega)]; omega
  have t2 : (k : Int).tmod 32 = ((k % 32 : Nat) : Int) := by rw [Int.tmod_eq_emod_of_nonneg (by omega)]; omega
  have t3 : IntKind.i64.wrap ((k / 32 : Nat) : Int) = ((k / 32 : Nat) : Int) := wi (by omega) (by omega)
  have hkd : 2 ^ k = 2 ^ (32 * (k / 32)) * 2 ^ (k % 32) := by rw [← Nat.pow_add, Nat.div_add_mod]
  apply need_intro
  · decide
  conv => whnf
  rw [t1, t3]
  apply branch_intro <;> intro h2
  · have h2 : a.length ≤ k / 32 := by simp at h2; omega
    show Eqv _ (limited _)
    have : val a / 2 ^ k = 0 := by
      refine Nat.div_eq_of_lt (Nat.lt_of_lt_of_le (val_lt la) (Nat.pow_le_pow_right (by omega) ?_))
      omega
    rw [this, limited_zero]
    exact .tuple (.cons (.up (.nil _ _)) (.cons (.up (.refl _)) .nil))
  have h2 : k / 32 < a.length := by simp at h2; omega
  have hs : k % 32 < 32 := Nat.mod_lt _ (by omega)
  refine callT_E (limbs_c a) rfl ?_
  have t4 : IntKind.i64.wrap ((a.length : Int) - ((k / 32 : Nat) : Int)) = ((a.length - k / 32 : Nat) : Int) := by rw [wi (by omega) (by omega)]; omega
  apply need_intro
  · decide
  apply need_intro
  · simp only [t1, t3, t4]
    refine ⟨by omega, by omega, ?_, ?_⟩ <;> omega
  apply choice_r
  apply need_intro
  · decide
  refine loop_weak (fun s : BitSt => slots 52 [(0, ints .u32 a), (1, .int .i64 k), (6, limbF a), (7, .slice ⟨0, 0, 0⟩ s.i), (8, .int .i64 ((k / 32 + s.i : Nat) : Int))]) (fun s => [.ints .u32 s.out])
    (fun s => k / 32 + s.i ≤ a.length ∧ s.out.length = s.i ∧ Limbs s.out ∧ val s.out = val a / 2 ^ k % 2 ^ (32 * s.i)) (fun s => a.length - s.i) ⟨0, []⟩
    ⟨by simp only; omega, rfl, (fun x hx => by cases hx), by simp [val, Nat.mod_one]⟩
    (weak_keep (keep 52 [0, 1, 6, 7, 8]) [0] rfl (by simp only [t1, t3]; rfl) rfl) ?_
  rintro ⟨i, out⟩ ⟨hi, hlen, hlo, hv⟩
  simp only at hi hlen hlo hv
  have ei : IntKind.i64.wrap (((k / 32 + i : Nat) : Int) + 1) = ((k / 32 + (i + 1) : Nat) : Int) := by rw [wi (by omega) (by omega)]; omega
  apply branch_intro <;> intro h5
  · have hin : k / 32 + i < a.length := by simp at h5; omega
    have xa := limb_bound la (k / 32 + i)
    have xb := limb_bound la (k / 32 + i + 1)
    have hd := shr_digit la (q := k / 32) (i := k / 32 + i) hs (by omega)
    rw [← hkd, show k / 32 + i - k / 32 = i by omega] at hd
    obtain ⟨x, hx⟩ : ∃ x : Nat, a.getD (k / 32 + i) 0 = x := ⟨(a.getD (k / 32 + i) 0).toNat, by omega⟩
    obtain ⟨y, hy⟩ : ∃ y : Nat, a.getD (k / 32 + i + 1) 0 = y := ⟨(a.getD (k / 32 + i + 1) 0).toNat, by omega⟩
    rw [hx, hy, Int.toNat_natCast, Int.toNat_natCast] at hd
    have hsh := shr_limb (x := x) (y := y) hs (by omega) (by omega)
    rw [hd] at hsh
    refine callT_E (limb_c (by omega) la) rfl ?_
    refine callT_E (limb_c (by rw [ei]; omega) la) rfl ?_
    apply need_intro
    · decide
    apply need_intro
    · decide
    apply need_intro
    · simp only [t2]; omega
    apply choice_l
    apply need_intro
    · show (i + 1) * 4 ≤ 2 ^ 47
      omega
    apply need_intro
    · exact ⟨by show 0 + i = out.length; omega, isRow_irow _ _ _⟩
    refine ⟨⟨i + 1, out ++ [((val a / 2 ^ k / 2 ^ (32 * i) % 4294967296 : Nat) : Int)]⟩, ⟨by simp only; omega, by simp only [List.length_append, List.length_cons, List.length_nil]; omega, ?_, ?_⟩, by simp only; omega, weak_keep (keep 52 [0, 1, 6, 7, 8]) [0] rfl ?_ ?_⟩
    · intro z hz
      rcases List.mem_append.1 hz with hz | hz
      · exact hlo z hz
      · simp at hz
        omega
    · simp only
      rw [val_snoc, hlen, Int.toNat_natCast, hv, pow_limb, Nat.mod_mul]
    · rw [ei]
      rfl
    · show [Blk.ints _ _] = _
      have e1 : ((((k / 32 + i : Nat) : Int)).toNat) = k / 32 + i := by omega
      have e2 : ((((k / 32 + (i + 1) : Nat) : Int)).toNat) = k / 32 + i + 1 := by omega
      simp only [ei, e1, e2, hx, hy, t2, Int.toNat_natCast]
      rw [hsh, snoc_row]
  · have hin : k / 32 + i = a.length := by simp at h5; omega
    have hfull : val a / 2 ^ k < 2 ^ (32 * i) := by
      refine (Nat.div_lt_iff_lt_mul (Nat.two_pow_pos _)).2 ?_
      rw [← Nat.pow_add]
      exact Nat.lt_of_lt_of_le (val_lt la) (Nat.pow_le_pow_right (by omega) (by omega))
    rw [Nat.mod_eq_of_lt hfull] at hv
    have hc := limit_c (l := out) (by unfold Short; omega) hlo
    rw [hv] at hc
    refine callT_last 0 rfl (Nat.le_refl _) hlen.symm ?_
    refine callT_E hc rfl ?_
    unfold limited
    split
    · show Eqv _ _
      exact .up (.up (.refl _))
    · show Eqv _ _
      exact .up (.up (.refl _))
end Go.Proofs.N13
