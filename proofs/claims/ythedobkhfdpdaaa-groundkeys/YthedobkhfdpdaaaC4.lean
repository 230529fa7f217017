/- Chapter 29, part e: numbers read from registers. -/
import Derived.Test.YthedobkhfdpdaaaC3
set_option linter.unusedVariables false
set_option linter.unusedSimpArgs false
namespace Go.Proofs
open Go.E
set_option maxRecDepth 8000
def octP (f : Nat → Int) : Nat → Int
  | 0 => 0
  | k + 1 => 8 * octP f k + f k
def decP (f : Nat → Int) : Nat → Int
  | 0 => 0
  | k + 1 => 10 * decP f k + f k
theorem octP_b {f : Nat → Int} : ∀ i, (∀ j, j < i → 0 ≤ f j ∧ f j ≤ 7) → 0 ≤ octP f i ∧ octP f i < 8 ^ i
  | 0, _ => by simp [octP]
  | i + 1, h => by
    have h1 := octP_b i (fun j hj => h j (by omega))
    have h2 := h i (by omega)
    rw [Int.pow_succ]
    unfold octP
    omega
theorem decP_b {f : Nat → Int} : ∀ i, (∀ j, j < i → 0 ≤ f j ∧ f j ≤ 9) → 0 ≤ decP f i ∧ decP f i < 10 ^ i
  | 0, _ => by simp [decP]
  | i + 1, h => by
    have h1 := decP_b i (fun j hj => h j (by omega))
    have h2 := h i (by omega)
    rw [Int.pow_succ]
    unfold decP
    omega
def over (m : Int) (f : Nat → Int) (n : Nat) : Bool := (List.range n).any fun j => decide (f j > m)
theorem over_true {m : Int} {f : Nat → Int} {n : Nat} (j : Nat) (hj : j < n) (h : f j > m) : over m f n = true :=
  List.any_eq_true.2 ⟨j, List.mem_range.2 hj, decide_eq_true h⟩
theorem over_false {m : Int} {f : Nat → Int} {n : Nat} (h : ∀ j, j < n → f j ≤ m) : over m f n = false := by
  rw [over, List.any_eq_false]
  intro j hj
  have := h j (List.mem_range.1 hj)
  simp; omega
theorem val_facts {c : Cmp} (h1 : validC c = true) (h2 : ¬ c.k = 1) : (1 ≤ c.n ∧ c.n ≤ 100000) ∧ (0 ≤ c.s ∧ c.s ≤ 40) ∧ (c.k = 2 ∨ c.k = 3) := by
  have h1 := of_decide_eq_true h1
  omega
theorem mul_b {n p : Int} (hn : -99999 ≤ n ∧ n ≤ 99999) (hp : 1 ≤ p ∧ p ≤ 1099511627776) : -109951162777600000 ≤ n * p ∧ n * p ≤ 109951162777600000 := by
  have h1 : n * p ≤ 99999 * p := Int.mul_le_mul_of_nonneg_right hn.2 (by omega)
  have h2 : -99999 * p ≤ n * p := Int.mul_le_mul_of_nonneg_right hn.1 (by omega)
  omega
def foV (f : Nat → Int) (s c : Int) : Int × Int := if c < 1 ∨ c > 5 ∨ s ≠ 0 then (0, 2) else if over 7 f c.toNat = true then (0, 5) else (octP f c.toNat, 0)
def numV (f : Nat → Int) (s : Int) : Int := if s = 2 then -decP f 5 else decP f 5
def fdV (f : Nat → Int) (s : Int) (c : Cmp) : Int × Int :=
  if validC c = false ∨ c.k = 1 then (0, 2)
  else if s ≠ 1 ∧ s ≠ 2 then (0, 5)
  else if over 9 f 5 = true then (0, 5)
  else if inV (rV (numV f s * 2 ^ c.s.toNat) c.n) c.k = false then (0, 12)
  else (rV (numV f s * 2 ^ c.s.toNat) c.n, 0)
theorem or16 {x y s : Nat} (a : Nat) (hx : x = 2 ^ s * a) (hy : y < 2 ^ s) (h : x + y < 65536) : IntKind.u16.wrap ((BitVec.ofInt IntKind.u16.bits (x : Int) ||| BitVec.ofInt IntKind.u16.bits (y : Int)).toNat : Int) = ((x + y : Nat) : Int) := by
  have h1 : (BitVec.ofInt IntKind.u16.bits (x : Int)).toNat = x := by
    rw [show IntKind.u16.bits = 16 from rfl, BitVec.ofInt_natCast, BitVec.toNat_ofNat]; exact Nat.mod_eq_of_lt (by omega)
  have h2 : (BitVec.ofInt IntKind.u16.bits (y : Int)).toNat = y := by
    rw [show IntKind.u16.bits = 16 from rfl, BitVec.ofInt_natCast, BitVec.toNat_ofNat]; exact Nat.mod_eq_of_lt (by omega)
  rw [BitVec.toNat_or, h1, h2, hx, ← Nat.two_pow_add_eq_or_of_lt hy, ← hx]
  exact wu16 (by omega) (by omega)
theorem or_oct {w d : Int} (hw : 0 ≤ w ∧ w < 4096) (hd : 0 ≤ d ∧ d ≤ 7) : IntKind.u16.wrap ((BitVec.ofInt IntKind.u16.bits (IntKind.u16.wrap (w * 2 ^ min (Int.toNat 3) IntKind.u16.bits)) ||| BitVec.ofInt IntKind.u16.bits (IntKind.u16.wrap d)).toNat : Int) = 8 * w + d := by
  rw [show min (Int.toNat 3) IntKind.u16.bits = 3 from rfl, wu16 (x := w * 2 ^ 3) (by omega) (by omega), wu16 (x := d) (by omega) (by omega)]
  obtain ⟨a, rfl⟩ := Int.eq_ofNat_of_zero_le hw.1
  obtain ⟨b, rfl⟩ := Int.eq_ofNat_of_zero_le hd.1
  rw [show ((a : Nat) : Int) * 2 ^ 3 = ((8 * a : Nat) : Int) by omega, or16 (s := 3) a (by omega) (by omega) (by omega)]
  omega
set_option maxHeartbeats 4000000 in
theorem fromOct_c (s : Int) (f : Nat → Int) (c : Int) (hf : ∀ j, j < 5 → 0 ≤ f j ∧ f j < 256) : callP Try.prog 76 [shA s f, .int .i64 c] (· = .tuple [.int .u16 (foV f s c).1, .int .i64 (foV f s c).2]) := by
  refine callE_def env (fn := Try.f76) rfl (by decide) rfl ?_
  by_cases h1 : c < 1
  · repeat refine sto ?_
    rw [foV, if_pos (by omega)]
    show Eqv _ _
    exact .up (.up (.refl _))
  by_cases h2 : c > 5
  · repeat refine sto ?_
    rw [foV, if_pos (by omega)]
    show Eqv _ _
    exact .up (.up (.refl _))
  by_cases h3 : s = 0
  rotate_left
  · repeat refine sto ?_
    rw [foV, if_pos (by omega)]
    show Eqv _ _
    exact .up (.up (.refl _))
  have h5 : c = 1 ∨ c = 2 ∨ c = 3 ∨ c = 4 ∨ c = 5 := by omega
  have hfo : ∀ n : Nat, foV f s n = if (n : Int) < 1 ∨ (n : Int) > 5 then (0, 2) else if over 7 f n = true then (0, 5) else (octP f n, 0) := by
    intro n
    rw [foV, Int.toNat_natCast]
    by_cases h : (n : Int) < 1 ∨ (n : Int) > 5
    · rw [if_pos h, if_pos (by omega)]
    · rw [if_neg h, if_neg (by omega)]
  rcases h5 with rfl | rfl | rfl | rfl | rfl
  · have hfo := hfo 1
    rw [show ((1 : Nat) : Int) = 1 from rfl] at hfo
    rw [hfo, if_neg (by omega)]
    repeat refine sto ?_
    repeat refine ndD ?_
    refine loop_inv (keep 37 [4, 5, 6, 22, 23, 24]) (fun i : Nat => slots 37 [(4, .int .u16 0), (5, .int .i64 0), (6, .int .u16 (octP f i)), (22, .slice ⟨0, 0, 1⟩ 1), (23, .int .i64 1), (24, .int .i64 i)])
      (fun _ => [.cells [.int .u8 s, .int .u8 (f 0), .int .u8 (f 1), .int .u8 (f 2), .int .u8 (f 3), .int .u8 (f 4)]]) (fun i => i ≤ 1 ∧ ∀ j, j < i → f j ≤ 7) (fun i => 1 - i) 0 ⟨by decide, fun j hj => absurd hj (by omega)⟩ rfl rfl ?_
    rintro i ⟨hi, hg⟩
    have hb := octP_b i (fun j hj => ⟨(hf j (by omega)).1, hg j hj⟩)
    have hi5 : i = 0 ∨ i = 1 := by omega
    rcases hi5 with rfl | rfl
    · have hd := hf 0 (by decide)
      repeat refine sto ?_
      repeat refine ndD ?_
      apply branch_intro <;> intro h
      · have h := of_decide_eq_true h
        rw [if_pos (over_true 0 (by decide) h)]
        show Eqv _ _
        exact .up (.up (.refl _))
      · have h := of_decide_eq_false h
        repeat refine sto ?_
        repeat refine ndD ?_
        refine ⟨1, ⟨by decide, fun j hj => ?_⟩, by decide, ?_, rfl⟩
        · rcases Nat.lt_or_ge j 0 with hj2 | hj2
          · exact hg j hj2
          · obtain rfl : j = 0 := by omega
            omega
        · show [_, _, _, _, _, _, _, _, _, _, _, _, _, _, _, _, _, _, _, _, _, _, _, _, _, _, _, _, _, _, _, _, _, _, _, _, _] = _
          rw [or_oct ⟨hb.1, by have := hb.2; omega⟩ ⟨hd.1, by omega⟩]
          rfl
    · repeat refine sto ?_
      rw [if_neg (by rw [over_false hg]; decide)]
      show Eqv _ _
      exact .up (.up (.refl _))
  · have hfo := hfo 2
    rw [show ((2 : Nat) : Int) = 2 from rfl] at hfo
    rw [hfo, if_neg (by omega)]
    repeat refine sto ?_
    repeat refine ndD ?_
    refine loop_inv (keep 37 [4, 5, 6, 22, 23, 24]) (fun i : Nat => slots 37 [(4, .int .u16 0), (5, .int .i64 0), (6, .int .u16 (octP f i)), (22, .slice ⟨0, 0, 1⟩ 2), (23, .int .i64 2), (24, .int .i64 i)])
      (fun _ => [.cells [.int .u8 s, .int .u8 (f 0), .int .u8 (f 1), .int .u8 (f 2), .int .u8 (f 3), .int .u8 (f 4)]]) (fun i => i ≤ 2 ∧ ∀ j, j < i → f j ≤ 7) (fun i => 2 - i) 0 ⟨by decide, fun j hj => absurd hj (by omega)⟩ rfl rfl ?_
    rintro i ⟨hi, hg⟩
    have hb := octP_b i (fun j hj => ⟨(hf j (by omega)).1, hg j hj⟩)
    have hi5 : i = 0 ∨ i = 1 ∨ i = 2 := by omega
    rcases hi5 with rfl | rfl | rfl
    · have hd := hf 0 (by decide)
      repeat refine sto ?_
      repeat refine ndD ?_
      apply branch_intro <;> intro h
      · have h := of_decide_eq_true h
        rw [if_pos (over_true 0 (by decide) h)]
        show Eqv _ _
        exact .up (.up (.refl _))
      · have h := of_decide_eq_false h
        repeat refine sto ?_
        repeat refine ndD ?_
        refine ⟨1, ⟨by decide, fun j hj => ?_⟩, by decide, ?_, rfl⟩
        · rcases Nat.lt_or_ge j 0 with hj2 | hj2
          · exact hg j hj2
          · obtain rfl : j = 0 := by omega
            omega
        · show [_, _, _, _, _, _, _, _, _, _, _, _, _, _, _, _, _, _, _, _, _, _, _, _, _, _, _, _, _, _, _, _, _, _, _, _, _] = _
          rw [or_oct ⟨hb.1, by have := hb.2; omega⟩ ⟨hd.1, by omega⟩]
          rfl
    · have hd := hf 1 (by decide)
      repeat refine sto ?_
      repeat refine ndD ?_
      apply branch_intro <;> intro h
      · have h := of_decide_eq_true h
        rw [if_pos (over_true 1 (by decide) h)]
        show Eqv _ _
        exact .up (.up (.refl _))
      · have h := of_decide_eq_false h
        repeat refine sto ?_
        repeat refine ndD ?_
        refine ⟨2, ⟨by decide, fun j hj => ?_⟩, by decide, ?_, rfl⟩
        · rcases Nat.lt_or_ge j 1 with hj2 | hj2
          · exact hg j hj2
          · obtain rfl : j = 1 := by omega
            omega
        · show [_, _, _, _, _, _, _, _, _, _, _, _, _, _, _, _, _, _, _, _, _, _, _, _, _, _, _, _, _, _, _, _, _, _, _, _, _] = _
          rw [or_oct ⟨hb.1, by have := hb.2; omega⟩ ⟨hd.1, by omega⟩]
          rfl
    · repeat refine sto ?_
      rw [if_neg (by rw [over_false hg]; decide)]
      show Eqv _ _
      exact .up (.up (.refl _))
  · have hfo := hfo 3
    rw [show ((3 : Nat) : Int) = 3 from rfl] at hfo
    rw [hfo, if_neg (by omega)]
    repeat refine sto ?_
    repeat refine ndD ?_
    refine loop_inv (keep 37 [4, 5, 6, 22, 23, 24]) (fun i : Nat => slots 37 [(4, .int .u16 0), (5, .int .i64 0), (6, .int .u16 (octP f i)), (22, .slice ⟨0, 0, 1⟩ 3), (23, .int .i64 3), (24, .int .i64 i)])
      (fun _ => [.cells [.int .u8 s, .int .u8 (f 0), .int .u8 (f 1), .int .u8 (f 2), .int .u8 (f 3), .int .u8 (f 4)]]) (fun i => i ≤ 3 ∧ ∀ j, j < i → f j ≤ 7) (fun i => 3 - i) 0 ⟨by decide, fun j hj => absurd hj (by omega)⟩ rfl rfl ?_
    rintro i ⟨hi, hg⟩
    have hb := octP_b i (fun j hj => ⟨(hf j (by omega)).1, hg j hj⟩)
    have hi5 : i = 0 ∨ i = 1 ∨ i = 2 ∨ i = 3 := by omega
    rcases hi5 with rfl | rfl | rfl | rfl
    · have hd := hf 0 (by decide)
      repeat refine sto ?_
      repeat refine ndD ?_
      apply branch_intro <;> intro h
      · have h := of_decide_eq_true h
        rw [if_pos (over_true 0 (by decide) h)]
        show Eqv _ _
        exact .up (.up (.refl _))
      · have h := of_decide_eq_false h
        repeat refine sto ?_
        repeat refine ndD ?_
        refine ⟨1, ⟨by decide, fun j hj => ?_⟩, by decide, ?_, rfl⟩
        · rcases Nat.lt_or_ge j 0 with hj2 | hj2
          · exact hg j hj2
          · obtain rfl : j = 0 := by omega
            omega
        · show [_, _, _, _, _, _, _, _, _, _, _, _, _, _, _, _, _, _, _, _, _, _, _, _, _, _, _, _, _, _, _, _, _, _, _, _, _] = _
          rw [or_oct ⟨hb.1, by have := hb.2; omega⟩ ⟨hd.1, by omega⟩]
          rfl
    · have hd := hf 1 (by decide)
      repeat refine sto ?_
      repeat refine ndD ?_
      apply branch_intro <;> intro h
      · have h := of_decide_eq_true h
        rw [if_pos (over_true 1 (by decide) h)]
        show Eqv _ _
        exact .up (.up (.refl _))
      · have h := of_decide_eq_false h
        repeat refine sto ?_
        repeat refine ndD ?_
        refine ⟨2, ⟨by decide, fun j hj => ?_⟩, by decide, ?_, rfl⟩
        · rcases Nat.lt_or_ge j 1 with hj2 | hj2
          · exact hg j hj2
          · obtain rfl : j = 1 := by omega
            omega
        · show [_, _, _, _, _, _, _, _, _, _, _, _, _, _, _, _, _, _, _, _, _, _, _, _, _, _, _, _, _, _, _, _, _, _, _, _, _] = _
          rw [or_oct ⟨hb.1, by have := hb.2; omega⟩ ⟨hd.1, by omega⟩]
          rfl
    · have hd := hf 2 (by decide)
      repeat refine sto ?_
      repeat refine ndD ?_
      apply branch_intro <;> intro h
      · have h := of_decide_eq_true h
        rw [if_pos (over_true 2 (by decide) h)]
        show Eqv _ _
        exact .up (.up (.refl _))
      · have h := of_decide_eq_false h
        repeat refine sto ?_
        repeat refine ndD ?_
        refine ⟨3, ⟨by decide, fun j hj => ?_⟩, by decide, ?_, rfl⟩
        · rcases Nat.lt_or_ge j 2 with hj2 | hj2
          · exact hg j hj2
          · obtain rfl : j = 2 := by omega
            omega
        · show [_, _, _, _, _, _, _, _, _, _, _, _, _, _, _, _, _, _, _, _, _, _, _, _, _, _, _, _, _, _, _, _, _, _, _, _, _] = _
          rw [or_oct ⟨hb.1, by have := hb.2; omega⟩ ⟨hd.1, by omega⟩]
          rfl
    · repeat refine sto ?_
      rw [if_neg (by rw [over_false hg]; decide)]
      show Eqv _ _
      exact .up (.up (.refl _))
  · have hfo := hfo 4
    rw [show ((4 : Nat) : Int) = 4 from rfl] at hfo
    rw [hfo, if_neg (by omega)]
    repeat refine sto ?_
    repeat refine ndD ?_
    refine loop_inv (keep 37 [4, 5, 6, 22, 23, 24]) (fun i : Nat => slots 37 [(4, .int .u16 0), (5, .int .i64 0), (6, .int .u16 (octP f i)), (22, .slice ⟨0, 0, 1⟩ 4), (23, .int .i64 4), (24, .int .i64 i)])
      (fun _ => [.cells [.int .u8 s, .int .u8 (f 0), .int .u8 (f 1), .int .u8 (f 2), .int .u8 (f 3), .int .u8 (f 4)]]) (fun i => i ≤ 4 ∧ ∀ j, j < i → f j ≤ 7) (fun i => 4 - i) 0 ⟨by decide, fun j hj => absurd hj (by omega)⟩ rfl rfl ?_
    rintro i ⟨hi, hg⟩
    have hb := octP_b i (fun j hj => ⟨(hf j (by omega)).1, hg j hj⟩)
    have hi5 : i = 0 ∨ i = 1 ∨ i = 2 ∨ i = 3 ∨ i = 4 := by omega
    rcases hi5 with rfl | rfl | rfl | rfl | rfl
    · have hd := hf 0 (by decide)
      repeat refine sto ?_
      repeat refine ndD ?_
      apply branch_intro <;> intro h
      · have h := of_decide_eq_true h
        rw [if_pos (over_true 0 (by decide) h)]
        show Eqv _ _
        exact .up (.up (.refl _))
      · have h := of_decide_eq_false h
        repeat refine sto ?_
        repeat refine ndD ?_
        refine ⟨1, ⟨by decide, fun j hj => ?_⟩, by decide, ?_, rfl⟩
        · rcases Nat.lt_or_ge j 0 with hj2 | hj2
          · exact hg j hj2
          · obtain rfl : j = 0 := by omega
            omega
        · show [_, _, _, _, _, _, _, _, _, _, _, _, _, _, _, _, _, _, _, _, _, _, _, _, _, _, _, _, _, _, _, _, _, _, _, _, _] = _
          rw [or_oct ⟨hb.1, by have := hb.2; omega⟩ ⟨hd.1, by omega⟩]
          rfl
    · have hd := hf 1 (by decide)
      repeat refine sto ?_
      repeat refine ndD ?_
      apply branch_intro <;> intro h
      · have h := of_decide_eq_true h
        rw [if_pos (over_true 1 (by decide) h)]
        show Eqv _ _
        exact .up (.up (.refl _))
      · have h := of_decide_eq_false h
        repeat refine sto ?_
        repeat refine ndD ?_
        refine ⟨2, ⟨by decide, fun j hj => ?_⟩, by decide, ?_, rfl⟩
        · rcases Nat.lt_or_ge j 1 with hj2 | hj2
          · exact hg j hj2
          · obtain rfl : j = 1 := by omega
            omega
        · show [_, _, _, _, _, _, _, _, _, _, _, _, _, _, _, _, _, _, _, _, _, _, _, _, _, _, _, _, _, _, _, _, _, _, _, _, _] = _
          rw [or_oct ⟨hb.1, by have := hb.2; omega⟩ ⟨hd.1, by omega⟩]
          rfl
    · have hd := hf 2 (by decide)
      repeat refine sto ?_
      repeat refine ndD ?_
      apply branch_intro <;> intro h
      · have h := of_decide_eq_true h
        rw [if_pos (over_true 2 (by decide) h)]
        show Eqv _ _
        exact .up (.up (.refl _))
      · have h := of_decide_eq_false h
        repeat refine sto ?_
        repeat refine ndD ?_
        refine ⟨3, ⟨by decide, fun j hj => ?_⟩, by decide, ?_, rfl⟩
        · rcases Nat.lt_or_ge j 2 with hj2 | hj2
          · exact hg j hj2
          · obtain rfl : j = 2 := by omega
            omega
        · show [_, _, _, _, _, _, _, _, _, _, _, _, _, _, _, _, _, _, _, _, _, _, _, _, _, _, _, _, _, _, _, _, _, _, _, _, _] = _
          rw [or_oct ⟨hb.1, by have := hb.2; omega⟩ ⟨hd.1, by omega⟩]
          rfl
    · have hd := hf 3 (by decide)
      repeat refine sto ?_
      repeat refine ndD ?_
      apply branch_intro <;> intro h
      · have h := of_decide_eq_true h
        rw [if_pos (over_true 3 (by decide) h)]
        show Eqv _ _
        exact .up (.up (.refl _))
      · have h := of_decide_eq_false h
        repeat refine sto ?_
        repeat refine ndD ?_
        refine ⟨4, ⟨by decide, fun j hj => ?_⟩, by decide, ?_, rfl⟩
        · rcases Nat.lt_or_ge j 3 with hj2 | hj2
          · exact hg j hj2
          · obtain rfl : j = 3 := by omega
            omega
        · show [_, _, _, _, _, _, _, _, _, _, _, _, _, _, _, _, _, _, _, _, _, _, _, _, _, _, _, _, _, _, _, _, _, _, _, _, _] = _
          rw [or_oct ⟨hb.1, by have := hb.2; omega⟩ ⟨hd.1, by omega⟩]
          rfl
    · repeat refine sto ?_
      rw [if_neg (by rw [over_false hg]; decide)]
      show Eqv _ _
      exact .up (.up (.refl _))
  · have hfo := hfo 5
    rw [show ((5 : Nat) : Int) = 5 from rfl] at hfo
    rw [hfo, if_neg (by omega)]
    repeat refine sto ?_
    repeat refine ndD ?_
    refine loop_inv (keep 37 [4, 5, 6, 22, 23, 24]) (fun i : Nat => slots 37 [(4, .int .u16 0), (5, .int .i64 0), (6, .int .u16 (octP f i)), (22, .slice ⟨0, 0, 1⟩ 5), (23, .int .i64 5), (24, .int .i64 i)])
      (fun _ => [.cells [.int .u8 s, .int .u8 (f 0), .int .u8 (f 1), .int .u8 (f 2), .int .u8 (f 3), .int .u8 (f 4)]]) (fun i => i ≤ 5 ∧ ∀ j, j < i → f j ≤ 7) (fun i => 5 - i) 0 ⟨by decide, fun j hj => absurd hj (by omega)⟩ rfl rfl ?_
    rintro i ⟨hi, hg⟩
    have hb := octP_b i (fun j hj => ⟨(hf j (by omega)).1, hg j hj⟩)
    have hi5 : i = 0 ∨ i = 1 ∨ i = 2 ∨ i = 3 ∨ i = 4 ∨ i = 5 := by omega
    rcases hi5 with rfl | rfl | rfl | rfl | rfl | rfl
    · have hd := hf 0 (by decide)
      repeat refine sto ?_
      repeat refine ndD ?_
      apply branch_intro <;> intro h
      · have h := of_decide_eq_true h
        rw [if_pos (over_true 0 (by decide) h)]
        show Eqv _ _
        exact .up (.up (.refl _))
      · have h := of_decide_eq_false h
        repeat refine sto ?_
        repeat refine ndD ?_
        refine ⟨1, ⟨by decide, fun j hj => ?_⟩, by decide, ?_, rfl⟩
        · rcases Nat.lt_or_ge j 0 with hj2 | hj2
          · exact hg j hj2
          · obtain rfl : j = 0 := by omega
            omega
        · show [_, _, _, _, _, _, _, _, _, _, _, _, _, _, _, _, _, _, _, _, _, _, _, _, _, _, _, _, _, _, _, _, _, _, _, _, _] = _
          rw [or_oct ⟨hb.1, by have := hb.2; omega⟩ ⟨hd.1, by omega⟩]
          rfl
    · have hd := hf 1 (by decide)
      repeat refine sto ?_
      repeat refine ndD ?_
      apply branch_intro <;> intro h
      · have h := of_decide_eq_true h
        rw [if_pos (over_true 1 (by decide) h)]
        show Eqv _ _
        exact .up (.up (.refl _))
      · have h := of_decide_eq_false h
        repeat refine sto ?_
        repeat refine ndD ?_
        refine ⟨2, ⟨by decide, fun j hj => ?_⟩, by decide, ?_, rfl⟩
        · rcases Nat.lt_or_ge j 1 with hj2 | hj2
          · exact hg j hj2
          · obtain rfl : j = 1 := by omega
            omega
        · show [_, _, _, _, _, _, _, _, _, _, _, _, _, _, _, _, _, _, _, _, _, _, _, _, _, _, _, _, _, _, _, _, _, _, _, _, _] = _
          rw [or_oct ⟨hb.1, by have := hb.2; omega⟩ ⟨hd.1, by omega⟩]
          rfl
    · have hd := hf 2 (by decide)
      repeat refine sto ?_
      repeat refine ndD ?_
      apply branch_intro <;> intro h
      · have h := of_decide_eq_true h
        rw [if_pos (over_true 2 (by decide) h)]
        show Eqv _ _
        exact .up (.up (.refl _))
      · have h := of_decide_eq_false h
        repeat refine sto ?_
        repeat refine ndD ?_
        refine ⟨3, ⟨by decide, fun j hj => ?_⟩, by decide, ?_, rfl⟩
        · rcases Nat.lt_or_ge j 2 with hj2 | hj2
          · exact hg j hj2
          · obtain rfl : j = 2 := by omega
            omega
        · show [_, _, _, _, _, _, _, _, _, _, _, _, _, _, _, _, _, _, _, _, _, _, _, _, _, _, _, _, _, _, _, _, _, _, _, _, _] = _
          rw [or_oct ⟨hb.1, by have := hb.2; omega⟩ ⟨hd.1, by omega⟩]
          rfl
    · have hd := hf 3 (by decide)
      repeat refine sto ?_
      repeat refine ndD ?_
      apply branch_intro <;> intro h
      · have h := of_decide_eq_true h
        rw [if_pos (over_true 3 (by decide) h)]
        show Eqv _ _
        exact .up (.up (.refl _))
      · have h := of_decide_eq_false h
        repeat refine sto ?_
        repeat refine ndD ?_
        refine ⟨4, ⟨by decide, fun j hj => ?_⟩, by decide, ?_, rfl⟩
        · rcases Nat.lt_or_ge j 3 with hj2 | hj2
          · exact hg j hj2
          · obtain rfl : j = 3 := by omega
            omega
        · show [_, _, _, _, _, _, _, _, _, _, _, _, _, _, _, _, _, _, _, _, _, _, _, _, _, _, _, _, _, _, _, _, _, _, _, _, _] = _
          rw [or_oct ⟨hb.1, by have := hb.2; omega⟩ ⟨hd.1, by omega⟩]
          rfl
    · have hd := hf 4 (by decide)
      repeat refine sto ?_
      repeat refine ndD ?_
      apply branch_intro <;> intro h
      · have h := of_decide_eq_true h
        rw [if_pos (over_true 4 (by decide) h)]
        show Eqv _ _
        exact .up (.up (.refl _))
      · have h := of_decide_eq_false h
        repeat refine sto ?_
        repeat refine ndD ?_
        refine ⟨5, ⟨by decide, fun j hj => ?_⟩, by decide, ?_, rfl⟩
        · rcases Nat.lt_or_ge j 4 with hj2 | hj2
          · exact hg j hj2
          · obtain rfl : j = 4 := by omega
            omega
        · show [_, _, _, _, _, _, _, _, _, _, _, _, _, _, _, _, _, _, _, _, _, _, _, _, _, _, _, _, _, _, _, _, _, _, _, _, _] = _
          rw [or_oct ⟨hb.1, by have := hb.2; omega⟩ ⟨hd.1, by omega⟩]
          rfl
    · repeat refine sto ?_
      rw [if_neg (by rw [over_false hg]; decide)]
      show Eqv _ _
      exact .up (.up (.refl _))
set_option maxHeartbeats 4000000 in
theorem fromDec_c (s : Int) (f : Nat → Int) (c : Cmp) (hs : 0 ≤ s ∧ s < 256) (hf : ∀ j, j < 5 → 0 ≤ f j ∧ f j < 256) (hc : c.Ok) : callP Try.prog 77 [shA s f, cA c] (· = .tuple [.int .i64 (fdV f s c).1, .int .i64 (fdV f s c).2]) := by
  refine callE_def env (fn := Try.f77) rfl (by decide) rfl ?_
  refine callT_E (valid_c c hc) rfl ?_
  by_cases h1 : validC c = false
  · rw [h1]
    repeat refine sto ?_
    rw [fdV, if_pos (.inl h1)]
    show Eqv _ _
    exact .up (.up (.refl _))
  have h1t : validC c = true := by simpa using h1
  rw [h1t]
  by_cases h2 : c.k = 1
  · repeat refine sto ?_
    rw [fdV, if_pos (.inr h2)]
    show Eqv _ _
    exact .up (.up (.refl _))
  repeat refine sto ?_
  by_cases h3 : s ≠ 1 ∧ s ≠ 2
  · rw [fdV, if_neg (by simp [h1t, h2]), if_pos h3]
    rcases (show s < 1 ∨ s > 2 by omega) with h4 | h4
    · repeat refine sto ?_
      show Eqv _ _
      exact .up (.up (.refl _))
    · repeat refine sto ?_
      show Eqv _ _
      exact .up (.up (.refl _))
  rw [fdV, if_neg (by simp [h1t, h2]), if_neg h3]
  have h3' : s = 1 ∨ s = 2 := by omega
  have fin : ∀ n : Int, over 9 f 5 = false → n = decP f 5 → n = decP f 5 := fun _ _ h => h
  obtain rfl | rfl := h3'
  all_goals
    repeat refine sto ?_
    refine loop_inv (keep 56 [2, 3, 4, 5, 6, 27, 28]) (fun i : Nat => slots 56 [(2, .ptr ⟨0, 0, 0⟩), (3, .ptr ⟨1, 0, 0⟩), (4, .int .i64 0), (5, .int .i64 0), (6, .int .i64 (decP f i)), (27, .agg [.int .u8 (f 0), .int .u8 (f 1), .int .u8 (f 2), .int .u8 (f 3), .int .u8 (f 4)]), (28, .int .i64 i)])
      (fun _ => [.cells [.int .u8 _, .int .u8 (f 0), .int .u8 (f 1), .int .u8 (f 2), .int .u8 (f 3), .int .u8 (f 4)], .cells [.int .u8 c.k, .int .i64 c.a, .int .i64 c.n, .int .i64 c.s]]) (fun i => i ≤ 5 ∧ ∀ j, j < i → f j ≤ 9) (fun i => 5 - i) 0 ⟨by decide, fun j hj => absurd hj (by omega)⟩ rfl rfl ?_
    rintro i ⟨hi, hg⟩
    have hb := decP_b i (fun j hj => ⟨(hf j (by omega)).1, hg j hj⟩)
    have hi5 : i = 0 ∨ i = 1 ∨ i = 2 ∨ i = 3 ∨ i = 4 ∨ i = 5 := by omega
    rcases hi5 with rfl | rfl | rfl | rfl | rfl | rfl
    · have hd := hf 0 (by decide)
      repeat refine sto ?_
      repeat refine ndD ?_
      apply branch_intro <;> intro h
      · have h := of_decide_eq_true h
        rw [if_pos (over_true 0 (by decide) h)]
        show Eqv _ _
        exact .up (.up (.refl _))
      · have h := of_decide_eq_false h
        repeat refine sto ?_
        repeat refine ndD ?_
        refine ⟨1, ⟨by decide, fun j hj => ?_⟩, by decide, ?_, rfl⟩
        · rcases Nat.lt_or_ge j 0 with hj2 | hj2
          · exact hg j hj2
          · obtain rfl : j = 0 := by omega
            omega
        · show [_, _, _, _, _, _, _, _, _, _, _, _, _, _, _, _, _, _, _, _, _, _, _, _, _, _, _, _, _, _, _, _, _, _, _, _, _, _, _, _, _, _, _, _, _, _, _, _, _, _, _, _, _, _, _, _] = _
          rw [wi (x := 10 * decP f 0) (by omega) (by omega), wi (x := f 0) (by omega) (by omega), wi (x := 10 * decP f 0 + f 0) (by omega) (by omega)]
          rfl
    · have hd := hf 1 (by decide)
      repeat refine sto ?_
      repeat refine ndD ?_
      apply branch_intro <;> intro h
      · have h := of_decide_eq_true h
        rw [if_pos (over_true 1 (by decide) h)]
        show Eqv _ _
        exact .up (.up (.refl _))
      · have h := of_decide_eq_false h
        repeat refine sto ?_
        repeat refine ndD ?_
        refine ⟨2, ⟨by decide, fun j hj => ?_⟩, by decide, ?_, rfl⟩
        · rcases Nat.lt_or_ge j 1 with hj2 | hj2
          · exact hg j hj2
          · obtain rfl : j = 1 := by omega
            omega
        · show [_, _, _, _, _, _, _, _, _, _, _, _, _, _, _, _, _, _, _, _, _, _, _, _, _, _, _, _, _, _, _, _, _, _, _, _, _, _, _, _, _, _, _, _, _, _, _, _, _, _, _, _, _, _, _, _] = _
          rw [wi (x := 10 * decP f 1) (by omega) (by omega), wi (x := f 1) (by omega) (by omega), wi (x := 10 * decP f 1 + f 1) (by omega) (by omega)]
          rfl
    · have hd := hf 2 (by decide)
      repeat refine sto ?_
      repeat refine ndD ?_
      apply branch_intro <;> intro h
      · have h := of_decide_eq_true h
        rw [if_pos (over_true 2 (by decide) h)]
        show Eqv _ _
        exact .up (.up (.refl _))
      · have h := of_decide_eq_false h
        repeat refine sto ?_
        repeat refine ndD ?_
        refine ⟨3, ⟨by decide, fun j hj => ?_⟩, by decide, ?_, rfl⟩
        · rcases Nat.lt_or_ge j 2 with hj2 | hj2
          · exact hg j hj2
          · obtain rfl : j = 2 := by omega
            omega
        · show [_, _, _, _, _, _, _, _, _, _, _, _, _, _, _, _, _, _, _, _, _, _, _, _, _, _, _, _, _, _, _, _, _, _, _, _, _, _, _, _, _, _, _, _, _, _, _, _, _, _, _, _, _, _, _, _] = _
          rw [wi (x := 10 * decP f 2) (by omega) (by omega), wi (x := f 2) (by omega) (by omega), wi (x := 10 * decP f 2 + f 2) (by omega) (by omega)]
          rfl
    · have hd := hf 3 (by decide)
      repeat refine sto ?_
      repeat refine ndD ?_
      apply branch_intro <;> intro h
      · have h := of_decide_eq_true h
        rw [if_pos (over_true 3 (by decide) h)]
        show Eqv _ _
        exact .up (.up (.refl _))
      · have h := of_decide_eq_false h
        repeat refine sto ?_
        repeat refine ndD ?_
        refine ⟨4, ⟨by decide, fun j hj => ?_⟩, by decide, ?_, rfl⟩
        · rcases Nat.lt_or_ge j 3 with hj2 | hj2
          · exact hg j hj2
          · obtain rfl : j = 3 := by omega
            omega
        · show [_, _, _, _, _, _, _, _, _, _, _, _, _, _, _, _, _, _, _, _, _, _, _, _, _, _, _, _, _, _, _, _, _, _, _, _, _, _, _, _, _, _, _, _, _, _, _, _, _, _, _, _, _, _, _, _] = _
          rw [wi (x := 10 * decP f 3) (by omega) (by omega), wi (x := f 3) (by omega) (by omega), wi (x := 10 * decP f 3 + f 3) (by omega) (by omega)]
          rfl
    · have hd := hf 4 (by decide)
      repeat refine sto ?_
      repeat refine ndD ?_
      apply branch_intro <;> intro h
      · have h := of_decide_eq_true h
        rw [if_pos (over_true 4 (by decide) h)]
        show Eqv _ _
        exact .up (.up (.refl _))
      · have h := of_decide_eq_false h
        repeat refine sto ?_
        repeat refine ndD ?_
        refine ⟨5, ⟨by decide, fun j hj => ?_⟩, by decide, ?_, rfl⟩
        · rcases Nat.lt_or_ge j 4 with hj2 | hj2
          · exact hg j hj2
          · obtain rfl : j = 4 := by omega
            omega
        · show [_, _, _, _, _, _, _, _, _, _, _, _, _, _, _, _, _, _, _, _, _, _, _, _, _, _, _, _, _, _, _, _, _, _, _, _, _, _, _, _, _, _, _, _, _, _, _, _, _, _, _, _, _, _, _, _] = _
          rw [wi (x := 10 * decP f 4) (by omega) (by omega), wi (x := f 4) (by omega) (by omega), wi (x := 10 * decP f 4 + f 4) (by omega) (by omega)]
          rfl
    · rw [if_neg (by rw [over_false hg]; decide)]
      repeat refine sto ?_
      obtain ⟨hcn, hcs, hck⟩ := val_facts h1t h2
      obtain ⟨k, hk, hk40⟩ := pow_eq c.s hcs
      have hp := pow_b hk40
      have hd5 : 0 ≤ decP f 5 ∧ decP f 5 ≤ 99999 := ⟨hb.1, by have := hb.2; omega⟩
      have hm1 := mul_b (n := decP f 5) (p := 2 ^ k) (by omega) hp
      have hm2 := mul_b (n := -decP f 5) (p := 2 ^ k) (by omega) hp
      rw [show c.s.toNat = k by omega]
      have n1 : numV f 1 = decP f 5 := rfl
      have n2 : numV f 2 = -decP f 5 := rfl
      have e0 : IntKind.i64.wrap (0 - decP f 5) = -decP f 5 := by rw [wi (by omega) (by omega)]; omega
      refine draw_tree (picks [0, 1, 2, 3, 4, 5, 6, 7] .done) (by decide +kernel) ?_
      apply need_intro
      · omega
      have w1 : ∀ z : Int, -109951162777600000 ≤ z * 2 ^ k ∧ z * 2 ^ k ≤ 109951162777600000 → IntKind.i64.wrap (z * 2 ^ (min c.s.toNat IntKind.i64.bits)) = z * 2 ^ k := fun z h => by
        rw [hk, Int.toNat_natCast, show min k IntKind.i64.bits = k from by show min k 64 = k; omega, wi (by omega) (by omega)]
      have cq : ∀ a n : Int, a = n * 2 ^ k → -109951162777600000 ≤ n * 2 ^ k ∧ n * 2 ^ k ≤ 109951162777600000 → callP Try.prog 60 [.int .i64 a, .int .i64 c.n] (· = .int .i64 (rV (n * 2 ^ k) c.n)) := by
        rintro _ n rfl h
        exact quot_c (by omega) (by omega)
      first
        | refine ⟨_, ⟨cq _ (numV f 1) (w1 _ (by omega)) (by rw [n1]; omega), rfl⟩, ?_⟩
        | refine ⟨_, ⟨cq _ (numV f 2) (by rw [e0]; exact w1 _ (by omega)) (by rw [n2]; omega), rfl⟩, ?_⟩
      refine callT_E (within_c _ c) rfl ?_
      generalize rV _ c.n = r
      by_cases h9 : inV r c.k = false
      · rw [h9, if_pos rfl]
        repeat refine sto ?_
        show Eqv _ _
        exact .up (.up (.refl _))
      · rw [if_neg h9, show inV r c.k = true by simpa using h9]
        repeat refine sto ?_
        show Eqv _ _
        exact .up (.up (.refl _))
end Go.Proofs
namespace Go.Proofs
open Go.E
set_option maxRecDepth 8000
end Go.Proofs
