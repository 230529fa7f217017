/- Chapter 27, part c: the words of rows. -/
import Derived.Test.YthedobkhfdpdaaaC10
set_option linter.unusedVariables false
set_option linter.unusedSimpArgs false
namespace Go.Proofs.Rl
open Go.E
set_option maxRecDepth 8000
theorem or16 {x y s : Nat} (a : Nat) (hx : x = 2 ^ s * a) (hy : y < 2 ^ s) (h : x + y < 65536) : IntKind.u16.wrap ((BitVec.ofInt IntKind.u16.bits (x : Int) ||| BitVec.ofInt IntKind.u16.bits (y : Int)).toNat : Int) = ((x + y : Nat) : Int) := by
  have h1 : (BitVec.ofInt IntKind.u16.bits (x : Int)).toNat = x := by
    rw [BitVec.ofInt_natCast, BitVec.toNat_ofNat]
    exact Nat.mod_eq_of_lt (by show x < 65536; omega)
  have h2 : (BitVec.ofInt IntKind.u16.bits (y : Int)).toNat = y := by
    rw [BitVec.ofInt_natCast, BitVec.toNat_ofNat]
    exact Nat.mod_eq_of_lt (by show y < 65536; omega)
  rw [BitVec.toNat_or, h1, h2, hx, ← Nat.two_pow_add_eq_or_of_lt hy, ← hx]
  exact wu16 (by omega) (by omega)
theorem or16_mid {k x : Nat} (hx : x < 1024) (hk : k < 16) : IntKind.u16.wrap ((BitVec.ofInt IntKind.u16.bits ((2048 * k + x : Nat) : Int) ||| BitVec.ofInt IntKind.u16.bits 1024).toNat : Int) = ((2048 * k + 1024 + x : Nat) : Int) := by
  have h1 : (BitVec.ofInt IntKind.u16.bits ((2048 * k + x : Nat) : Int)).toNat = 2048 * k + x := by
    rw [BitVec.ofInt_natCast, BitVec.toNat_ofNat]
    exact Nat.mod_eq_of_lt (by show 2048 * k + x < 65536; omega)
  have h2 : (BitVec.ofInt IntKind.u16.bits 1024).toNat = 1024 := by decide
  have e1 : 2048 * k + x = 2 ^ 11 * k ||| x := Nat.two_pow_add_eq_or_of_lt (i := 11) (by omega) k
  have e2 : x ||| 1024 = 1024 + x := by
    rw [Nat.or_comm]
    exact (Nat.two_pow_add_eq_or_of_lt (i := 10) (b := x) (by omega) 1).symm
  rw [BitVec.toNat_or, h1, h2, e1, Nat.or_assoc, e2, ← Nat.two_pow_add_eq_or_of_lt (by omega : 1024 + x < 2 ^ 11) k]
  rw [wu16 (by omega) (by omega)]
  omega
def cN (x : Int) : Nat := (codeV x.toNat).toNat
theorem cN_b (x : Int) : cN x < 32 := by
  unfold cN codeV
  split <;> decide
theorem cN_of {n : Nat} : (cN n : Int) = codeV n := by
  unfold cN
  rw [Int.toNat_natCast]
  unfold codeV
  split <;> rfl
def lowN (d : Nat → Int) (k : Nat) : Nat := match k with
  | 0 => 32 * cN (d 22) + cN (d 23)
  | 1 => 32 * cN (d 20) + cN (d 21)
  | 2 => 32 * cN (d 17) + cN (d 19)
  | 3 => 32 * cN (d 15) + cN (d 16)
  | 4 => 32 * cN (d 13) + cN (d 14)
  | 5 => 32 * cN (d 10) + cN (d 11)
  | 6 => 32 * cN (d 8) + cN (d 9)
  | 7 => 32 * cN 10 + cN (d 7)
  | 8 => 32 * cN (d 4) + cN (d 5)
  | 9 => 32 * cN (d 2) + cN (d 3)
  | 10 => 32 * cN (d 0) + cN (d 1)
  | _ => 0
def bitN (d : Nat → Int) (k : Nat) : Nat := match k with
  | 0 => if d 18 = 2 then 1024 else 0
  | 1 => if d 18 = 1 then 1024 else 0
  | 3 => if d 12 = 2 then 1024 else 0
  | 4 => if d 12 = 1 then 1024 else 0
  | 5 => if d 6 = 2 then 1024 else 0
  | 6 => if d 6 = 1 then 1024 else 0
  | _ => 0
def rowW (d : Nat → Int) (n : Nat) : Int := match n with
  | 12 => 24576 + d 24
  | 13 => 26624 + d 25
  | n => ((2048 * n + bitN d (n - 1) + lowN d (n - 1) : Nat) : Int)
abbrev codeL : List AVal := [.int .u8 21, .int .u8 3, .int .u8 25, .int .u8 27, .int .u8 15, .int .u8 30, .int .u8 28, .int .u8 19, .int .u8 29, .int .u8 31, .int .u8 0]
theorem getL_at {l : List AVal} {i : Nat} {k : AVal → Prop} {v : AVal} (h : l[i]? = some v) (hk : k v) : getL l i k := getL_iff.2 ⟨v, h, hk⟩
theorem codeL_at {x : Int} (h0 : 0 ≤ x) (h : x < 11) : codeL[0 + (0 + x.toNat * 1)]? = some (.int .u8 (cN x)) := by
  obtain ⟨n, rfl⟩ := Int.eq_ofNat_of_zero_le h0
  have : n < 11 := by omega
  rw [cN_of, Int.toNat_natCast, Nat.zero_add, Nat.zero_add, Nat.mul_one]
  match n, this with
  | 0, _ => rfl
  | 1, _ => rfl
  | 2, _ => rfl
  | 3, _ => rfl
  | 4, _ => rfl
  | 5, _ => rfl
  | 6, _ => rfl
  | 7, _ => rfl
  | 8, _ => rfl
  | 9, _ => rfl
  | 10, _ => rfl
theorem row_low {a b : Nat} (ha : a < 32) (hb : b < 32) : IntKind.u16.wrap ((BitVec.ofInt IntKind.u16.bits (IntKind.u16.wrap (IntKind.u16.wrap (a : Int) * 2 ^ min (Int.toNat 5) IntKind.u16.bits)) ||| BitVec.ofInt IntKind.u16.bits (IntKind.u16.wrap (b : Int))).toNat : Int) = ((32 * a + b : Nat) : Int) := by
  have e5 : (2 : Int) ^ min (Int.toNat 5) IntKind.u16.bits = 32 := by decide
  rw [e5, wu16 (x := (a : Int)) (by omega) (by omega), wu16 (x := (b : Int)) (by omega) (by omega), wu16 (x := (a : Int) * 32) (by omega) (by omega), show (a : Int) * 32 = ((32 * a : Nat) : Int) by omega]
  exact or16 (s := 5) a (by decide +revert) hb (by omega)
theorem row_val {n a b : Nat} {W : Int} (hW : W = ((2048 * n : Nat) : Int)) (hn : n < 16) (ha : a < 32) (hb : b < 32) :
    IntKind.u16.wrap ((BitVec.ofInt IntKind.u16.bits W ||| BitVec.ofInt IntKind.u16.bits (IntKind.u16.wrap ((BitVec.ofInt IntKind.u16.bits (IntKind.u16.wrap (IntKind.u16.wrap (a : Int) * 2 ^ min (Int.toNat 5) IntKind.u16.bits)) ||| BitVec.ofInt IntKind.u16.bits (IntKind.u16.wrap (b : Int))).toNat : Int))).toNat : Int) = ((2048 * n + (32 * a + b) : Nat) : Int) := by
  rw [row_low ha hb, hW]
  exact or16 (s := 11) n rfl (by omega) (by omega)
theorem row_bit {n x : Nat} {y : Int} (hy : y = ((2048 * n + x : Nat) : Int)) (hx : x < 1024) (hn : n < 16) : IntKind.u16.wrap ((BitVec.ofInt IntKind.u16.bits y ||| BitVec.ofInt IntKind.u16.bits 1024).toNat : Int) = ((2048 * n + 1024 + x : Nat) : Int) := by
  rw [hy]; exact or16_mid hx hn
theorem may_parts {d : Nat → Int} (hm : mayB d = true) : (∀ j, j < 11 → okB d j = true) ∧ d 24 < 2048 ∧ d 25 < 2048 := by
  unfold mayB at hm
  simp only [Bool.and_eq_true, decide_eq_true_eq] at hm
  exact ⟨fun j hj => allB_at hm.1.1 j hj, hm.1.2, hm.2⟩
theorem row1_c {d : Nat → Int} (hd : WD d) (hm : mayB d = true) : callP Try.prog 24 [dispA d, .int .i64 1] (· = .tuple [.int .u16 (rowW d 1), .int .i64 0]) := by
  have c := may_c hd
  rw [hm] at c
  have hk := (may_parts hm).1 0 (by decide)
  unfold okB at hk
  simp only [Bool.and_eq_true, decide_eq_true_eq] at hk
  refine callE_def env (fn := Try.f24) rfl (by decide) rfl ?_
  refine callT_E c rfl ?_
  repeat refine stb ?_
  repeat refine ndD ?_
  repeat (first | refine branch_true ?_ | refine branch_false ?_ | (refine branch_f' ?_ ?_; focus (simp; done)) | (refine branch_t' ?_ ?_; focus (simp; done)))
  refine callT_part [0, 1] rfl (table_c (d := d) (x := 10)) ?_
  rintro v H' ⟨rfl, rfl⟩ x G hx hG
  obtain rfl : x = tabA 0 1 := hx
  obtain rfl : G = [.cells (dcells d), .cells [.int .u8 10], .cells (tabL 0 1)] := hG
  repeat refine ndD ?_
  refine callT_E codes_c rfl ?_
  refine draw_tree (picks [0, 1, 2, 3, 4, 5, 6, 7, 8, 9, 10, 11, 12, 13, 14, 15, 16, 17, 18] .done) (by decide +kernel) ?_
  have w1 := hd.1 22 (by decide)
  apply need_intro
  · exact ⟨w1.1, hk.1.1⟩
  refine getL_at (codeL_at w1.1 hk.1.1) ?_
  repeat refine ndD ?_
  have w2 := hd.1 23 (by decide)
  apply need_intro
  · exact ⟨w2.1, hk.1.2⟩
  refine getL_at (codeL_at w2.1 hk.1.2) ?_
  refine draw_tree (picks [0, 1, 2, 3, 4, 5, 6, 7, 8, 9, 10, 11] .done) (by decide +kernel) ?_
  repeat refine stb ?_
  have hl : lowN d 0 = 32 * cN (d 22) + cN (d 23) := rfl
  apply branch_intro <;> intro hb
  · repeat refine stb ?_
    show Eqv (.tuple [.int .u16 _, _]) _
    refine eqv_of_eq (congrArg (fun x => AVal.tuple [.int .u16 x, .int .i64 0]) ?_)
    have hs : bitN d 0 = 1024 := if_pos (by simpa using hb)
    refine (row_bit (row_val (n := 1) (a := cN (d 22)) (b := cN (d 23)) (by decide) (by decide) (cN_b _) (cN_b _)) (by have := cN_b (d 22); have := cN_b (d 23); omega) (by decide)).trans ?_
    show _ = ((2048 * 1 + bitN d 0 + lowN d 0 : Nat) : Int)
    rw [hs, hl]
  · repeat refine stb ?_
    show Eqv (.tuple [.int .u16 _, _]) _
    refine eqv_of_eq (congrArg (fun x => AVal.tuple [.int .u16 x, .int .i64 0]) ?_)
    have hs : bitN d 0 = 0 := if_neg (by simpa using hb)
    refine (row_val (n := 1) (a := cN (d 22)) (b := cN (d 23)) (by decide) (by decide) (cN_b _) (cN_b _)).trans ?_
    show _ = ((2048 * 1 + bitN d 0 + lowN d 0 : Nat) : Int)
    rw [hs, hl]
theorem row2_c {d : Nat → Int} (hd : WD d) (hm : mayB d = true) : callP Try.prog 24 [dispA d, .int .i64 2] (· = .tuple [.int .u16 (rowW d 2), .int .i64 0]) := by
  have c := may_c hd
  rw [hm] at c
  have hk := (may_parts hm).1 1 (by decide)
  unfold okB at hk
  simp only [Bool.and_eq_true, decide_eq_true_eq] at hk
  refine callE_def env (fn := Try.f24) rfl (by decide) rfl ?_
  refine callT_E c rfl ?_
  repeat refine stb ?_
  repeat refine ndD ?_
  repeat (first | refine branch_true ?_ | refine branch_false ?_ | (refine branch_f' ?_ ?_; focus (simp; done)) | (refine branch_t' ?_ ?_; focus (simp; done)))
  refine callT_part [0, 1] rfl (table_c (d := d) (x := 10)) ?_
  rintro v H' ⟨rfl, rfl⟩ x G hx hG
  obtain rfl : x = tabA 0 1 := hx
  obtain rfl : G = [.cells (dcells d), .cells [.int .u8 10], .cells (tabL 0 1)] := hG
  repeat refine ndD ?_
  refine callT_E codes_c rfl ?_
  refine draw_tree (picks [0, 1, 2, 3, 4, 5, 6, 7, 8, 9, 10, 11, 12, 13, 14, 15, 16, 17, 18] .done) (by decide +kernel) ?_
  have w1 := hd.1 20 (by decide)
  apply need_intro
  · exact ⟨w1.1, hk.1.1⟩
  refine getL_at (codeL_at w1.1 hk.1.1) ?_
  repeat refine ndD ?_
  have w2 := hd.1 21 (by decide)
  apply need_intro
  · exact ⟨w2.1, hk.1.2⟩
  refine getL_at (codeL_at w2.1 hk.1.2) ?_
  refine draw_tree (picks [0, 1, 2, 3, 4, 5, 6, 7, 8, 9, 10, 11] .done) (by decide +kernel) ?_
  repeat refine stb ?_
  have hl : lowN d 1 = 32 * cN (d 20) + cN (d 21) := rfl
  apply branch_intro <;> intro hb
  · repeat refine stb ?_
    show Eqv (.tuple [.int .u16 _, _]) _
    refine eqv_of_eq (congrArg (fun x => AVal.tuple [.int .u16 x, .int .i64 0]) ?_)
    have hs : bitN d 1 = 1024 := if_pos (by simpa using hb)
    refine (row_bit (row_val (n := 2) (a := cN (d 20)) (b := cN (d 21)) (by decide) (by decide) (cN_b _) (cN_b _)) (by have := cN_b (d 20); have := cN_b (d 21); omega) (by decide)).trans ?_
    show _ = ((2048 * 2 + bitN d 1 + lowN d 1 : Nat) : Int)
    rw [hs, hl]
  · repeat refine stb ?_
    show Eqv (.tuple [.int .u16 _, _]) _
    refine eqv_of_eq (congrArg (fun x => AVal.tuple [.int .u16 x, .int .i64 0]) ?_)
    have hs : bitN d 1 = 0 := if_neg (by simpa using hb)
    refine (row_val (n := 2) (a := cN (d 20)) (b := cN (d 21)) (by decide) (by decide) (cN_b _) (cN_b _)).trans ?_
    show _ = ((2048 * 2 + bitN d 1 + lowN d 1 : Nat) : Int)
    rw [hs, hl]
theorem row3_c {d : Nat → Int} (hd : WD d) (hm : mayB d = true) : callP Try.prog 24 [dispA d, .int .i64 3] (· = .tuple [.int .u16 (rowW d 3), .int .i64 0]) := by
  have c := may_c hd
  rw [hm] at c
  have hk := (may_parts hm).1 2 (by decide)
  unfold okB at hk
  simp only [Bool.and_eq_true, decide_eq_true_eq] at hk
  refine callE_def env (fn := Try.f24) rfl (by decide) rfl ?_
  refine callT_E c rfl ?_
  repeat refine stb ?_
  repeat refine ndD ?_
  repeat (first | refine branch_true ?_ | refine branch_false ?_ | (refine branch_f' ?_ ?_; focus (simp; done)) | (refine branch_t' ?_ ?_; focus (simp; done)))
  refine callT_part [0, 1] rfl (table_c (d := d) (x := 10)) ?_
  rintro v H' ⟨rfl, rfl⟩ x G hx hG
  obtain rfl : x = tabA 0 1 := hx
  obtain rfl : G = [.cells (dcells d), .cells [.int .u8 10], .cells (tabL 0 1)] := hG
  repeat refine ndD ?_
  refine callT_E codes_c rfl ?_
  refine draw_tree (picks [0, 1, 2, 3, 4, 5, 6, 7, 8, 9, 10, 11, 12, 13, 14, 15, 16, 17, 18] .done) (by decide +kernel) ?_
  have w1 := hd.1 17 (by decide)
  apply need_intro
  · exact ⟨w1.1, hk.1⟩
  refine getL_at (codeL_at w1.1 hk.1) ?_
  repeat refine ndD ?_
  have w2 := hd.1 19 (by decide)
  apply need_intro
  · exact ⟨w2.1, hk.2⟩
  refine getL_at (codeL_at w2.1 hk.2) ?_
  refine draw_tree (picks [0, 1, 2, 3, 4, 5, 6, 7, 8, 9, 10, 11] .done) (by decide +kernel) ?_
  repeat refine stb ?_
  have hl : lowN d 2 = 32 * cN (d 17) + cN (d 19) := rfl
  show Eqv (.tuple [.int .u16 _, _]) _
  refine eqv_of_eq (congrArg (fun x => AVal.tuple [.int .u16 x, .int .i64 0]) ?_)
  have hs : bitN d 2 = 0 := rfl
  refine (row_val (n := 3) (a := cN (d 17)) (b := cN (d 19)) (by decide) (by decide) (cN_b _) (cN_b _)).trans ?_
  show _ = ((2048 * 3 + bitN d 2 + lowN d 2 : Nat) : Int)
  rw [hs, hl]
theorem row4_c {d : Nat → Int} (hd : WD d) (hm : mayB d = true) : callP Try.prog 24 [dispA d, .int .i64 4] (· = .tuple [.int .u16 (rowW d 4), .int .i64 0]) := by
  have c := may_c hd
  rw [hm] at c
  have hk := (may_parts hm).1 3 (by decide)
  unfold okB at hk
  simp only [Bool.and_eq_true, decide_eq_true_eq] at hk
  refine callE_def env (fn := Try.f24) rfl (by decide) rfl ?_
  refine callT_E c rfl ?_
  repeat refine stb ?_
  repeat refine ndD ?_
  repeat (first | refine branch_true ?_ | refine branch_false ?_ | (refine branch_f' ?_ ?_; focus (simp; done)) | (refine branch_t' ?_ ?_; focus (simp; done)))
  refine callT_part [0, 1] rfl (table_c (d := d) (x := 10)) ?_
  rintro v H' ⟨rfl, rfl⟩ x G hx hG
  obtain rfl : x = tabA 0 1 := hx
  obtain rfl : G = [.cells (dcells d), .cells [.int .u8 10], .cells (tabL 0 1)] := hG
  repeat refine ndD ?_
  refine callT_E codes_c rfl ?_
  refine draw_tree (picks [0, 1, 2, 3, 4, 5, 6, 7, 8, 9, 10, 11, 12, 13, 14, 15, 16, 17, 18] .done) (by decide +kernel) ?_
  have w1 := hd.1 15 (by decide)
  apply need_intro
  · exact ⟨w1.1, hk.1.1⟩
  refine getL_at (codeL_at w1.1 hk.1.1) ?_
  repeat refine ndD ?_
  have w2 := hd.1 16 (by decide)
  apply need_intro
  · exact ⟨w2.1, hk.1.2⟩
  refine getL_at (codeL_at w2.1 hk.1.2) ?_
  refine draw_tree (picks [0, 1, 2, 3, 4, 5, 6, 7, 8, 9, 10, 11] .done) (by decide +kernel) ?_
  repeat refine stb ?_
  have hl : lowN d 3 = 32 * cN (d 15) + cN (d 16) := rfl
  apply branch_intro <;> intro hb
  · repeat refine stb ?_
    show Eqv (.tuple [.int .u16 _, _]) _
    refine eqv_of_eq (congrArg (fun x => AVal.tuple [.int .u16 x, .int .i64 0]) ?_)
    have hs : bitN d 3 = 1024 := if_pos (by simpa using hb)
    refine (row_bit (row_val (n := 4) (a := cN (d 15)) (b := cN (d 16)) (by decide) (by decide) (cN_b _) (cN_b _)) (by have := cN_b (d 15); have := cN_b (d 16); omega) (by decide)).trans ?_
    show _ = ((2048 * 4 + bitN d 3 + lowN d 3 : Nat) : Int)
    rw [hs, hl]
  · repeat refine stb ?_
    show Eqv (.tuple [.int .u16 _, _]) _
    refine eqv_of_eq (congrArg (fun x => AVal.tuple [.int .u16 x, .int .i64 0]) ?_)
    have hs : bitN d 3 = 0 := if_neg (by simpa using hb)
    refine (row_val (n := 4) (a := cN (d 15)) (b := cN (d 16)) (by decide) (by decide) (cN_b _) (cN_b _)).trans ?_
    show _ = ((2048 * 4 + bitN d 3 + lowN d 3 : Nat) : Int)
    rw [hs, hl]
theorem row5_c {d : Nat → Int} (hd : WD d) (hm : mayB d = true) : callP Try.prog 24 [dispA d, .int .i64 5] (· = .tuple [.int .u16 (rowW d 5), .int .i64 0]) := by
  have c := may_c hd
  rw [hm] at c
  have hk := (may_parts hm).1 4 (by decide)
  unfold okB at hk
  simp only [Bool.and_eq_true, decide_eq_true_eq] at hk
  refine callE_def env (fn := Try.f24) rfl (by decide) rfl ?_
  refine callT_E c rfl ?_
  repeat refine stb ?_
  repeat refine ndD ?_
  repeat (first | refine branch_true ?_ | refine branch_false ?_ | (refine branch_f' ?_ ?_; focus (simp; done)) | (refine branch_t' ?_ ?_; focus (simp; done)))
  refine callT_part [0, 1] rfl (table_c (d := d) (x := 10)) ?_
  rintro v H' ⟨rfl, rfl⟩ x G hx hG
  obtain rfl : x = tabA 0 1 := hx
  obtain rfl : G = [.cells (dcells d), .cells [.int .u8 10], .cells (tabL 0 1)] := hG
  repeat refine ndD ?_
  refine callT_E codes_c rfl ?_
  refine draw_tree (picks [0, 1, 2, 3, 4, 5, 6, 7, 8, 9, 10, 11, 12, 13, 14, 15, 16, 17, 18] .done) (by decide +kernel) ?_
  have w1 := hd.1 13 (by decide)
  apply need_intro
  · exact ⟨w1.1, hk.1.1⟩
  refine getL_at (codeL_at w1.1 hk.1.1) ?_
  repeat refine ndD ?_
  have w2 := hd.1 14 (by decide)
  apply need_intro
  · exact ⟨w2.1, hk.1.2⟩
  refine getL_at (codeL_at w2.1 hk.1.2) ?_
  refine draw_tree (picks [0, 1, 2, 3, 4, 5, 6, 7, 8, 9, 10, 11] .done) (by decide +kernel) ?_
  repeat refine stb ?_
  have hl : lowN d 4 = 32 * cN (d 13) + cN (d 14) := rfl
  apply branch_intro <;> intro hb
  · repeat refine stb ?_
    show Eqv (.tuple [.int .u16 _, _]) _
    refine eqv_of_eq (congrArg (fun x => AVal.tuple [.int .u16 x, .int .i64 0]) ?_)
    have hs : bitN d 4 = 1024 := if_pos (by simpa using hb)
    refine (row_bit (row_val (n := 5) (a := cN (d 13)) (b := cN (d 14)) (by decide) (by decide) (cN_b _) (cN_b _)) (by have := cN_b (d 13); have := cN_b (d 14); omega) (by decide)).trans ?_
    show _ = ((2048 * 5 + bitN d 4 + lowN d 4 : Nat) : Int)
    rw [hs, hl]
  · repeat refine stb ?_
    show Eqv (.tuple [.int .u16 _, _]) _
    refine eqv_of_eq (congrArg (fun x => AVal.tuple [.int .u16 x, .int .i64 0]) ?_)
    have hs : bitN d 4 = 0 := if_neg (by simpa using hb)
    refine (row_val (n := 5) (a := cN (d 13)) (b := cN (d 14)) (by decide) (by decide) (cN_b _) (cN_b _)).trans ?_
    show _ = ((2048 * 5 + bitN d 4 + lowN d 4 : Nat) : Int)
    rw [hs, hl]
theorem row6_c {d : Nat → Int} (hd : WD d) (hm : mayB d = true) : callP Try.prog 24 [dispA d, .int .i64 6] (· = .tuple [.int .u16 (rowW d 6), .int .i64 0]) := by
  have c := may_c hd
  rw [hm] at c
  have hk := (may_parts hm).1 5 (by decide)
  unfold okB at hk
  simp only [Bool.and_eq_true, decide_eq_true_eq] at hk
  refine callE_def env (fn := Try.f24) rfl (by decide) rfl ?_
  refine callT_E c rfl ?_
  repeat refine stb ?_
  repeat refine ndD ?_
  repeat (first | refine branch_true ?_ | refine branch_false ?_ | (refine branch_f' ?_ ?_; focus (simp; done)) | (refine branch_t' ?_ ?_; focus (simp; done)))
  refine callT_part [0, 1] rfl (table_c (d := d) (x := 10)) ?_
  rintro v H' ⟨rfl, rfl⟩ x G hx hG
  obtain rfl : x = tabA 0 1 := hx
  obtain rfl : G = [.cells (dcells d), .cells [.int .u8 10], .cells (tabL 0 1)] := hG
  repeat refine ndD ?_
  refine callT_E codes_c rfl ?_
  refine draw_tree (picks [0, 1, 2, 3, 4, 5, 6, 7, 8, 9, 10, 11, 12, 13, 14, 15, 16, 17, 18] .done) (by decide +kernel) ?_
  have w1 := hd.1 10 (by decide)
  apply need_intro
  · exact ⟨w1.1, hk.1.1⟩
  refine getL_at (codeL_at w1.1 hk.1.1) ?_
  repeat refine ndD ?_
  have w2 := hd.1 11 (by decide)
  apply need_intro
  · exact ⟨w2.1, hk.1.2⟩
  refine getL_at (codeL_at w2.1 hk.1.2) ?_
  refine draw_tree (picks [0, 1, 2, 3, 4, 5, 6, 7, 8, 9, 10, 11] .done) (by decide +kernel) ?_
  repeat refine stb ?_
  have hl : lowN d 5 = 32 * cN (d 10) + cN (d 11) := rfl
  apply branch_intro <;> intro hb
  · repeat refine stb ?_
    show Eqv (.tuple [.int .u16 _, _]) _
    refine eqv_of_eq (congrArg (fun x => AVal.tuple [.int .u16 x, .int .i64 0]) ?_)
    have hs : bitN d 5 = 1024 := if_pos (by simpa using hb)
    refine (row_bit (row_val (n := 6) (a := cN (d 10)) (b := cN (d 11)) (by decide) (by decide) (cN_b _) (cN_b _)) (by have := cN_b (d 10); have := cN_b (d 11); omega) (by decide)).trans ?_
    show _ = ((2048 * 6 + bitN d 5 + lowN d 5 : Nat) : Int)
    rw [hs, hl]
  · repeat refine stb ?_
    show Eqv (.tuple [.int .u16 _, _]) _
    refine eqv_of_eq (congrArg (fun x => AVal.tuple [.int .u16 x, .int .i64 0]) ?_)
    have hs : bitN d 5 = 0 := if_neg (by simpa using hb)
    refine (row_val (n := 6) (a := cN (d 10)) (b := cN (d 11)) (by decide) (by decide) (cN_b _) (cN_b _)).trans ?_
    show _ = ((2048 * 6 + bitN d 5 + lowN d 5 : Nat) : Int)
    rw [hs, hl]
theorem row7_c {d : Nat → Int} (hd : WD d) (hm : mayB d = true) : callP Try.prog 24 [dispA d, .int .i64 7] (· = .tuple [.int .u16 (rowW d 7), .int .i64 0]) := by
  have c := may_c hd
  rw [hm] at c
  have hk := (may_parts hm).1 6 (by decide)
  unfold okB at hk
  simp only [Bool.and_eq_true, decide_eq_true_eq] at hk
  refine callE_def env (fn := Try.f24) rfl (by decide) rfl ?_
  refine callT_E c rfl ?_
  repeat refine stb ?_
  repeat refine ndD ?_
  repeat (first | refine branch_true ?_ | refine branch_false ?_ | (refine branch_f' ?_ ?_; focus (simp; done)) | (refine branch_t' ?_ ?_; focus (simp; done)))
  refine callT_part [0, 1] rfl (table_c (d := d) (x := 10)) ?_
  rintro v H' ⟨rfl, rfl⟩ x G hx hG
  obtain rfl : x = tabA 0 1 := hx
  obtain rfl : G = [.cells (dcells d), .cells [.int .u8 10], .cells (tabL 0 1)] := hG
  repeat refine ndD ?_
  refine callT_E codes_c rfl ?_
  refine draw_tree (picks [0, 1, 2, 3, 4, 5, 6, 7, 8, 9, 10, 11, 12, 13, 14, 15, 16, 17, 18] .done) (by decide +kernel) ?_
  have w1 := hd.1 8 (by decide)
  apply need_intro
  · exact ⟨w1.1, hk.1.1⟩
  refine getL_at (codeL_at w1.1 hk.1.1) ?_
  repeat refine ndD ?_
  have w2 := hd.1 9 (by decide)
  apply need_intro
  · exact ⟨w2.1, hk.1.2⟩
  refine getL_at (codeL_at w2.1 hk.1.2) ?_
  refine draw_tree (picks [0, 1, 2, 3, 4, 5, 6, 7, 8, 9, 10, 11] .done) (by decide +kernel) ?_
  repeat refine stb ?_
  have hl : lowN d 6 = 32 * cN (d 8) + cN (d 9) := rfl
  apply branch_intro <;> intro hb
  · repeat refine stb ?_
    show Eqv (.tuple [.int .u16 _, _]) _
    refine eqv_of_eq (congrArg (fun x => AVal.tuple [.int .u16 x, .int .i64 0]) ?_)
    have hs : bitN d 6 = 1024 := if_pos (by simpa using hb)
    refine (row_bit (row_val (n := 7) (a := cN (d 8)) (b := cN (d 9)) (by decide) (by decide) (cN_b _) (cN_b _)) (by have := cN_b (d 8); have := cN_b (d 9); omega) (by decide)).trans ?_
    show _ = ((2048 * 7 + bitN d 6 + lowN d 6 : Nat) : Int)
    rw [hs, hl]
  · repeat refine stb ?_
    show Eqv (.tuple [.int .u16 _, _]) _
    refine eqv_of_eq (congrArg (fun x => AVal.tuple [.int .u16 x, .int .i64 0]) ?_)
    have hs : bitN d 6 = 0 := if_neg (by simpa using hb)
    refine (row_val (n := 7) (a := cN (d 8)) (b := cN (d 9)) (by decide) (by decide) (cN_b _) (cN_b _)).trans ?_
    show _ = ((2048 * 7 + bitN d 6 + lowN d 6 : Nat) : Int)
    rw [hs, hl]
theorem row8_c {d : Nat → Int} (hd : WD d) (hm : mayB d = true) : callP Try.prog 24 [dispA d, .int .i64 8] (· = .tuple [.int .u16 (rowW d 8), .int .i64 0]) := by
  have c := may_c hd
  rw [hm] at c
  have hk := (may_parts hm).1 7 (by decide)
  unfold okB at hk
  simp only [Bool.and_eq_true, decide_eq_true_eq] at hk
  refine callE_def env (fn := Try.f24) rfl (by decide) rfl ?_
  refine callT_E c rfl ?_
  repeat refine stb ?_
  repeat refine ndD ?_
  repeat (first | refine branch_true ?_ | refine branch_false ?_ | (refine branch_f' ?_ ?_; focus (simp; done)) | (refine branch_t' ?_ ?_; focus (simp; done)))
  refine callT_part [0, 1] rfl (table_c (d := d) (x := 10)) ?_
  rintro v H' ⟨rfl, rfl⟩ x G hx hG
  obtain rfl : x = tabA 0 1 := hx
  obtain rfl : G = [.cells (dcells d), .cells [.int .u8 10], .cells (tabL 0 1)] := hG
  repeat refine ndD ?_
  refine callT_E codes_c rfl ?_
  refine draw_tree (picks [0, 1, 2, 3, 4, 5, 6, 7, 8, 9, 10, 11, 12, 13, 14, 15, 16, 17, 18] .done) (by decide +kernel) ?_
  repeat refine ndD ?_
  repeat refine ndD ?_
  have w2 := hd.1 7 (by decide)
  apply need_intro
  · exact ⟨w2.1, hk⟩
  refine getL_at (codeL_at w2.1 hk) ?_
  refine draw_tree (picks [0, 1, 2, 3, 4, 5, 6, 7, 8, 9, 10, 11] .done) (by decide +kernel) ?_
  repeat refine stb ?_
  have hl : lowN d 7 = 32 * 0 + cN (d 7) := by show 32 * cN 10 + _ = _; rw [show cN 10 = 0 from by decide]
  show Eqv (.tuple [.int .u16 _, _]) _
  refine eqv_of_eq (congrArg (fun x => AVal.tuple [.int .u16 x, .int .i64 0]) ?_)
  have hs : bitN d 7 = 0 := rfl
  refine (row_val (n := 8) (a := 0) (b := cN (d 7)) (by decide) (by decide) (by decide) (cN_b _)).trans ?_
  show _ = ((2048 * 8 + bitN d 7 + lowN d 7 : Nat) : Int)
  rw [hs, hl]
theorem row9_c {d : Nat → Int} (hd : WD d) (hm : mayB d = true) : callP Try.prog 24 [dispA d, .int .i64 9] (· = .tuple [.int .u16 (rowW d 9), .int .i64 0]) := by
  have c := may_c hd
  rw [hm] at c
  have hk := (may_parts hm).1 8 (by decide)
  unfold okB at hk
  simp only [Bool.and_eq_true, decide_eq_true_eq] at hk
  refine callE_def env (fn := Try.f24) rfl (by decide) rfl ?_
  refine callT_E c rfl ?_
  repeat refine stb ?_
  repeat refine ndD ?_
  repeat (first | refine branch_true ?_ | refine branch_false ?_ | (refine branch_f' ?_ ?_; focus (simp; done)) | (refine branch_t' ?_ ?_; focus (simp; done)))
  refine callT_part [0, 1] rfl (table_c (d := d) (x := 10)) ?_
  rintro v H' ⟨rfl, rfl⟩ x G hx hG
  obtain rfl : x = tabA 0 1 := hx
  obtain rfl : G = [.cells (dcells d), .cells [.int .u8 10], .cells (tabL 0 1)] := hG
  repeat refine ndD ?_
  refine callT_E codes_c rfl ?_
  refine draw_tree (picks [0, 1, 2, 3, 4, 5, 6, 7, 8, 9, 10, 11, 12, 13, 14, 15, 16, 17, 18] .done) (by decide +kernel) ?_
  have w1 := hd.1 4 (by decide)
  apply need_intro
  · exact ⟨w1.1, hk.1⟩
  refine getL_at (codeL_at w1.1 hk.1) ?_
  repeat refine ndD ?_
  have w2 := hd.1 5 (by decide)
  apply need_intro
  · exact ⟨w2.1, hk.2⟩
  refine getL_at (codeL_at w2.1 hk.2) ?_
  refine draw_tree (picks [0, 1, 2, 3, 4, 5, 6, 7, 8, 9, 10, 11] .done) (by decide +kernel) ?_
  repeat refine stb ?_
  have hl : lowN d 8 = 32 * cN (d 4) + cN (d 5) := rfl
  show Eqv (.tuple [.int .u16 _, _]) _
  refine eqv_of_eq (congrArg (fun x => AVal.tuple [.int .u16 x, .int .i64 0]) ?_)
  have hs : bitN d 8 = 0 := rfl
  refine (row_val (n := 9) (a := cN (d 4)) (b := cN (d 5)) (by decide) (by decide) (cN_b _) (cN_b _)).trans ?_
  show _ = ((2048 * 9 + bitN d 8 + lowN d 8 : Nat) : Int)
  rw [hs, hl]
theorem row10_c {d : Nat → Int} (hd : WD d) (hm : mayB d = true) : callP Try.prog 24 [dispA d, .int .i64 10] (· = .tuple [.int .u16 (rowW d 10), .int .i64 0]) := by
  have c := may_c hd
  rw [hm] at c
  have hk := (may_parts hm).1 9 (by decide)
  unfold okB at hk
  simp only [Bool.and_eq_true, decide_eq_true_eq] at hk
  refine callE_def env (fn := Try.f24) rfl (by decide) rfl ?_
  refine callT_E c rfl ?_
  repeat refine stb ?_
  repeat refine ndD ?_
  repeat (first | refine branch_true ?_ | refine branch_false ?_ | (refine branch_f' ?_ ?_; focus (simp; done)) | (refine branch_t' ?_ ?_; focus (simp; done)))
  refine callT_part [0, 1] rfl (table_c (d := d) (x := 10)) ?_
  rintro v H' ⟨rfl, rfl⟩ x G hx hG
  obtain rfl : x = tabA 0 1 := hx
  obtain rfl : G = [.cells (dcells d), .cells [.int .u8 10], .cells (tabL 0 1)] := hG
  repeat refine ndD ?_
  refine callT_E codes_c rfl ?_
  refine draw_tree (picks [0, 1, 2, 3, 4, 5, 6, 7, 8, 9, 10, 11, 12, 13, 14, 15, 16, 17, 18] .done) (by decide +kernel) ?_
  have w1 := hd.1 2 (by decide)
  apply need_intro
  · exact ⟨w1.1, hk.1⟩
  refine getL_at (codeL_at w1.1 hk.1) ?_
  repeat refine ndD ?_
  have w2 := hd.1 3 (by decide)
  apply need_intro
  · exact ⟨w2.1, hk.2⟩
  refine getL_at (codeL_at w2.1 hk.2) ?_
  refine draw_tree (picks [0, 1, 2, 3, 4, 5, 6, 7, 8, 9, 10, 11] .done) (by decide +kernel) ?_
  repeat refine stb ?_
  have hl : lowN d 9 = 32 * cN (d 2) + cN (d 3) := rfl
  show Eqv (.tuple [.int .u16 _, _]) _
  refine eqv_of_eq (congrArg (fun x => AVal.tuple [.int .u16 x, .int .i64 0]) ?_)
  have hs : bitN d 9 = 0 := rfl
  refine (row_val (n := 10) (a := cN (d 2)) (b := cN (d 3)) (by decide) (by decide) (cN_b _) (cN_b _)).trans ?_
  show _ = ((2048 * 10 + bitN d 9 + lowN d 9 : Nat) : Int)
  rw [hs, hl]
theorem row11_c {d : Nat → Int} (hd : WD d) (hm : mayB d = true) : callP Try.prog 24 [dispA d, .int .i64 11] (· = .tuple [.int .u16 (rowW d 11), .int .i64 0]) := by
  have c := may_c hd
  rw [hm] at c
  have hk := (may_parts hm).1 10 (by decide)
  unfold okB at hk
  simp only [Bool.and_eq_true, decide_eq_true_eq] at hk
  refine callE_def env (fn := Try.f24) rfl (by decide) rfl ?_
  refine callT_E c rfl ?_
  repeat refine stb ?_
  repeat refine ndD ?_
  repeat (first | refine branch_true ?_ | refine branch_false ?_ | (refine branch_f' ?_ ?_; focus (simp; done)) | (refine branch_t' ?_ ?_; focus (simp; done)))
  refine callT_part [0, 1] rfl (table_c (d := d) (x := 10)) ?_
  rintro v H' ⟨rfl, rfl⟩ x G hx hG
  obtain rfl : x = tabA 0 1 := hx
  obtain rfl : G = [.cells (dcells d), .cells [.int .u8 10], .cells (tabL 0 1)] := hG
  repeat refine ndD ?_
  refine callT_E codes_c rfl ?_
  refine draw_tree (picks [0, 1, 2, 3, 4, 5, 6, 7, 8, 9, 10, 11, 12, 13, 14, 15, 16, 17, 18] .done) (by decide +kernel) ?_
  have w1 := hd.1 0 (by decide)
  apply need_intro
  · exact ⟨w1.1, hk.1⟩
  refine getL_at (codeL_at w1.1 hk.1) ?_
  repeat refine ndD ?_
  have w2 := hd.1 1 (by decide)
  apply need_intro
  · exact ⟨w2.1, hk.2⟩
  refine getL_at (codeL_at w2.1 hk.2) ?_
  refine draw_tree (picks [0, 1, 2, 3, 4, 5, 6, 7, 8, 9, 10, 11] .done) (by decide +kernel) ?_
  repeat refine stb ?_
  have hl : lowN d 10 = 32 * cN (d 0) + cN (d 1) := rfl
  show Eqv (.tuple [.int .u16 _, _]) _
  refine eqv_of_eq (congrArg (fun x => AVal.tuple [.int .u16 x, .int .i64 0]) ?_)
  have hs : bitN d 10 = 0 := rfl
  refine (row_val (n := 11) (a := cN (d 0)) (b := cN (d 1)) (by decide) (by decide) (cN_b _) (cN_b _)).trans ?_
  show _ = ((2048 * 11 + bitN d 10 + lowN d 10 : Nat) : Int)
  rw [hs, hl]
theorem row12_c {d : Nat → Int} (hd : WD d) (hm : mayB d = true) : callP Try.prog 24 [dispA d, .int .i64 12] (· = .tuple [.int .u16 (rowW d 12), .int .i64 0]) := by
  have c := may_c hd
  rw [hm] at c
  obtain ⟨_, h24, h25⟩ := may_parts hm
  refine callE_def env (fn := Try.f24) rfl (by decide) rfl ?_
  refine callT_E c rfl ?_
  repeat refine stb ?_
  repeat refine ndD ?_
  repeat (first | refine branch_true ?_ | refine branch_false ?_ | (refine branch_f' ?_ ?_; focus (simp; done)) | (refine branch_t' ?_ ?_; focus (simp; done)))
  show Eqv (.tuple [.int .u16 _, _]) _
  refine eqv_of_eq (congrArg (fun x => AVal.tuple [.int .u16 x, .int .i64 0]) ?_)
  have w := hd.2.1
  obtain ⟨q, hq⟩ : ∃ q : Nat, d 24 = q := ⟨(d 24).toNat, by omega⟩
  show IntKind.u16.wrap ((BitVec.ofInt IntKind.u16.bits _ ||| BitVec.ofInt IntKind.u16.bits (d 24)).toNat : Int) = 24576 + d 24
  rw [hq]
  refine (or16 (s := 11) (x := 24576) 12 (by decide) (by omega) (by omega)).trans ?_
  omega
theorem row13_c {d : Nat → Int} (hd : WD d) (hm : mayB d = true) : callP Try.prog 24 [dispA d, .int .i64 13] (· = .tuple [.int .u16 (rowW d 13), .int .i64 0]) := by
  have c := may_c hd
  rw [hm] at c
  obtain ⟨_, h24, h25⟩ := may_parts hm
  refine callE_def env (fn := Try.f24) rfl (by decide) rfl ?_
  refine callT_E c rfl ?_
  repeat refine stb ?_
  repeat refine ndD ?_
  repeat (first | refine branch_true ?_ | refine branch_false ?_ | (refine branch_f' ?_ ?_; focus (simp; done)) | (refine branch_t' ?_ ?_; focus (simp; done)))
  show Eqv (.tuple [.int .u16 _, _]) _
  refine eqv_of_eq (congrArg (fun x => AVal.tuple [.int .u16 x, .int .i64 0]) ?_)
  have w := hd.2.2
  obtain ⟨q, hq⟩ : ∃ q : Nat, d 25 = q := ⟨(d 25).toNat, by omega⟩
  show IntKind.u16.wrap ((BitVec.ofInt IntKind.u16.bits _ ||| BitVec.ofInt IntKind.u16.bits (d 25)).toNat : Int) = 26624 + d 25
  rw [hq]
  refine (or16 (s := 11) (x := 26624) 13 (by decide) (by omega) (by omega)).trans ?_
  omega
theorem row_c {d : Nat → Int} (hd : WD d) (hm : mayB d = true) {n : Nat} (h1 : 1 ≤ n) (h2 : n ≤ 13) : callP Try.prog 24 [dispA d, .int .i64 n] (· = .tuple [.int .u16 (rowW d n), .int .i64 0]) := by
  match n, h1, h2 with
  | 1, _, _ => exact row1_c hd hm
  | 2, _, _ => exact row2_c hd hm
  | 3, _, _ => exact row3_c hd hm
  | 4, _, _ => exact row4_c hd hm
  | 5, _, _ => exact row5_c hd hm
  | 6, _, _ => exact row6_c hd hm
  | 7, _, _ => exact row7_c hd hm
  | 8, _, _ => exact row8_c hd hm
  | 9, _, _ => exact row9_c hd hm
  | 10, _, _ => exact row10_c hd hm
  | 11, _, _ => exact row11_c hd hm
  | 12, _, _ => exact row12_c hd hm
  | 13, _, _ => exact row13_c hd hm
end Go.Proofs.Rl
