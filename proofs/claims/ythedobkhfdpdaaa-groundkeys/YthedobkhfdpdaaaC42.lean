/- Chapter 27, part d: Apply. -/
import Derived.Test.YthedobkhfdpdaaaC41
set_option linter.unusedVariables false
set_option linter.unusedSimpArgs false
namespace Go.Proofs.Rl
open Go.E
set_option maxRecDepth 8000
theorem c34 {a b : Int} {R : AVal → Prop} (e : a = b) (c : callP Try.prog 34 [.int .u8 b] R) : callP Try.prog 34 [.int .u8 a] R := e ▸ c
theorem and_mask {k : IntKind} {x : Int} {b m : Nat} (hb : k.bits = b) (hw : ∀ y : Int, 0 ≤ y → y < 2 ^ b → k.wrap y = y) (hm : m ≤ b) (h0 : 0 ≤ x) (h1 : x < 2 ^ b) :
    k.wrap ((BitVec.ofInt k.bits x &&& BitVec.ofInt k.bits (2 ^ m - 1)).toNat : Int) = x % 2 ^ m := by
  obtain ⟨n, rfl⟩ := Int.eq_ofNat_of_zero_le h0
  have hlt : n < 2 ^ b := by
    have : ((2 ^ b : Nat) : Int) = 2 ^ b := by simp
    omega
  have hp : 2 ^ m ≤ 2 ^ b := Nat.pow_le_pow_right (by decide) hm
  have h2 : 0 < 2 ^ m := Nat.pow_pos (by decide)
  have e1 : (BitVec.ofInt k.bits (n : Int)).toNat = n := by
    rw [hb, BitVec.toNat_ofInt]
    have : ((n : Int) % ((2 ^ b : Nat) : Int)).toNat = n := by
      rw [Int.emod_eq_of_lt (by omega) (by exact_mod_cast hlt)]; simp
    exact this
  have em : ((2 : Int) ^ m - 1) = ((2 ^ m - 1 : Nat) : Int) := by
    have : ((2 ^ m : Nat) : Int) = 2 ^ m := by simp
    omega
  have e2 : (BitVec.ofInt k.bits (2 ^ m - 1)).toNat = 2 ^ m - 1 := by
    rw [hb, em, BitVec.toNat_ofInt]
    have : (((2 ^ m - 1 : Nat) : Int) % ((2 ^ b : Nat) : Int)).toNat = 2 ^ m - 1 := by
      rw [Int.emod_eq_of_lt (by omega) (by omega)]; simp
    exact this
  rw [BitVec.toNat_and, e1, e2, Nat.and_two_pow_sub_one_eq_mod]
  have hlt2 : n % 2 ^ m < 2 ^ b := Nat.lt_of_lt_of_le (Nat.mod_lt _ h2) hp
  rw [hw _ (by omega) (by exact_mod_cast hlt2)]
  simp
theorem sh16 {x : Int} (n : Nat) (hn : n ≤ 16) (h : 0 ≤ x) : x.fdiv (2 ^ (min (Int.toNat (n : Int)) IntKind.u16.bits)) = x / 2 ^ n := by
  rw [Int.toNat_natCast, Nat.min_eq_left (show n ≤ IntKind.u16.bits from hn), Int.fdiv_eq_ediv_of_nonneg _ (Int.le_of_lt (Int.pow_pos (by decide)))]
theorem er_of {w : Int} (h0 : 0 ≤ w) (h1 : w < 65536) : IntKind.i64.wrap (IntKind.u16.wrap ((BitVec.ofInt IntKind.u16.bits (w.fdiv (2 ^ (min (Int.toNat 11) IntKind.u16.bits))) &&& BitVec.ofInt IntKind.u16.bits 15).toNat : Int)) = w / 2048 % 16 := by
  have e := sh16 11 (by decide) h0
  rw [show w.fdiv (2 ^ (min (Int.toNat 11) IntKind.u16.bits)) = w / 2048 from e]
  have := and_mask (k := .u16) (x := w / 2048) (b := 16) (m := 4) rfl (fun y a b => wu16 a b) (by decide) (by omega) (by omega)
  rw [show IntKind.u16.wrap ((BitVec.ofInt IntKind.u16.bits (w / 2048) &&& BitVec.ofInt IntKind.u16.bits 15).toNat : Int) = w / 2048 % 16 from this]
  exact wi (by omega) (by omega)
theorem el_of {w : Int} (h0 : 0 ≤ w) (h1 : w < 65536) : IntKind.u16.wrap ((BitVec.ofInt IntKind.u16.bits w &&& BitVec.ofInt IntKind.u16.bits 2047).toNat : Int) = w % 2048 :=
  and_mask (k := .u16) (x := w) (b := 16) (m := 11) rfl (fun y a b => wu16 a b) (by decide) h0 h1
theorem lc_of {w : Int} (h0 : 0 ≤ w) : IntKind.u8.wrap (IntKind.u16.wrap ((BitVec.ofInt IntKind.u16.bits ((w % 2048).fdiv (2 ^ (min (Int.toNat 5) IntKind.u16.bits))) &&& BitVec.ofInt IntKind.u16.bits 31).toNat : Int)) = w / 32 % 32 := by
  rw [show (w % 2048).fdiv (2 ^ (min (Int.toNat 5) IntKind.u16.bits)) = w % 2048 / 32 from sh16 5 (by decide) (by omega)]
  have := and_mask (k := .u16) (x := w % 2048 / 32) (b := 16) (m := 5) rfl (fun y a b => wu16 a b) (by decide) (by omega) (by omega)
  rw [show IntKind.u16.wrap ((BitVec.ofInt IntKind.u16.bits (w % 2048 / 32) &&& BitVec.ofInt IntKind.u16.bits 31).toNat : Int) = w % 2048 / 32 % 32 from this, wu8 (by omega) (by omega)]
  omega
theorem rc_of {w : Int} (h0 : 0 ≤ w) : IntKind.u8.wrap (IntKind.u16.wrap ((BitVec.ofInt IntKind.u16.bits (w % 2048) &&& BitVec.ofInt IntKind.u16.bits 31).toNat : Int)) = w % 32 := by
  have := and_mask (k := .u16) (x := w % 2048) (b := 16) (m := 5) rfl (fun y a b => wu16 a b) (by decide) (by omega) (by omega)
  rw [show IntKind.u16.wrap ((BitVec.ofInt IntKind.u16.bits (w % 2048) &&& BitVec.ofInt IntKind.u16.bits 31).toNat : Int) = w % 2048 % 32 from this, wu8 (by omega) (by omega)]
  omega
def onB (w : Int) : Bool := decide (w / 1024 % 2 = 1)
theorem on_of {w : Int} (h0 : 0 ≤ w) : ((w % 2048).fdiv (2 ^ (min (Int.toNat 10) IntKind.u16.bits)) == 1) = onB w := by
  rw [show (w % 2048).fdiv (2 ^ (min (Int.toNat 10) IntKind.u16.bits)) = w % 2048 / 1024 from sh16 10 (by decide) (by omega)]
  unfold onB
  by_cases h : w / 1024 % 2 = 1
  · rw [decide_eq_true h, beq_iff_eq]; omega
  · rw [decide_eq_false h, beq_eq_false_iff_ne]; omega
def upd (d : Nat → Int) (i : Nat) (v : Int) (j : Nat) : Int := match Nat.beq j i with | true => v | false => d j
def newD (d : Nat → Int) (k : Nat) (l r s : Int) : Nat → Int := match k with
  | 0 => upd (upd (upd d 22 l) 23 r) 18 s
  | 1 => upd (upd (upd d 20 l) 21 r) 18 s
  | 2 => upd (upd d 17 l) 19 r
  | 3 => upd (upd (upd d 15 l) 16 r) 12 s
  | 4 => upd (upd (upd d 13 l) 14 r) 12 s
  | 5 => upd (upd (upd d 10 l) 11 r) 6 s
  | 6 => upd (upd (upd d 8 l) 9 r) 6 s
  | 7 => upd (d) 7 r
  | 8 => upd (upd d 4 l) 5 r
  | 9 => upd (upd d 2 l) 3 r
  | 10 => upd (upd d 0 l) 1 r
  | _ => d
def sgV (d : Nat → Int) (b : Bool) (k : Nat) : Int := match k with
  | 0 => if b = true then 2 else if d 18 = 2 then 0 else d 18
  | 1 => if b = true then 1 else if d 18 = 1 then 0 else d 18
  | 3 => if b = true then 2 else if d 12 = 2 then 0 else d 12
  | 4 => if b = true then 1 else if d 12 = 1 then 0 else d 12
  | 5 => if b = true then 2 else if d 6 = 2 then 0 else d 6
  | 6 => if b = true then 1 else if d 6 = 1 then 0 else d 6
  | _ => 0
def hasS (k : Nat) : Bool := match k with
  | 0 => true
  | 1 => true
  | 2 => false
  | 3 => true
  | 4 => true
  | 5 => true
  | 6 => true
  | 7 => false
  | 8 => false
  | 9 => false
  | 10 => false
  | _ => false
def fitW (k : Nat) (w : Int) : Bool := decide (digN (w / 32 % 32) < 11) && decide (digN (w % 32) < 11) && (!onB w || hasS k) && (decide (k ≠ 7) || decide (digN (w / 32 % 32) = 10))
theorem digN_le (c : Int) : digN c ≤ 11 := by unfold digN; repeat (first | (split; decide) | decide | split)
theorem digE_of {c : Int} : digE c = if digN c < 11 then 0 else 2 := by
  have := digN_le c
  unfold digE
  by_cases h : digN c = 11
  · rw [if_pos h, if_neg (by omega)]
  · rw [if_neg h, if_pos (by omega)]
theorem digV_of {c : Int} (h : digN c < 11) : digV c = digN c := by unfold digV; rw [if_neg (by omega)]
theorem apply_r0 {d : Nat → Int} (hd : WD d) (hm : mayB d = true) {w : Int} (h0 : 0 ≤ w) (h1 : w < 65536) (hr : w / 2048 % 16 = 0) : callP Try.prog 23 [dispA d, .int .u16 w] (· = .tuple [dispA (fun _ => 0), .int .i64 3]) := by
  have c := may_c hd
  rw [hm] at c
  have er := er_of h0 h1
  rw [hr] at er
  have el := el_of h0 h1
  have ecl := lc_of (w := w) h0
  have ecr := rc_of (w := w) h0
  have eon := on_of (w := w) h0
  refine callE_def env (fn := Try.f23) rfl (by decide) rfl ?_
  refine callT_E c rfl ?_
  repeat refine stb ?_
  repeat refine ndD ?_
  conv => whnf
  rw [er, el]
  repeat refine stk ?_
  show Eqv _ _
  exact .up (.up (.refl _))
theorem apply_r14 {d : Nat → Int} (hd : WD d) (hm : mayB d = true) {w : Int} (h0 : 0 ≤ w) (h1 : w < 65536) (hr : w / 2048 % 16 = 14) : callP Try.prog 23 [dispA d, .int .u16 w] (· = .tuple [dispA (fun _ => 0), .int .i64 3]) := by
  have c := may_c hd
  rw [hm] at c
  have er := er_of h0 h1
  rw [hr] at er
  have el := el_of h0 h1
  have ecl := lc_of (w := w) h0
  have ecr := rc_of (w := w) h0
  have eon := on_of (w := w) h0
  refine callE_def env (fn := Try.f23) rfl (by decide) rfl ?_
  refine callT_E c rfl ?_
  repeat refine stb ?_
  repeat refine ndD ?_
  conv => whnf
  rw [er, el]
  repeat refine stk ?_
  show Eqv _ _
  exact .up (.up (.refl _))
theorem apply_r15 {d : Nat → Int} (hd : WD d) (hm : mayB d = true) {w : Int} (h0 : 0 ≤ w) (h1 : w < 65536) (hr : w / 2048 % 16 = 15) : callP Try.prog 23 [dispA d, .int .u16 w] (· = .tuple [dispA (fun _ => 0), .int .i64 3]) := by
  have c := may_c hd
  rw [hm] at c
  have er := er_of h0 h1
  rw [hr] at er
  have el := el_of h0 h1
  have ecl := lc_of (w := w) h0
  have ecr := rc_of (w := w) h0
  have eon := on_of (w := w) h0
  refine callE_def env (fn := Try.f23) rfl (by decide) rfl ?_
  refine callT_E c rfl ?_
  repeat refine stb ?_
  repeat refine ndD ?_
  conv => whnf
  rw [er, el]
  repeat refine stk ?_
  show Eqv _ _
  exact .up (.up (.refl _))
theorem apply_r12 {d : Nat → Int} (hd : WD d) (hm : mayB d = true) {w : Int} (h0 : 0 ≤ w) (h1 : w < 65536) (hr : w / 2048 % 16 = 12) : callP Try.prog 23 [dispA d, .int .u16 w] (· = .tuple [dispA (upd d 24 (w % 2048)), .int .i64 0]) := by
  have c := may_c hd
  rw [hm] at c
  have er := er_of h0 h1
  rw [hr] at er
  have el := el_of h0 h1
  have ecl := lc_of (w := w) h0
  have ecr := rc_of (w := w) h0
  have eon := on_of (w := w) h0
  refine callE_def env (fn := Try.f23) rfl (by decide) rfl ?_
  refine callT_E c rfl ?_
  repeat refine stb ?_
  repeat refine ndD ?_
  conv => whnf
  rw [er, el]
  repeat refine stk ?_
  show Eqv _ _
  exact .up (.up (.refl _))
theorem apply_r13 {d : Nat → Int} (hd : WD d) (hm : mayB d = true) {w : Int} (h0 : 0 ≤ w) (h1 : w < 65536) (hr : w / 2048 % 16 = 13) : callP Try.prog 23 [dispA d, .int .u16 w] (· = .tuple [dispA (upd d 25 (w % 2048)), .int .i64 0]) := by
  have c := may_c hd
  rw [hm] at c
  have er := er_of h0 h1
  rw [hr] at er
  have el := el_of h0 h1
  have ecl := lc_of (w := w) h0
  have ecr := rc_of (w := w) h0
  have eon := on_of (w := w) h0
  refine callE_def env (fn := Try.f23) rfl (by decide) rfl ?_
  refine callT_E c rfl ?_
  repeat refine stb ?_
  repeat refine ndD ?_
  conv => whnf
  rw [er, el]
  repeat refine stk ?_
  show Eqv _ _
  exact .up (.up (.refl _))
end Go.Proofs.Rl
namespace Go.Proofs.Rl
open Go.E
set_option maxRecDepth 8000
set_option maxHeartbeats 1000000 in
theorem apply_no0 {d : Nat → Int} (hd : WD d) (hm : mayB d = true) {w : Int} (h0 : 0 ≤ w) (h1 : w < 65536) (hr : w / 2048 % 16 = 1) (hf : fitW 0 w = false) : callP Try.prog 23 [dispA d, .int .u16 w] (· = .tuple [dispA (fun _ => 0), .int .i64 5]) := by
  by_cases hl : digN (w / 32 % 32) < 11
  · by_cases hq : digN (w % 32) < 11
    · exfalso
      unfold fitW at hf
      rw [decide_eq_true hl, decide_eq_true hq] at hf
      simp [hasS] at hf
    · skip
      have c1 : callP Try.prog 34 [.int .u8 (w / 32 % 32)] (· = .tuple [.int .u8 (digV (w / 32 % 32)), .int .i64 0]) := by
        have c := digit_c (w / 32 % 32)
        rw [digE_of, if_pos hl] at c
        exact c
      have c2 : callP Try.prog 34 [.int .u8 (w % 32)] (· = .tuple [.int .u8 (digV (w % 32)), .int .i64 2]) := by
        have c := digit_c (w % 32)
        rw [digE_of, if_neg hq] at c
        exact c
      have c := may_c hd
      rw [hm] at c
      have er := er_of h0 h1
      rw [hr] at er
      have el := el_of h0 h1
      have ecl := lc_of (w := w) h0
      have ecr := rc_of (w := w) h0
      have eon := on_of (w := w) h0
      refine callE_def env (fn := Try.f23) rfl (by decide) rfl ?_
      refine callT_E c rfl ?_
      repeat refine stb ?_
      repeat refine ndD ?_
      conv => whnf
      rw [er, el]
      repeat refine stk ?_
      refine callT_part [0, 2] rfl (table_c (d := d) (x := 10)) ?_
      rintro v H' ⟨rfl, rfl⟩ x G hx hG
      obtain rfl : x = tabA 0 2 := hx
      obtain rfl : G = [.cells (dcells d), .cells (dcells fun _ => 0), .cells [.int .u8 10], .cells (tabL 0 2)] := hG
      repeat refine ndD ?_
      refine callT_E (c34 ecl c1) rfl ?_
      refine callT_E (c34 ecr c2) rfl ?_
      repeat refine ndD ?_
      repeat refine stk ?_
      show Eqv _ _
      exact .up (.up (.refl _))
  · by_cases hq : digN (w % 32) < 11
    · skip
      have c1 : callP Try.prog 34 [.int .u8 (w / 32 % 32)] (· = .tuple [.int .u8 (digV (w / 32 % 32)), .int .i64 2]) := by
        have c := digit_c (w / 32 % 32)
        rw [digE_of, if_neg hl] at c
        exact c
      have c2 : callP Try.prog 34 [.int .u8 (w % 32)] (· = .tuple [.int .u8 (digV (w % 32)), .int .i64 0]) := by
        have c := digit_c (w % 32)
        rw [digE_of, if_pos hq] at c
        exact c
      have c := may_c hd
      rw [hm] at c
      have er := er_of h0 h1
      rw [hr] at er
      have el := el_of h0 h1
      have ecl := lc_of (w := w) h0
      have ecr := rc_of (w := w) h0
      have eon := on_of (w := w) h0
      refine callE_def env (fn := Try.f23) rfl (by decide) rfl ?_
      refine callT_E c rfl ?_
      repeat refine stb ?_
      repeat refine ndD ?_
      conv => whnf
      rw [er, el]
      repeat refine stk ?_
      refine callT_part [0, 2] rfl (table_c (d := d) (x := 10)) ?_
      rintro v H' ⟨rfl, rfl⟩ x G hx hG
      obtain rfl : x = tabA 0 2 := hx
      obtain rfl : G = [.cells (dcells d), .cells (dcells fun _ => 0), .cells [.int .u8 10], .cells (tabL 0 2)] := hG
      repeat refine ndD ?_
      refine callT_E (c34 ecl c1) rfl ?_
      refine callT_E (c34 ecr c2) rfl ?_
      repeat refine ndD ?_
      repeat refine stk ?_
      show Eqv _ _
      exact .up (.up (.refl _))
    · skip
      have c1 : callP Try.prog 34 [.int .u8 (w / 32 % 32)] (· = .tuple [.int .u8 (digV (w / 32 % 32)), .int .i64 2]) := by
        have c := digit_c (w / 32 % 32)
        rw [digE_of, if_neg hl] at c
        exact c
      have c2 : callP Try.prog 34 [.int .u8 (w % 32)] (· = .tuple [.int .u8 (digV (w % 32)), .int .i64 2]) := by
        have c := digit_c (w % 32)
        rw [digE_of, if_neg hq] at c
        exact c
      have c := may_c hd
      rw [hm] at c
      have er := er_of h0 h1
      rw [hr] at er
      have el := el_of h0 h1
      have ecl := lc_of (w := w) h0
      have ecr := rc_of (w := w) h0
      have eon := on_of (w := w) h0
      refine callE_def env (fn := Try.f23) rfl (by decide) rfl ?_
      refine callT_E c rfl ?_
      repeat refine stb ?_
      repeat refine ndD ?_
      conv => whnf
      rw [er, el]
      repeat refine stk ?_
      refine callT_part [0, 2] rfl (table_c (d := d) (x := 10)) ?_
      rintro v H' ⟨rfl, rfl⟩ x G hx hG
      obtain rfl : x = tabA 0 2 := hx
      obtain rfl : G = [.cells (dcells d), .cells (dcells fun _ => 0), .cells [.int .u8 10], .cells (tabL 0 2)] := hG
      repeat refine ndD ?_
      refine callT_E (c34 ecl c1) rfl ?_
      refine callT_E (c34 ecr c2) rfl ?_
      repeat refine ndD ?_
      repeat refine stk ?_
      show Eqv _ _
      exact .up (.up (.refl _))
set_option maxHeartbeats 2000000 in
theorem apply_ok0 {d : Nat → Int} (hd : WD d) (hm : mayB d = true) {w : Int} (h0 : 0 ≤ w) (h1 : w < 65536) (hr : w / 2048 % 16 = 1) (hf : fitW 0 w = true) : callP Try.prog 23 [dispA d, .int .u16 w] (· = .tuple [dispA (newD d 0 (digV (w / 32 % 32)) (digV (w % 32)) (sgV d (onB w) 0)), .int .i64 0]) := by
  unfold fitW at hf
  simp only [Bool.and_eq_true, decide_eq_true_eq] at hf
  obtain ⟨⟨⟨hl, hq⟩, hns⟩, h7⟩ := hf
  by_cases hon : onB w = true
  · skip
    have c1 : callP Try.prog 34 [.int .u8 (w / 32 % 32)] (· = .tuple [.int .u8 (digV (w / 32 % 32)), .int .i64 0]) := by
      have c := digit_c (w / 32 % 32)
      rw [digE_of, if_pos hl] at c
      exact c
    have c2 : callP Try.prog 34 [.int .u8 (w % 32)] (· = .tuple [.int .u8 (digV (w % 32)), .int .i64 0]) := by
      have c := digit_c (w % 32)
      rw [digE_of, if_pos hq] at c
      exact c
    have c := may_c hd
    rw [hm] at c
    have er := er_of h0 h1
    rw [hr] at er
    have el := el_of h0 h1
    have ecl := lc_of (w := w) h0
    have ecr := rc_of (w := w) h0
    have eon := on_of (w := w) h0
    refine callE_def env (fn := Try.f23) rfl (by decide) rfl ?_
    refine callT_E c rfl ?_
    repeat refine stb ?_
    repeat refine ndD ?_
    conv => whnf
    rw [er, el]
    repeat refine stk ?_
    refine callT_part [0, 2] rfl (table_c (d := d) (x := 10)) ?_
    rintro v H' ⟨rfl, rfl⟩ x G hx hG
    obtain rfl : x = tabA 0 2 := hx
    obtain rfl : G = [.cells (dcells d), .cells (dcells fun _ => 0), .cells [.int .u8 10], .cells (tabL 0 2)] := hG
    repeat refine ndD ?_
    refine callT_E (c34 ecl c1) rfl ?_
    refine callT_E (c34 ecr c2) rfl ?_
    repeat refine ndD ?_
    repeat refine stk ?_
    refine branch_t' (by rw [eon]; exact hon) ?_
    repeat refine stk ?_
    refine draw_tree (picks [0, 1, 2, 4, 5, 6] (.fork 3 7 (picks [7, 8, 9] .done) (picks [3, 8, 9] .done))) (by decide +kernel) ?_
    refine ⟨?_, ?_⟩
    · skip
      repeat refine stk ?_
      refine branch_t' (by rw [eon]; exact hon) ?_
      have hs : sgV d (onB w) 0 = 2 := by unfold sgV; rw [hon]; rfl
      show Eqv (.tuple [_, _]) (.tuple [dispA (newD d 0 (digV (w / 32 % 32)) (digV (w % 32)) (sgV d (onB w) 0)), _])
      rw [hs]
      exact .up (.up (.refl _))
    · skip
      repeat refine stk ?_
      refine branch_t' (by rw [eon]; exact hon) ?_
      have hs : sgV d (onB w) 0 = 2 := by unfold sgV; rw [hon]; rfl
      show Eqv (.tuple [_, _]) (.tuple [dispA (newD d 0 (digV (w / 32 % 32)) (digV (w % 32)) (sgV d (onB w) 0)), _])
      rw [hs]
      exact .up (.up (.refl _))
  · have hon := Bool.eq_false_iff.2 hon
    have c1 : callP Try.prog 34 [.int .u8 (w / 32 % 32)] (· = .tuple [.int .u8 (digV (w / 32 % 32)), .int .i64 0]) := by
      have c := digit_c (w / 32 % 32)
      rw [digE_of, if_pos hl] at c
      exact c
    have c2 : callP Try.prog 34 [.int .u8 (w % 32)] (· = .tuple [.int .u8 (digV (w % 32)), .int .i64 0]) := by
      have c := digit_c (w % 32)
      rw [digE_of, if_pos hq] at c
      exact c
    have c := may_c hd
    rw [hm] at c
    have er := er_of h0 h1
    rw [hr] at er
    have el := el_of h0 h1
    have ecl := lc_of (w := w) h0
    have ecr := rc_of (w := w) h0
    have eon := on_of (w := w) h0
    refine callE_def env (fn := Try.f23) rfl (by decide) rfl ?_
    refine callT_E c rfl ?_
    repeat refine stb ?_
    repeat refine ndD ?_
    conv => whnf
    rw [er, el]
    repeat refine stk ?_
    refine callT_part [0, 2] rfl (table_c (d := d) (x := 10)) ?_
    rintro v H' ⟨rfl, rfl⟩ x G hx hG
    obtain rfl : x = tabA 0 2 := hx
    obtain rfl : G = [.cells (dcells d), .cells (dcells fun _ => 0), .cells [.int .u8 10], .cells (tabL 0 2)] := hG
    repeat refine ndD ?_
    refine callT_E (c34 ecl c1) rfl ?_
    refine callT_E (c34 ecr c2) rfl ?_
    repeat refine ndD ?_
    repeat refine stk ?_
    refine branch_f' (by rw [eon]; exact hon) ?_
    repeat refine stk ?_
    refine draw_tree (picks [0, 1, 2, 4, 5, 6] (.fork 3 7 (picks [7, 8, 9] .done) (picks [3, 8, 9] .done))) (by decide +kernel) ?_
    refine ⟨?_, ?_⟩
    · skip
      repeat refine stk ?_
      refine branch_f' (by rw [eon]; exact hon) ?_
      refine draw_tree (picks [0, 1, 2, 3, 4, 5, 6, 7, 8, 9, 10, 11, 12] .done) (by decide +kernel) ?_
      repeat refine stb ?_
      apply branch_intro <;> intro hb
      · have hb : d 18 = 2 := by simpa using hb
        have hs : sgV d (onB w) 0 = 0 := by unfold sgV; rw [hon]; simp [hb]
        show Eqv (.tuple [_, _]) (.tuple [dispA (newD d 0 (digV (w / 32 % 32)) (digV (w % 32)) (sgV d (onB w) 0)), _])
        rw [hs]
        exact .up (.up (.refl _))
      · have hb : ¬ d 18 = 2 := by simpa using hb
        have hs : sgV d (onB w) 0 = d 18 := by unfold sgV; rw [hon]; simp [hb]
        show Eqv (.tuple [_, _]) (.tuple [dispA (newD d 0 (digV (w / 32 % 32)) (digV (w % 32)) (sgV d (onB w) 0)), _])
        rw [hs]
        exact .up (.up (.refl _))
    · skip
      repeat refine stk ?_
      refine branch_f' (by rw [eon]; exact hon) ?_
      refine draw_tree (picks [0, 1, 2, 3, 4, 5, 6, 7, 8, 9, 10, 11, 12] .done) (by decide +kernel) ?_
      repeat refine stb ?_
      apply branch_intro <;> intro hb
      · have hb : d 18 = 2 := by simpa using hb
        have hs : sgV d (onB w) 0 = 0 := by unfold sgV; rw [hon]; simp [hb]
        show Eqv (.tuple [_, _]) (.tuple [dispA (newD d 0 (digV (w / 32 % 32)) (digV (w % 32)) (sgV d (onB w) 0)), _])
        rw [hs]
        exact .up (.up (.refl _))
      · have hb : ¬ d 18 = 2 := by simpa using hb
        have hs : sgV d (onB w) 0 = d 18 := by unfold sgV; rw [hon]; simp [hb]
        show Eqv (.tuple [_, _]) (.tuple [dispA (newD d 0 (digV (w / 32 % 32)) (digV (w % 32)) (sgV d (onB w) 0)), _])
        rw [hs]
        exact .up (.up (.refl _))
set_option maxHeartbeats 1000000 in
theorem apply_no1 {d : Nat → Int} (hd : WD d) (hm : mayB d = true) {w : Int} (h0 : 0 ≤ w) (h1 : w < 65536) (hr : w / 2048 % 16 = 2) (hf : fitW 1 w = false) : callP Try.prog 23 [dispA d, .int .u16 w] (· = .tuple [dispA (fun _ => 0), .int .i64 5]) := by
  by_cases hl : digN (w / 32 % 32) < 11
  · by_cases hq : digN (w % 32) < 11
    · exfalso
      unfold fitW at hf
      rw [decide_eq_true hl, decide_eq_true hq] at hf
      simp [hasS] at hf
    · skip
      have c1 : callP Try.prog 34 [.int .u8 (w / 32 % 32)] (· = .tuple [.int .u8 (digV (w / 32 % 32)), .int .i64 0]) := by
        have c := digit_c (w / 32 % 32)
        rw [digE_of, if_pos hl] at c
        exact c
      have c2 : callP Try.prog 34 [.int .u8 (w % 32)] (· = .tuple [.int .u8 (digV (w % 32)), .int .i64 2]) := by
        have c := digit_c (w % 32)
        rw [digE_of, if_neg hq] at c
        exact c
      have c := may_c hd
      rw [hm] at c
      have er := er_of h0 h1
      rw [hr] at er
      have el := el_of h0 h1
      have ecl := lc_of (w := w) h0
      have ecr := rc_of (w := w) h0
      have eon := on_of (w := w) h0
      refine callE_def env (fn := Try.f23) rfl (by decide) rfl ?_
      refine callT_E c rfl ?_
      repeat refine stb ?_
      repeat refine ndD ?_
      conv => whnf
      rw [er, el]
      repeat refine stk ?_
      refine callT_part [0, 2] rfl (table_c (d := d) (x := 10)) ?_
      rintro v H' ⟨rfl, rfl⟩ x G hx hG
      obtain rfl : x = tabA 0 2 := hx
      obtain rfl : G = [.cells (dcells d), .cells (dcells fun _ => 0), .cells [.int .u8 10], .cells (tabL 0 2)] := hG
      repeat refine ndD ?_
      refine callT_E (c34 ecl c1) rfl ?_
      refine callT_E (c34 ecr c2) rfl ?_
      repeat refine ndD ?_
      repeat refine stk ?_
      show Eqv _ _
      exact .up (.up (.refl _))
  · by_cases hq : digN (w % 32) < 11
    · skip
      have c1 : callP Try.prog 34 [.int .u8 (w / 32 % 32)] (· = .tuple [.int .u8 (digV (w / 32 % 32)), .int .i64 2]) := by
        have c := digit_c (w / 32 % 32)
        rw [digE_of, if_neg hl] at c
        exact c
      have c2 : callP Try.prog 34 [.int .u8 (w % 32)] (· = .tuple [.int .u8 (digV (w % 32)), .int .i64 0]) := by
        have c := digit_c (w % 32)
        rw [digE_of, if_pos hq] at c
        exact c
      have c := may_c hd
      rw [hm] at c
      have er := er_of h0 h1
      rw [hr] at er
      have el := el_of h0 h1
      have ecl := lc_of (w := w) h0
      have ecr := rc_of (w := w) h0
      have eon := on_of (w := w) h0
      refine callE_def env (fn := Try.f23) rfl (by decide) rfl ?_
      refine callT_E c rfl ?_
      repeat refine stb ?_
      repeat refine ndD ?_
      conv => whnf
      rw [er, el]
      repeat refine stk ?_
      refine callT_part [0, 2] rfl (table_c (d := d) (x := 10)) ?_
      rintro v H' ⟨rfl, rfl⟩ x G hx hG
      obtain rfl : x = tabA 0 2 := hx
      obtain rfl : G = [.cells (dcells d), .cells (dcells fun _ => 0), .cells [.int .u8 10], .cells (tabL 0 2)] := hG
      repeat refine ndD ?_
      refine callT_E (c34 ecl c1) rfl ?_
      refine callT_E (c34 ecr c2) rfl ?_
      repeat refine ndD ?_
      repeat refine stk ?_
      show Eqv _ _
      exact .up (.up (.refl _))
    · skip
      have c1 : callP Try.prog 34 [.int .u8 (w / 32 % 32)] (· = .tuple [.int .u8 (digV (w / 32 % 32)), .int .i64 2]) := by
        have c := digit_c (w / 32 % 32)
        rw [digE_of, if_neg hl] at c
        exact c
      have c2 : callP Try.prog 34 [.int .u8 (w % 32)] (· = .tuple [.int .u8 (digV (w % 32)), .int .i64 2]) := by
        have c := digit_c (w % 32)
        rw [digE_of, if_neg hq] at c
        exact c
      have c := may_c hd
      rw [hm] at c
      have er := er_of h0 h1
      rw [hr] at er
      have el := el_of h0 h1
      have ecl := lc_of (w := w) h0
      have ecr := rc_of (w := w) h0
      have eon := on_of (w := w) h0
      refine callE_def env (fn := Try.f23) rfl (by decide) rfl ?_
      refine callT_E c rfl ?_
      repeat refine stb ?_
      repeat refine ndD ?_
      conv => whnf
      rw [er, el]
      repeat refine stk ?_
      refine callT_part [0, 2] rfl (table_c (d := d) (x := 10)) ?_
      rintro v H' ⟨rfl, rfl⟩ x G hx hG
      obtain rfl : x = tabA 0 2 := hx
      obtain rfl : G = [.cells (dcells d), .cells (dcells fun _ => 0), .cells [.int .u8 10], .cells (tabL 0 2)] := hG
      repeat refine ndD ?_
      refine callT_E (c34 ecl c1) rfl ?_
      refine callT_E (c34 ecr c2) rfl ?_
      repeat refine ndD ?_
      repeat refine stk ?_
      show Eqv _ _
      exact .up (.up (.refl _))
set_option maxHeartbeats 2000000 in
theorem apply_ok1 {d : Nat → Int} (hd : WD d) (hm : mayB d = true) {w : Int} (h0 : 0 ≤ w) (h1 : w < 65536) (hr : w / 2048 % 16 = 2) (hf : fitW 1 w = true) : callP Try.prog 23 [dispA d, .int .u16 w] (· = .tuple [dispA (newD d 1 (digV (w / 32 % 32)) (digV (w % 32)) (sgV d (onB w) 1)), .int .i64 0]) := by
  unfold fitW at hf
  simp only [Bool.and_eq_true, decide_eq_true_eq] at hf
  obtain ⟨⟨⟨hl, hq⟩, hns⟩, h7⟩ := hf
  by_cases hon : onB w = true
  · skip
    have c1 : callP Try.prog 34 [.int .u8 (w / 32 % 32)] (· = .tuple [.int .u8 (digV (w / 32 % 32)), .int .i64 0]) := by
      have c := digit_c (w / 32 % 32)
      rw [digE_of, if_pos hl] at c
      exact c
    have c2 : callP Try.prog 34 [.int .u8 (w % 32)] (· = .tuple [.int .u8 (digV (w % 32)), .int .i64 0]) := by
      have c := digit_c (w % 32)
      rw [digE_of, if_pos hq] at c
      exact c
    have c := may_c hd
    rw [hm] at c
    have er := er_of h0 h1
    rw [hr] at er
    have el := el_of h0 h1
    have ecl := lc_of (w := w) h0
    have ecr := rc_of (w := w) h0
    have eon := on_of (w := w) h0
    refine callE_def env (fn := Try.f23) rfl (by decide) rfl ?_
    refine callT_E c rfl ?_
    repeat refine stb ?_
    repeat refine ndD ?_
    conv => whnf
    rw [er, el]
    repeat refine stk ?_
    refine callT_part [0, 2] rfl (table_c (d := d) (x := 10)) ?_
    rintro v H' ⟨rfl, rfl⟩ x G hx hG
    obtain rfl : x = tabA 0 2 := hx
    obtain rfl : G = [.cells (dcells d), .cells (dcells fun _ => 0), .cells [.int .u8 10], .cells (tabL 0 2)] := hG
    repeat refine ndD ?_
    refine callT_E (c34 ecl c1) rfl ?_
    refine callT_E (c34 ecr c2) rfl ?_
    repeat refine ndD ?_
    repeat refine stk ?_
    refine branch_t' (by rw [eon]; exact hon) ?_
    repeat refine stk ?_
    refine draw_tree (picks [0, 1, 2, 4, 5, 6] (.fork 3 7 (picks [7, 8, 9] .done) (picks [3, 8, 9] .done))) (by decide +kernel) ?_
    refine ⟨?_, ?_⟩
    · skip
      repeat refine stk ?_
      refine branch_t' (by rw [eon]; exact hon) ?_
      have hs : sgV d (onB w) 1 = 1 := by unfold sgV; rw [hon]; rfl
      show Eqv (.tuple [_, _]) (.tuple [dispA (newD d 1 (digV (w / 32 % 32)) (digV (w % 32)) (sgV d (onB w) 1)), _])
      rw [hs]
      exact .up (.up (.refl _))
    · skip
      repeat refine stk ?_
      refine branch_t' (by rw [eon]; exact hon) ?_
      have hs : sgV d (onB w) 1 = 1 := by unfold sgV; rw [hon]; rfl
      show Eqv (.tuple [_, _]) (.tuple [dispA (newD d 1 (digV (w / 32 % 32)) (digV (w % 32)) (sgV d (onB w) 1)), _])
      rw [hs]
      exact .up (.up (.refl _))
  · have hon := Bool.eq_false_iff.2 hon
    have c1 : callP Try.prog 34 [.int .u8 (w / 32 % 32)] (· = .tuple [.int .u8 (digV (w / 32 % 32)), .int .i64 0]) := by
      have c := digit_c (w / 32 % 32)
      rw [digE_of, if_pos hl] at c
      exact c
    have c2 : callP Try.prog 34 [.int .u8 (w % 32)] (· = .tuple [.int .u8 (digV (w % 32)), .int .i64 0]) := by
      have c := digit_c (w % 32)
      rw [digE_of, if_pos hq] at c
      exact c
    have c := may_c hd
    rw [hm] at c
    have er := er_of h0 h1
    rw [hr] at er
    have el := el_of h0 h1
    have ecl := lc_of (w := w) h0
    have ecr := rc_of (w := w) h0
    have eon := on_of (w := w) h0
    refine callE_def env (fn := Try.f23) rfl (by decide) rfl ?_
    refine callT_E c rfl ?_
    repeat refine stb ?_
    repeat refine ndD ?_
    conv => whnf
    rw [er, el]
    repeat refine stk ?_
    refine callT_part [0, 2] rfl (table_c (d := d) (x := 10)) ?_
    rintro v H' ⟨rfl, rfl⟩ x G hx hG
    obtain rfl : x = tabA 0 2 := hx
    obtain rfl : G = [.cells (dcells d), .cells (dcells fun _ => 0), .cells [.int .u8 10], .cells (tabL 0 2)] := hG
    repeat refine ndD ?_
    refine callT_E (c34 ecl c1) rfl ?_
    refine callT_E (c34 ecr c2) rfl ?_
    repeat refine ndD ?_
    repeat refine stk ?_
    refine branch_f' (by rw [eon]; exact hon) ?_
    repeat refine stk ?_
    refine draw_tree (picks [0, 1, 2, 4, 5, 6] (.fork 3 7 (picks [7, 8, 9] .done) (picks [3, 8, 9] .done))) (by decide +kernel) ?_
    refine ⟨?_, ?_⟩
    · skip
      repeat refine stk ?_
      refine branch_f' (by rw [eon]; exact hon) ?_
      refine draw_tree (picks [0, 1, 2, 3, 4, 5, 6, 7, 8, 9, 10, 11, 12] .done) (by decide +kernel) ?_
      repeat refine stb ?_
      apply branch_intro <;> intro hb
      · have hb : d 18 = 1 := by simpa using hb
        have hs : sgV d (onB w) 1 = 0 := by unfold sgV; rw [hon]; simp [hb]
        show Eqv (.tuple [_, _]) (.tuple [dispA (newD d 1 (digV (w / 32 % 32)) (digV (w % 32)) (sgV d (onB w) 1)), _])
        rw [hs]
        exact .up (.up (.refl _))
      · have hb : ¬ d 18 = 1 := by simpa using hb
        have hs : sgV d (onB w) 1 = d 18 := by unfold sgV; rw [hon]; simp [hb]
        show Eqv (.tuple [_, _]) (.tuple [dispA (newD d 1 (digV (w / 32 % 32)) (digV (w % 32)) (sgV d (onB w) 1)), _])
        rw [hs]
        exact .up (.up (.refl _))
    · skip
      repeat refine stk ?_
      refine branch_f' (by rw [eon]; exact hon) ?_
      refine draw_tree (picks [0, 1, 2, 3, 4, 5, 6, 7, 8, 9, 10, 11, 12] .done) (by decide +kernel) ?_
      repeat refine stb ?_
      apply branch_intro <;> intro hb
      · have hb : d 18 = 1 := by simpa using hb
        have hs : sgV d (onB w) 1 = 0 := by unfold sgV; rw [hon]; simp [hb]
        show Eqv (.tuple [_, _]) (.tuple [dispA (newD d 1 (digV (w / 32 % 32)) (digV (w % 32)) (sgV d (onB w) 1)), _])
        rw [hs]
        exact .up (.up (.refl _))
      · have hb : ¬ d 18 = 1 := by simpa using hb
        have hs : sgV d (onB w) 1 = d 18 := by unfold sgV; rw [hon]; simp [hb]
        show Eqv (.tuple [_, _]) (.tuple [dispA (newD d 1 (digV (w / 32 % 32)) (digV (w % 32)) (sgV d (onB w) 1)), _])
        rw [hs]
        exact .up (.up (.refl _))
set_option maxHeartbeats 1000000 in
theorem apply_no2 {d : Nat → Int} (hd : WD d) (hm : mayB d = true) {w : Int} (h0 : 0 ≤ w) (h1 : w < 65536) (hr : w / 2048 % 16 = 3) (hf : fitW 2 w = false) : callP Try.prog 23 [dispA d, .int .u16 w] (· = .tuple [dispA (fun _ => 0), .int .i64 5]) := by
  by_cases hl : digN (w / 32 % 32) < 11
  · by_cases hq : digN (w % 32) < 11
    · have hon : onB w = true := by
        unfold fitW at hf
        rw [decide_eq_true hl, decide_eq_true hq] at hf
        simpa [hasS] using hf
      have c1 : callP Try.prog 34 [.int .u8 (w / 32 % 32)] (· = .tuple [.int .u8 (digV (w / 32 % 32)), .int .i64 0]) := by
        have c := digit_c (w / 32 % 32)
        rw [digE_of, if_pos hl] at c
        exact c
      have c2 : callP Try.prog 34 [.int .u8 (w % 32)] (· = .tuple [.int .u8 (digV (w % 32)), .int .i64 0]) := by
        have c := digit_c (w % 32)
        rw [digE_of, if_pos hq] at c
        exact c
      have c := may_c hd
      rw [hm] at c
      have er := er_of h0 h1
      rw [hr] at er
      have el := el_of h0 h1
      have ecl := lc_of (w := w) h0
      have ecr := rc_of (w := w) h0
      have eon := on_of (w := w) h0
      refine callE_def env (fn := Try.f23) rfl (by decide) rfl ?_
      refine callT_E c rfl ?_
      repeat refine stb ?_
      repeat refine ndD ?_
      conv => whnf
      rw [er, el]
      repeat refine stk ?_
      refine callT_part [0, 2] rfl (table_c (d := d) (x := 10)) ?_
      rintro v H' ⟨rfl, rfl⟩ x G hx hG
      obtain rfl : x = tabA 0 2 := hx
      obtain rfl : G = [.cells (dcells d), .cells (dcells fun _ => 0), .cells [.int .u8 10], .cells (tabL 0 2)] := hG
      repeat refine ndD ?_
      refine callT_E (c34 ecl c1) rfl ?_
      refine callT_E (c34 ecr c2) rfl ?_
      repeat refine ndD ?_
      repeat refine stk ?_
      refine branch_t' (by rw [eon]; exact hon) ?_
      repeat refine stk ?_
      show Eqv _ _
      exact .up (.up (.refl _))
    · skip
      have c1 : callP Try.prog 34 [.int .u8 (w / 32 % 32)] (· = .tuple [.int .u8 (digV (w / 32 % 32)), .int .i64 0]) := by
        have c := digit_c (w / 32 % 32)
        rw [digE_of, if_pos hl] at c
        exact c
      have c2 : callP Try.prog 34 [.int .u8 (w % 32)] (· = .tuple [.int .u8 (digV (w % 32)), .int .i64 2]) := by
        have c := digit_c (w % 32)
        rw [digE_of, if_neg hq] at c
        exact c
      have c := may_c hd
      rw [hm] at c
      have er := er_of h0 h1
      rw [hr] at er
      have el := el_of h0 h1
      have ecl := lc_of (w := w) h0
      have ecr := rc_of (w := w) h0
      have eon := on_of (w := w) h0
      refine callE_def env (fn := Try.f23) rfl (by decide) rfl ?_
      refine callT_E c rfl ?_
      repeat refine stb ?_
      repeat refine ndD ?_
      conv => whnf
      rw [er, el]
      repeat refine stk ?_
      refine callT_part [0, 2] rfl (table_c (d := d) (x := 10)) ?_
      rintro v H' ⟨rfl, rfl⟩ x G hx hG
      obtain rfl : x = tabA 0 2 := hx
      obtain rfl : G = [.cells (dcells d), .cells (dcells fun _ => 0), .cells [.int .u8 10], .cells (tabL 0 2)] := hG
      repeat refine ndD ?_
      refine callT_E (c34 ecl c1) rfl ?_
      refine callT_E (c34 ecr c2) rfl ?_
      repeat refine ndD ?_
      repeat refine stk ?_
      show Eqv _ _
      exact .up (.up (.refl _))
  · by_cases hq : digN (w % 32) < 11
    · skip
      have c1 : callP Try.prog 34 [.int .u8 (w / 32 % 32)] (· = .tuple [.int .u8 (digV (w / 32 % 32)), .int .i64 2]) := by
        have c := digit_c (w / 32 % 32)
        rw [digE_of, if_neg hl] at c
        exact c
      have c2 : callP Try.prog 34 [.int .u8 (w % 32)] (· = .tuple [.int .u8 (digV (w % 32)), .int .i64 0]) := by
        have c := digit_c (w % 32)
        rw [digE_of, if_pos hq] at c
        exact c
      have c := may_c hd
      rw [hm] at c
      have er := er_of h0 h1
      rw [hr] at er
      have el := el_of h0 h1
      have ecl := lc_of (w := w) h0
      have ecr := rc_of (w := w) h0
      have eon := on_of (w := w) h0
      refine callE_def env (fn := Try.f23) rfl (by decide) rfl ?_
      refine callT_E c rfl ?_
      repeat refine stb ?_
      repeat refine ndD ?_
      conv => whnf
      rw [er, el]
      repeat refine stk ?_
      refine callT_part [0, 2] rfl (table_c (d := d) (x := 10)) ?_
      rintro v H' ⟨rfl, rfl⟩ x G hx hG
      obtain rfl : x = tabA 0 2 := hx
      obtain rfl : G = [.cells (dcells d), .cells (dcells fun _ => 0), .cells [.int .u8 10], .cells (tabL 0 2)] := hG
      repeat refine ndD ?_
      refine callT_E (c34 ecl c1) rfl ?_
      refine callT_E (c34 ecr c2) rfl ?_
      repeat refine ndD ?_
      repeat refine stk ?_
      show Eqv _ _
      exact .up (.up (.refl _))
    · skip
      have c1 : callP Try.prog 34 [.int .u8 (w / 32 % 32)] (· = .tuple [.int .u8 (digV (w / 32 % 32)), .int .i64 2]) := by
        have c := digit_c (w / 32 % 32)
        rw [digE_of, if_neg hl] at c
        exact c
      have c2 : callP Try.prog 34 [.int .u8 (w % 32)] (· = .tuple [.int .u8 (digV (w % 32)), .int .i64 2]) := by
        have c := digit_c (w % 32)
        rw [digE_of, if_neg hq] at c
        exact c
      have c := may_c hd
      rw [hm] at c
      have er := er_of h0 h1
      rw [hr] at er
      have el := el_of h0 h1
      have ecl := lc_of (w := w) h0
      have ecr := rc_of (w := w) h0
      have eon := on_of (w := w) h0
      refine callE_def env (fn := Try.f23) rfl (by decide) rfl ?_
      refine callT_E c rfl ?_
      repeat refine stb ?_
      repeat refine ndD ?_
      conv => whnf
      rw [er, el]
      repeat refine stk ?_
      refine callT_part [0, 2] rfl (table_c (d := d) (x := 10)) ?_
      rintro v H' ⟨rfl, rfl⟩ x G hx hG
      obtain rfl : x = tabA 0 2 := hx
      obtain rfl : G = [.cells (dcells d), .cells (dcells fun _ => 0), .cells [.int .u8 10], .cells (tabL 0 2)] := hG
      repeat refine ndD ?_
      refine callT_E (c34 ecl c1) rfl ?_
      refine callT_E (c34 ecr c2) rfl ?_
      repeat refine ndD ?_
      repeat refine stk ?_
      show Eqv _ _
      exact .up (.up (.refl _))
set_option maxHeartbeats 2000000 in
theorem apply_ok2 {d : Nat → Int} (hd : WD d) (hm : mayB d = true) {w : Int} (h0 : 0 ≤ w) (h1 : w < 65536) (hr : w / 2048 % 16 = 3) (hf : fitW 2 w = true) : callP Try.prog 23 [dispA d, .int .u16 w] (· = .tuple [dispA (newD d 2 (digV (w / 32 % 32)) (digV (w % 32)) (sgV d (onB w) 2)), .int .i64 0]) := by
  unfold fitW at hf
  simp only [Bool.and_eq_true, decide_eq_true_eq] at hf
  obtain ⟨⟨⟨hl, hq⟩, hns⟩, h7⟩ := hf
  have hon : onB w = false := by simpa [hasS] using hns
  have c1 : callP Try.prog 34 [.int .u8 (w / 32 % 32)] (· = .tuple [.int .u8 (digV (w / 32 % 32)), .int .i64 0]) := by
    have c := digit_c (w / 32 % 32)
    rw [digE_of, if_pos hl] at c
    exact c
  have c2 : callP Try.prog 34 [.int .u8 (w % 32)] (· = .tuple [.int .u8 (digV (w % 32)), .int .i64 0]) := by
    have c := digit_c (w % 32)
    rw [digE_of, if_pos hq] at c
    exact c
  have c := may_c hd
  rw [hm] at c
  have er := er_of h0 h1
  rw [hr] at er
  have el := el_of h0 h1
  have ecl := lc_of (w := w) h0
  have ecr := rc_of (w := w) h0
  have eon := on_of (w := w) h0
  refine callE_def env (fn := Try.f23) rfl (by decide) rfl ?_
  refine callT_E c rfl ?_
  repeat refine stb ?_
  repeat refine ndD ?_
  conv => whnf
  rw [er, el]
  repeat refine stk ?_
  refine callT_part [0, 2] rfl (table_c (d := d) (x := 10)) ?_
  rintro v H' ⟨rfl, rfl⟩ x G hx hG
  obtain rfl : x = tabA 0 2 := hx
  obtain rfl : G = [.cells (dcells d), .cells (dcells fun _ => 0), .cells [.int .u8 10], .cells (tabL 0 2)] := hG
  repeat refine ndD ?_
  refine callT_E (c34 ecl c1) rfl ?_
  refine callT_E (c34 ecr c2) rfl ?_
  repeat refine ndD ?_
  repeat refine stk ?_
  refine branch_f' (by rw [eon]; exact hon) ?_
  repeat refine stk ?_
  refine draw_tree (picks [0, 1, 2, 4, 5, 6] (.fork 3 7 (picks [7, 8, 9] .done) (picks [3, 8, 9] .done))) (by decide +kernel) ?_
  refine ⟨?_, ?_⟩
  · skip
    repeat refine stk ?_
    refine branch_f' (by rw [eon]; exact hon) ?_
    refine draw_tree (picks [0, 1, 2, 3, 4, 5, 6, 7, 8, 9, 10, 11, 12] .done) (by decide +kernel) ?_
    repeat refine stb ?_
    show Eqv _ _
    exact .up (.up (.refl _))
  · skip
    repeat refine stk ?_
    refine branch_f' (by rw [eon]; exact hon) ?_
    refine draw_tree (picks [0, 1, 2, 3, 4, 5, 6, 7, 8, 9, 10, 11, 12] .done) (by decide +kernel) ?_
    repeat refine stb ?_
    show Eqv _ _
    exact .up (.up (.refl _))
end Go.Proofs.Rl
namespace Go.Proofs.Rl
open Go.E
set_option maxRecDepth 8000
set_option maxHeartbeats 1000000 in
theorem apply_no3 {d : Nat → Int} (hd : WD d) (hm : mayB d = true) {w : Int} (h0 : 0 ≤ w) (h1 : w < 65536) (hr : w / 2048 % 16 = 4) (hf : fitW 3 w = false) : callP Try.prog 23 [dispA d, .int .u16 w] (· = .tuple [dispA (fun _ => 0), .int .i64 5]) := by
  by_cases hl : digN (w / 32 % 32) < 11
  · by_cases hq : digN (w % 32) < 11
    · exfalso
      unfold fitW at hf
      rw [decide_eq_true hl, decide_eq_true hq] at hf
      simp [hasS] at hf
    · skip
      have c1 : callP Try.prog 34 [.int .u8 (w / 32 % 32)] (· = .tuple [.int .u8 (digV (w / 32 % 32)), .int .i64 0]) := by
        have c := digit_c (w / 32 % 32)
        rw [digE_of, if_pos hl] at c
        exact c
      have c2 : callP Try.prog 34 [.int .u8 (w % 32)] (· = .tuple [.int .u8 (digV (w % 32)), .int .i64 2]) := by
        have c := digit_c (w % 32)
        rw [digE_of, if_neg hq] at c
        exact c
      have c := may_c hd
      rw [hm] at c
      have er := er_of h0 h1
      rw [hr] at er
      have el := el_of h0 h1
      have ecl := lc_of (w := w) h0
      have ecr := rc_of (w := w) h0
      have eon := on_of (w := w) h0
      refine callE_def env (fn := Try.f23) rfl (by decide) rfl ?_
      refine callT_E c rfl ?_
      repeat refine stb ?_
      repeat refine ndD ?_
      conv => whnf
      rw [er, el]
      repeat refine stk ?_
      refine callT_part [0, 2] rfl (table_c (d := d) (x := 10)) ?_
      rintro v H' ⟨rfl, rfl⟩ x G hx hG
      obtain rfl : x = tabA 0 2 := hx
      obtain rfl : G = [.cells (dcells d), .cells (dcells fun _ => 0), .cells [.int .u8 10], .cells (tabL 0 2)] := hG
      repeat refine ndD ?_
      refine callT_E (c34 ecl c1) rfl ?_
      refine callT_E (c34 ecr c2) rfl ?_
      repeat refine ndD ?_
      repeat refine stk ?_
      show Eqv _ _
      exact .up (.up (.refl _))
  · by_cases hq : digN (w % 32) < 11
    · skip
      have c1 : callP Try.prog 34 [.int .u8 (w / 32 % 32)] (· = .tuple [.int .u8 (digV (w / 32 % 32)), .int .i64 2]) := by
        have c := digit_c (w / 32 % 32)
        rw [digE_of, if_neg hl] at c
        exact c
      have c2 : callP Try.prog 34 [.int .u8 (w % 32)] (· = .tuple [.int .u8 (digV (w % 32)), .int .i64 0]) := by
        have c := digit_c (w % 32)
        rw [digE_of, if_pos hq] at c
        exact c
      have c := may_c hd
      rw [hm] at c
      have er := er_of h0 h1
      rw [hr] at er
      have el := el_of h0 h1
      have ecl := lc_of (w := w) h0
      have ecr := rc_of (w := w) h0
      have eon := on_of (w := w) h0
      refine callE_def env (fn := Try.f23) rfl (by decide) rfl ?_
      refine callT_E c rfl ?_
      repeat refine stb ?_
      repeat refine ndD ?_
      conv => whnf
      rw [er, el]
      repeat refine stk ?_
      refine callT_part [0, 2] rfl (table_c (d := d) (x := 10)) ?_
      rintro v H' ⟨rfl, rfl⟩ x G hx hG
      obtain rfl : x = tabA 0 2 := hx
      obtain rfl : G = [.cells (dcells d), .cells (dcells fun _ => 0), .cells [.int .u8 10], .cells (tabL 0 2)] := hG
      repeat refine ndD ?_
      refine callT_E (c34 ecl c1) rfl ?_
      refine callT_E (c34 ecr c2) rfl ?_
      repeat refine ndD ?_
      repeat refine stk ?_
      show Eqv _ _
      exact .up (.up (.refl _))
    · skip
      have c1 : callP Try.prog 34 [.int .u8 (w / 32 % 32)] (· = .tuple [.int .u8 (digV (w / 32 % 32)), .int .i64 2]) := by
        have c := digit_c (w / 32 % 32)
        rw [digE_of, if_neg hl] at c
        exact c
      have c2 : callP Try.prog 34 [.int .u8 (w % 32)] (· = .tuple [.int .u8 (digV (w % 32)), .int .i64 2]) := by
        have c := digit_c (w % 32)
        rw [digE_of, if_neg hq] at c
        exact c
      have c := may_c hd
      rw [hm] at c
      have er := er_of h0 h1
      rw [hr] at er
      have el := el_of h0 h1
      have ecl := lc_of (w := w) h0
      have ecr := rc_of (w := w) h0
      have eon := on_of (w := w) h0
      refine callE_def env (fn := Try.f23) rfl (by decide) rfl ?_
      refine callT_E c rfl ?_
      repeat refine stb ?_
      repeat refine ndD ?_
      conv => whnf
      rw [er, el]
      repeat refine stk ?_
      refine callT_part [0, 2] rfl (table_c (d := d) (x := 10)) ?_
      rintro v H' ⟨rfl, rfl⟩ x G hx hG
      obtain rfl : x = tabA 0 2 := hx
      obtain rfl : G = [.cells (dcells d), .cells (dcells fun _ => 0), .cells [.int .u8 10], .cells (tabL 0 2)] := hG
      repeat refine ndD ?_
      refine callT_E (c34 ecl c1) rfl ?_
      refine callT_E (c34 ecr c2) rfl ?_
      repeat refine ndD ?_
      repeat refine stk ?_
      show Eqv _ _
      exact .up (.up (.refl _))
set_option maxHeartbeats 2000000 in
theorem apply_ok3 {d : Nat → Int} (hd : WD d) (hm : mayB d = true) {w : Int} (h0 : 0 ≤ w) (h1 : w < 65536) (hr : w / 2048 % 16 = 4) (hf : fitW 3 w = true) : callP Try.prog 23 [dispA d, .int .u16 w] (· = .tuple [dispA (newD d 3 (digV (w / 32 % 32)) (digV (w % 32)) (sgV d (onB w) 3)), .int .i64 0]) := by
  unfold fitW at hf
  simp only [Bool.and_eq_true, decide_eq_true_eq] at hf
  obtain ⟨⟨⟨hl, hq⟩, hns⟩, h7⟩ := hf
  by_cases hon : onB w = true
  · skip
    have c1 : callP Try.prog 34 [.int .u8 (w / 32 % 32)] (· = .tuple [.int .u8 (digV (w / 32 % 32)), .int .i64 0]) := by
      have c := digit_c (w / 32 % 32)
      rw [digE_of, if_pos hl] at c
      exact c
    have c2 : callP Try.prog 34 [.int .u8 (w % 32)] (· = .tuple [.int .u8 (digV (w % 32)), .int .i64 0]) := by
      have c := digit_c (w % 32)
      rw [digE_of, if_pos hq] at c
      exact c
    have c := may_c hd
    rw [hm] at c
    have er := er_of h0 h1
    rw [hr] at er
    have el := el_of h0 h1
    have ecl := lc_of (w := w) h0
    have ecr := rc_of (w := w) h0
    have eon := on_of (w := w) h0
    refine callE_def env (fn := Try.f23) rfl (by decide) rfl ?_
    refine callT_E c rfl ?_
    repeat refine stb ?_
    repeat refine ndD ?_
    conv => whnf
    rw [er, el]
    repeat refine stk ?_
    refine callT_part [0, 2] rfl (table_c (d := d) (x := 10)) ?_
    rintro v H' ⟨rfl, rfl⟩ x G hx hG
    obtain rfl : x = tabA 0 2 := hx
    obtain rfl : G = [.cells (dcells d), .cells (dcells fun _ => 0), .cells [.int .u8 10], .cells (tabL 0 2)] := hG
    repeat refine ndD ?_
    refine callT_E (c34 ecl c1) rfl ?_
    refine callT_E (c34 ecr c2) rfl ?_
    repeat refine ndD ?_
    repeat refine stk ?_
    refine branch_t' (by rw [eon]; exact hon) ?_
    repeat refine stk ?_
    refine draw_tree (picks [0, 1, 2, 4, 5, 6] (.fork 3 7 (picks [7, 8, 9] .done) (picks [3, 8, 9] .done))) (by decide +kernel) ?_
    refine ⟨?_, ?_⟩
    · skip
      repeat refine stk ?_
      refine branch_t' (by rw [eon]; exact hon) ?_
      have hs : sgV d (onB w) 3 = 2 := by unfold sgV; rw [hon]; rfl
      show Eqv (.tuple [_, _]) (.tuple [dispA (newD d 3 (digV (w / 32 % 32)) (digV (w % 32)) (sgV d (onB w) 3)), _])
      rw [hs]
      exact .up (.up (.refl _))
    · skip
      repeat refine stk ?_
      refine branch_t' (by rw [eon]; exact hon) ?_
      have hs : sgV d (onB w) 3 = 2 := by unfold sgV; rw [hon]; rfl
      show Eqv (.tuple [_, _]) (.tuple [dispA (newD d 3 (digV (w / 32 % 32)) (digV (w % 32)) (sgV d (onB w) 3)), _])
      rw [hs]
      exact .up (.up (.refl _))
  · have hon := Bool.eq_false_iff.2 hon
    have c1 : callP Try.prog 34 [.int .u8 (w / 32 % 32)] (· = .tuple [.int .u8 (digV (w / 32 % 32)), .int .i64 0]) := by
      have c := digit_c (w / 32 % 32)
      rw [digE_of, if_pos hl] at c
      exact c
    have c2 : callP Try.prog 34 [.int .u8 (w % 32)] (· = .tuple [.int .u8 (digV (w % 32)), .int .i64 0]) := by
      have c := digit_c (w % 32)
      rw [digE_of, if_pos hq] at c
      exact c
    have c := may_c hd
    rw [hm] at c
    have er := er_of h0 h1
    rw [hr] at er
    have el := el_of h0 h1
    have ecl := lc_of (w := w) h0
    have ecr := rc_of (w := w) h0
    have eon := on_of (w := w) h0
    refine callE_def env (fn := Try.f23) rfl (by decide) rfl ?_
    refine callT_E c rfl ?_
    repeat refine stb ?_
    repeat refine ndD ?_
    conv => whnf
    rw [er, el]
    repeat refine stk ?_
    refine callT_part [0, 2] rfl (table_c (d := d) (x := 10)) ?_
    rintro v H' ⟨rfl, rfl⟩ x G hx hG
    obtain rfl : x = tabA 0 2 := hx
    obtain rfl : G = [.cells (dcells d), .cells (dcells fun _ => 0), .cells [.int .u8 10], .cells (tabL 0 2)] := hG
    repeat refine ndD ?_
    refine callT_E (c34 ecl c1) rfl ?_
    refine callT_E (c34 ecr c2) rfl ?_
    repeat refine ndD ?_
    repeat refine stk ?_
    refine branch_f' (by rw [eon]; exact hon) ?_
    repeat refine stk ?_
    refine draw_tree (picks [0, 1, 2, 4, 5, 6] (.fork 3 7 (picks [7, 8, 9] .done) (picks [3, 8, 9] .done))) (by decide +kernel) ?_
    refine ⟨?_, ?_⟩
    · skip
      repeat refine stk ?_
      refine branch_f' (by rw [eon]; exact hon) ?_
      refine draw_tree (picks [0, 1, 2, 3, 4, 5, 6, 7, 8, 9, 10, 11, 12] .done) (by decide +kernel) ?_
      repeat refine stb ?_
      apply branch_intro <;> intro hb
      · have hb : d 12 = 2 := by simpa using hb
        have hs : sgV d (onB w) 3 = 0 := by unfold sgV; rw [hon]; simp [hb]
        show Eqv (.tuple [_, _]) (.tuple [dispA (newD d 3 (digV (w / 32 % 32)) (digV (w % 32)) (sgV d (onB w) 3)), _])
        rw [hs]
        exact .up (.up (.refl _))
      · have hb : ¬ d 12 = 2 := by simpa using hb
        have hs : sgV d (onB w) 3 = d 12 := by unfold sgV; rw [hon]; simp [hb]
        show Eqv (.tuple [_, _]) (.tuple [dispA (newD d 3 (digV (w / 32 % 32)) (digV (w % 32)) (sgV d (onB w) 3)), _])
        rw [hs]
        exact .up (.up (.refl _))
    · skip
      repeat refine stk ?_
      refine branch_f' (by rw [eon]; exact hon) ?_
      refine draw_tree (picks [0, 1, 2, 3, 4, 5, 6, 7, 8, 9, 10, 11, 12] .done) (by decide +kernel) ?_
      repeat refine stb ?_
      apply branch_intro <;> intro hb
      · have hb : d 12 = 2 := by simpa using hb
        have hs : sgV d (onB w) 3 = 0 := by unfold sgV; rw [hon]; simp [hb]
        show Eqv (.tuple [_, _]) (.tuple [dispA (newD d 3 (digV (w / 32 % 32)) (digV (w % 32)) (sgV d (onB w) 3)), _])
        rw [hs]
        exact .up (.up (.refl _))
      · have hb : ¬ d 12 = 2 := by simpa using hb
        have hs : sgV d (onB w) 3 = d 12 := by unfold sgV; rw [hon]; simp [hb]
        show Eqv (.tuple [_, _]) (.tuple [dispA (newD d 3 (digV (w / 32 % 32)) (digV (w % 32)) (sgV d (onB w) 3)), _])
        rw [hs]
        exact .up (.up (.refl _))
set_option maxHeartbeats 1000000 in
theorem apply_no4 {d : Nat → Int} (hd : WD d) (hm : mayB d = true) {w : Int} (h0 : 0 ≤ w) (h1 : w < 65536) (hr : w / 2048 % 16 = 5) (hf : fitW 4 w = false) : callP Try.prog 23 [dispA d, .int .u16 w] (· = .tuple [dispA (fun _ => 0), .int .i64 5]) := by
  by_cases hl : digN (w / 32 % 32) < 11
  · by_cases hq : digN (w % 32) < 11
    · exfalso
      unfold fitW at hf
      rw [decide_eq_true hl, decide_eq_true hq] at hf
      simp [hasS] at hf
    · skip
      have c1 : callP Try.prog 34 [.int .u8 (w / 32 % 32)] (· = .tuple [.int .u8 (digV (w / 32 % 32)), .int .i64 0]) := by
        have c := digit_c (w / 32 % 32)
        rw [digE_of, if_pos hl] at c
        exact c
      have c2 : callP Try.prog 34 [.int .u8 (w % 32)] (· = .tuple [.int .u8 (digV (w % 32)), .int .i64 2]) := by
        have c := digit_c (w % 32)
        rw [digE_of, if_neg hq] at c
        exact c
      have c := may_c hd
      rw [hm] at c
      have er := er_of h0 h1
      rw [hr] at er
      have el := el_of h0 h1
      have ecl := lc_of (w := w) h0
      have ecr := rc_of (w := w) h0
      have eon := on_of (w := w) h0
      refine callE_def env (fn := Try.f23) rfl (by decide) rfl ?_
      refine callT_E c rfl ?_
      repeat refine stb ?_
      repeat refine ndD ?_
      conv => whnf
      rw [er, el]
      repeat refine stk ?_
      refine callT_part [0, 2] rfl (table_c (d := d) (x := 10)) ?_
      rintro v H' ⟨rfl, rfl⟩ x G hx hG
      obtain rfl : x = tabA 0 2 := hx
      obtain rfl : G = [.cells (dcells d), .cells (dcells fun _ => 0), .cells [.int .u8 10], .cells (tabL 0 2)] := hG
      repeat refine ndD ?_
      refine callT_E (c34 ecl c1) rfl ?_
      refine callT_E (c34 ecr c2) rfl ?_
      repeat refine ndD ?_
      repeat refine stk ?_
      show Eqv _ _
      exact .up (.up (.refl _))
  · by_cases hq : digN (w % 32) < 11
    · skip
      have c1 : callP Try.prog 34 [.int .u8 (w / 32 % 32)] (· = .tuple [.int .u8 (digV (w / 32 % 32)), .int .i64 2]) := by
        have c := digit_c (w / 32 % 32)
        rw [digE_of, if_neg hl] at c
        exact c
      have c2 : callP Try.prog 34 [.int .u8 (w % 32)] (· = .tuple [.int .u8 (digV (w % 32)), .int .i64 0]) := by
        have c := digit_c (w % 32)
        rw [digE_of, if_pos hq] at c
        exact c
      have c := may_c hd
      rw [hm] at c
      have er := er_of h0 h1
      rw [hr] at er
      have el := el_of h0 h1
      have ecl := lc_of (w := w) h0
      have ecr := rc_of (w := w) h0
      have eon := on_of (w := w) h0
      refine callE_def env (fn := Try.f23) rfl (by decide) rfl ?_
      refine callT_E c rfl ?_
      repeat refine stb ?_
      repeat refine ndD ?_
      conv => whnf
      rw [er, el]
      repeat refine stk ?_
      refine callT_part [0, 2] rfl (table_c (d := d) (x := 10)) ?_
      rintro v H' ⟨rfl, rfl⟩ x G hx hG
      obtain rfl : x = tabA 0 2 := hx
      obtain rfl : G = [.cells (dcells d), .cells (dcells fun _ => 0), .cells [.int .u8 10], .cells (tabL 0 2)] := hG
      repeat refine ndD ?_
      refine callT_E (c34 ecl c1) rfl ?_
      refine callT_E (c34 ecr c2) rfl ?_
      repeat refine ndD ?_
      repeat refine stk ?_
      show Eqv _ _
      exact .up (.up (.refl _))
    · skip
      have c1 : callP Try.prog 34 [.int .u8 (w / 32 % 32)] (· = .tuple [.int .u8 (digV (w / 32 % 32)), .int .i64 2]) := by
        have c := digit_c (w / 32 % 32)
        rw [digE_of, if_neg hl] at c
        exact c
      have c2 : callP Try.prog 34 [.int .u8 (w % 32)] (· = .tuple [.int .u8 (digV (w % 32)), .int .i64 2]) := by
        have c := digit_c (w % 32)
        rw [digE_of, if_neg hq] at c
        exact c
      have c := may_c hd
      rw [hm] at c
      have er := er_of h0 h1
      rw [hr] at er
      have el := el_of h0 h1
      have ecl := lc_of (w := w) h0
      have ecr := rc_of (w := w) h0
      have eon := on_of (w := w) h0
      refine callE_def env (fn := Try.f23) rfl (by decide) rfl ?_
      refine callT_E c rfl ?_
      repeat refine stb ?_
      repeat refine ndD ?_
      conv => whnf
      rw [er, el]
      repeat refine stk ?_
      refine callT_part [0, 2] rfl (table_c (d := d) (x := 10)) ?_
      rintro v H' ⟨rfl, rfl⟩ x G hx hG
      obtain rfl : x = tabA 0 2 := hx
      obtain rfl : G = [.cells (dcells d), .cells (dcells fun _ => 0), .cells [.int .u8 10], .cells (tabL 0 2)] := hG
      repeat refine ndD ?_
      refine callT_E (c34 ecl c1) rfl ?_
      refine callT_E (c34 ecr c2) rfl ?_
      repeat refine ndD ?_
      repeat refine stk ?_
      show Eqv _ _
      exact .up (.up (.refl _))
set_option maxHeartbeats 2000000 in
theorem apply_ok4 {d : Nat → Int} (hd : WD d) (hm : mayB d = true) {w : Int} (h0 : 0 ≤ w) (h1 : w < 65536) (hr : w / 2048 % 16 = 5) (hf : fitW 4 w = true) : callP Try.prog 23 [dispA d, .int .u16 w] (· = .tuple [dispA (newD d 4 (digV (w / 32 % 32)) (digV (w % 32)) (sgV d (onB w) 4)), .int .i64 0]) := by
  unfold fitW at hf
  simp only [Bool.and_eq_true, decide_eq_true_eq] at hf
  obtain ⟨⟨⟨hl, hq⟩, hns⟩, h7⟩ := hf
  by_cases hon : onB w = true
  · skip
    have c1 : callP Try.prog 34 [.int .u8 (w / 32 % 32)] (· = .tuple [.int .u8 (digV (w / 32 % 32)), .int .i64 0]) := by
      have c := digit_c (w / 32 % 32)
      rw [digE_of, if_pos hl] at c
      exact c
    have c2 : callP Try.prog 34 [.int .u8 (w % 32)] (· = .tuple [.int .u8 (digV (w % 32)), .int .i64 0]) := by
      have c := digit_c (w % 32)
      rw [digE_of, if_pos hq] at c
      exact c
    have c := may_c hd
    rw [hm] at c
    have er := er_of h0 h1
    rw [hr] at er
    have el := el_of h0 h1
    have ecl := lc_of (w := w) h0
    have ecr := rc_of (w := w) h0
    have eon := on_of (w := w) h0
    refine callE_def env (fn := Try.f23) rfl (by decide) rfl ?_
    refine callT_E c rfl ?_
    repeat refine stb ?_
    repeat refine ndD ?_
    conv => whnf
    rw [er, el]
    repeat refine stk ?_
    refine callT_part [0, 2] rfl (table_c (d := d) (x := 10)) ?_
    rintro v H' ⟨rfl, rfl⟩ x G hx hG
    obtain rfl : x = tabA 0 2 := hx
    obtain rfl : G = [.cells (dcells d), .cells (dcells fun _ => 0), .cells [.int .u8 10], .cells (tabL 0 2)] := hG
    repeat refine ndD ?_
    refine callT_E (c34 ecl c1) rfl ?_
    refine callT_E (c34 ecr c2) rfl ?_
    repeat refine ndD ?_
    repeat refine stk ?_
    refine branch_t' (by rw [eon]; exact hon) ?_
    repeat refine stk ?_
    refine draw_tree (picks [0, 1, 2, 4, 5, 6] (.fork 3 7 (picks [7, 8, 9] .done) (picks [3, 8, 9] .done))) (by decide +kernel) ?_
    refine ⟨?_, ?_⟩
    · skip
      repeat refine stk ?_
      refine branch_t' (by rw [eon]; exact hon) ?_
      have hs : sgV d (onB w) 4 = 1 := by unfold sgV; rw [hon]; rfl
      show Eqv (.tuple [_, _]) (.tuple [dispA (newD d 4 (digV (w / 32 % 32)) (digV (w % 32)) (sgV d (onB w) 4)), _])
      rw [hs]
      exact .up (.up (.refl _))
    · skip
      repeat refine stk ?_
      refine branch_t' (by rw [eon]; exact hon) ?_
      have hs : sgV d (onB w) 4 = 1 := by unfold sgV; rw [hon]; rfl
      show Eqv (.tuple [_, _]) (.tuple [dispA (newD d 4 (digV (w / 32 % 32)) (digV (w % 32)) (sgV d (onB w) 4)), _])
      rw [hs]
      exact .up (.up (.refl _))
  · have hon := Bool.eq_false_iff.2 hon
    have c1 : callP Try.prog 34 [.int .u8 (w / 32 % 32)] (· = .tuple [.int .u8 (digV (w / 32 % 32)), .int .i64 0]) := by
      have c := digit_c (w / 32 % 32)
      rw [digE_of, if_pos hl] at c
      exact c
    have c2 : callP Try.prog 34 [.int .u8 (w % 32)] (· = .tuple [.int .u8 (digV (w % 32)), .int .i64 0]) := by
      have c := digit_c (w % 32)
      rw [digE_of, if_pos hq] at c
      exact c
    have c := may_c hd
    rw [hm] at c
    have er := er_of h0 h1
    rw [hr] at er
    have el := el_of h0 h1
    have ecl := lc_of (w := w) h0
    have ecr := rc_of (w := w) h0
    have eon := on_of (w := w) h0
    refine callE_def env (fn := Try.f23) rfl (by decide) rfl ?_
    refine callT_E c rfl ?_
    repeat refine stb ?_
    repeat refine ndD ?_
    conv => whnf
    rw [er, el]
    repeat refine stk ?_
    refine callT_part [0, 2] rfl (table_c (d := d) (x := 10)) ?_
    rintro v H' ⟨rfl, rfl⟩ x G hx hG
    obtain rfl : x = tabA 0 2 := hx
    obtain rfl : G = [.cells (dcells d), .cells (dcells fun _ => 0), .cells [.int .u8 10], .cells (tabL 0 2)] := hG
    repeat refine ndD ?_
    refine callT_E (c34 ecl c1) rfl ?_
    refine callT_E (c34 ecr c2) rfl ?_
    repeat refine ndD ?_
    repeat refine stk ?_
    refine branch_f' (by rw [eon]; exact hon) ?_
    repeat refine stk ?_
    refine draw_tree (picks [0, 1, 2, 4, 5, 6] (.fork 3 7 (picks [7, 8, 9] .done) (picks [3, 8, 9] .done))) (by decide +kernel) ?_
    refine ⟨?_, ?_⟩
    · skip
      repeat refine stk ?_
      refine branch_f' (by rw [eon]; exact hon) ?_
      refine draw_tree (picks [0, 1, 2, 3, 4, 5, 6, 7, 8, 9, 10, 11, 12] .done) (by decide +kernel) ?_
      repeat refine stb ?_
      apply branch_intro <;> intro hb
      · have hb : d 12 = 1 := by simpa using hb
        have hs : sgV d (onB w) 4 = 0 := by unfold sgV; rw [hon]; simp [hb]
        show Eqv (.tuple [_, _]) (.tuple [dispA (newD d 4 (digV (w / 32 % 32)) (digV (w % 32)) (sgV d (onB w) 4)), _])
        rw [hs]
        exact .up (.up (.refl _))
      · have hb : ¬ d 12 = 1 := by simpa using hb
        have hs : sgV d (onB w) 4 = d 12 := by unfold sgV; rw [hon]; simp [hb]
        show Eqv (.tuple [_, _]) (.tuple [dispA (newD d 4 (digV (w / 32 % 32)) (digV (w % 32)) (sgV d (onB w) 4)), _])
        rw [hs]
        exact .up (.up (.refl _))
    · skip
      repeat refine stk ?_
      refine branch_f' (by rw [eon]; exact hon) ?_
      refine draw_tree (picks [0, 1, 2, 3, 4, 5, 6, 7, 8, 9, 10, 11, 12] .done) (by decide +kernel) ?_
      repeat refine stb ?_
      apply branch_intro <;> intro hb
      · have hb : d 12 = 1 := by simpa using hb
        have hs : sgV d (onB w) 4 = 0 := by unfold sgV; rw [hon]; simp [hb]
        show Eqv (.tuple [_, _]) (.tuple [dispA (newD d 4 (digV (w / 32 % 32)) (digV (w % 32)) (sgV d (onB w) 4)), _])
        rw [hs]
        exact .up (.up (.refl _))
      · have hb : ¬ d 12 = 1 := by simpa using hb
        have hs : sgV d (onB w) 4 = d 12 := by unfold sgV; rw [hon]; simp [hb]
        show Eqv (.tuple [_, _]) (.tuple [dispA (newD d 4 (digV (w / 32 % 32)) (digV (w % 32)) (sgV d (onB w) 4)), _])
        rw [hs]
        exact .up (.up (.refl _))
set_option maxHeartbeats 1000000 in
theorem apply_no5 {d : Nat → Int} (hd : WD d) (hm : mayB d = true) {w : Int} (h0 : 0 ≤ w) (h1 : w < 65536) (hr : w / 2048 % 16 = 6) (hf : fitW 5 w = false) : callP Try.prog 23 [dispA d, .int .u16 w] (· = .tuple [dispA (fun _ => 0), .int .i64 5]) := by
  by_cases hl : digN (w / 32 % 32) < 11
  · by_cases hq : digN (w % 32) < 11
    · exfalso
      unfold fitW at hf
      rw [decide_eq_true hl, decide_eq_true hq] at hf
      simp [hasS] at hf
    · skip
      have c1 : callP Try.prog 34 [.int .u8 (w / 32 % 32)] (· = .tuple [.int .u8 (digV (w / 32 % 32)), .int .i64 0]) := by
        have c := digit_c (w / 32 % 32)
        rw [digE_of, if_pos hl] at c
        exact c
      have c2 : callP Try.prog 34 [.int .u8 (w % 32)] (· = .tuple [.int .u8 (digV (w % 32)), .int .i64 2]) := by
        have c := digit_c (w % 32)
        rw [digE_of, if_neg hq] at c
        exact c
      have c := may_c hd
      rw [hm] at c
      have er := er_of h0 h1
      rw [hr] at er
      have el := el_of h0 h1
      have ecl := lc_of (w := w) h0
      have ecr := rc_of (w := w) h0
      have eon := on_of (w := w) h0
      refine callE_def env (fn := Try.f23) rfl (by decide) rfl ?_
      refine callT_E c rfl ?_
      repeat refine stb ?_
      repeat refine ndD ?_
      conv => whnf
      rw [er, el]
      repeat refine stk ?_
      refine callT_part [0, 2] rfl (table_c (d := d) (x := 10)) ?_
      rintro v H' ⟨rfl, rfl⟩ x G hx hG
      obtain rfl : x = tabA 0 2 := hx
      obtain rfl : G = [.cells (dcells d), .cells (dcells fun _ => 0), .cells [.int .u8 10], .cells (tabL 0 2)] := hG
      repeat refine ndD ?_
      refine callT_E (c34 ecl c1) rfl ?_
      refine callT_E (c34 ecr c2) rfl ?_
      repeat refine ndD ?_
      repeat refine stk ?_
      show Eqv _ _
      exact .up (.up (.refl _))
  · by_cases hq : digN (w % 32) < 11
    · skip
      have c1 : callP Try.prog 34 [.int .u8 (w / 32 % 32)] (· = .tuple [.int .u8 (digV (w / 32 % 32)), .int .i64 2]) := by
        have c := digit_c (w / 32 % 32)
        rw [digE_of, if_neg hl] at c
        exact c
      have c2 : callP Try.prog 34 [.int .u8 (w % 32)] (· = .tuple [.int .u8 (digV (w % 32)), .int .i64 0]) := by
        have c := digit_c (w % 32)
        rw [digE_of, if_pos hq] at c
        exact c
      have c := may_c hd
      rw [hm] at c
      have er := er_of h0 h1
      rw [hr] at er
      have el := el_of h0 h1
      have ecl := lc_of (w := w) h0
      have ecr := rc_of (w := w) h0
      have eon := on_of (w := w) h0
      refine callE_def env (fn := Try.f23) rfl (by decide) rfl ?_
      refine callT_E c rfl ?_
      repeat refine stb ?_
      repeat refine ndD ?_
      conv => whnf
      rw [er, el]
      repeat refine stk ?_
      refine callT_part [0, 2] rfl (table_c (d := d) (x := 10)) ?_
      rintro v H' ⟨rfl, rfl⟩ x G hx hG
      obtain rfl : x = tabA 0 2 := hx
      obtain rfl : G = [.cells (dcells d), .cells (dcells fun _ => 0), .cells [.int .u8 10], .cells (tabL 0 2)] := hG
      repeat refine ndD ?_
      refine callT_E (c34 ecl c1) rfl ?_
      refine callT_E (c34 ecr c2) rfl ?_
      repeat refine ndD ?_
      repeat refine stk ?_
      show Eqv _ _
      exact .up (.up (.refl _))
    · skip
      have c1 : callP Try.prog 34 [.int .u8 (w / 32 % 32)] (· = .tuple [.int .u8 (digV (w / 32 % 32)), .int .i64 2]) := by
        have c := digit_c (w / 32 % 32)
        rw [digE_of, if_neg hl] at c
        exact c
      have c2 : callP Try.prog 34 [.int .u8 (w % 32)] (· = .tuple [.int .u8 (digV (w % 32)), .int .i64 2]) := by
        have c := digit_c (w % 32)
        rw [digE_of, if_neg hq] at c
        exact c
      have c := may_c hd
      rw [hm] at c
      have er := er_of h0 h1
      rw [hr] at er
      have el := el_of h0 h1
      have ecl := lc_of (w := w) h0
      have ecr := rc_of (w := w) h0
      have eon := on_of (w := w) h0
      refine callE_def env (fn := Try.f23) rfl (by decide) rfl ?_
      refine callT_E c rfl ?_
      repeat refine stb ?_
      repeat refine ndD ?_
      conv => whnf
      rw [er, el]
      repeat refine stk ?_
      refine callT_part [0, 2] rfl (table_c (d := d) (x := 10)) ?_
      rintro v H' ⟨rfl, rfl⟩ x G hx hG
      obtain rfl : x = tabA 0 2 := hx
      obtain rfl : G = [.cells (dcells d), .cells (dcells fun _ => 0), .cells [.int .u8 10], .cells (tabL 0 2)] := hG
      repeat refine ndD ?_
      refine callT_E (c34 ecl c1) rfl ?_
      refine callT_E (c34 ecr c2) rfl ?_
      repeat refine ndD ?_
      repeat refine stk ?_
      show Eqv _ _
      exact .up (.up (.refl _))
set_option maxHeartbeats 2000000 in
theorem apply_ok5 {d : Nat → Int} (hd : WD d) (hm : mayB d = true) {w : Int} (h0 : 0 ≤ w) (h1 : w < 65536) (hr : w / 2048 % 16 = 6) (hf : fitW 5 w = true) : callP Try.prog 23 [dispA d, .int .u16 w] (· = .tuple [dispA (newD d 5 (digV (w / 32 % 32)) (digV (w % 32)) (sgV d (onB w) 5)), .int .i64 0]) := by
  unfold fitW at hf
  simp only [Bool.and_eq_true, decide_eq_true_eq] at hf
  obtain ⟨⟨⟨hl, hq⟩, hns⟩, h7⟩ := hf
  by_cases hon : onB w = true
  · skip
    have c1 : callP Try.prog 34 [.int .u8 (w / 32 % 32)] (· = .tuple [.int .u8 (digV (w / 32 % 32)), .int .i64 0]) := by
      have c := digit_c (w / 32 % 32)
      rw [digE_of, if_pos hl] at c
      exact c
    have c2 : callP Try.prog 34 [.int .u8 (w % 32)] (· = .tuple [.int .u8 (digV (w % 32)), .int .i64 0]) := by
      have c := digit_c (w % 32)
      rw [digE_of, if_pos hq] at c
      exact c
    have c := may_c hd
    rw [hm] at c
    have er := er_of h0 h1
    rw [hr] at er
    have el := el_of h0 h1
    have ecl := lc_of (w := w) h0
    have ecr := rc_of (w := w) h0
    have eon := on_of (w := w) h0
    refine callE_def env (fn := Try.f23) rfl (by decide) rfl ?_
    refine callT_E c rfl ?_
    repeat refine stb ?_
    repeat refine ndD ?_
    conv => whnf
    rw [er, el]
    repeat refine stk ?_
    refine callT_part [0, 2] rfl (table_c (d := d) (x := 10)) ?_
    rintro v H' ⟨rfl, rfl⟩ x G hx hG
    obtain rfl : x = tabA 0 2 := hx
    obtain rfl : G = [.cells (dcells d), .cells (dcells fun _ => 0), .cells [.int .u8 10], .cells (tabL 0 2)] := hG
    repeat refine ndD ?_
    refine callT_E (c34 ecl c1) rfl ?_
    refine callT_E (c34 ecr c2) rfl ?_
    repeat refine ndD ?_
    repeat refine stk ?_
    refine branch_t' (by rw [eon]; exact hon) ?_
    repeat refine stk ?_
    refine draw_tree (picks [0, 1, 2, 4, 5, 6] (.fork 3 7 (picks [7, 8, 9] .done) (picks [3, 8, 9] .done))) (by decide +kernel) ?_
    refine ⟨?_, ?_⟩
    · skip
      repeat refine stk ?_
      refine branch_t' (by rw [eon]; exact hon) ?_
      have hs : sgV d (onB w) 5 = 2 := by unfold sgV; rw [hon]; rfl
      show Eqv (.tuple [_, _]) (.tuple [dispA (newD d 5 (digV (w / 32 % 32)) (digV (w % 32)) (sgV d (onB w) 5)), _])
      rw [hs]
      exact .up (.up (.refl _))
    · skip
      repeat refine stk ?_
      refine branch_t' (by rw [eon]; exact hon) ?_
      have hs : sgV d (onB w) 5 = 2 := by unfold sgV; rw [hon]; rfl
      show Eqv (.tuple [_, _]) (.tuple [dispA (newD d 5 (digV (w / 32 % 32)) (digV (w % 32)) (sgV d (onB w) 5)), _])
      rw [hs]
      exact .up (.up (.refl _))
  · have hon := Bool.eq_false_iff.2 hon
    have c1 : callP Try.prog 34 [.int .u8 (w / 32 % 32)] (· = .tuple [.int .u8 (digV (w / 32 % 32)), .int .i64 0]) := by
      have c := digit_c (w / 32 % 32)
      rw [digE_of, if_pos hl] at c
      exact c
    have c2 : callP Try.prog 34 [.int .u8 (w % 32)] (· = .tuple [.int .u8 (digV (w % 32)), .int .i64 0]) := by
      have c := digit_c (w % 32)
      rw [digE_of, if_pos hq] at c
      exact c
    have c := may_c hd
    rw [hm] at c
    have er := er_of h0 h1
    rw [hr] at er
    have el := el_of h0 h1
    have ecl := lc_of (w := w) h0
    have ecr := rc_of (w := w) h0
    have eon := on_of (w := w) h0
    refine callE_def env (fn := Try.f23) rfl (by decide) rfl ?_
    refine callT_E c rfl ?_
    repeat refine stb ?_
    repeat refine ndD ?_
    conv => whnf
    rw [er, el]
    repeat refine stk ?_
    refine callT_part [0, 2] rfl (table_c (d := d) (x := 10)) ?_
    rintro v H' ⟨rfl, rfl⟩ x G hx hG
    obtain rfl : x = tabA 0 2 := hx
    obtain rfl : G = [.cells (dcells d), .cells (dcells fun _ => 0), .cells [.int .u8 10], .cells (tabL 0 2)] := hG
    repeat refine ndD ?_
    refine callT_E (c34 ecl c1) rfl ?_
    refine callT_E (c34 ecr c2) rfl ?_
    repeat refine ndD ?_
    repeat refine stk ?_
    refine branch_f' (by rw [eon]; exact hon) ?_
    repeat refine stk ?_
    refine draw_tree (picks [0, 1, 2, 4, 5, 6] (.fork 3 7 (picks [7, 8, 9] .done) (picks [3, 8, 9] .done))) (by decide +kernel) ?_
    refine ⟨?_, ?_⟩
    · skip
      repeat refine stk ?_
      refine branch_f' (by rw [eon]; exact hon) ?_
      refine draw_tree (picks [0, 1, 2, 3, 4, 5, 6, 7, 8, 9, 10, 11, 12] .done) (by decide +kernel) ?_
      repeat refine stb ?_
      apply branch_intro <;> intro hb
      · have hb : d 6 = 2 := by simpa using hb
        have hs : sgV d (onB w) 5 = 0 := by unfold sgV; rw [hon]; simp [hb]
        show Eqv (.tuple [_, _]) (.tuple [dispA (newD d 5 (digV (w / 32 % 32)) (digV (w % 32)) (sgV d (onB w) 5)), _])
        rw [hs]
        exact .up (.up (.refl _))
      · have hb : ¬ d 6 = 2 := by simpa using hb
        have hs : sgV d (onB w) 5 = d 6 := by unfold sgV; rw [hon]; simp [hb]
        show Eqv (.tuple [_, _]) (.tuple [dispA (newD d 5 (digV (w / 32 % 32)) (digV (w % 32)) (sgV d (onB w) 5)), _])
        rw [hs]
        exact .up (.up (.refl _))
    · skip
      repeat refine stk ?_
      refine branch_f' (by rw [eon]; exact hon) ?_
      refine draw_tree (picks [0, 1, 2, 3, 4, 5, 6, 7, 8, 9, 10, 11, 12] .done) (by decide +kernel) ?_
      repeat refine stb ?_
      apply branch_intro <;> intro hb
      · have hb : d 6 = 2 := by simpa using hb
        have hs : sgV d (onB w) 5 = 0 := by unfold sgV; rw [hon]; simp [hb]
        show Eqv (.tuple [_, _]) (.tuple [dispA (newD d 5 (digV (w / 32 % 32)) (digV (w % 32)) (sgV d (onB w) 5)), _])
        rw [hs]
        exact .up (.up (.refl _))
      · have hb : ¬ d 6 = 2 := by simpa using hb
        have hs : sgV d (onB w) 5 = d 6 := by unfold sgV; rw [hon]; simp [hb]
        show Eqv (.tuple [_, _]) (.tuple [dispA (newD d 5 (digV (w / 32 % 32)) (digV (w % 32)) (sgV d (onB w) 5)), _])
        rw [hs]
        exact .up (.up (.refl _))
end Go.Proofs.Rl
