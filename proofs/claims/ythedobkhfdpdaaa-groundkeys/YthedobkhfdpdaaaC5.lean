/- Chapter 29, part l: words and doubles. -/
import Derived.Test.YthedobkhfdpdaaaC4
import Derived.Test.YthedobkhfdpdaaaE5
set_option linter.unusedVariables false
set_option linter.unusedSimpArgs false
namespace Go.Proofs
open Go.E
set_option maxRecDepth 8000
theorem wu64 {x : Int} (h0 : 0 ≤ x) (h1 : x < 18446744073709551616) : IntKind.u64.wrap x = x := by
  rw [IntKind.wrap_u64]; omega
theorem and_mask {k : IntKind} {x : Int} {b m : Nat} (hb : k.bits = b) (hw : ∀ y : Int, 0 ≤ y → y < 2 ^ b → k.wrap y = y) (hm : m ≤ b) (h0 : 0 ≤ x) (h1 : x < 2 ^ b) :
    k.wrap ((BitVec.ofInt k.bits x &&& BitVec.ofInt k.bits (2 ^ m - 1)).toNat : Int) = x % 2 ^ m := by
  obtain ⟨n, rfl⟩ := Int.eq_ofNat_of_zero_le h0
  have hlt : n < 2 ^ b := by
    have : ((2 ^ b : Nat) : Int) = 2 ^ b := by simp
    omega
  have hp : 2 ^ m ≤ 2 ^ b := Nat.pow_le_pow_right (by decide) hm
  have h2 : 0 < 2 ^ m := Nat.pow_pos (by decide)
  have e1 : (BitVec.ofInt k.bits (n : Int)).toNat = n := by
    rw [hb, BitVec.toNat_ofInt]
    have : ((n : Int) % ((2 ^ b : Nat) : Int)).toNat = n := by
      rw [Int.emod_eq_of_lt (by omega) (by exact_mod_cast hlt)]; simp
    exact this
  have em : ((2 : Int) ^ m - 1) = ((2 ^ m - 1 : Nat) : Int) := by
    have : ((2 ^ m : Nat) : Int) = 2 ^ m := by simp
    omega
  have e2 : (BitVec.ofInt k.bits (2 ^ m - 1)).toNat = 2 ^ m - 1 := by
    rw [hb, em, BitVec.toNat_ofInt]
    have : (((2 ^ m - 1 : Nat) : Int) % ((2 ^ b : Nat) : Int)).toNat = 2 ^ m - 1 := by
      rw [Int.emod_eq_of_lt (by omega) (by omega)]; simp
    exact this
  rw [BitVec.toNat_and, e1, e2, Nat.and_two_pow_sub_one_eq_mod]
  have hlt2 : n % 2 ^ m < 2 ^ b := Nat.lt_of_lt_of_le (Nat.mod_lt _ h2) hp
  rw [hw _ (by omega) (by exact_mod_cast hlt2)]
  simp
def wordV (w : Int) : Int := if w % 32768 ≥ 16384 then w % 32768 - 32767 else w % 32768
theorem word_b {w : Int} : -16383 ≤ wordV w ∧ wordV w ≤ 16383 := by
  unfold wordV; split <;> omega
theorem word_c {w : Int} (h0 : 0 ≤ w) (h1 : w < 65536) : callP Try.prog 71 [.int .u16 w] (· = .int .i64 (wordV w)) := by
  refine callE_def env (fn := Try.f71) rfl (by decide) rfl ?_
  have e1 : IntKind.u16.wrap ((BitVec.ofInt IntKind.u16.bits w &&& BitVec.ofInt IntKind.u16.bits 32767).toNat : Int) = w % 32768 :=
    and_mask (k := .u16) (b := 16) (m := 15) rfl (fun y a b => wu16 a b) (by decide) h0 h1
  have e2 : IntKind.i64.wrap (w % 32768) = w % 32768 := wi (by omega) (by omega)
  apply branch_intro <;> intro h <;> rw [e1, e2] at h <;> simp at h <;> show Eqv _ _ <;> refine eqv_of_eq (congrArg (AVal.int _) ?_) <;> rw [e1, e2]
  · rw [wi (by omega) (by omega)]; unfold wordV; rw [if_pos (by omega)]
  · unfold wordV; rw [if_neg (by omega)]
abbrev D2 (a b : Int) : AVal := .agg [.int .u16 a, .int .u16 b]
def valD (a b : Int) : Int := wordV a * 16384 + wordV b
def W16 (a : Int) : Prop := 0 ≤ a ∧ a < 65536
theorem value_c {a b : Int} (ha : W16 a) (hb : W16 b) : callP Try.prog 57 [D2 a b] (· = .int .i64 (valD a b)) := by
  refine callE_def env (fn := Try.f57) rfl (by decide) rfl ?_
  refine draw_intro [0, 1, 2, 3, 4, 5, 6, 7, 8] (by decide +kernel) ?_
  repeat refine ndD ?_
  refine ⟨_, ⟨word_c ha.1 ha.2, rfl⟩, ?_⟩
  repeat refine ndD ?_
  refine ⟨_, ⟨word_c hb.1 hb.2, rfl⟩, ?_⟩
  show Eqv _ _
  refine eqv_of_eq (congrArg (AVal.int _) ?_)
  have := @word_b a; have := @word_b b
  rw [wi (x := wordV a * 16384) (by omega) (by omega), wi (by omega) (by omega)]
  rfl
def Fit (v : Int) : Prop := -268435455 ≤ v ∧ v ≤ 268435455
def clampV (v : Int) : Int := if v > 268435455 then 268435455 else if v < -268435455 then -268435455 else v
def outV (v : Int) : Bool := decide (v > 268435455) || decide (v < -268435455)
theorem clamp_id {v : Int} (h : Fit v) : clampV v = v := by unfold Fit at h; unfold clampV; rw [if_neg (by omega), if_neg (by omega)]
theorem out_id {v : Int} (h : Fit v) : outV v = false := by unfold Fit at h; unfold outV; simp; omega
theorem eM : IntKind.i64.wrap (0 - 268435455) = -268435455 := by decide
theorem bounded_c (v : Int) : callP Try.prog 81 [.int .i64 v, .int .i64 268435455] (· = .tuple [.int .i64 (clampV v), .bool (outV v)]) := by
  refine callE_def env (fn := Try.f81) rfl (by decide) rfl ?_
  apply branch_intro <;> intro h <;> simp at h
  · show Eqv _ _
    unfold clampV outV
    rw [if_pos h, decide_eq_true h]
    show Eqv _ _
    exact .up (.up (.refl _))
  apply branch_intro <;> intro h2 <;> rw [eM] at h2 <;> simp at h2
  · show Eqv _ _
    unfold clampV outV
    rw [if_neg (by omega), if_pos h2, decide_eq_true h2, Bool.or_true]
    show Eqv _ _
    exact .up (.up (.refl _))
  · show Eqv _ _
    unfold clampV outV
    rw [if_neg (by omega), if_neg (by omega), decide_eq_false (by omega), decide_eq_false (by omega)]
    show Eqv _ _
    exact .up (.up (.refl _))
def hiD (v : Int) : Int := if v < 0 then 32767 - (-v) / 16384 else v / 16384
def loD (v : Int) : Int := if v < 0 then 32767 - (-v) % 16384 else v % 16384
abbrev dblA (v : Int) : AVal := D2 (hiD v) (loD v)
theorem hi_w {v : Int} (h : Fit v) : W16 (hiD v) := by unfold Fit at h; unfold W16 hiD; split <;> omega
theorem lo_w {v : Int} (h : Fit v) : W16 (loD v) := by unfold Fit at h; unfold W16 loD; split <;> omega
theorem digits_c {v : Int} (h : Fit v) : callN Try.prog 83 [.int .i64 v] [] fun x H' => x = .fn (.func 84) [] [.ptr ⟨1, 0, 0⟩, .ptr ⟨0, 0, 0⟩] ∧ H' = [.cells [.bool (decide (v < 0))], .cells [.int .u64 (if v < 0 then -v else v)]] := by
  unfold Fit at h
  refine callN_def env (fn := Try.f83) 0 rfl rfl (by decide) ?_
  apply branch_intro <;> intro hv
  · have h' : v < 0 := of_decide_eq_true hv
    refine ⟨rfl, ?_⟩
    rw [if_pos h']
    have : IntKind.u64.wrap (0 - (IntKind.u64.wrap v)) = -v := by simp only [IntKind.wrap_u64]; omega
    rw [← this]
  · have h' : ¬ v < 0 := of_decide_eq_false hv
    refine ⟨rfl, ?_⟩
    rw [if_neg h']
    have : IntKind.u64.wrap v = v := wu64 (by omega) (by omega)
    show [_, Blk.cells [.int .u64 (IntKind.u64.wrap v)]] = _
    rw [this]
theorem next_c {b : Bool} {m : Int} (h0 : 0 ≤ m) (h1 : m < 18446744073709551616) : callN Try.prog 84 [.ptr ⟨1, 0, 0⟩, .ptr ⟨0, 0, 0⟩] [.cells [.bool b], .cells [.int .u64 m]] fun x H' => x = .int .u16 (if b = true then 32767 - m % 16384 else m % 16384) ∧ H' = [.cells [.bool b], .cells [.int .u64 (m / 16384)]] := by
  refine callN_def env (fn := Try.f84) 2 rfl rfl (by decide) ?_
  have e1 : IntKind.u64.wrap ((BitVec.ofInt IntKind.u64.bits m &&& BitVec.ofInt IntKind.u64.bits 16383).toNat : Int) = m % 16384 :=
    and_mask (k := .u64) (b := 64) (m := 14) rfl (fun y a b => wu64 a b) (by decide) h0 h1
  have e2 : IntKind.u16.wrap (m % 16384) = m % 16384 := wu16 (by omega) (by omega)
  have e3 : IntKind.u16.wrap (32767 - m % 16384) = 32767 - m % 16384 := wu16 (by omega) (by omega)
  repeat refine ndD ?_
  have e4 : m.fdiv (2 ^ (min (14 : Int).toNat IntKind.u64.bits)) = m / 16384 := by
    rw [Int.fdiv_eq_ediv_of_nonneg _ (by decide)]; rfl
  apply branch_intro <;> intro hb <;> subst hb
  · refine ⟨?_, ?_⟩
    · show AVal.int .u16 (IntKind.u16.wrap (32767 - IntKind.u16.wrap (IntKind.u64.wrap _))) = _
      rw [e1, e2, e3]; rfl
    · show [_, Blk.cells [.int .u64 (m.fdiv _)]] = _
      rw [e4]
  · refine ⟨?_, ?_⟩
    · show AVal.int .u16 (IntKind.u16.wrap (IntKind.u64.wrap _)) = _
      rw [e1, e2]; rfl
    · show [_, Blk.cells [.int .u64 (m.fdiv _)]] = _
      rw [e4]
theorem double_c {v : Int} (h : Fit v) : callP Try.prog 82 [.int .i64 v] (· = dblA v) := by
  have hf := h
  unfold Fit at h
  refine callE_def env (fn := Try.f82) rfl (by decide) rfl ?_
  refine callT_part [] rfl (digits_c hf) ?_
  rintro x H' ⟨rfl, rfl⟩ y G hy hG
  obtain rfl : y = .fn (.func 84) [] [.ptr ⟨2, 0, 0⟩, .ptr ⟨1, 0, 0⟩] := hy
  obtain rfl : G = [_, .cells [.bool (decide (v < 0))], .cells [.int .u64 (if v < 0 then -v else v)]] := hG
  have hm : 0 ≤ (if v < 0 then -v else v) ∧ (if v < 0 then -v else v) < 268435456 := by split <;> omega
  refine callT_part [1, 2] rfl (next_c hm.1 (by omega)) ?_
  rintro x H' ⟨rfl, rfl⟩ y G hy hG
  obtain rfl : y = .int .u16 (if decide (v < 0) = true then 32767 - (if v < 0 then -v else v) % 16384 else (if v < 0 then -v else v) % 16384) := hy
  obtain rfl : G = [_, .cells [.bool (decide (v < 0))], .cells [.int .u64 ((if v < 0 then -v else v) / 16384)]] := hG
  refine callT_part [1, 2] rfl (next_c (b := decide (v < 0)) (m := (if v < 0 then -v else v) / 16384) (by omega) (by omega)) ?_
  rintro x H' ⟨rfl, rfl⟩ y G hy hG
  obtain rfl : y = .int .u16 (if decide (v < 0) = true then 32767 - ((if v < 0 then -v else v) / 16384) % 16384 else ((if v < 0 then -v else v) / 16384) % 16384) := hy
  obtain rfl : G = [_, .cells [.bool (decide (v < 0))], .cells [.int .u64 ((if v < 0 then -v else v) / 16384 / 16384)]] := hG
  show Eqv _ _
  refine eqv_of_eq ?_
  show AVal.agg [.int .u16 _, .int .u16 _] = AVal.agg [.int .u16 _, .int .u16 _]
  have e1 : (if decide (v < 0) = true then 32767 - (if v < 0 then -v else v) % 16384 else (if v < 0 then -v else v) % 16384) = loD v := by
    unfold loD
    by_cases h0 : v < 0 <;> simp [h0]
  have e2 : (if decide (v < 0) = true then 32767 - ((if v < 0 then -v else v) / 16384) % 16384 else ((if v < 0 then -v else v) / 16384) % 16384) = hiD v := by
    unfold hiD
    by_cases h0 : v < 0 <;> simp only [h0, decide_true, decide_false, if_true, if_false] <;> first | omega | (simp; omega)
  rw [e1, e2]
end Go.Proofs
namespace Go.Proofs
open Go.E
set_option maxRecDepth 8000
theorem bit14 {x : Int} (h0 : 0 ≤ x) (h1 : x < 32768) :
    (IntKind.u16.wrap ((BitVec.ofInt IntKind.u16.bits x &&& BitVec.ofInt IntKind.u16.bits 16384).toNat : Int) != 0) = decide (16384 ≤ x) := by
  obtain ⟨n, rfl⟩ := Int.eq_ofNat_of_zero_le h0
  have e1 : (BitVec.ofInt IntKind.u16.bits (n : Int)).toNat = n := by
    rw [show IntKind.u16.bits = 16 from rfl, BitVec.ofInt_natCast, BitVec.toNat_ofNat]
    exact Nat.mod_eq_of_lt (by omega)
  have e2 : (BitVec.ofInt IntKind.u16.bits 16384).toNat = 2 ^ 14 := by decide
  have h3 : n.testBit 14 = decide (n / 2 ^ 14 % 2 = 1) := Nat.testBit_eq_decide_div_mod_eq
  rw [BitVec.toNat_and, e1, e2]
  by_cases h : 16384 ≤ n
  · rw [decide_eq_true (p := n / 2 ^ 14 % 2 = 1) (by omega)] at h3
    have h4 : n &&& 2 ^ 14 = 2 ^ 14 := Nat.eq_of_testBit_eq fun j => by
      rw [Nat.testBit_and, Nat.testBit_two_pow]
      by_cases hj : 14 = j
      · subst hj; rw [h3]; rfl
      · rw [decide_eq_false hj, Bool.and_false]
    rw [h4, decide_eq_true (by omega)]; rfl
  · rw [decide_eq_false (p := n / 2 ^ 14 % 2 = 1) (by omega)] at h3
    have h4 : n &&& 2 ^ 14 = 0 := Nat.eq_of_testBit_eq fun j => by
      rw [Nat.testBit_and, Nat.testBit_two_pow, Nat.zero_testBit]
      by_cases hj : 14 = j
      · subst hj; rw [h3]; rfl
      · rw [decide_eq_false hj, Bool.and_false]
    rw [h4, decide_eq_false (by omega)]; rfl
theorem ocval_c {w : Int} (h : 0 ≤ w ∧ w < 65536) : callP Try.prog 56 [.int .u16 w] (· = .int .i64 (wordV w)) := by
  have e1 : IntKind.u16.wrap ((BitVec.ofInt IntKind.u16.bits w &&& BitVec.ofInt IntKind.u16.bits 32767).toNat : Int) = w % 32768 :=
    and_mask (k := .u16) (b := 16) (m := 15) rfl (fun y a b => wu16 a b) (by decide) h.1 h.2
  have e2 := bit14 (x := w % 32768) (by omega) (by omega)
  refine callE_def env (fn := Try.f56) rfl (by decide) rfl ?_
  by_cases hb : 16384 ≤ w % 32768
  · refine branch_t' (by rw [e1, e2]; exact decide_eq_true hb) ?_
    show Eqv _ _
    refine eqv_of_eq (congrArg (AVal.int _) ?_)
    rw [e1, wu16 (by omega) (by omega), wi (x := 32767 - w % 32768) (by omega) (by omega), wi (by omega) (by omega)]
    unfold wordV
    rw [if_pos (by omega)]; omega
  · refine branch_f' (by rw [e1, e2]; exact decide_eq_false hb) ?_
    show Eqv _ _
    refine eqv_of_eq (congrArg (AVal.int _) ?_)
    rw [e1, wi (by omega) (by omega)]
    unfold wordV
    rw [if_neg (by omega)]
def wOf (v : Int) : Int := if v < 0 then 32767 + v else v
theorem neg_c {w : Int} (h : 0 ≤ w ∧ w < 32768) : callP Try.prog 80 [.int .u16 w] (· = .int .u16 (32767 - w)) := by
  refine callE_def env (fn := Try.f80) rfl (by decide) rfl ?_
  show Eqv _ _
  refine eqv_of_eq (congrArg (AVal.int _) ?_)
  show IntKind.u16.wrap ((BitVec.ofInt IntKind.u16.bits (IntKind.u16.wrap ((BitVec.ofInt 16 65535 ^^^ BitVec.ofInt 16 w).toNat : Int)) &&& BitVec.ofInt IntKind.u16.bits 32767).toNat : Int) = _
  have hn : ((BitVec.ofInt 16 65535 ^^^ BitVec.ofInt 16 w).toNat : Int) = 65535 - w := by
    rw [show BitVec.ofInt 16 65535 = BitVec.allOnes 16 from rfl, BitVec.allOnes_xor, BitVec.toNat_not, BitVec.toNat_ofInt]
    omega
  rw [hn, wu16 (x := 65535 - w) (by omega) (by omega)]
  have := and_mask (k := .u16) (b := 16) (m := 15) (x := 65535 - w) rfl (fun y a b => wu16 a b) (by decide) (by omega) (by omega)
  rw [show ((2 : Int) ^ 15 - 1) = 32767 from rfl, show ((2 : Int) ^ 15) = 32768 from rfl] at this
  rw [this]
  omega
theorem of_c {v : Int} (h : -16383 ≤ v ∧ v ≤ 16383) : callP Try.prog 78 [.int .i64 v] (· = .tuple [.int .u16 (wOf v), .int .i64 0]) := by
  refine callE_def env (fn := Try.f78) rfl (by decide) rfl ?_
  unfold wOf
  by_cases h0 : v < 0
  · repeat refine stm ?_
    have e : IntKind.u16.wrap (IntKind.i64.wrap (0 - v)) = -v := by rw [wi (by omega) (by omega), wu16 (by omega) (by omega)]; omega
    have cn : ∀ a : Int, a = -v → callP Try.prog 80 [.int .u16 a] (· = .int .u16 (32767 + v)) := by
      rintro _ rfl
      have := neg_c (w := -v) (by omega)
      rwa [show 32767 - -v = 32767 + v by omega] at this
    refine callT_E (cn _ e) rfl ?_
    rw [if_pos h0]
    show Eqv _ _
    exact .up (.up (.refl _))
  · repeat refine stm ?_
    rw [if_neg h0]
    show Eqv _ _
    refine eqv_of_eq (congrArg (fun z => AVal.tuple [.int .u16 z, .int .i64 0]) ?_)
    rw [wu16 (by omega) (by omega)]
theorem make_c {v : Int} (h : Fit v) : callP Try.prog 79 [.int .i64 v] (· = .tuple [dblA v, .int .i64 0]) := by
  have cb := bounded_c v
  rw [out_id h, clamp_id h] at cb
  refine callE_def env (fn := Try.f79) rfl (by decide) rfl ?_
  refine callT_E cb rfl ?_
  repeat refine stm ?_
  refine callT_E (double_c h) rfl ?_
  repeat refine stm ?_
  show Eqv _ _
  exact .up (.up (.refl _))
end Go.Proofs
namespace Go.Proofs
open Go.E
set_option maxRecDepth 8000
def Words (l : List Int) : Prop := ∀ x ∈ l, 0 ≤ x ∧ x < 65536
theorem Words.at {l : List Int} (h : Words l) (i : Nat) : 0 ≤ l.getD i 0 ∧ l.getD i 0 < 65536 := by
  rw [List.getD_eq_getElem?_getD]
  rcases Nat.lt_or_ge i l.length with hi | hi
  · rw [List.getElem?_eq_getElem hi]; exact h _ (List.getElem_mem _)
  · rw [List.getElem?_eq_none hi]; decide
def valV (c : Cmp) (l : List Int) : Int × Int :=
  if validC c = false then (0, 2)
  else if c.a > (l.length : Int) - sizeV c.k then (0, 3)
  else if c.k = 1 then (l.getD c.a.toNat 0 % 32768, 0)
  else if c.k = 2 then (wordV (l.getD c.a.toNat 0), 0)
  else (valD (l.getD c.a.toNat 0) (l.getD (c.a.toNat + 1) 0), 0)
theorem val_facts2 {c : Cmp} (h : validC c = true) : 0 ≤ c.a ∧ c.a ≤ 2047 ∧ (c.k = 1 ∨ c.k = 2 ∨ c.k = 3) := by
  have h := of_decide_eq_true h
  have hs : sizeV c.k = 1 ∨ sizeV c.k = 2 := by unfold sizeV; split <;> simp
  omega
set_option maxHeartbeats 4000000 in
theorem valC_part (c : Cmp) (hc : c.Ok) (l : List Int) (hlen : l.length ≤ 9223372036854775807) (hl : Words l) (h3 : validC c = false ∨ c.a > (l.length : Int) - sizeV c.k ∨ c.k ≠ 3) : callP Try.prog 43 [cA c, ints .u16 l] (· = .tuple [.int .i64 (valV c l).1, .int .i64 (valV c l).2]) := by
  refine callE_def env (fn := Try.f43) rfl (by decide) rfl ?_
  refine callT_E (valid_c c hc) rfl ?_
  by_cases h1 : validC c = false
  · rw [h1]
    repeat refine sto ?_
    rw [valV, if_pos h1]
    show Eqv _ _
    exact .up (.up (.refl _))
  have h1t : validC c = true := by simpa using h1
  rw [h1t]
  obtain ⟨ha0, ha1, hk⟩ := val_facts2 h1t
  have hs : sizeV c.k = 1 ∨ sizeV c.k = 2 := by unfold sizeV; split <;> simp
  repeat refine sto ?_
  refine draw_tree (picks [0, 1, 2, 3, 4, 5, 6, 7, 8] .done) (by decide +kernel) ?_
  refine ⟨_, ⟨size_c c, rfl⟩, ?_⟩
  have w1 : IntKind.i64.wrap ((l.length : Int) - sizeV c.k) = (l.length : Int) - sizeV c.k := wi (by omega) (by omega)
  rw [valV, if_neg h1]
  by_cases h2 : c.a > (l.length : Int) - sizeV c.k
  · rw [if_pos h2]
    refine branch_t' (decide_eq_true (by rw [w1]; omega)) ?_
    show Eqv _ _
    exact .up (.up (.refl _))
  rw [if_neg h2]
  refine branch_f' (decide_eq_false (by rw [w1]; omega)) ?_
  have hk3 : c.k ≠ 3 := by
    rcases h3 with h | h | h
    · exact absurd h h1
    · exact absurd h h2
    · exact h
  by_cases e1 : c.k = 1
  · rw [if_pos e1]
    rw [e1, show sizeV 1 = 1 from rfl] at h2
    repeat refine sto ?_
    apply need_intro
    · omega
    have e := and_mask (k := .u16) (b := 16) (m := 15) (x := l.getD c.a.toNat 0) rfl (fun y a b => wu16 a b) (by decide) (hl.at _).1 (hl.at _).2
    rw [show ((2 : Int) ^ 15 - 1) = 32767 from rfl, show ((2 : Int) ^ 15) = 32768 from rfl] at e
    have hb := hl.at c.a.toNat
    show Eqv _ _
    refine eqv_of_eq (congrArg (fun z => AVal.tuple [.int .i64 z, .int .i64 0]) ?_)
    exact (congrArg _ e).trans (wi (by omega) (by omega))
  rw [if_neg e1]
  have e2 : c.k = 2 := by omega
  rw [if_pos e2]
  rw [e2, show sizeV 2 = 1 from rfl] at h2
  repeat refine sto ?_
  apply need_intro
  · omega
  refine callT_E (ocval_c (hl.at c.a.toNat)) rfl ?_
  repeat refine sto ?_
  show Eqv _ _
  exact .up (.up (.refl _))
end Go.Proofs
