/- Chapter 13, part rc: the reference's Parse. -/
import Derived.Test.YtkjljhpmkhmmoaaC5
set_option linter.unusedVariables false
set_option linter.unusedSimpArgs false
/-! Rc. -/
namespace Go.Proofs
open Go.E

def rbadT : AVal := .tuple [ints .u8 [], .bool false]
def rparseV (s : ByteArray) : AVal := if goodT s = false then rbadT else .tuple [ints .u8 (bitsOf (numL s.data.toList 0)), .bool true]
theorem rparse_bad {s : ByteArray} (h : goodT s = false) : rparseV s = rbadT := by rw [rparseV, if_pos h]
theorem rparseV_closed (s : ByteArray) : (rparseV s).closed2 = true := by unfold rparseV; split <;> rfl
theorem rbad_eqv : Eqv (.tuple [.nilslice, .bool false]) rbadT := .tuple (.cons (.up (.nil _ _)) (.cons (.up (.refl _)) .nil))
def RpOk (s : ByteArray) (i : Nat) : Prop := i ≤ s.size ∧ (s.data.toList.take i).all dig = true ∧ bitLen (numL (s.data.toList.take i) 0) ≤ 4 * i
theorem num_step {v d : Nat} (hd : d ≤ 9) {i : Nat} (h : bitLen v ≤ 4 * i) : bitLen (10 * v + d) ≤ 4 * (i + 1) := by
  have := bitLen_le.1 h
  refine bitLen_le.2 ?_
  rw [show 4 * (i + 1) = 4 * i + 4 by omega, Nat.pow_add]
  generalize 2 ^ (4 * i) = p at *
  omega

set_option maxRecDepth 8000 in
set_option maxHeartbeats 2000000 in
theorem rparse_c (s : ByteArray) (hs : s.size ≤ 400) : callP Try.prog 37 [.str s] (· = rparseV s) := by
  refine callE_def env (fn := Try.f37) rfl (by decide) (rparseV_closed s) ?_
  by_cases h0 : s.size = 0
  · refine branch_t' (empty_iff.2 h0) ?_
    repeat (first | refine branch_true ?_ | refine branch_false ?_ | refine branch_f' (bne_self_eq_false _) ?_ | refine branch_t' (beq_self_eq_true _) ?_ | refine branch_t' (decide_eq_true rfl) ?_)
    show Eqv _ _
    rw [rparse_bad (by rw [goodT, decide_eq_true h0]; rfl)]
    exact rbad_eqv
  refine branch_f' (by rw [← Bool.not_eq_true, empty_iff]; exact h0) ?_
  repeat (first | refine branch_true ?_ | refine branch_false ?_ | refine branch_f' (bne_self_eq_false _) ?_ | refine branch_t' (beq_self_eq_true _) ?_ | refine branch_t' (decide_eq_true rfl) ?_)
  by_cases h1 : 1 < s.size
  · repeat (first | refine branch_true ?_ | refine branch_false ?_ | refine branch_t' (decide_eq_true (by omega)) ?_ | refine branch_f' (decide_eq_false (by omega)) ?_)
    apply need_intro
    · first | omega | (dsimp only; omega)
    repeat (first | refine branch_true ?_ | refine branch_false ?_ | refine branch_t' (decide_eq_true (by omega)) ?_ | refine branch_f' (decide_eq_false (by omega)) ?_)
    by_cases hz : (byteAt s 0).toNat = 48
    · refine branch_t' (by show (((byteAt s 0).toNat : Int) == 48) = true; rw [hz]; rfl) ?_
      repeat (first | refine branch_true ?_ | refine branch_false ?_ | refine branch_t' (decide_eq_true (by omega)) ?_ | refine branch_f' (decide_eq_false (by omega)) ?_)
      show Eqv _ _
      rw [rparse_bad (by rw [goodT, decide_eq_true h1, decide_eq_true hz]; simp)]
      exact rbad_eqv
    refine branch_f' (by show (((byteAt s 0).toNat : Int) == 48) = false; exact beq_eq_false_iff_ne.2 (by omega)) ?_
    repeat (first | refine branch_true ?_ | refine branch_false ?_ | refine branch_t' (decide_eq_true (by omega)) ?_ | refine branch_f' (decide_eq_false (by omega)) ?_)
    refine loop_weak (fun i : Nat => slots 47 [(0, .str s), (4, ints .u8 (bitsOf (numL (s.data.toList.take i) 0))), (5, .int .i64 i)]) (fun _ => [])
      (RpOk s) (fun i => s.size - i) 0 ⟨Nat.zero_le _, by simp, by rw [List.take_zero, numL, bitLen_zero]; omega⟩ ((weak_slot 4 (v' := ints .u8 []) (.up (.up (.nil _ _))) rfl).trans (weak_keep (keep 47 [0, 4, 5]) [] rfl ?_ rfl)) ?_
    · rw [List.take_zero, numL, bitsOf_zero]
      rfl
    rintro i ⟨hi, hd, hbl⟩
    have et : ((i : Int)).toNat = i := by omega
    apply branch_intro <;> intro h2
    · have hlt : i < s.size := by simp at h2; omega
      have ei : IntKind.i64.wrap ((i : Int) + 1) = ((i + 1 : Nat) : Int) := by rw [wi (by omega) (by omega)]; rfl
      apply need_intro
      · first | omega | (dsimp only; omega)
      conv => whnf
      rw [et]
      by_cases hb : dig (byteAt s i) = true
      · have hb' : 48 ≤ (s.data.toList.getD i 0).toNat ∧ (s.data.toList.getD i 0).toNat ≤ 57 := dig_iff.1 hb
        repeat (first | refine branch_true ?_ | refine branch_false ?_ | refine branch_t' (decide_eq_true (by omega)) ?_ | refine branch_f' (decide_eq_false (by omega)) ?_)
        apply need_intro
        · first | omega | (dsimp only; omega)
        conv => whnf
        rw [et]
        repeat (first | refine branch_true ?_ | refine branch_false ?_ | refine branch_t' (decide_eq_true (by omega)) ?_ | refine branch_f' (decide_eq_false (by omega)) ?_)
        have hnum : numL (s.data.toList.take (i + 1)) 0 = 10 * numL (s.data.toList.take i) 0 + ((s.data.toList.getD i 0).toNat - 48) := by
          rw [take_byte hlt, numL_snoc]; rfl
        obtain ⟨d, hd'⟩ : ∃ d, d = (s.data.toList.getD i 0).toNat - 48 := ⟨_, rfl⟩
        rw [← hd'] at hnum
        have e0 : IntKind.u64.wrap (IntKind.u8.wrap (((s.data.toList.getD i 0).toNat : Int) - 48)) = (d : Int) := by
          rw [wu8 (by omega) (by omega), wu64 (by omega) (by omega)]
          omega
        obtain ⟨v, hv⟩ : ∃ v, v = numL (s.data.toList.take i) 0 := ⟨_, rfl⟩
        rw [← hv] at hnum hbl
        rw [← hv]
        have c1 := rshl_c v 3 (by omega) (by omega)
        have c2 := rshl_c v 1 (by omega) (by omega)
        have b1 := bitLen_two_mul 3 v
        have b2 := bitLen_two_mul 1 v
        have c3 := radd_c (2 ^ 3 * v) (2 ^ 1 * v) (by omega) (by omega)
        have c4 := rof_c (n := d) (by omega)
        have b3 := bitLen_add_le (y := 2 ^ 1 * v) (m := 3 + bitLen v) b1 (by omega)
        have b4 : bitLen d ≤ 64 := bitLen_le.2 (by omega)
        have c5 := radd_c (2 ^ 3 * v + 2 ^ 1 * v) d (by omega) (by omega)
        rw [show 2 ^ 3 * v + 2 ^ 1 * v + d = numL (s.data.toList.take (i + 1)) 0 by omega] at c5
        have hstep := num_step (d := d) (by omega) hbl
        rw [← hnum] at hstep
        rw [← e0] at c4
        refine draw_intro [0, 1, 2, 3, 4, 5, 6, 7, 8, 9, 10, 11, 12] (by decide +kernel) ?_
        refine ⟨_, ⟨c1, rfl⟩, ?_⟩
        refine ⟨_, ⟨c2, rfl⟩, ?_⟩
        refine ⟨_, ⟨c3, rfl⟩, ?_⟩
        apply need_intro
        · first | omega | (dsimp only; omega)
        refine ⟨_, ⟨c4, rfl⟩, ?_⟩
        refine ⟨_, ⟨c5, rfl⟩, ?_⟩
        refine ⟨i + 1, ⟨hlt, ?_, hstep⟩, by omega, weak_keep (keep 47 [0, 4, 5]) [] rfl ?_ rfl⟩
        · rw [take_byte hlt, List.all_append, hd]
          simp [hb]
        · rw [ei]
          rfl
      · have hgood : goodT s = false := by
          have hmem : byteAt s i ∈ s.data.toList := by
            have : i < s.data.toList.length := by rw [size_list]; exact hlt
            rw [byteAt, List.getD_eq_getElem?_getD, List.getElem?_eq_getElem this]
            exact List.getElem_mem this
          have : s.data.toList.all dig = false := by
            rw [← Bool.not_eq_true, List.all_eq_true]
            exact fun h => hb (h _ hmem)
          rw [goodT, this, Bool.and_false]
        have hb' : ¬ (48 ≤ (s.data.toList.getD i 0).toNat ∧ (s.data.toList.getD i 0).toNat ≤ 57) := fun h => hb (dig_iff.2 h)
        by_cases h48 : 48 ≤ (s.data.toList.getD i 0).toNat
        · repeat (first | refine branch_true ?_ | refine branch_false ?_ | refine branch_t' (decide_eq_true (by omega)) ?_ | refine branch_f' (decide_eq_false (by omega)) ?_)
          apply need_intro
          · first | omega | (dsimp only; omega)
          conv => whnf
          rw [et]
          repeat (first | refine branch_true ?_ | refine branch_false ?_ | refine branch_t' (decide_eq_true (by omega)) ?_ | refine branch_f' (decide_eq_false (by omega)) ?_)
          show Eqv _ _
          rw [rparse_bad hgood]
          exact rbad_eqv
        · repeat (first | refine branch_true ?_ | refine branch_false ?_ | refine branch_t' (decide_eq_true (by omega)) ?_ | refine branch_f' (decide_eq_false (by omega)) ?_)
          show Eqv _ _
          rw [rparse_bad hgood]
          exact rbad_eqv
    have hin : i = s.size := by simp at h2; omega
    subst hin
    rw [List.take_of_length_le (by rw [size_list]; exact Nat.le_refl _)] at hd
    have hgood : goodT s = true := by
      rw [goodT, hd, decide_eq_false h0]
      simp only [Bool.not_false, Bool.true_and, Bool.and_true, Bool.not_eq_true', Bool.and_eq_false_iff, decide_eq_false_iff_not]
      omega
    show Eqv _ _
    rw [rparseV, hgood, if_neg (by decide), List.take_of_length_le (by rw [size_list]; exact Nat.le_refl _)]
    exact .up (.up (.refl _))
  · have hz : ¬ (1 < s.size ∧ (byteAt s 0).toNat = 48) := fun h => h1 h.1
    repeat (first | refine branch_true ?_ | refine branch_false ?_ | refine branch_t' (decide_eq_true (by omega)) ?_ | refine branch_f' (decide_eq_false (by omega)) ?_)
    refine loop_weak (fun i : Nat => slots 47 [(0, .str s), (4, ints .u8 (bitsOf (numL (s.data.toList.take i) 0))), (5, .int .i64 i)]) (fun _ => [])
      (RpOk s) (fun i => s.size - i) 0 ⟨Nat.zero_le _, by simp, by rw [List.take_zero, numL, bitLen_zero]; omega⟩ ((weak_slot 4 (v' := ints .u8 []) (.up (.up (.nil _ _))) rfl).trans (weak_keep (keep 47 [0, 4, 5]) [] rfl ?_ rfl)) ?_
    · rw [List.take_zero, numL, bitsOf_zero]
      rfl
    rintro i ⟨hi, hd, hbl⟩
    have et : ((i : Int)).toNat = i := by omega
    apply branch_intro <;> intro h2
    · have hlt : i < s.size := by simp at h2; omega
      have ei : IntKind.i64.wrap ((i : Int) + 1) = ((i + 1 : Nat) : Int) := by rw [wi (by omega) (by omega)]; rfl
      apply need_intro
      · first | omega | (dsimp only; omega)
      conv => whnf
      rw [et]
      by_cases hb : dig (byteAt s i) = true
      · have hb' : 48 ≤ (s.data.toList.getD i 0).toNat ∧ (s.data.toList.getD i 0).toNat ≤ 57 := dig_iff.1 hb
        repeat (first | refine branch_true ?_ | refine branch_false ?_ | refine branch_t' (decide_eq_true (by omega)) ?_ | refine branch_f' (decide_eq_false (by omega)) ?_)
        apply need_intro
        · first | omega | (dsimp only; omega)
        conv => whnf
        rw [et]
        repeat (first | refine branch_true ?_ | refine branch_false ?_ | refine branch_t' (decide_eq_true (by omega)) ?_ | refine branch_f' (decide_eq_false (by omega)) ?_)
        have hnum : numL (s.data.toList.take (i + 1)) 0 = 10 * numL (s.data.toList.take i) 0 + ((s.data.toList.getD i 0).toNat - 48) := by
          rw [take_byte hlt, numL_snoc]; rfl
        obtain ⟨d, hd'⟩ : ∃ d, d = (s.data.toList.getD i 0).toNat - 48 := ⟨_, rfl⟩
        rw [← hd'] at hnum
        have e0 : IntKind.u64.wrap (IntKind.u8.wrap (((s.data.toList.getD i 0).toNat : Int) - 48)) = (d : Int) := by
          rw [wu8 (by omega) (by omega), wu64 (by omega) (by omega)]
          omega
        obtain ⟨v, hv⟩ : ∃ v, v = numL (s.data.toList.take i) 0 := ⟨_, rfl⟩
        rw [← hv] at hnum hbl
        rw [← hv]
        have c1 := rshl_c v 3 (by omega) (by omega)
        have c2 := rshl_c v 1 (by omega) (by omega)
        have b1 := bitLen_two_mul 3 v
        have b2 := bitLen_two_mul 1 v
        have c3 := radd_c (2 ^ 3 * v) (2 ^ 1 * v) (by omega) (by omega)
        have c4 := rof_c (n := d) (by omega)
        have b3 := bitLen_add_le (y := 2 ^ 1 * v) (m := 3 + bitLen v) b1 (by omega)
        have b4 : bitLen d ≤ 64 := bitLen_le.2 (by omega)
        have c5 := radd_c (2 ^ 3 * v + 2 ^ 1 * v) d (by omega) (by omega)
        rw [show 2 ^ 3 * v + 2 ^ 1 * v + d = numL (s.data.toList.take (i + 1)) 0 by omega] at c5
        have hstep := num_step (d := d) (by omega) hbl
        rw [← hnum] at hstep
        rw [← e0] at c4
        refine draw_intro [0, 1, 2, 3, 4, 5, 6, 7, 8, 9, 10, 11, 12] (by decide +kernel) ?_
        refine ⟨_, ⟨c1, rfl⟩, ?_⟩
        refine ⟨_, ⟨c2, rfl⟩, ?_⟩
        refine ⟨_, ⟨c3, rfl⟩, ?_⟩
        apply need_intro
        · first | omega | (dsimp only; omega)
        refine ⟨_, ⟨c4, rfl⟩, ?_⟩
        refine ⟨_, ⟨c5, rfl⟩, ?_⟩
        refine ⟨i + 1, ⟨hlt, ?_, hstep⟩, by omega, weak_keep (keep 47 [0, 4, 5]) [] rfl ?_ rfl⟩
        · rw [take_byte hlt, List.all_append, hd]
          simp [hb]
        · rw [ei]
          rfl
      · have hgood : goodT s = false := by
          have hmem : byteAt s i ∈ s.data.toList := by
            have : i < s.data.toList.length := by rw [size_list]; exact hlt
            rw [byteAt, List.getD_eq_getElem?_getD, List.getElem?_eq_getElem this]
            exact List.getElem_mem this
          have : s.data.toList.all dig = false := by
            rw [← Bool.not_eq_true, List.all_eq_true]
            exact fun h => hb (h _ hmem)
          rw [goodT, this, Bool.and_false]
        have hb' : ¬ (48 ≤ (s.data.toList.getD i 0).toNat ∧ (s.data.toList.getD i 0).toNat ≤ 57) := fun h => hb (dig_iff.2 h)
        by_cases h48 : 48 ≤ (s.data.toList.getD i 0).toNat
        · repeat (first | refine branch_true ?_ | refine branch_false ?_ | refine branch_t' (decide_eq_true (by omega)) ?_ | refine branch_f' (decide_eq_false (by omega)) ?_)
          apply need_intro
          · first | omega | (dsimp only; omega)
          conv => whnf
          rw [et]
          repeat (first | refine branch_true ?_ | refine branch_false ?_ | refine branch_t' (decide_eq_true (by omega)) ?_ | refine branch_f' (decide_eq_false (by omega)) ?_)
          show Eqv _ _
          rw [rparse_bad hgood]
          exact rbad_eqv
        · repeat (first | refine branch_true ?_ | refine branch_false ?_ | refine branch_t' (decide_eq_true (by omega)) ?_ | refine branch_f' (decide_eq_false (by omega)) ?_)
          show Eqv _ _
          rw [rparse_bad hgood]
          exact rbad_eqv
    have hin : i = s.size := by simp at h2; omega
    subst hin
    rw [List.take_of_length_le (by rw [size_list]; exact Nat.le_refl _)] at hd
    have hgood : goodT s = true := by
      rw [goodT, hd, decide_eq_false h0]
      simp only [Bool.not_false, Bool.true_and, Bool.and_true, Bool.not_eq_true', Bool.and_eq_false_iff, decide_eq_false_iff_not]
      omega
    show Eqv _ _
    rw [rparseV, hgood, if_neg (by decide), List.take_of_length_le (by rw [size_list]; exact Nat.le_refl _)]
    exact .up (.up (.refl _))
end Go.Proofs
/-! Rd. -/
namespace Go.Proofs
open Go.E

/-- Twice the digits, plus a carry. -/
def dblL : List Int → Int → List Int
  | [], c => if 0 < c then [c] else []
  | d :: r, c => (2 * d + c) % 10 :: dblL r ((2 * d + c) / 10)
theorem dblL_decD (v : Nat) : ∀ c : Nat, c ≤ 1 → dblL (decD v) c = decD (2 * v + c) := by
  induction v using Nat.strongRecOn with
  | ind v ih =>
    intro c hc
    by_cases h : v < 10
    · rw [decD_small h, dblL, dblL]
      by_cases h2 : 2 * v + c < 10
      · rw [decD_small h2, if_neg (by omega), show (2 * (v : Int) + c) % 10 = ((2 * v + c : Nat) : Int) by omega]
      · rw [decD_big h2, if_pos (by omega), decD_small (by omega), show (2 * (v : Int) + c) % 10 = (((2 * v + c) % 10 : Nat) : Int) by omega, show (2 * (v : Int) + c) / 10 = (((2 * v + c) / 10 : Nat) : Int) by omega]
    · rw [decD_big h, dblL]
      obtain ⟨c', hc'⟩ : ∃ c', c' = (2 * (v % 10) + c) / 10 := ⟨_, rfl⟩
      have e1 : (2 * ((v % 10 : Nat) : Int) + c) / 10 = (c' : Int) := by omega
      have e2 : (2 * ((v % 10 : Nat) : Int) + c) % 10 = (((2 * v + c) % 10 : Nat) : Int) := by omega
      rw [e1, e2, ih (v / 10) (by omega) c' (by omega), decD_big (n := 2 * v + c) (by omega), show 2 * (v / 10) + c' = (2 * v + c) / 10 by omega]
theorem decD_len_bit (v : Nat) : (decD v).length ≤ bitLen v + 1 := by
  have := (digL_facts v).2.2.2.2
  rw [digL, List.length_map, List.length_reverse, ascii, List.length_map] at this
  exact this
def Dig9 (l : List Int) : Prop := ∀ x ∈ l, 0 ≤ x ∧ x ≤ 9
theorem digits_extract : ∀ d : Fin 10, (⟨#[48, 49, 50, 51, 52, 53, 54, 55, 56, 57]⟩ : ByteArray).extract d.1 (d.1 + 1) = ⟨#[UInt8.ofNat (48 + d.1)]⟩ := by decide +kernel
theorem bytesI_snoc (l : List Int) (x : Int) : bytesI (l ++ [x]) = bytesI l ++ ⟨#[UInt8.ofNat x.toNat]⟩ := by
  unfold bytesI
  refine ByteArray.ext ?_
  rw [ByteArray.data_append]
  simp
theorem drop_get {l : List Int} {j : Nat} (h : j < l.length) : l.drop j = l.getD j 0 :: l.drop (j + 1) := by
  rw [List.drop_eq_getElem_cons h, List.getD_eq_getElem?_getD, List.getElem?_eq_getElem h]
  rfl
structure RdSt where
  j : Nat
  c : Nat
  out : List Int
set_option maxRecDepth 8000 in
set_option maxHeartbeats 2000000 in
theorem rdecimal_c (x : Nat) (hx : bitLen x ≤ 1000000) : callP Try.prog 39 [ints .u8 (bitsOf x)] (· = .str (decS x)) := by
  have hbl := bitsOf_len x
  refine callE_def env (fn := Try.f39) rfl (by decide) rfl ?_
  apply choice_r
  have e0 : IntKind.i64.wrap (((bitsOf x).length : Int) - 1) = ((bitLen x : Nat) : Int) - 1 := by rw [hbl, wi (by omega) (by omega)]
  refine loop_weak (fun k : Nat => slots 68 [(0, ints .u8 (bitsOf x)), (3, .slice ⟨0, 0, 0⟩ (decD (x / 2 ^ k)).length), (4, .int .i64 ((k : Int) - 1))]) (fun k => [.ints .u8 (decD (x / 2 ^ k))])
    (fun k => k ≤ bitLen x) (fun k => k) (bitLen x) (Nat.le_refl _) (weak_keep (keep 68 [0, 3, 4]) [0] rfl ?_ ?_) ?_
  · have e1 : x / 2 ^ bitLen x = 0 := Nat.div_eq_of_lt (bitLen_le.1 (Nat.le_refl _))
    show [_, _, _, _, _, _, _, _, _, _, _, _, _, _, _, _, _, _, _, _, _, _, _, _, _, _, _, _, _, _, _, _, _, _, _, _, _, _, _, _, _, _, _, _, _, _, _, _, _, _, _, _, _, _, _, _, _, _, _, _, _, _, _, _, _, _, _, _] = _
    simp only [e0, e1, decD_small (show 0 < 10 by decide)]
    rfl
  · have e1 : x / 2 ^ bitLen x = 0 := Nat.div_eq_of_lt (bitLen_le.1 (Nat.le_refl _))
    rw [e1, decD_small (by decide)]
    rfl
  intro k hk
  apply branch_intro <;> intro h
  · obtain ⟨m, rfl⟩ : ∃ m, k = m + 1 := ⟨k - 1, by simp at h; omega⟩
    have em : ((m + 1 : Nat) : Int) - 1 = m := by omega
    have emt : ((((m + 1 : Nat) : Int) - 1)).toNat = m := by omega
    obtain ⟨b, hb⟩ : ∃ b, b = x / 2 ^ m % 2 := ⟨_, rfl⟩
    have hg : (bitsOf x).getD m 0 = (b : Int) := by
      rw [bv_at (bin_bitsOf x), bv_bitsOf, hb]
    obtain ⟨v, hv⟩ : ∃ v, v = x / 2 ^ (m + 1) := ⟨_, rfl⟩
    have hv2 : 2 * v + b = x / 2 ^ m := by
      rw [hv, hb, Nat.pow_succ, ← Nat.div_div_eq_div_mul]
      omega
    rw [← hv]
    have hbv : bitLen v ≤ bitLen x := by rw [hv]; exact bitLen_mono (Nat.div_le_self _ _)
    have hdl := dblL_decD v b (by omega)
    rw [hv2] at hdl
    have hD9 := decD_bound v
    have hDl := decD_len_bit v
    generalize decD v = D at *
    apply need_intro
    · simp only [em]; omega
    refine loop_weak (fun t : RdSt => slots 68 [(0, ints .u8 (bitsOf x)), (3, .slice ⟨0, 0, 0⟩ D.length), (4, .int .i64 m), (5, .int .u8 t.c), (6, .int .i64 t.j)]) (fun t => [.ints .u8 (t.out ++ D.drop t.j)])
      (fun t => t.j ≤ D.length ∧ t.out.length = t.j ∧ t.c ≤ 1 ∧ decD (x / 2 ^ m) = t.out ++ dblL (D.drop t.j) t.c) (fun t => D.length - t.j) ⟨0, b, []⟩ ⟨Nat.zero_le _, rfl, by simp only; omega, hdl.symm⟩ (weak_keep (keep 68 [0, 3, 4, 5, 6]) [0] rfl ?_ rfl) ?_
    · show [_, _, _, _, _, _, _, _, _, _, _, _, _, _, _, _, _, _, _, _, _, _, _, _, _, _, _, _, _, _, _, _, _, _, _, _, _, _, _, _, _, _, _, _, _, _, _, _, _, _, _, _, _, _, _, _, _, _, _, _, _, _, _, _, _, _, _, _] = _
      simp only [em, Int.toNat_natCast, hg]
      rfl
    rintro ⟨j, c, out⟩ ⟨hj, ho, hc, hd⟩
    simp only at hj ho hc hd
    apply branch_intro <;> intro h2
    · have hjl : j < D.length := by simp at h2; omega
      have hL : (out ++ D.drop j).length = D.length := by simp [ho]; omega
      have hgj := mid_get (l := D) ho
      obtain ⟨y, hy⟩ : ∃ y : Nat, D.getD j 0 = y := ⟨(D.getD j 0).toNat, by
        have := hD9 (D.getD j 0) (by rw [List.getD_eq_getElem?_getD, List.getElem?_eq_getElem hjl]; exact List.getElem_mem hjl)
        omega⟩
      have hy9 : y ≤ 9 := by
        have := hD9 (D.getD j 0) (by rw [List.getD_eq_getElem?_getD, List.getElem?_eq_getElem hjl]; exact List.getElem_mem hjl)
        omega
      rw [hy] at hgj
      have ej : 0 + ((j : Int)).toNat + 0 = j := by simp
      have ej1 : IntKind.i64.wrap ((j : Int) + 1) = ((j + 1 : Nat) : Int) := by rw [wi (by omega) (by omega)]; rfl
      have m1 : IntKind.u8.wrap (IntKind.u8.wrap (2 * (y : Int)) + c) = ((2 * y + c : Nat) : Int) := by
        rw [wu8 (x := 2 * (y : Int)) (by omega) (by omega), wu8 (by omega) (by omega)]
        omega
      have m2 : (((2 * y + c : Nat) : Int)).tmod 10 = (((2 * y + c) % 10 : Nat) : Int) := by
        rw [Int.tmod_eq_emod_of_nonneg (by omega)]
        omega
      have m3 : (((2 * y + c : Nat) : Int)).tdiv 10 = (((2 * y + c) / 10 : Nat) : Int) := by
        rw [Int.tdiv_eq_ediv_of_nonneg (by omega)]
        omega
      have m4 : IntKind.u8.wrap ((((2 * y + c) / 10 : Nat) : Int)) = (((2 * y + c) / 10 : Nat) : Int) := wu8 (by omega) (by omega)
      apply need_intro
      · dsimp only; omega
      apply need_intro
      · dsimp only
        rw [hL]; omega
      apply need_intro
      · decide
      apply need_intro
      · dsimp only; omega
      apply need_intro
      · dsimp only
        rw [hL]; omega
      apply need_intro
      · decide
      refine ⟨⟨j + 1, (2 * y + c) / 10, out ++ [(((2 * y + c) % 10 : Nat) : Int)]⟩, ⟨hjl, by simp [ho], by simp only; omega, ?_⟩, by simp only; omega, weak_keep (keep 68 [0, 3, 4, 5, 6]) [0] rfl ?_ ?_⟩
      · simp only
        rw [hd, List.append_assoc, drop_get hjl, hy, dblL, show (2 * (y : Int) + c) % 10 = (((2 * y + c) % 10 : Nat) : Int) by omega, show (2 * (y : Int) + c) / 10 = (((2 * y + c) / 10 : Nat) : Int) by omega]
        rfl
      · show [_, _, _, _, _, _, _, _, _, _, _, _, _, _, _, _, _, _, _, _, _, _, _, _, _, _, _, _, _, _, _, _, _, _, _, _, _, _, _, _, _, _, _, _, _, _, _, _, _, _, _, _, _, _, _, _, _, _, _, _, _, _, _, _, _, _, _, _] = _
        simp only [ej, hgj, m1, m3, m4, ej1]
        rfl
      · simp only [ej, hgj, m1, m2]
        show [Blk.ints _ _] = _
        rw [mid_set ho hjl]
    · have hjl : j = D.length := by simp at h2; omega
      subst hjl
      have eb : out ++ D.drop D.length = out := by rw [List.drop_length, List.append_nil]
      rw [List.drop_length, dblL] at hd
      have em1 : IntKind.i64.wrap ((m : Int) - 1) = (m : Int) - 1 := wi (by omega) (by omega)
      apply branch_intro <;> intro h3
      · have hc0 : 0 < (c : Int) := by simp at h3; omega
        rw [if_pos hc0] at hd
        apply choice_l
        apply need_intro
        · show (D.length + 1) * 1 ≤ 2 ^ 40
          omega
        apply need_intro
        · exact ⟨by show 0 + D.length = (out ++ D.drop D.length).length; rw [eb]; omega, isRow_irow _ _ _⟩
        refine ⟨m, by omega, by omega, weak_keep (keep 68 [0, 3, 4]) [0] rfl ?_ ?_⟩
        · rw [hd]
          show [_, _, _, _, _, _, _, _, _, _, _, _, _, _, _, _, _, _, _, _, _, _, _, _, _, _, _, _, _, _, _, _, _, _, _, _, _, _, _, _, _, _, _, _, _, _, _, _, _, _, _, _, _, _, _, _, _, _, _, _, _, _, _, _, _, _, _, _] = _
          simp only [em1, List.length_append, List.length_cons, List.length_nil, ho]
          rfl
        · rw [hd]
          show [Blk.ints _ _] = _
          simp only [eb]
          rw [snoc_row]
      · have hc0 : c = 0 := by simp at h3; omega
        subst hc0
        rw [if_neg (by omega), List.append_nil] at hd
        refine ⟨m, by omega, by omega, weak_keep (keep 68 [0, 3, 4]) [0] rfl ?_ ?_⟩
        · rw [hd]
          show [_, _, _, _, _, _, _, _, _, _, _, _, _, _, _, _, _, _, _, _, _, _, _, _, _, _, _, _, _, _, _, _, _, _, _, _, _, _, _, _, _, _, _, _, _, _, _, _, _, _, _, _, _, _, _, _, _, _, _, _, _, _, _, _, _, _, _, _] = _
          simp only [em1, ho]
          rfl
        · rw [hd]
          show [Blk.ints _ _] = _
          simp only [eb]
  · have hk0 : k = 0 := by simp at h; omega
    subst hk0
    rw [Nat.pow_zero, Nat.div_one]
    have hD9 := decD_bound x
    have hDl := decD_len_bit x
    rw [decS]
    generalize decD x = D at *
    have eL : IntKind.i64.wrap ((D.length : Int) - 1) = (D.length : Int) - 1 := wi (by omega) (by omega)
    refine loop_weak (fun k : Nat => slots 68 [(3, .slice ⟨0, 0, 0⟩ D.length), (8, .str (bytesI (ascii (D.drop k)).reverse)), (9, .int .i64 ((k : Int) - 1))]) (fun k => [.ints .u8 D])
      (fun k => k ≤ D.length) (fun k => k) D.length (Nat.le_refl _) (weak_keep (keep 68 [3, 8, 9]) [0] rfl ?_ rfl) ?_
    · show [_, _, _, _, _, _, _, _, _, _, _, _, _, _, _, _, _, _, _, _, _, _, _, _, _, _, _, _, _, _, _, _, _, _, _, _, _, _, _, _, _, _, _, _, _, _, _, _, _, _, _, _, _, _, _, _, _, _, _, _, _, _, _, _, _, _, _, _] = _
      simp only [eL, List.drop_length]
      rfl
    intro k hk
    apply branch_intro <;> intro h3
    · obtain ⟨m, rfl⟩ : ∃ m, k = m + 1 := ⟨k - 1, by simp at h3; omega⟩
      have em : ((m + 1 : Nat) : Int) - 1 = m := by omega
      refine draw_intro [0, 1, 2, 3, 4, 5, 6, 7, 8, 9, 10, 11, 12] (by decide +kernel) ?_
      obtain ⟨y, hy⟩ : ∃ y : Nat, D.getD m 0 = y := ⟨(D.getD m 0).toNat, by
        have := hD9 (D.getD m 0) (by rw [List.getD_eq_getElem?_getD, List.getElem?_eq_getElem (by omega)]; exact List.getElem_mem (by omega))
        omega⟩
      have hy9 : y ≤ 9 := by
        have := hD9 (D.getD m 0) (by rw [List.getD_eq_getElem?_getD, List.getElem?_eq_getElem (by omega)]; exact List.getElem_mem (by omega))
        omega
      have emm : 0 + ((m : Int)).toNat + 0 = m := by simp
      have ey : IntKind.u8.wrap ((y : Int) + 1) = ((y + 1 : Nat) : Int) := by rw [wu8 (by omega) (by omega)]; rfl
      have em1 : IntKind.i64.wrap ((m : Int) - 1) = (m : Int) - 1 := wi (by omega) (by omega)
      have hx10 := digits_extract ⟨y, by omega⟩
      apply need_intro
      · simp only [em]; omega
      apply need_intro
      · simp only [em, Int.toNat_natCast]; omega
      apply need_intro
      · simp only [em]; omega
      apply need_intro
      · simp only [em, Int.toNat_natCast]; omega
      apply need_intro
      · simp only [em, Int.toNat_natCast, Nat.zero_add, Nat.add_zero, hy, ey]
        exact ⟨by omega, by omega, by show ((y + 1 : Nat) : Int) ≤ 10; omega⟩
      apply need_intro
      · simp only [em, Int.toNat_natCast, Nat.zero_add, Nat.add_zero, hy, ey, hx10]
        have e1 : (bytesI (ascii (D.drop (m + 1))).reverse).size = D.length - (m + 1) := by
          rw [← size_list]
          unfold bytesI ascii
          simp
        rw [e1]
        show ((D.length - (m + 1) + 1 : Nat) : Int) ≤ 9223372036854775807
        omega
      refine ⟨m, by omega, by omega, weak_keep (keep 68 [3, 8, 9]) [0] rfl ?_ rfl⟩
      have hacc : bytesI (ascii (D.drop m)).reverse = bytesI (ascii (D.drop (m + 1))).reverse ++ ⟨#[UInt8.ofNat (48 + y)]⟩ := by
        rw [drop_get (show m < D.length by omega), hy, ascii, List.map_cons, List.reverse_cons, bytesI_snoc, show (48 + (y : Int)).toNat = 48 + y by omega]
        rfl
      rw [hacc]
      show [_, _, _, _, _, _, _, _, _, _, _, _, _, _, _, _, _, _, _, _, _, _, _, _, _, _, _, _, _, _, _, _, _, _, _, _, _, _, _, _, _, _, _, _, _, _, _, _, _, _, _, _, _, _, _, _, _, _, _, _, _, _, _, _, _, _, _, _] = _
      simp only [em, Int.toNat_natCast, Nat.zero_add, Nat.add_zero, hy, ey, em1, hx10]
      rfl
    · have hk0 : k = 0 := by simp at h3; omega
      subst hk0
      show Eqv _ _
      exact .up (.up (.refl _))
end Go.Proofs
/-! Re. -/
namespace Go.Proofs
open Go.E

theorem num_bits : ∀ (l : List UInt8) (v k : Nat), l.all dig = true → bitLen v ≤ 4 * k → bitLen (numL l v) ≤ 4 * (k + l.length)
  | [], v, k, _, h => h
  | b :: r, v, k, ha, h => by
    rw [List.all_cons, Bool.and_eq_true] at ha
    have := dig_iff.1 ha.1
    have := num_bits r (10 * v + (b.toNat - 48)) (k + 1) ha.2 (num_step (by omega) h)
    rw [numL, List.length_cons]
    exact Nat.le_trans this (by omega)

set_option maxRecDepth 8000 in
set_option maxHeartbeats 2000000 in
theorem texts_law (a : List Int) (_ : a.length ≤ maxLen) (la : Limbs a) (s : ByteArray) (hsm : s.size ≤ maxLen) : callP Try.prog 8 [ints .u32 a, .str s] (· = .bool true) := by
  refine callE_def env (fn := Try.f8) rfl (by decide) rfl ?_
  apply branch_intro <;> intro h
  · repeat (first | refine branch_true ?_ | refine branch_false ?_ | refine branch_f' (bne_self_eq_false _) ?_ | refine branch_t' (beq_self_eq_true _) ?_ | refine branch_t' (decide_eq_true rfl) ?_)
    refine callT_E awake_c rfl ?_
    repeat (first | refine branch_true ?_ | refine branch_false ?_ | refine branch_f' (bne_self_eq_false _) ?_ | refine branch_t' (beq_self_eq_true _) ?_ | refine branch_t' (decide_eq_true rfl) ?_)
    show Eqv _ _
    exact .up (.up (.refl _))
  have ha : a.length ≤ 40 := by simp at h; omega
  repeat (first | refine branch_true ?_ | refine branch_false ?_ | refine branch_f' (bne_self_eq_false _) ?_ | refine branch_t' (beq_self_eq_true _) ?_ | refine branch_t' (decide_eq_true rfl) ?_)
  apply branch_intro <;> intro h'
  · repeat (first | refine branch_true ?_ | refine branch_false ?_ | refine branch_f' (bne_self_eq_false _) ?_ | refine branch_t' (beq_self_eq_true _) ?_ | refine branch_t' (decide_eq_true rfl) ?_)
    refine callT_E awake_c rfl ?_
    repeat (first | refine branch_true ?_ | refine branch_false ?_ | refine branch_f' (bne_self_eq_false _) ?_ | refine branch_t' (beq_self_eq_true _) ?_ | refine branch_t' (decide_eq_true rfl) ?_)
    show Eqv _ _
    exact .up (.up (.refl _))
  have hs : s.size ≤ 400 := by simp at h'; omega
  have ga := G.of la ha
  have c1 := parse_c s hsm
  have c2 := rparse_c s hs
  have d1 := decimal_c (a := a) (by omega) la
  have d2 := value_c (small_of ha (by decide)) la
  have hx := ga.2.2.1
  generalize val a = x at *
  have d3 := rdecimal_c x (by omega)
  repeat (first | refine branch_true ?_ | refine branch_false ?_ | refine branch_f' (bne_self_eq_false _) ?_ | refine branch_t' (beq_self_eq_true _) ?_ | refine branch_t' (decide_eq_true rfl) ?_)
  by_cases hg : goodT s = true
  · have hall : s.data.toList.all dig = true := by
      rw [goodT, Bool.and_eq_true] at hg
      exact hg.2
    have hb := num_bits s.data.toList 0 0 hall (by rw [bitLen_zero]; omega)
    rw [Nat.zero_add, size_list] at hb
    rw [parseV, hg, if_neg (by decide), if_neg (by omega), limited_fit (by omega)] at c1
    rw [rparseV, hg, if_neg (by decide)] at c2
    generalize numL s.data.toList 0 = y at *
    refine callT_E c1 rfl ?_
    repeat (first | refine branch_true ?_ | refine branch_false ?_ | refine branch_f' (bne_self_eq_false _) ?_ | refine branch_t' (beq_self_eq_true _) ?_ | refine branch_t' (decide_eq_true rfl) ?_)
    refine callT_E c2 rfl ?_
    repeat (first | refine branch_true ?_ | refine branch_false ?_ | refine branch_f' (bne_self_eq_false _) ?_ | refine branch_t' (beq_self_eq_true _) ?_ | refine branch_t' (decide_eq_true rfl) ?_)
    refine callT_E (rnat_c y (by omega)) rfl ?_
    repeat (first | refine branch_true ?_ | refine branch_false ?_ | refine branch_f' (bne_self_eq_false _) ?_ | refine branch_t' (beq_self_eq_true _) ?_ | refine branch_t' (decide_eq_true rfl) ?_)
    refine callT_E (same_g (m := 50) rfl (by omega) (by decide)) rfl ?_
    repeat (first | refine branch_true ?_ | refine branch_false ?_ | refine branch_f' (bne_self_eq_false _) ?_ | refine branch_t' (beq_self_eq_true _) ?_ | refine branch_t' (decide_eq_true rfl) ?_)
    refine callT_E d1 rfl ?_
    refine callT_E d2 rfl ?_
    refine callT_E d3 rfl ?_
    repeat (first | refine branch_true ?_ | refine branch_false ?_ | refine branch_f' (bne_self_eq_false _) ?_ | refine branch_t' (beq_self_eq_true _) ?_ | refine branch_t' (decide_eq_true rfl) ?_)
    refine callT_E awake_c rfl ?_
    repeat (first | refine branch_true ?_ | refine branch_false ?_ | refine branch_f' (bne_self_eq_false _) ?_ | refine branch_t' (beq_self_eq_true _) ?_ | refine branch_t' (decide_eq_true rfl) ?_)
    show Eqv _ _
    exact .up (.up (.refl _))
  · have hg : goodT s = false := by simpa using hg
    rw [parse_bad hg] at c1
    rw [rparse_bad hg] at c2
    refine callT_E c1 rfl ?_
    repeat (first | refine branch_true ?_ | refine branch_false ?_ | refine branch_f' (bne_self_eq_false _) ?_ | refine branch_t' (beq_self_eq_true _) ?_ | refine branch_t' (decide_eq_true rfl) ?_)
    refine callT_E c2 rfl ?_
    repeat (first | refine branch_true ?_ | refine branch_false ?_ | refine branch_f' (bne_self_eq_false _) ?_ | refine branch_t' (beq_self_eq_true _) ?_ | refine branch_t' (decide_eq_true rfl) ?_)
    refine callT_E d1 rfl ?_
    refine callT_E d2 rfl ?_
    refine callT_E d3 rfl ?_
    repeat (first | refine branch_true ?_ | refine branch_false ?_ | refine branch_f' (bne_self_eq_false _) ?_ | refine branch_t' (beq_self_eq_true _) ?_ | refine branch_t' (decide_eq_true rfl) ?_)
    refine callT_E awake_c rfl ?_
    repeat (first | refine branch_true ?_ | refine branch_false ?_ | refine branch_f' (bne_self_eq_false _) ?_ | refine branch_t' (beq_self_eq_true _) ?_ | refine branch_t' (decide_eq_true rfl) ?_)
    show Eqv _ _
    exact .up (.up (.refl _))
end Go.Proofs
