/- Chapter 13, part ra: Parse. -/
import Derived.Test.YtkjljhpmkhmmoaaC3
import Derived.Laws.Strings
set_option linter.unusedVariables false
set_option linter.unusedSimpArgs false
/-! Ra. -/
namespace Go.Proofs
open Go.E

theorem size_list (s : ByteArray) : s.data.toList.length = s.size := Array.length_toList
def byteAt (s : ByteArray) (i : Nat) : UInt8 := s.data.toList.getD i 0
theorem byte_get {s : ByteArray} {i : Nat} (h : i < s.size) : s[i]'h = byteAt s i := by
  rw [byteAt, List.getD_eq_getElem?_getD, List.getElem?_eq_getElem (by rw [size_list]; exact h)]
  simp
  rfl
def dig (b : UInt8) : Bool := decide (48 ≤ b.toNat) && decide (b.toNat ≤ 57)
def numL : List UInt8 → Nat → Nat
  | [], v => v
  | b :: r, v => numL r (10 * v + (b.toNat - 48))
theorem numL_snoc : ∀ (l : List UInt8) (b : UInt8) (v : Nat), numL (l ++ [b]) v = 10 * numL l v + (b.toNat - 48)
  | [], b, v => rfl
  | c :: l, b, v => by rw [List.cons_append, numL, numL_snoc l b, numL]
theorem take_byte {s : ByteArray} {i : Nat} (h : i < s.size) : s.data.toList.take (i + 1) = s.data.toList.take i ++ [byteAt s i] := by
  rw [← size_list] at h
  rw [List.take_add_one, List.getElem?_eq_getElem h, byteAt, List.getD_eq_getElem?_getD, List.getElem?_eq_getElem h]
  rfl
def goodT (s : ByteArray) : Bool := !decide (s.size = 0) && !(decide (1 < s.size) && decide ((byteAt s 0).toNat = 48)) && s.data.toList.all dig
def badT : AVal := .tuple [ints .u32 [], .int .i64 5]
def parseV (s : ByteArray) : AVal := if goodT s = false then badT else if 32768 < s.size then .tuple [ints .u32 [], .int .i64 4] else limited (numL s.data.toList 0)
theorem parseV_closed (s : ByteArray) : (parseV s).closed2 = true := by unfold parseV; split; rfl; split; rfl; exact limited_closed _
theorem bad_eqv : Eqv (.tuple [.nilslice, .int .i64 5]) badT := .tuple (.cons (.up (.nil _ _)) (.cons (.up (.refl _)) .nil))
theorem empty_iff {s : ByteArray} : (s.toList == ByteArray.toList ⟨#[]⟩) = true ↔ s.size = 0 := by
  rw [beq_iff_eq, ByteArray.toList_eq, ByteArray.toList_eq, ← size_list]
  exact List.length_eq_zero_iff.symm
theorem dig_iff {b : UInt8} : dig b = true ↔ 48 ≤ b.toNat ∧ b.toNat ≤ 57 := by simp [dig]
theorem parse_bad {s : ByteArray} (h : goodT s = false) : parseV s = badT := by rw [parseV, if_pos h]
structure PsSt where
  i : Nat
  l : List Int
def PsOk (s : ByteArray) (t : PsSt) : Prop := t.i ≤ s.size ∧ t.l.length ≤ t.i ∧ Limbs t.l ∧ val t.l = numL (s.data.toList.take t.i) 0
def PmOk (l : List Int) (d : Nat) (t : AddSt) : Prop := t.i ≤ l.length ∧ t.out.length = t.i ∧ Limbs t.out ∧ t.c ≤ 9 ∧ val t.out + 2 ^ (32 * t.i) * t.c = 10 * val (l.take t.i) + d

theorem parse_inv {vb c vl d x t : Nat} (j : Nat) (h : vb + 2 ^ (32 * j) * c = 10 * vl + d) (ht : t = c + 10 * x) : vb + 2 ^ (32 * j) * (t % 4294967296) + 2 ^ (32 * (j + 1)) * (t / 4294967296) = 10 * (vl + 2 ^ (32 * j) * x) + d := by
  have hp : 2 ^ (32 * (j + 1)) = 2 ^ (32 * j) * 4294967296 := by
    rw [Nat.mul_add, Nat.mul_one, Nat.pow_add]
  rw [hp, Nat.mul_assoc, Nat.add_assoc, ← Nat.mul_add, show t % 4294967296 + 4294967296 * (t / 4294967296) = c + 10 * x by omega]
  generalize 2 ^ (32 * j) = p at *
  rw [Nat.mul_add, Nat.mul_add, ← Nat.add_assoc, h, show p * (10 * x) = 10 * (p * x) by rw [Nat.mul_left_comm]]
  omega
set_option maxRecDepth 8000 in
set_option maxHeartbeats 2000000 in
theorem parse_c (s : ByteArray) (hs : s.size ≤ maxLen) : callP Try.prog 36 [.str s] (· = parseV s) := by
  have hm : s.size ≤ 9223372036854775807 := Nat.le_trans hs (by decide)
  refine callE_def env (fn := Try.f36) rfl (by decide) (parseV_closed s) ?_
  by_cases h0 : s.size = 0
  · refine branch_t' (empty_iff.2 h0) ?_
    repeat (first | refine branch_true ?_ | refine branch_false ?_ | refine branch_f' (bne_self_eq_false _) ?_ | refine branch_t' (beq_self_eq_true _) ?_ | refine branch_t' (decide_eq_true rfl) ?_)
    show Eqv _ _
    rw [parse_bad (by rw [goodT, decide_eq_true h0]; rfl)]
    exact bad_eqv
  refine branch_f' (by rw [← Bool.not_eq_true, empty_iff]; exact h0) ?_
  repeat (first | refine branch_true ?_ | refine branch_false ?_ | refine branch_f' (bne_self_eq_false _) ?_ | refine branch_t' (beq_self_eq_true _) ?_ | refine branch_t' (decide_eq_true rfl) ?_)
  by_cases h1 : 1 < s.size
  · repeat (first | refine branch_true ?_ | refine branch_false ?_ | refine branch_t' (decide_eq_true (by omega)) ?_ | refine branch_f' (decide_eq_false (by omega)) ?_)
    apply need_intro
    · first | omega | (dsimp only; omega)
    repeat (first | refine branch_true ?_ | refine branch_false ?_ | refine branch_t' (decide_eq_true (by omega)) ?_ | refine branch_f' (decide_eq_false (by omega)) ?_)
    by_cases hz : (byteAt s 0).toNat = 48
    · refine branch_t' (by show (((byteAt s 0).toNat : Int) == 48) = true; rw [hz]; rfl) ?_
      repeat (first | refine branch_true ?_ | refine branch_false ?_ | refine branch_t' (decide_eq_true (by omega)) ?_ | refine branch_f' (decide_eq_false (by omega)) ?_)
      show Eqv _ _
      rw [parse_bad (by rw [goodT, decide_eq_true h1, decide_eq_true hz]; simp)]
      exact bad_eqv
    refine branch_f' (by show (((byteAt s 0).toNat : Int) == 48) = false; exact beq_eq_false_iff_ne.2 (by omega)) ?_
    repeat (first | refine branch_true ?_ | refine branch_false ?_ | refine branch_t' (decide_eq_true (by omega)) ?_ | refine branch_f' (decide_eq_false (by omega)) ?_)
    refine loop_weak (fun i : Nat => slots 84 [(0, .str s), (23, .int .i64 s.size), (24, .int .i64 i)]) (fun _ => [])
      (fun i => i ≤ s.size ∧ (s.data.toList.take i).all dig = true) (fun i => s.size - i) 0 ⟨by omega, by simp⟩ (weak_keep (keep 84 [0, 23, 24]) [] rfl rfl rfl) ?_
    rintro i ⟨hi, hd⟩
    have et : ((i : Int)).toNat = i := by omega
    apply branch_intro <;> intro h2
    · have hlt : i < s.size := by simp at h2; omega
      have ei : IntKind.i64.wrap ((i : Int) + 1) = ((i + 1 : Nat) : Int) := by rw [wi (by omega) (by omega)]; rfl
      apply need_intro
      · first | omega | (dsimp only; omega)
      conv => whnf
      rw [et]
      by_cases hb : dig (byteAt s i) = true
      · have hb' : 48 ≤ (s.data.toList.getD i 0).toNat ∧ (s.data.toList.getD i 0).toNat ≤ 57 := dig_iff.1 hb
        repeat (first | refine branch_true ?_ | refine branch_false ?_ | refine branch_t' (decide_eq_true (by omega)) ?_ | refine branch_f' (decide_eq_false (by omega)) ?_)
        refine ⟨i + 1, ⟨hlt, ?_⟩, by omega, weak_keep (keep 84 [0, 23, 24]) [] rfl ?_ rfl⟩
        · rw [take_byte hlt, List.all_append, hd]
          simp [hb]
        · rw [ei]
          rfl
      · have hgood : goodT s = false := by
          have hmem : byteAt s i ∈ s.data.toList := by
            have : i < s.data.toList.length := by rw [size_list]; exact hlt
            rw [byteAt, List.getD_eq_getElem?_getD, List.getElem?_eq_getElem this]
            exact List.getElem_mem this
          have : s.data.toList.all dig = false := by
            rw [← Bool.not_eq_true, List.all_eq_true]
            exact fun h => hb (h _ hmem)
          rw [goodT, this, Bool.and_false]
        have hb' : ¬ (48 ≤ (s.data.toList.getD i 0).toNat ∧ (s.data.toList.getD i 0).toNat ≤ 57) := fun h => hb (dig_iff.2 h)
        by_cases h48 : 48 ≤ (s.data.toList.getD i 0).toNat
        · repeat (first | refine branch_true ?_ | refine branch_false ?_ | refine branch_t' (decide_eq_true (by omega)) ?_ | refine branch_f' (decide_eq_false (by omega)) ?_)
          show Eqv _ _
          rw [parse_bad hgood]
          exact bad_eqv
        · repeat (first | refine branch_true ?_ | refine branch_false ?_ | refine branch_t' (decide_eq_true (by omega)) ?_ | refine branch_f' (decide_eq_false (by omega)) ?_)
          show Eqv _ _
          rw [parse_bad hgood]
          exact bad_eqv
    have hin : i = s.size := by simp at h2; omega
    subst hin
    rw [List.take_of_length_le (by rw [size_list]; exact Nat.le_refl _)] at hd
    have hgood : goodT s = true := by
      rw [goodT, hd, decide_eq_false h0]
      simp only [Bool.not_false, Bool.true_and, Bool.and_true, Bool.not_eq_true', Bool.and_eq_false_iff, decide_eq_false_iff_not]
      omega
    apply branch_intro <;> intro h3
    · have h3 : 32768 < s.size := by simp at h3; omega
      show Eqv _ _
      rw [parseV, hgood, if_neg (by decide), if_pos h3]
      exact .tuple (.cons (.up (.nil _ _)) (.cons (.up (.refl _)) .nil))
    have h3 : ¬ 32768 < s.size := by simp at h3; omega
    rw [parseV, hgood, if_neg (by decide), if_neg h3]
    refine loop_weak (fun t : PsSt => slots 84 [(0, .str s), (6, .slice ⟨0, 0, 0⟩ t.l.length), (42, .int .i64 s.size), (43, .int .i64 t.i)]) (fun t => [.ints .u32 t.l])
      (PsOk s) (fun t => s.size - t.i) ⟨0, []⟩ ⟨Nat.zero_le _, by simp, (fun x hx => by cases hx), rfl⟩ ((weak_nil 6 (.ints .u32 []) rfl rfl).trans (weak_keep (keep 84 [0, 6, 42, 43]) [0] rfl rfl rfl)) ?_
    rintro ⟨i, l⟩ ⟨hi, hll, hli, hv⟩
    simp only at hi hll hli hv
    have et : ((i : Int)).toNat = i := by omega
    apply branch_intro <;> intro h4
    · have hlt : i < s.size := by simp at h4; omega
      have ei : IntKind.i64.wrap ((i : Int) + 1) = ((i + 1 : Nat) : Int) := by rw [wi (by omega) (by omega)]; rfl
      apply need_intro
      · first | omega | (dsimp only; omega)
      have hdg : 48 ≤ (s.data.toList.getD i 0).toNat ∧ (s.data.toList.getD i 0).toNat ≤ 57 := by
        have hmem : byteAt s i ∈ s.data.toList := by
          have : i < s.data.toList.length := by rw [size_list]; exact hlt
          rw [byteAt, List.getD_eq_getElem?_getD, List.getElem?_eq_getElem this]
          exact List.getElem_mem this
        exact dig_iff.1 (List.all_eq_true.1 hd _ hmem)
      have hnum : numL (s.data.toList.take (i + 1)) 0 = 10 * val l + ((s.data.toList.getD i 0).toNat - 48) := by
        rw [take_byte hlt, numL_snoc, hv]; rfl
      obtain ⟨d, hd'⟩ : ∃ d, d = (s.data.toList.getD i 0).toNat - 48 := ⟨_, rfl⟩
      rw [← hd'] at hnum
      have e0 : IntKind.u64.wrap (IntKind.u8.wrap (((s.data.toList.getD i 0).toNat : Int) - 48)) = (d : Int) := by
        rw [wu8 (by omega) (by omega), wu64 (by omega) (by omega)]
        omega
      refine loop_weak (fun t : AddSt => slots 84 [(0, .str s), (6, .slice ⟨0, 0, 0⟩ l.length), (8, .int .u64 t.c), (42, .int .i64 s.size), (43, .int .i64 i), (52, .int .i64 l.length), (53, .int .i64 t.i)]) (fun t => [.ints .u32 (t.out ++ l.drop t.i)])
        (PmOk l d) (fun t => l.length - t.i) ⟨0, d, []⟩ ⟨Nat.zero_le _, by simp, (fun x hx => by cases hx), by simp only; omega, by simp [val]⟩ (weak_keep (keep 84 [0, 6, 8, 42, 43, 52, 53]) [0] rfl ?_ rfl) ?_
      · rw [et, e0]
        rfl
      rintro ⟨j, c, b⟩ ⟨hj, hb, hbl, hc, hm'⟩
      simp only at hj hb hbl hc hm'
      apply branch_intro <;> intro h5
      · have hjl : j < l.length := by simp at h5; omega
        have hL : (b ++ l.drop j).length = l.length := by simp [hb]; omega
        have xa := limb_bound hli j
        have hg := mid_get (l := l) hb
        obtain ⟨x, hx⟩ : ∃ x : Nat, l.getD j 0 = x := ⟨(l.getD j 0).toNat, by omega⟩
        have hx1 : x < 4294967296 := by omega
        have ej : 0 + ((j : Int)).toNat + 0 = j := by simp
        have ej1 : IntKind.i64.wrap ((j : Int) + 1) = ((j + 1 : Nat) : Int) := by rw [wi (by omega) (by omega)]; rfl
        rw [hx] at hg
        obtain ⟨t, ht⟩ : ∃ t, t = c + 10 * x := ⟨_, rfl⟩
        have m1 : IntKind.u64.wrap ((c : Int) + IntKind.u64.wrap (IntKind.u64.wrap (x : Int) * 10)) = (t : Int) := by
          rw [wu64 (x := (x : Int)) (by omega) (by omega), wu64 (x := (x : Int) * 10) (by omega) (by omega), wu64 (by omega) (by omega)]
          omega
        have m2 : (t : Int).fdiv (2 ^ (min (32 : Int).toNat IntKind.u64.bits)) = ((t / 4294967296 : Nat) : Int) := by
          have : min (32 : Int).toNat IntKind.u64.bits = 32 := by decide
          rw [this, Int.fdiv_eq_ediv_of_nonneg _ (by decide)]
          omega
        have m3 : IntKind.u32.wrap (t : Int) = ((t % 4294967296 : Nat) : Int) := by
          rw [IntKind.wrap_u32]
          omega
        apply need_intro
        · dsimp only; omega
        apply need_intro
        · dsimp only
          rw [hL]; omega
        apply need_intro
        · dsimp only; omega
        apply need_intro
        · dsimp only
          rw [hL]; omega
        apply need_intro
        · decide
        refine ⟨⟨j + 1, t / 4294967296, b ++ [((t % 4294967296 : Nat) : Int)]⟩, ⟨hjl, by simp [hb], ?_, by simp only; omega, ?_⟩, by simp only; omega, weak_keep (keep 84 [0, 6, 8, 42, 43, 52, 53]) [0] rfl ?_ ?_⟩
        · intro z hz
          rcases List.mem_append.1 hz with hz | hz
          · exact hbl z hz
          · simp at hz
            omega
        · simp only [val_snoc, val_take_succ, hb, hx, Int.toNat_natCast]
          exact parse_inv j hm' ht
        · show [_, _, _, _, _, _, _, _, _, _, _, _, _, _, _, _, _, _, _, _, _, _, _, _, _, _, _, _, _, _, _, _, _, _, _, _, _, _, _, _, _, _, _, _, _, _, _, _, _, _, _, _, _, _, _, _, _, _, _, _, _, _, _, _, _, _, _, _, _, _, _, _, _, _, _, _, _, _, _, _, _, _, _, _] = _
          simp only [ej, hg, m1, m2, ej1]
          rfl
        · simp only [ej, hg, m1, m3]
          show [Blk.ints _ _] = _
          rw [mid_set hb hjl]
      · have hjl : j = l.length := by simp at h5; omega
        subst hjl
        rw [List.take_of_length_le (Nat.le_refl _)] at hm'
        have eb : b ++ l.drop l.length = b := by rw [List.drop_length, List.append_nil]
        apply branch_intro <;> intro h6
        · have e6 : IntKind.u32.wrap (c : Int) = (c : Int) := wu32 (by omega) (by omega)
          apply choice_l
          apply need_intro
          · show (l.length + 1) * 4 ≤ 2 ^ 47
            omega
          apply need_intro
          · exact ⟨by show 0 + l.length = (b ++ l.drop l.length).length; rw [eb]; omega, isRow_irow _ _ _⟩
          refine ⟨⟨i + 1, b ++ [(c : Int)]⟩, ⟨hlt, by simp only [List.length_append, List.length_cons, List.length_nil]; omega, ?_, ?_⟩, by simp only; omega, weak_keep (keep 84 [0, 6, 42, 43]) [0] rfl ?_ ?_⟩
          · intro z hz
            rcases List.mem_append.1 hz with hz | hz
            · exact hbl z hz
            · simp at hz
              omega
          · show val (b ++ [(c : Int)]) = numL (s.data.toList.take (i + 1)) 0
            rw [hnum, val_snoc, hb, Int.toNat_natCast, hm']
          · show [_, _, _, _, _, _, _, _, _, _, _, _, _, _, _, _, _, _, _, _, _, _, _, _, _, _, _, _, _, _, _, _, _, _, _, _, _, _, _, _, _, _, _, _, _, _, _, _, _, _, _, _, _, _, _, _, _, _, _, _, _, _, _, _, _, _, _, _, _, _, _, _, _, _, _, _, _, _, _, _, _, _, _, _] = _
            simp only [ei, List.length_append, List.length_cons, List.length_nil, hb]
            rfl
          · show [Blk.ints _ _] = _
            simp only [eb, e6]
            rw [snoc_row]
        · have hc0 : c = 0 := by simp at h6; omega
          subst hc0
          rw [Nat.mul_zero, Nat.add_zero] at hm'
          refine ⟨⟨i + 1, b⟩, ⟨hlt, by simp only; omega, hbl, by rw [hm', hnum]⟩, by simp only; omega, weak_keep (keep 84 [0, 6, 42, 43]) [0] rfl ?_ ?_⟩
          · show [_, _, _, _, _, _, _, _, _, _, _, _, _, _, _, _, _, _, _, _, _, _, _, _, _, _, _, _, _, _, _, _, _, _, _, _, _, _, _, _, _, _, _, _, _, _, _, _, _, _, _, _, _, _, _, _, _, _, _, _, _, _, _, _, _, _, _, _, _, _, _, _, _, _, _, _, _, _, _, _, _, _, _, _] = _
            simp only [ei, hb]
            rfl
          · show [Blk.ints _ _] = _
            simp only [eb]
    · have hin : i = s.size := by simp at h4; omega
      subst hin
      rw [List.take_of_length_le (by rw [size_list]; exact Nat.le_refl _)] at hv
      have hc := limit_c (l := l) (by unfold Short; omega) hli
      obtain ⟨l2, e2, h2', _, _⟩ := lim_form (val l)
      rw [h2'] at hc
      rw [← hv, h2']
      refine callT_last 0 rfl (Nat.le_refl _) rfl ?_
      refine callT_E hc rfl ?_
      show Eqv _ _
      exact .up (.up (.refl _))
  · have hz : ¬ (1 < s.size ∧ (byteAt s 0).toNat = 48) := fun h => h1 h.1
    repeat (first | refine branch_true ?_ | refine branch_false ?_ | refine branch_t' (decide_eq_true (by omega)) ?_ | refine branch_f' (decide_eq_false (by omega)) ?_)
    refine loop_weak (fun i : Nat => slots 84 [(0, .str s), (23, .int .i64 s.size), (24, .int .i64 i)]) (fun _ => [])
      (fun i => i ≤ s.size ∧ (s.data.toList.take i).all dig = true) (fun i => s.size - i) 0 ⟨by omega, by simp⟩ (weak_keep (keep 84 [0, 23, 24]) [] rfl rfl rfl) ?_
    rintro i ⟨hi, hd⟩
    have et : ((i : Int)).toNat = i := by omega
    apply branch_intro <;> intro h2
    · have hlt : i < s.size := by simp at h2; omega
      have ei : IntKind.i64.wrap ((i : Int) + 1) = ((i + 1 : Nat) : Int) := by rw [wi (by omega) (by omega)]; rfl
      apply need_intro
      · first | omega | (dsimp only; omega)
      conv => whnf
      rw [et]
      by_cases hb : dig (byteAt s i) = true
      · have hb' : 48 ≤ (s.data.toList.getD i 0).toNat ∧ (s.data.toList.getD i 0).toNat ≤ 57 := dig_iff.1 hb
        repeat (first | refine branch_true ?_ | refine branch_false ?_ | refine branch_t' (decide_eq_true (by omega)) ?_ | refine branch_f' (decide_eq_false (by omega)) ?_)
        refine ⟨i + 1, ⟨hlt, ?_⟩, by omega, weak_keep (keep 84 [0, 23, 24]) [] rfl ?_ rfl⟩
        · rw [take_byte hlt, List.all_append, hd]
          simp [hb]
        · rw [ei]
          rfl
      · have hgood : goodT s = false := by
          have hmem : byteAt s i ∈ s.data.toList := by
            have : i < s.data.toList.length := by rw [size_list]; exact hlt
            rw [byteAt, List.getD_eq_getElem?_getD, List.getElem?_eq_getElem this]
            exact List.getElem_mem this
          have : s.data.toList.all dig = false := by
            rw [← Bool.not_eq_true, List.all_eq_true]
            exact fun h => hb (h _ hmem)
          rw [goodT, this, Bool.and_false]
        have hb' : ¬ (48 ≤ (s.data.toList.getD i 0).toNat ∧ (s.data.toList.getD i 0).toNat ≤ 57) := fun h => hb (dig_iff.2 h)
        by_cases h48 : 48 ≤ (s.data.toList.getD i 0).toNat
        · repeat (first | refine branch_true ?_ | refine branch_false ?_ | refine branch_t' (decide_eq_true (by omega)) ?_ | refine branch_f' (decide_eq_false (by omega)) ?_)
          show Eqv _ _
          rw [parse_bad hgood]
          exact bad_eqv
        · repeat (first | refine branch_true ?_ | refine branch_false ?_ | refine branch_t' (decide_eq_true (by omega)) ?_ | refine branch_f' (decide_eq_false (by omega)) ?_)
          show Eqv _ _
          rw [parse_bad hgood]
          exact bad_eqv
    have hin : i = s.size := by simp at h2; omega
    subst hin
    rw [List.take_of_length_le (by rw [size_list]; exact Nat.le_refl _)] at hd
    have hgood : goodT s = true := by
      rw [goodT, hd, decide_eq_false h0]
      simp only [Bool.not_false, Bool.true_and, Bool.and_true, Bool.not_eq_true', Bool.and_eq_false_iff, decide_eq_false_iff_not]
      omega
    apply branch_intro <;> intro h3
    · have h3 : 32768 < s.size := by simp at h3; omega
      show Eqv _ _
      rw [parseV, hgood, if_neg (by decide), if_pos h3]
      exact .tuple (.cons (.up (.nil _ _)) (.cons (.up (.refl _)) .nil))
    have h3 : ¬ 32768 < s.size := by simp at h3; omega
    rw [parseV, hgood, if_neg (by decide), if_neg h3]
    refine loop_weak (fun t : PsSt => slots 84 [(0, .str s), (6, .slice ⟨0, 0, 0⟩ t.l.length), (42, .int .i64 s.size), (43, .int .i64 t.i)]) (fun t => [.ints .u32 t.l])
      (PsOk s) (fun t => s.size - t.i) ⟨0, []⟩ ⟨Nat.zero_le _, by simp, (fun x hx => by cases hx), rfl⟩ ((weak_nil 6 (.ints .u32 []) rfl rfl).trans (weak_keep (keep 84 [0, 6, 42, 43]) [0] rfl rfl rfl)) ?_
    rintro ⟨i, l⟩ ⟨hi, hll, hli, hv⟩
    simp only at hi hll hli hv
    have et : ((i : Int)).toNat = i := by omega
    apply branch_intro <;> intro h4
    · have hlt : i < s.size := by simp at h4; omega
      have ei : IntKind.i64.wrap ((i : Int) + 1) = ((i + 1 : Nat) : Int) := by rw [wi (by omega) (by omega)]; rfl
      apply need_intro
      · first | omega | (dsimp only; omega)
      have hdg : 48 ≤ (s.data.toList.getD i 0).toNat ∧ (s.data.toList.getD i 0).toNat ≤ 57 := by
        have hmem : byteAt s i ∈ s.data.toList := by
          have : i < s.data.toList.length := by rw [size_list]; exact hlt
          rw [byteAt, List.getD_eq_getElem?_getD, List.getElem?_eq_getElem this]
          exact List.getElem_mem this
        exact dig_iff.1 (List.all_eq_true.1 hd _ hmem)
      have hnum : numL (s.data.toList.take (i + 1)) 0 = 10 * val l + ((s.data.toList.getD i 0).toNat - 48) := by
        rw [take_byte hlt, numL_snoc, hv]; rfl
      obtain ⟨d, hd'⟩ : ∃ d, d = (s.data.toList.getD i 0).toNat - 48 := ⟨_, rfl⟩
      rw [← hd'] at hnum
      have e0 : IntKind.u64.wrap (IntKind.u8.wrap (((s.data.toList.getD i 0).toNat : Int) - 48)) = (d : Int) := by
        rw [wu8 (by omega) (by omega), wu64 (by omega) (by omega)]
        omega
      refine loop_weak (fun t : AddSt => slots 84 [(0, .str s), (6, .slice ⟨0, 0, 0⟩ l.length), (8, .int .u64 t.c), (42, .int .i64 s.size), (43, .int .i64 i), (52, .int .i64 l.length), (53, .int .i64 t.i)]) (fun t => [.ints .u32 (t.out ++ l.drop t.i)])
        (PmOk l d) (fun t => l.length - t.i) ⟨0, d, []⟩ ⟨Nat.zero_le _, by simp, (fun x hx => by cases hx), by simp only; omega, by simp [val]⟩ (weak_keep (keep 84 [0, 6, 8, 42, 43, 52, 53]) [0] rfl ?_ rfl) ?_
      · rw [et, e0]
        rfl
      rintro ⟨j, c, b⟩ ⟨hj, hb, hbl, hc, hm'⟩
      simp only at hj hb hbl hc hm'
      apply branch_intro <;> intro h5
      · have hjl : j < l.length := by simp at h5; omega
        have hL : (b ++ l.drop j).length = l.length := by simp [hb]; omega
        have xa := limb_bound hli j
        have hg := mid_get (l := l) hb
        obtain ⟨x, hx⟩ : ∃ x : Nat, l.getD j 0 = x := ⟨(l.getD j 0).toNat, by omega⟩
        have hx1 : x < 4294967296 := by omega
        have ej : 0 + ((j : Int)).toNat + 0 = j := by simp
        have ej1 : IntKind.i64.wrap ((j : Int) + 1) = ((j + 1 : Nat) : Int) := by rw [wi (by omega) (by omega)]; rfl
        rw [hx] at hg
        obtain ⟨t, ht⟩ : ∃ t, t = c + 10 * x := ⟨_, rfl⟩
        have m1 : IntKind.u64.wrap ((c : Int) + IntKind.u64.wrap (IntKind.u64.wrap (x : Int) * 10)) = (t : Int) := by
          rw [wu64 (x := (x : Int)) (by omega) (by omega), wu64 (x := (x : Int) * 10) (by omega) (by omega), wu64 (by omega) (by omega)]
          omega
        have m2 : (t : Int).fdiv (2 ^ (min (32 : Int).toNat IntKind.u64.bits)) = ((t / 4294967296 : Nat) : Int) := by
          have : min (32 : Int).toNat IntKind.u64.bits = 32 := by decide
          rw [this, Int.fdiv_eq_ediv_of_nonneg _ (by decide)]
          omega
        have m3 : IntKind.u32.wrap (t : Int) = ((t % 4294967296 : Nat) : Int) := by
          rw [IntKind.wrap_u32]
          omega
        apply need_intro
        · dsimp only; omega
        apply need_intro
        · dsimp only
          rw [hL]; omega
        apply need_intro
        · dsimp only; omega
        apply need_intro
        · dsimp only
          rw [hL]; omega
        apply need_intro
        · decide
        refine ⟨⟨j + 1, t / 4294967296, b ++ [((t % 4294967296 : Nat) : Int)]⟩, ⟨hjl, by simp [hb], ?_, by simp only; omega, ?_⟩, by simp only; omega, weak_keep (keep 84 [0, 6, 8, 42, 43, 52, 53]) [0] rfl ?_ ?_⟩
        · intro z hz
          rcases List.mem_append.1 hz with hz | hz
          · exact hbl z hz
          · simp at hz
            omega
        · simp only [val_snoc, val_take_succ, hb, hx, Int.toNat_natCast]
          exact parse_inv j hm' ht
        · show [_, _, _, _, _, _, _, _, _, _, _, _, _, _, _, _, _, _, _, _, _, _, _, _, _, _, _, _, _, _, _, _, _, _, _, _, _, _, _, _, _, _, _, _, _, _, _, _, _, _, _, _, _, _, _, _, _, _, _, _, _, _, _, _, _, _, _, _, _, _, _, _, _, _, _, _, _, _, _, _, _, _, _, _] = _
          simp only [ej, hg, m1, m2, ej1]
          rfl
        · simp only [ej, hg, m1, m3]
          show [Blk.ints _ _] = _
          rw [mid_set hb hjl]
      · have hjl : j = l.length := by simp at h5; omega
        subst hjl
        rw [List.take_of_length_le (Nat.le_refl _)] at hm'
        have eb : b ++ l.drop l.length = b := by rw [List.drop_length, List.append_nil]
        apply branch_intro <;> intro h6
        · have e6 : IntKind.u32.wrap (c : Int) = (c : Int) := wu32 (by omega) (by omega)
          apply choice_l
          apply need_intro
          · show (l.length + 1) * 4 ≤ 2 ^ 47
            omega
          apply need_intro
          · exact ⟨by show 0 + l.length = (b ++ l.drop l.length).length; rw [eb]; omega, isRow_irow _ _ _⟩
          refine ⟨⟨i + 1, b ++ [(c : Int)]⟩, ⟨hlt, by simp only [List.length_append, List.length_cons, List.length_nil]; omega, ?_, ?_⟩, by simp only; omega, weak_keep (keep 84 [0, 6, 42, 43]) [0] rfl ?_ ?_⟩
          · intro z hz
            rcases List.mem_append.1 hz with hz | hz
            · exact hbl z hz
            · simp at hz
              omega
          · show val (b ++ [(c : Int)]) = numL (s.data.toList.take (i + 1)) 0
            rw [hnum, val_snoc, hb, Int.toNat_natCast, hm']
          · show [_, _, _, _, _, _, _, _, _, _, _, _, _, _, _, _, _, _, _, _, _, _, _, _, _, _, _, _, _, _, _, _, _, _, _, _, _, _, _, _, _, _, _, _, _, _, _, _, _, _, _, _, _, _, _, _, _, _, _, _, _, _, _, _, _, _, _, _, _, _, _, _, _, _, _, _, _, _, _, _, _, _, _, _] = _
            simp only [ei, List.length_append, List.length_cons, List.length_nil, hb]
            rfl
          · show [Blk.ints _ _] = _
            simp only [eb, e6]
            rw [snoc_row]
        · have hc0 : c = 0 := by simp at h6; omega
          subst hc0
          rw [Nat.mul_zero, Nat.add_zero] at hm'
          refine ⟨⟨i + 1, b⟩, ⟨hlt, by simp only; omega, hbl, by rw [hm', hnum]⟩, by simp only; omega, weak_keep (keep 84 [0, 6, 42, 43]) [0] rfl ?_ ?_⟩
          · show [_, _, _, _, _, _, _, _, _, _, _, _, _, _, _, _, _, _, _, _, _, _, _, _, _, _, _, _, _, _, _, _, _, _, _, _, _, _, _, _, _, _, _, _, _, _, _, _, _, _, _, _, _, _, _, _, _, _, _, _, _, _, _, _, _, _, _, _, _, _, _, _, _, _, _, _, _, _, _, _, _, _, _, _] = _
            simp only [ei, hb]
            rfl
          · show [Blk.ints _ _] = _
            simp only [eb]
    · have hin : i = s.size := by simp at h4; omega
      subst hin
      rw [List.take_of_length_le (by rw [size_list]; exact Nat.le_refl _)] at hv
      have hc := limit_c (l := l) (by unfold Short; omega) hli
      obtain ⟨l2, e2, h2', _, _⟩ := lim_form (val l)
      rw [h2'] at hc
      rw [← hv, h2']
      refine callT_last 0 rfl (Nat.le_refl _) rfl ?_
      refine callT_E hc rfl ?_
      show Eqv _ _
      exact .up (.up (.refl _))
end Go.Proofs
