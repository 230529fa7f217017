/- Chapter 13: facts for the known examples. -/
import Derived.Test.YtkjljhpmkhmmoaaC4
import Derived.Test.YtkjljhpmkhmmoaaC5
set_option linter.unusedVariables false
set_option linter.unusedSimpArgs false
/-! Ta. -/
namespace Go.Proofs
open Go.E

/-- 1 and n zeros. -/
def longL (n : Nat) : List Int := 49 :: List.replicate n 48
theorem longL_len (n : Nat) : (longL n).length = n + 1 := by simp [longL]
theorem longL_snoc (n : Nat) : longL n ++ [48] = longL (n + 1) := by
  unfold longL
  rw [List.cons_append, ← List.replicate_succ']
def longB (n : Nat) : List UInt8 := 49 :: List.replicate n 48
theorem long_bytes (n : Nat) : (bytesI (longL n)).data.toList = longB n := by
  unfold bytesI longL longB
  rw [List.toList_toArray, List.map_cons, List.map_replicate]
  rfl
theorem long_size (n : Nat) : (bytesI (longL n)).size = n + 1 := by
  rw [← size_list, long_bytes]
  simp [longB]
def pw (b e : Nat) : Nat := b ^ e
theorem num_zeros : ∀ (n v : Nat), numL (List.replicate n 48) v = v * 10 ^ n
  | 0, v => by simp [numL]
  | n + 1, v => by
    rw [List.replicate_succ, numL, num_zeros n]
    show (10 * v + (48 - 48)) * 10 ^ n = v * 10 ^ (n + 1)
    rw [Nat.pow_succ, Nat.sub_self, Nat.add_zero, Nat.mul_comm (10 ^ n) 10, ← Nat.mul_assoc, Nat.mul_comm v 10]
theorem num_long (n : Nat) : numL (longB n) 0 = pw 10 n := by
  unfold longB
  rw [numL, num_zeros]
  show (10 * 0 + (49 - 48)) * 10 ^ n = pw 10 n
  unfold pw
  omega
theorem good_long (n : Nat) : goodT (bytesI (longL n)) = true := by
  unfold goodT
  rw [long_size, long_bytes]
  have h0 : byteAt (bytesI (longL n)) 0 = 49 := by
    unfold byteAt
    rw [long_bytes]
    rfl
  rw [h0]
  have hall : (longB n).all dig = true := by
    unfold longB
    rw [List.all_cons, List.all_replicate]
    have : dig 48 = true := rfl
    rw [this]
    show (dig 49 && _) = true
    simp [show dig 49 = true from rfl]
  rw [hall]
  simp
theorem parse_long {n : Nat} (h : n < 32768) : parseV (bytesI (longL n)) = limited (pw 10 n) := by
  unfold parseV
  rw [good_long, if_neg (by simp), long_size, if_neg (by omega), long_bytes, num_long]
theorem pw_lo : pw 2 32767 ≤ pw 10 9864 := by decide +kernel
theorem pw_hi : pw 10 9864 < pw 2 32768 := by decide +kernel
theorem pw_big : pw 2 32768 ≤ pw 10 9865 := by decide +kernel
theorem bits_at {v n : Nat} (h0 : pw 2 n ≤ v) (h1 : v < pw 2 (n + 1)) : bitLen v = n + 1 := by
  have a := bitLen_le (n := v) (k := n + 1) |>.2 h1
  have b : ¬ bitLen v ≤ n := fun h => by
    have := bitLen_le.1 h
    unfold pw at h0
    omega
  omega
theorem bits_long : bitLen (pw 10 9864) = 32768 := bits_at pw_lo pw_hi
theorem bits_more : 32768 < bitLen (pw 10 9865) := by
  refine Nat.lt_of_not_le fun h => ?_
  have := bitLen_le.1 h
  have h2 := pw_big
  unfold pw at h2 this
  omega
theorem lim_long : limited (pw 10 9864) = .tuple [ints .u32 (limbsOf (pw 10 9864)), .int .i64 0] := limited_fit (by rw [bits_long]; decide)
theorem lim_more : limited (pw 10 9865) = .tuple [.ro 1 0 (irow .u32 []), .int .i64 4] := by rw [limited, if_pos bits_more]
end Go.Proofs
/-! Tb. -/
namespace Go.Proofs
open Go.E

theorem lo1 {x : Nat} (h0 : x ≠ 0) (h : x < 4294967296) : limbsOf x = [(x : Int)] := by
  rw [limbsOf_pos h0, Nat.mod_eq_of_lt h, Nat.div_eq_of_lt h, limbsOf_zero]
theorem litA : limbsOf 25769803776 = [0, 6] := limbsOf_at (by unfold Limbs; decide) (.inr (by decide)) (by decide)
theorem litB : limbsOf 18446744073709551616 = [0, 0, 1] := limbsOf_at (by unfold Limbs; decide) (.inr (by decide)) (by decide)
theorem dlitA : decS 25769803776 = ⟨#[50, 53, 55, 54, 57, 56, 48, 51, 55, 55, 54]⟩ := by
  rw [decS_F 10 _ (by decide)]
  rfl
theorem dlitZ : decS 0 = ⟨#[48]⟩ := by
  rw [decS_F 0 _ (by decide)]
  rfl
theorem kn1 : callP Try.prog 35 [ints .u32 [3], .int .i64 33] (· = .tuple [ints .u32 [0, 6], .int .i64 0]) := by
  have h := shl_c (a := [3]) (small_of (n := 1) (by decide) (by decide)) (by unfold Limbs; decide) (n := 33) (by decide)
  rwa [show shlV (val [3]) 33 = limited 25769803776 from by unfold shlV; rw [if_neg (by decide)]; exact congrArg limited (by decide), limited_small (by decide), litA] at h
theorem kn2 : callP Try.prog 40 [ints .u32 [0, 2], .int .i64 32] (· = .tuple [ints .u32 [2], .int .i64 0]) := by
  have h := shr_c (a := [0, 2]) (small_of (n := 2) (by decide) (by decide)) (by unfold Limbs; decide) (n := 32) (by decide)
  rwa [show shrV (val [0, 2]) 32 = limited 2 from by unfold shrV; rw [if_neg (by decide)]; exact congrArg limited (by decide), limited_small (by decide), lo1 (by decide) (by decide)] at h
theorem kn3 : callP Try.prog 35 [ints .u32 [1], .int .i64 32768] (· = .tuple [ints .u32 [], .int .i64 4]) := by
  have h := shl_pow (l := [1]) (j := 0) (by unfold Limbs; decide) (small_of (n := 1) (by decide) (by decide)) (by decide) (i := 32768) (by decide) (by decide)
  rwa [limited_pow_b (by decide)] at h
theorem kn4 : callP Try.prog 35 [ints .u32 [0, 0], .int .i64 99999] (· = .tuple [ints .u32 [], .int .i64 0]) := by
  obtain ⟨n, hn, hb⟩ : ∃ n : Int, n = 99999 ∧ (0 ≤ n ∧ n ≤ 100000) := ⟨_, rfl, by decide⟩
  rw [← hn]
  have h := shl_c (a := [0, 0]) (small_of (n := 2) (by decide) (by decide)) (by unfold Limbs; decide) (n := n) (by omega)
  rwa [show shlV (val [0, 0]) n = limited 0 from by unfold shlV; rw [if_neg (by omega)]; rfl, limited_small (by decide), limbsOf_zero] at h
theorem kn5 : callP Try.prog 35 [ints .u32 [1], .int .i64 (-1)] (· = .tuple [ints .u32 [], .int .i64 2]) := by
  have h := shl_c (a := [1]) (small_of (n := 1) (by decide) (by decide)) (by unfold Limbs; decide) (n := -1) (by decide)
  rwa [show shlV (val [1]) (-1) = .tuple [ints .u32 [], .int .i64 2] from rfl] at h
theorem kn6 : callP Try.prog 29 [ints .u32 [7], ints .u32 []] (· = .tuple [ints .u32 [], ints .u32 [], .int .i64 2]) := by
  have h := div_c (a := [7]) (b := []) (by decide) (by decide) (by unfold Limbs; decide) (by unfold Limbs; decide)
  rwa [show divV (val [7]) (val []) = .tuple [ints .u32 [], ints .u32 [], .int .i64 2] from rfl] at h
theorem kn7 : callP Try.prog 38 [ints .u32 [0, 6]] (· = .str ⟨#[50, 53, 55, 54, 57, 56, 48, 51, 55, 55, 54]⟩) := by
  have h := decimal_c (a := [0, 6]) (by decide) (by unfold Limbs; decide)
  rwa [show val [0, 6] = 25769803776 by decide, dlitA] at h
theorem kn8 : callP Try.prog 38 [ints .u32 []] (· = .str ⟨#[48]⟩) := by
  have h := decimal_c (a := []) (by decide) (by unfold Limbs; decide)
  rwa [show val [] = 0 from rfl, dlitZ] at h
theorem sameT {l : List Int} (h : l.length ≤ 8) : callP Try.prog 19 [ints .u32 l, ints .u32 l] (· = .bool true) := by
  have h := same_c (a := l) (b := l) (by unfold Short; omega)
  rwa [decide_eq_true rfl] at h
theorem kn9 : callP Try.prog 25 [ints .u32 [5, 0, 0]] (· = ints .u32 [5]) := by
  have h := norm_c (l := [5, 0, 0]) (by unfold Short; decide) (by unfold Limbs; decide)
  rwa [show val [5, 0, 0] = 5 by decide, lo1 (by decide) (by decide)] at h
theorem kn10 : callP Try.prog 25 [ints .u32 [0]] (· = ints .u32 []) := by
  have h := norm_c (l := [0]) (by unfold Short; decide) (by unfold Limbs; decide)
  rwa [show val [0] = 0 by decide, limbsOf_zero] at h
theorem kn11 : callP Try.prog 32 [.int .u64 4294967296] (· = ints .u32 [0, 1]) := by
  have h := of_c 4294967296 (by decide)
  rw [lit1] at h
  exact h
theorem kn12 : callP Try.prog 22 [ints .u32 [0], ints .u32 []] (· = .int .i64 0) := by
  have h := cmp_c (a := [0]) (b := []) (small_of (n := 1) (by decide) (by decide)) (small_of (n := 1) (by decide) (by decide)) (by unfold Limbs; decide) (by unfold Limbs; decide)
  rwa [show cmpN (val [0]) (val []) = 0 by decide] at h
theorem kn13 : callP Try.prog 24 [ints .u32 [255]] (· = .int .i64 8) := by
  have h := bits_c (l := [255]) (by unfold Short; decide) (by unfold Limbs; decide)
  rwa [show bitLen (val [255]) = 8 from bits_at (n := 7) (by decide) (by decide)] at h
theorem kn14 : callP Try.prog 24 [ints .u32 [256]] (· = .int .i64 9) := by
  have h := bits_c (l := [256]) (by unfold Short; decide) (by unfold Limbs; decide)
  rwa [show bitLen (val [256]) = 9 from bits_at (n := 8) (by decide) (by decide)] at h
theorem kn15 : callP Try.prog 36 [.str ⟨#[49, 56, 52, 52, 54, 55, 52, 52, 48, 55, 51, 55, 48, 57, 53, 53, 49, 54, 49, 54]⟩] (· = .tuple [ints .u32 [0, 0, 1], .int .i64 0]) := by
  have h := parse_c ⟨#[49, 56, 52, 52, 54, 55, 52, 52, 48, 55, 51, 55, 48, 57, 53, 53, 49, 54, 49, 54]⟩ (by decide)
  rwa [show parseV ⟨#[49, 56, 52, 52, 54, 55, 52, 52, 48, 55, 51, 55, 48, 57, 53, 53, 49, 54, 49, 54]⟩ = limited 18446744073709551616 from by
    unfold parseV
    rw [if_neg (by decide), if_neg (by decide)]
    exact congrArg limited (by decide), limited_small (by decide), litB] at h
theorem kn16 : callP Try.prog 36 [.str ⟨#[48]⟩] (· = .tuple [ints .u32 [], .int .i64 0]) := by
  have h := parse_c ⟨#[48]⟩ (by decide)
  rwa [show parseV ⟨#[48]⟩ = limited 0 from by
    unfold parseV
    rw [if_neg (by decide), if_neg (by decide)]
    exact congrArg limited (by decide), limited_small (by decide), limbsOf_zero] at h
theorem knBad {s : ByteArray} (hs : s.size ≤ maxLen) (h : goodT s = false) : callP Try.prog 36 [.str s] (· = .tuple [ints .u32 [], .int .i64 5]) := by
  have := parse_c s hs
  rwa [parse_bad h] at this
theorem rows_at {kk : IntKind} (l : List Int) {n : Nat} (h : l.length = n) : rowsInts kk n (fun i => [.int kk (l.getD (0 + i) 0)]) = l := by
  subst h
  rw [show (fun i => [AVal.int kk (l.getD (0 + i) 0)]) = irow kk l from funext fun i => by rw [Nat.zero_add]; rfl]
  exact ints_of_row l
theorem long_facts : ∃ N : Nat, N = 9864 ∧ callP Try.prog 36 [.str (bytesI (longL N))] (· = .tuple [ints .u32 (limbsOf (pw 10 N)), .int .i64 0]) ∧ callP Try.prog 36 [.str (bytesI (longL (N + 1)))] (· = .tuple [ints .u32 [], .int .i64 4]) ∧
    callP Try.prog 24 [ints .u32 (limbsOf (pw 10 N))] (· = .int .i64 32768) := by
  have hs : ∀ n, n ≤ 10000 → (bytesI (longL n)).size ≤ maxLen := fun n hn => by
    rw [long_size]
    exact Nat.le_trans (show n + 1 ≤ 10001 by omega) (by decide)
  have h1 := parse_c (bytesI (longL 9864)) (hs _ (by decide))
  rw [parse_long (by decide), lim_long] at h1
  have h2 := parse_c (bytesI (longL 9865)) (hs _ (by decide))
  rw [parse_long (by decide), lim_more] at h2
  have h3 := bits_c (l := limbsOf (pw 10 9864)) (limbsOf_short (m := 1024) (by rw [bits_long]; decide) (by decide)) (limbs_limbsOf _)
  rw [val_limbsOf, bits_long] at h3
  exact ⟨9864, rfl, h1, h2, h3⟩
end Go.Proofs
/-! Tc. -/
namespace Go.Proofs
open Go.E

set_option maxRecDepth 8000 in
set_option maxHeartbeats 2000000 in
theorem known_law : callP Try.prog 13 [] (· = .bool true) := by
  obtain ⟨N, hN, p1, p2, p3⟩ := long_facts
  refine callP_def env (fn := Try.f13) rfl (by decide) ?_
  repeat (first | refine stp ?_ | refine choice_l ?_)
  refine callT_E kn1 rfl ?_
  repeat (first | refine stp ?_ | refine choice_l ?_)
  refine callT_E kn2 rfl ?_
  repeat (first | refine stp ?_ | refine choice_l ?_)
  refine callT_E kn3 rfl ?_
  repeat (first | refine stp ?_ | refine choice_l ?_)
  refine callT_E kn4 rfl ?_
  repeat (first | refine stp ?_ | refine choice_l ?_)
  refine callT_E kn5 rfl ?_
  repeat (first | refine stp ?_ | refine choice_l ?_)
  refine callT_arg (args' := [ints .u32 [7], ints .u32 []]) (.cons (.up (.up (.refl _))) (.cons (.up (.up (.nil _ _))) .nil)) ?_
  refine callT_E kn6 rfl ?_
  repeat (first | refine stp ?_ | refine choice_l ?_)
  refine callT_E kn7 rfl ?_
  repeat (first | refine stp ?_ | refine choice_l ?_)
  refine callT_E (sameT (l := [2]) (by decide)) rfl ?_
  repeat (first | refine stp ?_ | refine choice_l ?_)
  refine callT_E kn9 rfl ?_
  repeat (first | refine stp ?_ | refine choice_l ?_)
  refine callT_E (sameT (l := [5]) (by decide)) rfl ?_
  repeat (first | refine stp ?_ | refine choice_l ?_)
  refine callT_E kn10 rfl ?_
  repeat (first | refine stp ?_ | refine choice_l ?_)
  refine callT_E kn11 rfl ?_
  repeat (first | refine stp ?_ | refine choice_l ?_)
  refine callT_E (sameT (l := [0, 1]) (by decide)) rfl ?_
  repeat (first | refine stp ?_ | refine choice_l ?_)
  refine callT_arg (args' := [ints .u32 [0], ints .u32 []]) (.cons (.up (.up (.refl _))) (.cons (.up (.up (.nil _ _))) .nil)) ?_
  refine callT_E kn12 rfl ?_
  repeat (first | refine stp ?_ | refine choice_l ?_)
  refine callT_E kn13 rfl ?_
  repeat (first | refine stp ?_ | refine choice_l ?_)
  refine callT_E kn14 rfl ?_
  repeat (first | refine stp ?_ | refine choice_l ?_)
  refine callT_E kn15 rfl ?_
  repeat (first | refine stp ?_ | refine choice_l ?_)
  refine callT_E kn16 rfl ?_
  repeat (first | refine stp ?_ | refine choice_l ?_)
  refine callT_E (knBad (by decide) (by decide)) rfl ?_
  repeat (first | refine stp ?_ | refine choice_l ?_)
  refine callT_E (knBad (by decide) (by decide)) rfl ?_
  repeat (first | refine stp ?_ | refine choice_l ?_)
  refine callT_E (knBad (by decide) (by decide)) rfl ?_
  repeat (first | refine stp ?_ | refine choice_l ?_)
  refine callT_E (knBad (by decide) (by decide)) rfl ?_
  repeat (first | refine stp ?_ | refine choice_l ?_)
  refine callT_E (sameT (l := [0, 0, 1]) (by decide)) rfl ?_
  repeat refine stp ?_
  refine callT_arg (args' := [ints .u32 []]) (.cons (.up (.up (.nil _ _))) .nil) ?_
  refine callT_E kn8 rfl ?_
  repeat refine stp ?_
  refine choice_r ?_
  repeat refine stp ?_
  refine loop_weak (fun i : Nat => slots 239 [(14, .bool true), (15, .bool true), (28, .bool ((⟨#[48]⟩ : ByteArray).toList == (⟨#[48]⟩ : ByteArray).toList)), (29, .slice ⟨0, 0, 0⟩ (i + 1)), (30, .int .i64 i)]) (fun i => [.ints .u8 (longL i)])
    (fun i => i ≤ N) (fun i => N - i) 0 (Nat.zero_le _) (weak_keep (keep 239 [14, 15, 28, 29, 30]) [0] rfl rfl rfl) ?_
  intro i hi
  apply branch_intro <;> intro h2
  · have hk2 : i < N := by simp at h2; omega
    apply choice_l
    apply need_intro
    · show (i + 1 + 1) * 1 ≤ 2 ^ 47
      omega
    apply need_intro
    · exact ⟨by show 0 + (i + 1) = (longL i).length; rw [longL_len]; omega, isRow_irow _ _ _⟩
    refine ⟨i + 1, (show i + 1 ≤ N by omega), (show N - (i + 1) < N - i by omega), weak_keep (keep 239 [14, 15, 28, 29, 30]) [0] rfl ?_ ?_⟩
    · rw [wi (x := (i : Int) + 1) (by omega) (by omega)]
      rfl
    · show [Blk.ints _ _] = _
      rw [snoc_row, longL_snoc]
  · have hk2 : i = N := by simp at h2; omega
    subst hk2
    refine need_intro (by show 0 + (i + 1) ≤ (longL i).length; rw [longL_len]; omega) ?_
    refine need_intro (fun j _ => ⟨_, rfl⟩) ?_
    refine callT_E (show callP Try.prog 36 [.str (bytesI (rowsInts .u8 (i + 1) fun j => [.int .u8 ((longL i).getD (0 + j) 0)]))] (· = _) from by rw [rows_at (longL i) (longL_len i)]; exact p1) rfl ?_
    repeat (first | refine stp ?_ | refine choice_l ?_)
    apply need_intro
    · show (i + 1 + 1) * 1 ≤ 2 ^ 47
      omega
    apply need_intro
    · exact ⟨by show 0 + (i + 1) = (longL i).length; rw [longL_len]; omega, isRow_irow _ _ _⟩
    refine need_intro (by show 0 + (i + 1 + 1) ≤ ((longL i).drop 0 ++ rowsInts .u8 1 (irow .u8 [48])).length; rw [snoc_row, longL_snoc, longL_len]; omega) ?_
    refine need_intro (fun j _ => ⟨_, rfl⟩) ?_
    refine callT_E (show callP Try.prog 36 [.str (bytesI (rowsInts .u8 (i + 1 + 1) fun j => [.int .u8 (((longL i).drop 0 ++ rowsInts .u8 1 (irow .u8 [48])).getD (0 + j) 0)]))] (· = _) from by rw [snoc_row, longL_snoc, rows_at (longL (i + 1)) (longL_len (i + 1))]; exact p2) rfl ?_
    repeat (first | refine stp ?_ | refine choice_l ?_)
    refine callT_E awake_c rfl ?_
    repeat refine stb ?_
    refine callT_E p3 rfl ?_
    repeat refine stb ?_
    exact rfl
end Go.Proofs
