/- Chapter 28, laws, part a: works. -/
import Derived.Test.YteoeocfncachcaaC1
set_option linter.unusedVariables false
set_option linter.unusedSimpArgs false
/-! La. -/
namespace Go.Proofs
open Go.E

theorem parse_1 : parse ⟨#[86, 51, 55, 69, 32, 48, 48, 69]⟩ = ([13, 4, 8, 15, 1, 1, 15], 0, 0) := by decide +kernel
theorem parse_2 : parse ⟨#[86, 51, 120]⟩ = ([], 2, 5) := by decide +kernel
theorem print_1 : printA [11, 2, 19] = .tuple [.str ⟨#[43, 49, 80]⟩, .int .i64 0] := rfl

set_option maxRecDepth 4000 in
theorem works_c : callP Try.prog 11 [] (· = .bool true) := by
  refine callE_def env (fn := Try.f11) rfl (by decide) rfl ?_
  refine callT_E (code_c (n := 13) (by decide) (by decide)) rfl ?_
  refine callT_E (code_c (n := 0) (by decide) (by decide)) rfl ?_
  refine callT_E (key_c 28) rfl ?_
  refine callT_E (parse_c ⟨#[86, 51, 55, 69, 32, 48, 48, 69]⟩) rfl ?_
  refine callT_E (parse_c ⟨#[86, 51, 120]⟩) rfl ?_
  apply choice_l
  refine callT_E (print_c (l := [11, 2, 19]) (by unfold Short; decide) (by unfold Bytes; decide)) rfl ?_
  rw [parseV, parse_1, parseV, parse_2, print_1]
  repeat refine branch_true ?_
  apply choice_l
  repeat refine branch_true ?_
  refine callT_E (lsame_c (a := [13, 4, 8, 15, 1, 1, 15]) (b := [13, 4, 8, 15, 1, 1, 15]) (by unfold Short; decide)) rfl ?_
  repeat refine branch_true ?_
  refine branch_t (beq_self_eq_true _) ?_
  repeat refine branch_true ?_
  show Eqv _ _
  exact .up (.up (.refl _))

/-! KeycodeCodes. -/
def hitsTo : Nat → Nat
  | 0 => 0
  | n + 1 => hitsTo n + (if ((n : Int) - 5) ∈ keyCodes then 1 else 0)
theorem hits_le : ∀ n, hitsTo n ≤ n
  | 0 => Nat.le_refl _
  | n + 1 => by
    have := hits_le n
    unfold hitsTo
    split <;> omega
theorem codes_ok : ∀ i : Fin 19, 1 ≤ keyCodes.getD i.1 0 ∧ keyCodes.getD i.1 0 ≤ 31 := by decide
theorem posI_mem : ∀ {l : List Int} {x : Int}, posI l x = none ↔ x ∉ l
  | [], x => by simp [posI]
  | y :: r, x => by
    have ih := posI_mem (l := r) (x := x)
    rw [posI]
    by_cases hy : y = x
    · simp [hy]
    · rw [if_neg hy]
      cases hr : posI r x with
      | none =>
        have := ih.1 hr
        simp [this, Ne.symm hy]
      | some i =>
        simp only [reduceCtorEq, false_iff, Classical.not_not]
        have : ¬ x ∉ r := fun h => by rw [ih.2 h] at hr; cases hr
        exact List.mem_cons_of_mem _ (Classical.not_not.1 this)
set_option maxRecDepth 4000 in
theorem codes_law : callP Try.prog 3 [] (· = .bool true) := by
  refine callE_def env (fn := Try.f3) rfl (by decide) rfl ?_
  refine loop_inv (keep 57 [1, 2]) (fun n : Nat => slots 57 [(1, .int .i64 (hitsTo n)), (2, .int .i64 ((n : Int) - 5))]) (fun _ => [])
    (fun n => n ≤ 305) (fun n => 305 - n) 0 (by omega) rfl rfl ?_
  intro n hn
  have hh := hits_le n
  have e1 : IntKind.i64.wrap ((n : Int) - 5 + 1) = ((n + 1 : Nat) : Int) - 5 := by rw [wi (by omega) (by omega)]; omega
  have e2 : IntKind.i64.wrap ((hitsTo n : Int) + 1) = ((hitsTo n + 1 : Nat) : Int) := by rw [wi (by omega) (by omega)]; omega
  apply branch_intro <;> intro h
  · have hlt : n < 305 := by simp at h; omega
    refine callT_E (key_c _) rfl ?_
    cases hk : posI keyCodes ((n : Int) - 5) with
    | none =>
      rw [foundV, hk]
      have hm := posI_mem.1 hk
      apply branch_intro <;> intro h2
      · apply branch_intro <;> intro h3
        · simp at h3
        · refine ⟨n + 1, by omega, by omega, ?_, rfl⟩
          show [_, _, _, _, _, _, _, _, _, _, _, _, _, _, _, _, _, _, _, _, _, _, _, _, _, _, _, _, _, _, _, _, _, _, _, _, _, _, _, _, _, _, _, _, _, _, _, _, _, _, _, _, _, _, _, _, _] = _
          rw [e1, hitsTo, if_neg hm]
          rfl
      · cases h2
    | some i =>
      rw [foundV, hk]
      obtain ⟨hi, hc⟩ := posI_inv hk
      have hi : i < 19 := hi
      have hm : ((n : Int) - 5) ∈ keyCodes := Classical.not_not.1 fun h => by rw [posI_mem.2 h] at hk; cases hk
      obtain ⟨c1, c2⟩ := codes_ok ⟨i, hi⟩
      rw [hc] at c1 c2
      apply branch_intro <;> intro h2
      · cases h2
      · have hkey : isKey ((i : Int) + 1) = true := by simp [isKey]; omega
        refine callT_E (code_c (n := (i : Int) + 1) (by omega) (by omega)) rfl ?_
        have hco : codeOf ((i : Int) + 1) = (n : Int) - 5 := by
          rw [codeOf, if_pos hkey, show ((i : Int) + 1).toNat - 1 = i by omega, hc]
        rw [codeV, hco, codeE, if_pos hkey]
        refine branch_f (by decide) ?_
        repeat refine branch_false ?_
        refine branch_f (by simp) ?_
        repeat refine branch_false ?_
        refine branch_f (by simp; omega) ?_
        repeat refine branch_false ?_
        refine branch_f (by simp; omega) ?_
        refine ⟨n + 1, by omega, by omega, ?_, rfl⟩
        show [_, _, _, _, _, _, _, _, _, _, _, _, _, _, _, _, _, _, _, _, _, _, _, _, _, _, _, _, _, _, _, _, _, _, _, _, _, _, _, _, _, _, _, _, _, _, _, _, _, _, _, _, _, _, _, _, _] = _
        rw [e1, e2, hitsTo, if_pos hm]
        rfl
  · have hlt : n = 305 := by simp at h; omega
    subst hlt
    have h19 : hitsTo 305 = 19 := by decide +kernel
    rw [h19]
    refine callT_E (code_c (n := 20) (by decide) (by decide)) rfl ?_
    repeat refine branch_true ?_
    refine callT_E works_c rfl ?_
    repeat refine branch_true ?_
    show Eqv _ _
    exact .up (.up (.refl _))
end Go.Proofs
/-! Lb. -/
namespace Go.Proofs
open Go.E

theorem parseL_len : ∀ (l : List UInt8) (i : Nat) (acc : List Int), (parseL l i acc).1.length ≤ acc.length + l.length
  | [], i, acc => by simp [parseL]
  | b :: r, i, acc => by
    rw [parseL]
    split
    · have := parseL_len r (i + 1) acc
      simp only [List.length_cons]; omega
    · split
      · rename_i k hk
        have := parseL_len r (i + 1) (acc ++ [(k : Int) + 1])
        simp only [List.length_append, List.length_cons, List.length_nil] at this ⊢
        omega
      · simp
theorem parse_len (s : ByteArray) : (parse s).1.length ≤ 256 := by
  rw [parse]
  split
  · simp
  · have := parseL_len s.data.toList 0 []
    rw [size_list] at this
    simp only [List.length_nil] at this
    omega
theorem found_form (l : List Int) (x : Int) : ∃ a b, foundV l x = .tuple [.int .u8 a, .bool b] := by
  unfold foundV
  split
  · exact ⟨_, _, rfl⟩
  · exact ⟨_, _, rfl⟩
theorem print_form (l : List Int) : ∃ b e, printA l = .tuple [.str b, .int .i64 e] := by
  unfold printA
  split
  · exact ⟨_, _, rfl⟩
  · exact ⟨_, _, rfl⟩
theorem u8_range (x : Int) : 0 ≤ IntKind.u8.wrap x ∧ IntKind.u8.wrap x ≤ 255 := by rw [IntKind.wrap_u8]; omega
theorem min_form {a : Int} (h : 0 ≤ a) (b : Nat) : ∃ m : Nat, (if (b : Int) > a then a else (b : Int)) = (m : Int) ∧ (m : Int) ≤ a ∧ m ≤ b := by
  by_cases h : (b : Int) > a
  · exact ⟨a.toNat, by rw [if_pos h]; omega, by omega, by omega⟩
  · exact ⟨b, if_neg h, by omega, by omega⟩
theorem eqv_take {kk : IntKind} {l : List Int} {m : Nat} (h : m ≤ l.length) : Eqv (.ro 1 (m - 0) (fun i => irow kk l (0 + i))) (ints kk (l.take m)) := by
  refine eqv_part (by simp; omega) fun i hi => ?_
  have : i < m := by omega
  simp [irow, List.getElem?_take, this]

set_option maxRecDepth 8000 in
set_option maxHeartbeats 1000000 in
theorem texts_law (code : Int) (hcode : -9223372036854775808 ≤ code ∧ code ≤ 9223372036854775807) (s : ByteArray) (_ : s.size ≤ maxLen) (l : List Int) (_ : l.length ≤ maxLen) (hl : Bytes l) : callP Try.prog 4 [.int .i64 code, .str s, ints .u8 l] (· = .bool true) := by
  refine callE_def env (fn := Try.f4) rfl (by decide) rfl ?_
  obtain ⟨m, hm, hm1, hm2⟩ := min_form (a := 300) (by decide) s.size
  obtain ⟨n, hn, hn1, hn2⟩ := min_form (a := 300) (by decide) l.length
  refine draw_intro [0, 1, 2, 3, 4, 5, 6, 7, 8, 9, 10, 11] (by decide +kernel) ?_
  apply need_intro
  · show 0 ≤ (if (s.size : Int) > 300 then (300 : Int) else s.size) ∧ (if (s.size : Int) > 300 then (300 : Int) else s.size) ≤ s.size
    rw [hm]
    omega
  apply need_intro
  · show 0 ≤ (if (l.length : Int) > 300 then (300 : Int) else l.length) ∧ (if (l.length : Int) > 300 then (300 : Int) else l.length) ≤ l.length
    rw [hn]
    omega
  apply need_intro
  · decide
  refine loop_weak (fun i : Nat => slots 159 [(1, .str (s.extract 0 m)), (2, ints .u8 (l.take n)), (46, .agg [.int .i64 code, .int .i64 (IntKind.i64.wrap ((IntKind.u64.wrap code).tmod 40))]), (47, .int .i64 i)]) (fun _ => [])
    (fun i => i ≤ 2) (fun i => 2 - i) 0 (by omega) ((weak_keep (tm' := slots 159 [(1, .str (s.extract 0 m)), (2, .ro 1 (n - 0) (fun i => irow .u8 l (0 + i))), (46, .agg [.int .i64 code, .int .i64 (IntKind.i64.wrap ((IntKind.u64.wrap code).tmod 40))]), (47, .int .i64 0)]) (keep 159 [1, 2, 46, 47]) [] rfl ?_ rfl).trans (weak_slot 2 (eqv_take hn2) rfl)) ?_
  · simp only [hm, hn, Int.toNat_natCast]
    rfl
  intro i hi
  apply branch_intro <;> intro h
  · have hi2 : i < 2 := by simp at h; omega
    apply need_intro
    · omega
    generalize IntKind.i64.wrap ((IntKind.u64.wrap code).tmod 40) = c2
    refine partW_at (v := .int .i64 (if i = 0 then code else c2)) rfl ?_ ?_
    · rcases (show i = 0 ∨ i = 1 by omega) with rfl | rfl <;> rfl
    generalize (if i = 0 then code else c2) = x
    have hx := u8_range x
    obtain ⟨a, b, hf⟩ := found_form keyCodes x
    have hk := key_c x
    have hk' := rkey_c x
    rw [hf] at hk hk'
    refine callT_E (code_c hx.1 hx.2) rfl ?_
    refine callT_E (rcode_c hx.1 hx.2) rfl ?_
    refine callT_E hk rfl ?_
    refine callT_E hk' rfl ?_
    refine branch_f (bne_self_eq_false _) ?_
    repeat refine branch_false ?_
    refine branch_f (bne_self_eq_false _) ?_
    repeat refine branch_false ?_
    refine branch_f (bne_self_eq_false _) ?_
    repeat refine branch_false ?_
    refine branch_f (bne_self_eq_false _) ?_
    refine ⟨i + 1, by omega, by omega, weak_keep (keep 159 [1, 2, 46, 47]) [] rfl ?_ rfl⟩
    rw [wi (x := (i : Int) + 1) (by omega) (by omega)]
    rfl
  · obtain ⟨t, e, hp⟩ := print_form (l.take n)
    have hs : Short (l.take n) := by unfold Short; simp; omega
    have hb : Bytes (l.take n) := fun x hx => hl x (List.mem_of_mem_take hx)
    have h1 := print_c hs hb
    have h2 := rprint_c hs hb
    rw [hp] at h1 h2
    refine callT_E (parse_c _) rfl ?_
    refine callT_E (rparse_c _) rfl ?_
    refine callT_E h1 rfl ?_
    refine callT_E h2 rfl ?_
    refine callT_E (digits_c hs) rfl ?_
    refine callT_E (rdigits_c hs) rfl ?_
    have h3 := same_c (a := (parse (s.extract 0 m)).1) (b := (parse (s.extract 0 m)).1) (by have := parse_len (s.extract 0 m); unfold Short; omega)
    refine callT_E h3 rfl ?_
    refine branch_t (decide_eq_true rfl) ?_
    repeat (first | refine branch_true ?_ | refine branch_t (beq_self_eq_true _) ?_)
    refine callT_E works_c rfl ?_
    repeat refine branch_true ?_
    show Eqv _ _
    exact .up (.up (.refl _))

set_option maxRecDepth 8000 in
set_option maxHeartbeats 1000000 in
theorem queues_law (q : List Int) (_ : q.length ≤ maxLen) (hq : Bytes q) (k : Int) (hk : 0 ≤ k ∧ k < 256) : callP Try.prog 6 [ints .u8 q, .int .u8 k] (· = .bool true) := by
  refine callE_def env (fn := Try.f6) rfl (by decide) rfl ?_
  obtain ⟨n, hn, hn1, hn2⟩ := min_form (a := 20) (by decide) q.length
  apply need_intro
  · show 0 ≤ (if (q.length : Int) > 20 then (20 : Int) else q.length) ∧ (if (q.length : Int) > 20 then (20 : Int) else q.length) ≤ q.length
    rw [hn]
    omega
  apply need_intro
  · show ((if (q.length : Int) > 20 then (20 : Int) else q.length).toNat - 0) * 1 ≤ _
    rw [hn]
    show n * 1 ≤ 2 ^ 40
    omega
  apply need_intro
  · exact fun _ _ => ⟨_, rfl⟩
  apply choice_l
  apply need_intro
  · decide
  refine loop_weak (fun i : Nat => slots 88 [(0, ints .u8 (q.take n)), (5, ints .u8 (q.take n)), (29, .agg [.int .u8 k, .int .u8 (k.tmod 21)]), (30, .int .i64 i)]) (fun _ => [])
    (fun i => i ≤ 2) (fun i => 2 - i) 0 (by omega) ((weak_keep (tm' := slots 88 [(0, .ro 1 (n - 0) (fun i => irow .u8 q (0 + i))), (5, .ro 1 (n - 0) (fun i => irow .u8 q (0 + i))), (29, .agg [.int .u8 k, .int .u8 (k.tmod 21)]), (30, .int .i64 0)]) (keep 88 [0, 5, 29, 30]) [] rfl ?_ rfl).trans ((weak_slot 0 (eqv_take hn2) rfl).trans (weak_slot 5 (eqv_take hn2) rfl))) ?_
  · simp only [hn, Int.toNat_natCast]
    rfl
  intro i hi
  have hs : Short (q.take n) := by unfold Short; simp; omega
  apply branch_intro <;> intro h
  · have hi2 : i < 2 := by simp at h; omega
    apply need_intro
    · omega
    have hc : 0 ≤ k.tmod 21 := by rw [Int.tmod_eq_emod_of_nonneg hk.1]; omega
    generalize k.tmod 21 = c2 at hc
    refine partW_at (v := .int .u8 (if i = 0 then k else c2)) rfl ?_ ?_
    · rcases (show i = 0 ∨ i = 1 by omega) with rfl | rfl <;> rfl
    have hx : 0 ≤ (if i = 0 then k else c2) := by split <;> omega
    generalize (if i = 0 then k else c2) = x at hx
    refine callT_E (push_c hs hx) rfl ?_
    refine callT_E (rpush_c hs) rfl ?_
    refine branch_f (bne_self_eq_false _) ?_
    repeat refine branch_false ?_
    have hp : (pushL (q.take n) x).length ≤ 8 := by
      unfold pushL
      split
      · rename_i h
        simp only [List.length_append, List.length_cons, List.length_nil]
        omega
      · simp
    refine callT_E (same_c (a := pushL (q.take n) x) (b := pushL (q.take n) x) (by unfold Short; omega)) rfl ?_
    repeat refine branch_false ?_
    refine branch_f (by simp) ?_
    refine ⟨i + 1, by omega, by omega, weak_keep (keep 88 [0, 5, 29, 30]) [] rfl ?_ rfl⟩
    rw [wi (x := (i : Int) + 1) (by omega) (by omega)]
    rfl
  · have pop_form : ∃ a r b, popV (q.take n) = .tuple [.int .u8 a, ints .u8 r, .bool b] ∧ Short r := by
      unfold popV
      split
      · exact ⟨_, _, _, rfl, by unfold Short; simp⟩
      · rename_i k r he
        refine ⟨_, _, _, rfl, ?_⟩
        rw [he] at hs
        unfold Short at hs ⊢
        simp only [List.length_cons] at hs
        omega
    obtain ⟨a, r, b, hp, hr⟩ := pop_form
    have h1 := pop_c hs
    have h2 := rpop_c hs
    rw [hp] at h1 h2
    refine callT_E h1 rfl ?_
    refine callT_E h2 rfl ?_
    repeat (first | refine branch_true ?_ | refine branch_t (beq_self_eq_true _) ?_)
    refine callT_E (same_c (a := r) (b := r) hr) rfl ?_
    repeat (first | refine branch_true ?_ | refine branch_t (decide_eq_true rfl) ?_)
    refine callT_E (same_c (a := q.take n) (b := q.take n) hs) rfl ?_
    repeat (first | refine branch_true ?_ | refine branch_t (decide_eq_true rfl) ?_)
    refine callT_E works_c rfl ?_
    repeat refine branch_true ?_
    show Eqv _ _
    exact .up (.up (.refl _))
end Go.Proofs
/-! Lc. -/
namespace Go.Proofs
open Go.E

structure FiSt where
  i : Nat
  q : List Int
  w : List Int
  j : Nat
theorem drop_cons {w : List Int} {j : Nat} {k : Int} {r : List Int} (h : w.drop j = k :: r) : j < w.length ∧ w.getD j 0 = k ∧ w.drop (j + 1) = r := by
  have hlt : j < w.length := by
    apply Classical.byContradiction
    intro hn
    rw [List.drop_of_length_le (by omega)] at h
    cases h
  rw [drop_at hlt] at h
  cases h
  exact ⟨hlt, rfl, rfl⟩
theorem drop_getD {w q : List Int} {j : Nat} (h : w.drop j = q) (i : Nat) : w.getD (j + i) 0 = q.getD i 0 := by
  rw [← h, List.getD_eq_getElem?_getD, List.getD_eq_getElem?_getD, List.getElem?_drop]

def frow (w : List Int) (j : Nat) : Nat → List AVal := match j with
  | 0 => irow .u8 w
  | _ => fun i => [.int .u8 (w.getD (j + i) 0)]
theorem frow_eq {w q : List Int} {j : Nat} (h : w.drop j = q) (i : Nat) : frow w j i = irow .u8 q i := by
  cases j with
  | zero => simp only [frow, irow]; rw [← drop_getD h, Nat.zero_add]
  | succ j => simp only [frow, irow]; rw [← drop_getD h]
def FiOk (l : List Int) (t : FiSt) : Prop := t.i ≤ l.length ∧ t.i ≤ 100 ∧ t.q.length ≤ 8 ∧ t.j + t.q.length = t.w.length ∧ t.w.drop t.j = t.q
set_option maxRecDepth 8000 in
set_option maxHeartbeats 1000000 in
theorem fifo_law (l : List Int) (_ : l.length ≤ maxLen) (hl : Bytes l) : callP Try.prog 7 [ints .u8 l] (· = .bool true) := by
  refine callE_def env (fn := Try.f7) rfl (by decide) rfl ?_
  refine loop_weak (fun t : FiSt => slots 109 [(0, ints .u8 l), (3, ints .u8 t.q), (4, .slice ⟨0, t.j, 0⟩ t.q.length), (5, .int .i64 t.i)]) (fun t => [.ints .u8 t.w])
    (FiOk l) (fun t => l.length - t.i) ⟨0, [], [], 0⟩ ⟨by simp, by simp, by simp, by simp, rfl⟩
    (((weak_slot 3 (v' := ints .u8 []) (.up (.up (.nil _ _))) rfl).trans (weak_nil 4 (.ints .u8 []) rfl rfl)).trans (weak_keep (keep 109 [0, 3, 4, 5]) [0] rfl rfl rfl)) ?_
  rintro ⟨i, q, w, j⟩ ⟨hi, h100, hq, hj, hw⟩
  simp only at hi h100 hq hj hw
  have et : ((i : Int)).toNat = i := by omega
  have ei : IntKind.i64.wrap ((i : Int) + 1) = ((i + 1 : Nat) : Int) := by rw [wi (by omega) (by omega)]; rfl
  have hsq : Short q := by unfold Short; omega
  have hend : callP Try.prog 22 [ints .u8 q, .ro 1 q.length (frow w j)] (· = .bool true) := by
    have h := lsame_c (a := q) (b := q) hsq
    rw [decide_eq_true rfl] at h
    exact callP_arg (.cons (.same _) (.cons (eqv_part rfl fun i hi => frow_eq hw i) .nil)) h
  have last : ∀ (tm : List AVal) (k : List AVal → AVal → Heap → Prop), k tm (.bool true) [.ints .u8 w] → callT Try.prog 0 22 [ints .u8 q, .slice ⟨0, j, 0⟩ q.length] tm [.ints .u8 w] k := by
    intro tm k hk
    refine callT_lend (R := fun v => v = .bool true) ?_ ?_
    · apply need_intro
      · omega
      · exact whenB_iff.2 ⟨rfl, hend⟩
    · rintro v rfl
      exact whenB_iff.2 ⟨rfl, hk⟩
  apply branch_intro <;> intro h
  · have hlt : i < l.length := by simp at h; omega
    repeat refine branch_true ?_
    apply branch_intro <;> intro h2
    · have h2 : i < 100 := by simp at h2; omega
      have hx := byte_at hl i
      apply need_intro
      · dsimp only; omega
      conv => whnf
      rw [et]
      apply branch_intro <;> intro h64
      · cases q with
        | nil =>
          refine callT_E (pop_c hsq) rfl ?_
          repeat (first | refine branch_true ?_ | refine branch_false ?_)
          refine ⟨⟨i + 1, [], w, j⟩, ⟨hlt, by simp only; omega, hq, hj, hw⟩, by simp only; omega, weak_keep (keep 109 [0, 3, 4, 5]) [0] rfl ?_ rfl⟩
          rw [ei]
          rfl
        | cons k r =>
          obtain ⟨hjw, hk, hw'⟩ := drop_cons hw
          simp only [List.length_cons] at hq hj
          refine callT_E (pop_c hsq) rfl ?_
          refine branch_f (by simp) ?_
          repeat (first | refine branch_true ?_ | refine branch_false ?_)
          apply need_intro
          · simp only [List.length_cons]; omega
          repeat refine branch_true ?_
          apply need_intro
          · simp only [Int.toNat_zero]; omega
          repeat refine branch_true ?_
          conv => whnf
          simp only [Int.toNat_zero, Nat.add_zero]
          rw [hk]
          repeat (first | refine branch_true ?_ | refine branch_false ?_ | refine branch_f (bne_self_eq_false _) ?_)
          refine draw_intro [0, 1, 2, 3, 4] (by decide +kernel) ?_
          apply need_intro
          · simp only [List.length_cons]; omega
          refine ⟨⟨i + 1, r, w, j + 1⟩, ⟨hlt, by simp only; omega, by simp only; omega, by simp only; omega, hw'⟩, by simp only; omega, weak_keep (keep 109 [0, 3, 4, 5]) [0] rfl ?_ rfl⟩
          rw [ei]
          rfl
      · apply need_intro
        · dsimp only; omega
        apply need_intro
        · decide
        conv => whnf
        rw [et]
        have e1 : IntKind.u8.wrap (1 + (l.getD i 0).tmod 19) = 1 + l.getD i 0 % 19 := by
          rw [Int.tmod_eq_emod_of_nonneg (by omega)]
          exact wu8 (by omega) (by omega)
        rw [e1]
        have hk : isKey (1 + l.getD i 0 % 19) = true := by simp [isKey]; omega
        generalize 1 + l.getD i 0 % 19 = x at hk
        have hx0 := key_range hk
        refine callT_E (push_c hsq (by omega)) rfl ?_
        by_cases h8 : q.length < 8
        · rw [pushV, pushL, pushE, if_pos ⟨hk, h8⟩, if_pos hk, if_pos h8]
          refine branch_f ?_ ?_
          · have : ((q.length : Int) < 8) := by omega
            simp [this]
          repeat (first | refine branch_true ?_ | refine branch_false ?_)
          apply choice_l
          apply need_intro
          · show (q.length + 1) * 1 ≤ _
            omega
          apply need_intro
          · exact ⟨hj, isRow_irow _ _ _⟩
          refine ⟨⟨i + 1, q ++ [x], q ++ [x], 0⟩, ⟨hlt, by simp only; omega, by simp only [List.length_append, List.length_cons, List.length_nil]; omega, by simp, rfl⟩, by simp only; omega, weak_keep (keep 109 [0, 3, 4, 5]) [0] rfl ?_ ?_⟩
          · rw [ei]
            show _ = slots 109 [(0, ints .u8 l), (3, ints .u8 (q ++ [x])), (4, .slice ⟨0, 0, 0⟩ (q ++ [x]).length), (5, .int .i64 ((i + 1 : Nat) : Int))]
            rw [show AVal.slice ⟨0, 0, 0⟩ (q ++ [x]).length = AVal.slice ⟨0, 0, 0⟩ (q.length + 1) by simp]
            rfl
          · show [Blk.ints _ _] = _
            have : rowsInts .u8 1 (irow .u8 [x]) = [x] := ints_of_row [x]
            rw [this, hw]
        · rw [pushV, pushL, pushE, if_neg (by simp [h8]), if_pos hk, if_neg h8]
          refine branch_f ?_ ?_
          · have : ¬ ((q.length : Int) < 8) := by omega
            simp [this]
          repeat (first | refine branch_true ?_ | refine branch_false ?_)
          refine ⟨⟨i + 1, q, w, j⟩, ⟨hlt, by simp only; omega, hq, hj, hw⟩, by simp only; omega, weak_keep (keep 109 [0, 3, 4, 5]) [0] rfl ?_ rfl⟩
          rw [ei]
          rfl
    · repeat refine branch_false ?_
      refine last _ _ ?_
      repeat refine branch_true ?_
      refine callT_E works_c rfl ?_
      repeat refine branch_true ?_
      show Eqv _ _
      exact .up (.up (.refl _))
  · repeat refine branch_false ?_
    refine last _ _ ?_
    repeat refine branch_true ?_
    refine callT_E works_c rfl ?_
    repeat refine branch_true ?_
    show Eqv _ _
    exact .up (.up (.refl _))

/-! KeycodeKnown. -/
def nines : Nat → ByteArray
  | 0 => ⟨#[]⟩
  | i + 1 => nines i ++ ⟨#[57, 57, 57, 57]⟩
theorem nines_size : ∀ i, (nines i).size = 4 * i
  | 0 => rfl
  | i + 1 => by
    rw [nines, ByteArray.size_append, nines_size i]
    show 4 * i + 4 = _
    omega
theorem nines_list : ∀ i, (nines i).data.toList = List.replicate (4 * i) 57
  | 0 => rfl
  | i + 1 => by
    rw [nines, ByteArray.data_append, Array.toList_append, nines_list i, show 4 * (i + 1) = 4 * i + 4 by omega, ← List.replicate_append_replicate]
    rfl
theorem parse_nines : parse (nines 64) = (List.replicate 256 10, 0, 0) := by
  rw [parse, if_neg (by rw [nines_size]; omega), nines_list]
  decide +kernel
theorem parse_long : parse (nines 64 ++ ⟨#[32]⟩) = ([], 0, 4) := by
  rw [parse, if_pos]
  rw [ByteArray.size_append, nines_size]
  decide
theorem parse_ff : parse ⟨#[255]⟩ = ([], 0, 5) := by decide +kernel
theorem digits_nines : digitsV (List.replicate 256 10) = .tuple [.int .i64 999999999, .int .i64 9] := by
  have : digF 9 (List.replicate 256 10) 0 = (999999999, 9) := by decide +kernel
  rw [digitsV, this]
  rfl
set_option maxRecDepth 8000 in
set_option maxHeartbeats 1000000 in
theorem known_law : callP Try.prog 8 [] (· = .bool true) := by
  refine callE_def env (fn := Try.f8) rfl (by decide) rfl ?_
  refine callT_E (code_c (n := 1) (by decide) (by decide)) rfl ?_
  refine callT_E (key_c 0) rfl ?_
  refine callT_E (key_c 10) rfl ?_
  apply choice_l
  refine callT_E (print_c (l := [0]) (by unfold Short; decide) (by unfold Bytes; decide)) rfl ?_
  apply choice_l
  refine callT_E (digits_c (l := [4, 8, 15, 6]) (by unfold Short; decide)) rfl ?_
  refine callT_arg (args' := [ints .u8 []]) (.cons (.up (.up (.nil _ _))) .nil) ?_
  refine callT_E (digits_c (l := []) (by unfold Short; decide)) rfl ?_
  repeat refine branch_false ?_
  refine loop_inv (keep 163 [13, 14]) (fun i : Nat => slots 163 [(13, .str (nines i)), (14, .int .i64 i)]) (fun _ => []) (fun i => i ≤ 64) (fun i => 64 - i) 0 (by omega) rfl rfl ?_
  intro i hi
  apply branch_intro <;> intro h
  · have hlt : i < 64 := by simp at h; omega
    apply need_intro
    · rw [nines_size]
      show ((4 * i + 4 : Nat) : Int) ≤ 9223372036854775807
      omega
    refine ⟨i + 1, by omega, by omega, ?_, rfl⟩
    rw [wi (x := (i : Int) + 1) (by omega) (by omega)]
    rfl
  · have he : i = 64 := by simp at h; omega
    subst he
    refine callT_E (parse_c _) rfl ?_
    apply need_intro
    · rw [nines_size]
      show ((256 + 1 : Nat) : Int) ≤ 9223372036854775807
      omega
    refine callT_E (parse_c _) rfl ?_
    rw [parseV, parse_nines, parseV, parse_long]
    refine callT_E (digits_c (l := List.replicate 256 10) (by unfold Short; decide)) rfl ?_
    rw [digits_nines]
    refine callT_E (parse_c ⟨#[255]⟩) rfl ?_
    rw [parseV, parse_ff]
    have p0 : pushV (List.replicate 256 10) 0 = .tuple [ints .u8 [], .int .i64 2] := rfl
    have p1 : pushV (List.replicate 256 10) 1 = .tuple [ints .u8 [], .int .i64 13] := by
      have h : ¬ (List.replicate 256 (10 : Int)).length < 8 := by simp
      have h1 : isKey 1 = true := by decide
      rw [pushV, pushL, pushE, if_neg (fun x => h x.2), if_pos h1, if_neg h]
    have c0 := push_c (q := List.replicate 256 10) (k := 0) (by unfold Short; simp) (by decide)
    have c1 := push_c (q := List.replicate 256 10) (k := 1) (by unfold Short; simp) (by decide)
    rw [p0] at c0
    rw [p1] at c1
    refine callT_E c0 rfl ?_
    refine callT_E c1 rfl ?_
    repeat refine branch_true ?_
    refine callT_E works_c rfl ?_
    repeat refine branch_true ?_
    show Eqv _ _
    exact .up (.up (.refl _))
end Go.Proofs
/-! Ld. -/
namespace Go.Proofs
open Go.E

theorem keysOf_keys (l : List Int) (h : Bytes l) : (keysOf l).all isKey = true := by
  rw [List.all_eq_true]
  intro x hx
  obtain ⟨y, hy, rfl⟩ := List.mem_map.1 hx
  have := h y hy
  simp [isKey]
  omega
theorem key_at {K : List Int} (h : K.all isKey = true) {i : Nat} (hi : i < K.length) : 1 ≤ K.getD i 0 ∧ K.getD i 0 ≤ 19 := by
  refine key_range (List.all_eq_true.1 h _ ?_)
  rw [List.getD_eq_getElem?_getD, List.getElem?_eq_getElem hi]
  exact List.getElem_mem _
theorem letter_facts : ∀ j : Fin 19, ((letterB.getD j.1 0).toNat ≠ 32) ∧ posI letterI (letterB.getD j.1 0).toNat = some j.1 ∧ posI keyCodes (codeOf (j.1 + 1)) = some j.1 ∧ 1 ≤ codeOf (j.1 + 1) ∧ codeOf (j.1 + 1) ≤ 31 ∧
    (j.1 < 10 → ((letterB.getD j.1 0).toNat : Int) = 48 + j.1) ∧ (10 ≤ j.1 → ((letterB.getD j.1 0).toNat : Int) < 48 ∨ ((letterB.getD j.1 0).toNat : Int) > 57) := by decide +kernel
theorem letter_fact {x : Int} (h : 1 ≤ x ∧ x ≤ 19) : ((letterB.getD (x.toNat - 1) 0).toNat ≠ 32) ∧ posI letterI (letterB.getD (x.toNat - 1) 0).toNat = some (x.toNat - 1) ∧ foundV keyCodes (codeOf x) = .tuple [.int .u8 x, .bool true] ∧ 1 ≤ codeOf x ∧ codeOf x ≤ 31 ∧
    (x ≤ 10 → ((letterB.getD (x.toNat - 1) 0).toNat : Int) = 47 + x) ∧ (10 < x → ((letterB.getD (x.toNat - 1) 0).toNat : Int) < 48 ∨ ((letterB.getD (x.toNat - 1) 0).toNat : Int) > 57) := by
  obtain ⟨h1, h2, h3, h4, h5, h6, h7⟩ := letter_facts ⟨x.toNat - 1, by omega⟩
  have e : (((x.toNat - 1 : Nat) : Int) + 1) = x := by omega
  simp only [e] at h1 h2 h3 h4 h5 h6 h7
  refine ⟨h1, h2, ?_, h4, h5, fun h => ?_, fun h => h7 (by omega)⟩
  · rw [foundV, h3]
    simp only [e]
  · have := h6 (by omega)
    omega

theorem parse_letters : ∀ (ks : List Int) (_ : ks.all isKey = true) (rest : List UInt8) (i : Nat) (acc : List Int), parseL (lettersOf ks ++ rest) i acc = parseL rest (i + ks.length) (acc ++ ks)
  | [], _, rest, i, acc => by simp [lettersOf]
  | k :: r, h, rest, i, acc => by
    have hk := key_range (List.all_eq_true.1 h k List.mem_cons_self)
    have hr : r.all isKey = true := List.all_eq_true.2 fun x hx => List.all_eq_true.1 h x (List.mem_cons_of_mem _ hx)
    obtain ⟨h1, h2, _⟩ := letter_fact hk
    show parseL (letterB.getD (k.toNat - 1) 0 :: (lettersOf r ++ rest)) i acc = _
    rw [parseL, if_neg h1, h2]
    simp only
    rw [parse_letters r hr, show ((k.toNat - 1 : Nat) : Int) + 1 = k by omega, List.append_assoc]
    simp only [List.length_cons, List.cons_append, List.nil_append]
    rw [show i + 1 + r.length = i + (r.length + 1) by omega]
def spaced (bs : List UInt8) : List UInt8 := match bs with
  | [] => []
  | b :: r => b :: 32 :: spaced r
theorem parse_spaced : ∀ (ks : List Int) (_ : ks.all isKey = true) (i : Nat) (acc : List Int), parseL (spaced (lettersOf ks)) i acc = (acc ++ ks, 0, 0)
  | [], _, i, acc => by simp [lettersOf, spaced, parseL]
  | k :: r, h, i, acc => by
    have hk := key_range (List.all_eq_true.1 h k List.mem_cons_self)
    have hr : r.all isKey = true := List.all_eq_true.2 fun x hx => List.all_eq_true.1 h x (List.mem_cons_of_mem _ hx)
    obtain ⟨h1, h2, _⟩ := letter_fact hk
    show parseL (letterB.getD (k.toNat - 1) 0 :: 32 :: spaced (lettersOf r)) i acc = _
    rw [parseL, if_neg h1, h2]
    simp only
    rw [parseL, if_pos (by decide), parse_spaced r hr, show ((k.toNat - 1 : Nat) : Int) + 1 = k by omega, List.append_assoc]
    rfl
theorem spaced_snoc : ∀ (l : List UInt8) (b : UInt8), spaced (l ++ [b]) = spaced l ++ [b, 32]
  | [], b => rfl
  | a :: r, b => by
    show a :: 32 :: spaced (r ++ [b]) = _
    rw [spaced_snoc r b]
    rfl

def textOf (K : List Int) : ByteArray := ⟨(lettersOf K).toArray⟩
theorem textOf_size (K : List Int) : (textOf K).size = K.length := by
  show (lettersOf K).toArray.size = _
  simp [lettersOf]
theorem textOf_at (K : List Int) {i : Nat} (h : i < K.length) : (textOf K).data.toList.getD i 0 = letterB.getD ((K.getD i 0).toNat - 1) 0 := by
  show (lettersOf K).getD i 0 = _
  rw [List.getD_eq_getElem?_getD, lettersOf, List.getElem?_map, List.getD_eq_getElem?_getD (l := K), List.getElem?_eq_getElem h]
  rfl
def wide (K : List Int) : Nat → ByteArray
  | 0 => ⟨#[32]⟩
  | i + 1 => wide K i ++ (textOf K).extract i (i + 1) ++ ⟨#[32]⟩
theorem extract_one (s : ByteArray) {i : Nat} (h : i < s.size) : (s.extract i (i + 1)).data.toList = [s.data.toList.getD i 0] := by
  rw [ByteArray.data_extract, Array.toList_extract, List.extract_eq_take_drop, show i + 1 - i = 1 by omega]
  rw [drop_byte h]
  rfl
theorem wide_list (K : List Int) : ∀ i, i ≤ K.length → (wide K i).data.toList = 32 :: spaced ((lettersOf K).take i)
  | 0, _ => rfl
  | i + 1, h => by
    have hl : i < (lettersOf K).length := by simp [lettersOf]; omega
    rw [wide, ByteArray.data_append, Array.toList_append, ByteArray.data_append, Array.toList_append, wide_list K i (by omega), extract_one _ (by rw [textOf_size]; omega)]
    rw [List.take_add_one, List.getElem?_eq_getElem hl]
    show _ = 32 :: spaced ((lettersOf K).take i ++ [(lettersOf K)[i]])
    rw [spaced_snoc]
    show (32 :: spaced ((lettersOf K).take i) ++ [(lettersOf K).getD i 0]) ++ [32] = _
    rw [List.getD_eq_getElem?_getD, List.getElem?_eq_getElem hl]
    simp
theorem wide_size (K : List Int) (i : Nat) (h : i ≤ K.length) : (wide K i).size = 1 + 2 * i := by
  have hs : ∀ (l : List UInt8), (spaced l).length = 2 * l.length := by
    intro l
    induction l with
    | nil => rfl
    | cons a r ih => show (spaced r).length + 2 = _; rw [ih]; simp only [List.length_cons]; omega
  rw [← size_list, wide_list K i h, List.length_cons, hs, List.length_take, show (lettersOf K).length = K.length by simp [lettersOf]]
  omega
theorem parse_text {K : List Int} (h : K.all isKey = true) (hl : K.length ≤ 100) : parse (textOf K) = (K, 0, 0) := by
  rw [parse, if_neg (by rw [textOf_size]; omega)]
  have := parse_letters K h [] 0 []
  rw [List.append_nil] at this
  show parseL (lettersOf K) 0 [] = _
  rw [this]
  rfl
theorem parse_wide {K : List Int} (h : K.all isKey = true) (hl : K.length ≤ 100) : parse (wide K K.length) = (K, 0, 0) := by
  rw [parse, if_neg (by rw [wide_size K _ (Nat.le_refl _)]; omega), wide_list K _ (Nat.le_refl _)]
  rw [parseL, if_pos (by decide), List.take_of_length_le (by simp [lettersOf]), parse_spaced K h]
  rfl
theorem digF_none : ∀ (f : Nat) (l : List Int) (n : Int), (digF f l n).2 = 0 → (digF f l n).1 = n
  | 0, _, _, _ => rfl
  | _ + 1, [], _, _ => rfl
  | f + 1, k :: r, n, h => by
    rw [digF] at h ⊢
    split at h
    · simp at h
    · rename_i hk
      rw [if_neg hk]
theorem digF_le : ∀ (f : Nat) (l : List Int) (n : Int), (digF f l n).2 ≤ f ∧ (digF f l n).2 ≤ l.length
  | 0, _, _ => ⟨Nat.le_refl _, Nat.zero_le _⟩
  | _ + 1, [], _ => ⟨Nat.zero_le _, Nat.le_refl _⟩
  | f + 1, k :: r, n => by
    rw [digF]
    split
    · have := digF_le f r (10 * n + (k - 1))
      simp only [List.length_cons]
      omega
    · simp

set_option maxRecDepth 8000 in
set_option maxHeartbeats 2000000 in
theorem round_law (l : List Int) (_ : l.length ≤ maxLen) (hl : Bytes l) : callP Try.prog 5 [ints .u8 l] (· = .bool true) := by
  refine callE_def env (fn := Try.f5) rfl (by decide) rfl ?_
  obtain ⟨n, hn, hn1, hn2⟩ := min_form (a := 100) (by decide) l.length
  apply need_intro
  · show 0 ≤ (if (l.length : Int) > 100 then (100 : Int) else l.length) ∧ (if (l.length : Int) > 100 then (100 : Int) else l.length) ≤ l.length
    rw [hn]
    omega
  have ht : (l.take n).length ≤ 100 := by simp; omega
  have hb : Bytes (l.take n) := fun x hx => hl x (List.mem_of_mem_take hx)
  have hall := keysOf_keys (l.take n) hb
  have hKl : (keysOf (l.take n)).length ≤ 100 := by rw [keysOf_len]; exact ht
  have hkeys := keys_c (l := l.take n) (by unfold Short; omega) hb
  generalize keysOf (l.take n) = K at hall hKl hkeys
  have hKb : Bytes K := fun x hx => by have := key_range (List.all_eq_true.1 hall x hx); omega
  have hKs : Short K := by unfold Short; omega
  refine callT_arg (args' := [ints .u8 (l.take n)]) (.cons ?_ .nil) ?_
  · have := eqv_take (kk := .u8) hn2
    show Eqv (.ro 1 ((if (l.length : Int) > 100 then (100 : Int) else l.length).toNat - 0) (fun i => irow .u8 l (0 + i))) _
    rw [hn]
    exact this
  refine callT_E hkeys rfl ?_
  have hpr := print_c hKs hKb
  have hp : printA K = .tuple [.str (textOf K), .int .i64 0] := by rw [printA, if_pos hall]; rfl
  rw [hp] at hpr
  refine callT_E hpr rfl ?_
  repeat (first | refine branch_true ?_ | refine branch_false ?_ | refine branch_f (bne_self_eq_false _) ?_ | refine branch_t (beq_self_eq_true _) ?_)
  refine branch_f ?_ ?_
  · rw [textOf_size]; exact bne_self_eq_false _
  refine loop_inv (keep 203 [3, 4, 6, 7]) (fun i : Nat => slots 203 [(3, ints .u8 K), (4, .str (textOf K)), (6, .str (wide K i)), (7, .int .i64 i)]) (fun _ => [])
    (fun i => i ≤ K.length) (fun i => K.length - i) 0 (by omega) rfl rfl ?_
  intro i hi
  have et : ((i : Int)).toNat = i := by omega
  have ei : IntKind.i64.wrap ((i : Int) + 1) = ((i + 1 : Nat) : Int) := by rw [wi (by omega) (by omega)]; rfl
  apply branch_intro <;> intro h
  · have hlt : i < K.length := by simp at h; omega
    have hx := key_at hall hlt
    obtain ⟨_, _, f3, f4, f5, _⟩ := letter_fact hx
    have hex : ((textOf K).extract i (i + 1)).size = 1 := by rw [← size_list, extract_one _ (by rw [textOf_size]; exact hlt)]; rfl
    apply need_intro
    · rw [ei, textOf_size]; omega
    apply need_intro
    · rw [ei, et, Int.toNat_natCast, hex, wide_size K i hi]
      show ((1 + 2 * i + 1 : Nat) : Int) ≤ 9223372036854775807
      omega
    apply need_intro
    · rw [ei, et, Int.toNat_natCast, ByteArray.size_append, hex, wide_size K i hi]
      show ((1 + 2 * i + 1 + 1 : Nat) : Int) ≤ 9223372036854775807
      omega
    apply need_intro
    · omega
    conv => whnf
    rw [et]
    refine callT_E (code_c (by omega) (by omega)) rfl ?_
    have hkey := key_c (codeOf (K.getD i 0))
    rw [f3] at hkey
    refine callT_E hkey rfl ?_
    have hik : isKey (K.getD i 0) = true := by simp only [isKey, Bool.and_eq_true, decide_eq_true_eq]; exact hx
    have he : codeE (K.getD i 0) = 0 := by rw [codeE, if_pos hik]
    refine branch_f (by rw [he]; rfl) ?_
    repeat (first | refine branch_true ?_ | refine branch_false ?_ | refine branch_f (bne_self_eq_false _) ?_ | refine branch_t (beq_self_eq_true _) ?_)
    apply need_intro
    · omega
    repeat (first | refine branch_true ?_ | refine branch_false ?_ | refine branch_f (bne_self_eq_false _) ?_ | refine branch_t (beq_self_eq_true _) ?_)
    conv => whnf
    rw [et]
    repeat (first | refine branch_true ?_ | refine branch_false ?_ | refine branch_f (bne_self_eq_false _) ?_ | refine branch_t (beq_self_eq_true _) ?_)
    refine branch_f (decide_eq_false (by omega)) ?_
    repeat (first | refine branch_true ?_ | refine branch_false ?_ | refine branch_f (bne_self_eq_false _) ?_ | refine branch_t (beq_self_eq_true _) ?_)
    refine branch_f (decide_eq_false (by omega)) ?_
    repeat (first | refine branch_true ?_ | refine branch_false ?_ | refine branch_f (bne_self_eq_false _) ?_ | refine branch_t (beq_self_eq_true _) ?_)
    refine ⟨i + 1, by omega, by omega, ?_, rfl⟩
    rw [ei]
    rfl
  · have hlt : i = K.length := by simp at h; omega
    subst hlt
    refine callT_E (parse_c _) rfl ?_
    refine callT_E (parse_c _) rfl ?_
    rw [parseV, parse_text hall hKl, parseV, parse_wide hall hKl]
    have hsm := lsame_c (a := K) (b := K) hKs
    rw [decide_eq_true rfl] at hsm
    repeat (first | refine branch_true ?_ | refine branch_false ?_ | refine branch_f (bne_self_eq_false _) ?_ | refine branch_t (beq_self_eq_true _) ?_)
    refine callT_E hsm rfl ?_
    repeat (first | refine branch_true ?_ | refine branch_false ?_ | refine branch_f (bne_self_eq_false _) ?_ | refine branch_t (beq_self_eq_true _) ?_)
    refine callT_E hsm rfl ?_
    repeat (first | refine branch_true ?_ | refine branch_false ?_ | refine branch_f (bne_self_eq_false _) ?_ | refine branch_t (beq_self_eq_true _) ?_)
    refine callT_E (digits_c hKs) rfl ?_
    have hle := digF_le 9 K 0
    have hstop : ∀ s : DigSt, DigOk K s → (s.i = 9 ∨ s.i = K.length ∨ ¬ (1 ≤ K.getD s.i 0 ∧ K.getD s.i 0 ≤ 10)) → (digF 9 K 0).2 = s.i := fun s h1 h2 => by
      have := dig_stop h1 h2
      rw [digitsV] at this
      simp only [AVal.tuple.injEq, List.cons.injEq, AVal.int.injEq, and_true, true_and] at this
      omega
    rw [digitsV]
    obtain ⟨N, hN⟩ : ∃ N, (digF 9 K 0).1 = N := ⟨_, rfl⟩
    obtain ⟨c, hc⟩ : ∃ c, (digF 9 K 0).2 = c := ⟨_, rfl⟩
    rw [hc] at hle hstop
    rw [hN, hc]
    refine branch_f (decide_eq_false (by omega)) ?_
    repeat (first | refine branch_true ?_ | refine branch_false ?_ | refine branch_f (bne_self_eq_false _) ?_ | refine branch_t (beq_self_eq_true _) ?_)
    refine branch_f (decide_eq_false (by omega)) ?_
    refine loop_inv (keep 203 [3, 4, 18, 19, 20, 21]) (fun s : DigSt => slots 203 [(3, ints .u8 K), (4, .str (textOf K)), (18, .int .i64 N), (19, .int .i64 c), (20, .int .i64 s.n), (21, .int .i64 s.i)]) (fun _ => [])
      (fun s => DigOk K s ∧ s.i ≤ c) (fun s => c - s.i) ⟨0, 0⟩ ⟨⟨by simp, by simp, by simp, by simp, by simp⟩, by simp⟩ rfl rfl ?_
    rintro ⟨i, w⟩ ⟨hok, hic⟩
    have hw : 0 ≤ w ∧ w < 1000000000 := by
      have := pow9 hok.2.1
      exact ⟨hok.2.2.1, Int.lt_of_lt_of_le hok.2.2.2.1 this⟩
    simp only at hic
    have et : ((i : Int)).toNat = i := by omega
    have ei : IntKind.i64.wrap ((i : Int) + 1) = ((i + 1 : Nat) : Int) := by rw [wi (by omega) (by omega)]; rfl
    apply branch_intro <;> intro h
    · have hlt : i < c := by simp at h; omega
      have hd : 1 ≤ K.getD i 0 ∧ K.getD i 0 ≤ 10 := by
        apply Classical.byContradiction
        intro hn
        have := hstop ⟨i, w⟩ hok (.inr (.inr hn))
        simp only at this
        omega
      obtain ⟨_, _, _, _, _, f6, _⟩ := letter_fact (x := K.getD i 0) ⟨hd.1, by omega⟩
      have f6 := f6 hd.2
      have ha := textOf_at K (i := i) (by omega)
      refine branch_f (decide_eq_false (by simp only; omega)) ?_
      repeat (first | refine branch_true ?_ | refine branch_false ?_ | refine branch_f (bne_self_eq_false _) ?_ | refine branch_t (beq_self_eq_true _) ?_)
      apply need_intro
      · rw [textOf_size]; simp only; omega
      repeat (first | refine branch_true ?_ | refine branch_false ?_ | refine branch_f (bne_self_eq_false _) ?_ | refine branch_t (beq_self_eq_true _) ?_)
      conv => whnf
      simp only [et, ha, f6]
      repeat (first | refine branch_true ?_ | refine branch_false ?_ | refine branch_f (bne_self_eq_false _) ?_ | refine branch_t (beq_self_eq_true _) ?_)
      refine branch_f (decide_eq_false (by omega)) ?_
      repeat (first | refine branch_true ?_ | refine branch_false ?_ | refine branch_f (bne_self_eq_false _) ?_ | refine branch_t (beq_self_eq_true _) ?_)
      apply need_intro
      · rw [textOf_size]; omega
      repeat (first | refine branch_true ?_ | refine branch_false ?_ | refine branch_f (bne_self_eq_false _) ?_ | refine branch_t (beq_self_eq_true _) ?_)
      conv => whnf
      simp only [et, ha, f6]
      repeat (first | refine branch_true ?_ | refine branch_false ?_ | refine branch_f (bne_self_eq_false _) ?_ | refine branch_t (beq_self_eq_true _) ?_)
      refine branch_f (decide_eq_false (by omega)) ?_
      repeat (first | refine branch_true ?_ | refine branch_false ?_ | refine branch_f (bne_self_eq_false _) ?_ | refine branch_t (beq_self_eq_true _) ?_)
      apply need_intro
      · rw [textOf_size]; omega
      refine ⟨⟨i + 1, 10 * w + (K.getD i 0 - 1)⟩, ⟨dig_go hok (by simp only; omega) (by simp only; omega) hd, by simp only; omega⟩, by simp only; omega, ?_, rfl⟩
      simp only [et, ha, f6, ei]
      have e1 : IntKind.u8.wrap (47 + K.getD i 0 - 48) = K.getD i 0 - 1 := by rw [show 47 + K.getD i 0 - 48 = K.getD i 0 - 1 by omega]; exact wu8 (by omega) (by omega)
      rw [e1]
      generalize K.getD i 0 = x at hd
      rw [wi (x := x - 1) (by omega) (by omega), wi (x := 10 * w) (by omega) (by omega), wi (x := 10 * w + (x - 1)) (by omega) (by omega)]
      rfl
    · have hlt : i = c := by simp at h; omega
      subst hlt
      have hNw : N = w := by
        have h5 := hok.2.2.2.2
        simp only at h5
        have h2 := congrArg Prod.snd h5
        have h1 := congrArg Prod.fst h5
        simp only [hc, hN] at h1 h2
        rw [h1]
        exact digF_none _ _ _ (by omega)
      subst hNw
      refine branch_t (beq_self_eq_true _) ?_
      repeat (first | refine branch_true ?_ | refine branch_false ?_ | refine branch_f (bne_self_eq_false _) ?_ | refine branch_t (beq_self_eq_true _) ?_)
      refine branch_t (decide_eq_true (by omega)) ?_
      repeat (first | refine branch_true ?_ | refine branch_false ?_ | refine branch_f (bne_self_eq_false _) ?_ | refine branch_t (beq_self_eq_true _) ?_)
      have hc9 : i ≤ 9 := hle.1
      have hcl : i ≤ K.length := hle.2
      by_cases h9 : i = 9
      · refine branch_t (by rw [h9]; rfl) ?_
        repeat (first | refine branch_true ?_ | refine branch_false ?_ | refine branch_f (bne_self_eq_false _) ?_ | refine branch_t (beq_self_eq_true _) ?_)
        refine callT_E works_c rfl ?_
        repeat (first | refine branch_true ?_ | refine branch_false ?_ | refine branch_f (bne_self_eq_false _) ?_ | refine branch_t (beq_self_eq_true _) ?_)
        show Eqv _ _
        exact .up (.up (.refl _))
      · refine branch_f (beq_eq_false_iff_ne.2 (by omega)) ?_
        repeat (first | refine branch_true ?_ | refine branch_false ?_ | refine branch_f (bne_self_eq_false _) ?_ | refine branch_t (beq_self_eq_true _) ?_)
        by_cases hKn : i = K.length
        · refine branch_t (by rw [hKn]; exact beq_self_eq_true _) ?_
          repeat (first | refine branch_true ?_ | refine branch_false ?_ | refine branch_f (bne_self_eq_false _) ?_ | refine branch_t (beq_self_eq_true _) ?_)
          refine callT_E works_c rfl ?_
          repeat (first | refine branch_true ?_ | refine branch_false ?_ | refine branch_f (bne_self_eq_false _) ?_ | refine branch_t (beq_self_eq_true _) ?_)
          show Eqv _ _
          exact .up (.up (.refl _))
        · refine branch_f (beq_eq_false_iff_ne.2 (by omega)) ?_
          repeat (first | refine branch_true ?_ | refine branch_false ?_ | refine branch_f (bne_self_eq_false _) ?_ | refine branch_t (beq_self_eq_true _) ?_)
          have hlt : i < K.length := by omega
          have ha := textOf_at K hlt
          have hx := key_at hall hlt
          obtain ⟨_, _, _, _, _, _, f7⟩ := letter_fact hx
          have hbig : 10 < K.getD i 0 := by
            apply Classical.byContradiction
            intro hn
            have h5 := hok.2.2.2.2
            obtain ⟨f, hf⟩ : ∃ f, 9 - i = f + 1 := ⟨8 - i, by omega⟩
            simp only at h5
            rw [hf, drop_at hlt, digF, if_pos (by omega)] at h5
            have := congrArg Prod.snd h5
            simp only [hc] at this
            omega
          apply need_intro
          · rw [textOf_size]; omega
          repeat (first | refine branch_true ?_ | refine branch_false ?_ | refine branch_f (bne_self_eq_false _) ?_ | refine branch_t (beq_self_eq_true _) ?_)
          conv => whnf
          simp only [et, ha]
          repeat (first | refine branch_true ?_ | refine branch_false ?_ | refine branch_f (bne_self_eq_false _) ?_ | refine branch_t (beq_self_eq_true _) ?_)
          rcases f7 hbig with hs | hs
          · refine branch_t (decide_eq_true hs) ?_
            repeat (first | refine branch_true ?_ | refine branch_false ?_ | refine branch_f (bne_self_eq_false _) ?_ | refine branch_t (beq_self_eq_true _) ?_)
            refine callT_E works_c rfl ?_
            repeat (first | refine branch_true ?_ | refine branch_false ?_ | refine branch_f (bne_self_eq_false _) ?_ | refine branch_t (beq_self_eq_true _) ?_)
            show Eqv _ _
            exact .up (.up (.refl _))
          · refine branch_f (decide_eq_false (by omega)) ?_
            repeat (first | refine branch_true ?_ | refine branch_false ?_ | refine branch_f (bne_self_eq_false _) ?_ | refine branch_t (beq_self_eq_true _) ?_)
            apply need_intro
            · rw [textOf_size]; omega
            repeat (first | refine branch_true ?_ | refine branch_false ?_ | refine branch_f (bne_self_eq_false _) ?_ | refine branch_t (beq_self_eq_true _) ?_)
            conv => whnf
            simp only [et, ha]
            repeat (first | refine branch_true ?_ | refine branch_false ?_ | refine branch_f (bne_self_eq_false _) ?_ | refine branch_t (beq_self_eq_true _) ?_)
            refine branch_t (decide_eq_true hs) ?_
            repeat (first | refine branch_true ?_ | refine branch_false ?_ | refine branch_f (bne_self_eq_false _) ?_ | refine branch_t (beq_self_eq_true _) ?_)
            refine callT_E works_c rfl ?_
            repeat (first | refine branch_true ?_ | refine branch_false ?_ | refine branch_f (bne_self_eq_false _) ?_ | refine branch_t (beq_self_eq_true _) ?_)
            show Eqv _ _
            exact .up (.up (.refl _))
end Go.Proofs
