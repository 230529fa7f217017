/- GroundKeys: the receiver over all words. -/
import Derived.Test.YthedobkhfdpdaaaC45
import Derived.Test.YthedobkhfdpdaaaC46
set_option linter.unusedVariables false
set_option linter.unusedSimpArgs false
namespace Go.Proofs
open Go.E
set_option maxRecDepth 20000
theorem isRow_irow (kk : IntKind) (m : Nat) (l : List Int) : isRow kk m (irow kk l) := fun _ _ => ⟨_, rfl⟩
theorem snoc_row {kk : IntKind} (l : List Int) (x : Int) : List.drop 0 l ++ rowsInts kk 1 (irow kk [x]) = l ++ [x] := by
  have hk : sameKind kk kk = true := sameKind_iff.2 rfl
  simp [rowsInts, irow, rowInt, hk]
def keyA : Option Int → AVal
  | none => .tuple [.int .i64 0, .bool false]
  | some m => .tuple [.int .i64 m, .bool true]
structure Rcv where
  lock : Bool
  bad : Int
  out : List Int
def rcvS (s : Rcv) : Option Int → Rcv
  | none => ⟨true, s.bad + 1, s.out⟩
  | some m => match s.lock with
    | true => ⟨m != 18, s.bad, s.out⟩
    | false => ⟨false, s.bad, s.out ++ [m]⟩
def rcv (r : Nat → Option Int) : Nat → Rcv
  | 0 => ⟨false, 0, []⟩
  | k + 1 => rcvS (rcv r k) (r k)
theorem rcv_bad (r : Nat → Option Int) : ∀ k, 0 ≤ (rcv r k).bad ∧ (rcv r k).bad ≤ k := by
  intro k
  induction k with
  | zero => exact ⟨Int.le_refl _, Int.le_refl _⟩
  | succ k ih =>
    rw [rcv]
    generalize rcv r k = s at ih
    obtain ⟨l, b, o⟩ := s
    cases r k with
    | none => exact ⟨by show (0 : Int) ≤ b + 1; have := ih.1; dsimp only at this; omega, by show b + 1 ≤ ((k + 1 : Nat) : Int); have := ih.2; dsimp only at this; omega⟩
    | some m => cases l with
      | true => exact ⟨ih.1, by show b ≤ ((k + 1 : Nat) : Int); have := ih.2; dsimp only at this; omega⟩
      | false => exact ⟨ih.1, by show b ≤ ((k + 1 : Nat) : Int); have := ih.2; dsimp only at this; omega⟩
theorem rcv_len (r : Nat → Option Int) : ∀ k, (rcv r k).out.length ≤ k := by
  intro k
  induction k with
  | zero => exact Nat.le_refl _
  | succ k ih =>
    rw [rcv]
    generalize rcv r k = s at ih
    obtain ⟨l, b, o⟩ := s
    cases r k with
    | none => exact Nat.le_succ_of_le ih
    | some m => cases l with
      | true => exact Nat.le_succ_of_le ih
      | false =>
        show (o ++ [m]).length ≤ k + 1
        rw [List.length_append]
        exact Nat.succ_le_succ ih
theorem after_c {w : Nat → Int} {s : Rcv} {r : Option Int} (hk : callP Try.prog 27 [.agg (w16 w)] (· = keyA r)) (h0 : 0 ≤ s.bad) (h1 : s.bad < 32767) :
    ∃ c d, callP Try.prog 20 [.agg [.bool s.lock, .int .i64 s.bad], .agg (w16 w)] (· = .tuple [.agg [.bool (rcvS s r).lock, .int .i64 (rcvS s r).bad], .int .i64 c, .bool d]) ∧ (rcvS s r).out = if d = true then s.out ++ [c] else s.out := by
  obtain ⟨l, b, o⟩ := s
  cases r with
  | none => exact ⟨0, false, after_bad hk h0 h1, rfl⟩
  | some m => cases l with
    | true => exact ⟨0, false, after_locked hk, rfl⟩
    | false => exact ⟨m, true, after_open hk, rfl⟩
theorem all_c {n : Nat} {W : Nat → Nat → Int} {r : Nat → Option Int} (hk : ∀ i, i < n → callP Try.prog 27 [.agg (w16 (W i))] (· = keyA (r i))) (hn : n ≤ 1000) :
    callP Try.prog 8 [.ro 16 n fun i => w16 (W i)] (· = .tuple [ints .i64 (rcv r n).out, .agg [.bool (rcv r n).lock, .int .i64 (rcv r n).bad]]) := by
  refine callE_def env (fn := Try.f8) rfl (by decide) rfl ?_
  repeat refine stp ?_
  refine loop_weak (fun i : Nat => slots 34 [(2, .nilslice), (3, .ptr ⟨0, 0, 0⟩), (4, .ptr ⟨1, 0, 0⟩), (5, .slice ⟨2, 0, 0⟩ (rcv r i).out.length), (11, .ro 16 n fun i => w16 (W i)), (12, .int .i64 n), (13, .int .i64 i)])
    (fun i => [.cells [.bool false, .int .i64 0], .cells [.bool (rcv r i).lock, .int .i64 (rcv r i).bad], .ints .i64 (rcv r i).out])
    (fun i => i ≤ n) (fun i => n - i) 0 (Nat.zero_le _) ((weak_nil 5 (.ints .i64 []) rfl rfl).trans (weak_keep (keep 34 [2, 3, 4, 5, 11, 12, 13]) [0, 1, 2] rfl rfl rfl)) ?_
  intro i hi
  by_cases hin : i = n
  · rw [hin]
    repeat refine stp ?_
    refine draw_tree (picks (List.range 5) .done) (by decide +kernel) ?_
    repeat refine stp ?_
    show Eqv _ _
    exact .up (.up (.refl _))
  have hlt : i < n := by omega
  have e1 : IntKind.i64.wrap ((i : Int) + 1) = ((i + 1 : Nat) : Int) := by rw [wi (by omega) (by omega)]; rfl
  have hb := rcv_bad r i
  have hl := rcv_len r i
  obtain ⟨c, d, ha, ho⟩ := after_c (s := rcv r i) (hk i hlt) hb.1 (by omega)
  have hs : rcv r (i + 1) = rcvS (rcv r i) (r i) := rfl
  repeat refine stp ?_
  conv => whnf
  simp only [Int.toNat_natCast]
  refine callT_E ha rfl ?_
  cases d with
  | true =>
    repeat refine stp ?_
    apply choice_l
    repeat refine stp ?_
    apply need_intro
    · show ((rcv r i).out.length + 1) * 8 ≤ 2 ^ 47
      omega
    apply need_intro
    · exact ⟨Nat.zero_add _, isRow_irow _ _ _⟩
    repeat refine stp ?_
    refine ⟨i + 1, hlt, by show n - (i + 1) < n - i; omega, weak_keep (keep 34 [2, 3, 4, 5, 11, 12, 13]) [0, 1, 2] rfl ?_ ?_⟩
    · show [_, _, _, _, _, _, _, _, _, _, _, _, _, _, _, _, _, _, _, _, _, _, _, _, _, _, _, _, _, _, _, _, _, _] = _
      rw [e1, hs, ho, if_pos rfl, List.length_append]
      rfl
    · rw [hs, ho, if_pos rfl]
      rfl
  | false =>
    repeat refine stp ?_
    refine ⟨i + 1, hlt, by show n - (i + 1) < n - i; omega, weak_keep (keep 34 [2, 3, 4, 5, 11, 12, 13]) [0, 1, 2] rfl ?_ ?_⟩
    · show [_, _, _, _, _, _, _, _, _, _, _, _, _, _, _, _, _, _, _, _, _, _, _, _, _, _, _, _, _, _, _, _, _, _] = _
      rw [e1, hs, ho, if_neg (by decide)]
      rfl
    · rw [hs, ho, if_neg (by decide)]
      rfl
end Go.Proofs
namespace Go.Proofs
open Go.E
set_option maxRecDepth 20000
theorem bit_01 (m i : Nat) : bitV m i = 0 ∨ bitV m i = 1 := by
  unfold bitV
  omega
theorem word_01 (m i : Nat) : uwordV m i = 0 ∨ uwordV m i = 1 := by
  unfold uwordV
  split
  · exact .inr rfl
  · split
    · exact bit_01 _ _
    · split
      · rcases bit_01 m (i - 6) with h | h <;> rw [h]
        · exact .inr rfl
        · exact .inl rfl
      · exact bit_01 _ _
theorem wrap_c {b : Int} (h : b = 0 ∨ b = 1) : IntKind.u8.wrap (1 - b) = 1 - b := by
  rcases h with h | h <;> rw [h] <;> rfl
theorem good_iff (x : Nat → Int) : goodW x = true ↔ x 0 = 1 ∧ ∀ i, i < 5 → x (1 + i) = x (11 + i) ∧ x (6 + i) = IntKind.u8.wrap (1 - x (1 + i)) := by
  unfold goodW
  simp only [Bool.and_eq_true, beq_iff_eq, and_true]
  constructor
  · rintro ⟨h0, ⟨a0, a1, a2, a3, a4⟩, b0, b1, b2, b3, b4⟩
    refine ⟨h0, fun i hi => ?_⟩
    rcases (show i = 0 ∨ i = 1 ∨ i = 2 ∨ i = 3 ∨ i = 4 by omega) with rfl | rfl | rfl | rfl | rfl
    · exact ⟨a0, b0⟩
    · exact ⟨a1, b1⟩
    · exact ⟨a2, b2⟩
    · exact ⟨a3, b3⟩
    · exact ⟨a4, b4⟩
  · rintro ⟨h0, h⟩
    have q0 := h 0 (by decide)
    have q1 := h 1 (by decide)
    have q2 := h 2 (by decide)
    have q3 := h 3 (by decide)
    have q4 := h 4 (by decide)
    exact ⟨h0, ⟨q0.1, q1.1, q2.1, q3.1, q4.1⟩, q0.2, q1.2, q2.2, q3.2, q4.2⟩
theorem word_at (m : Nat) {i : Nat} (hi : i < 5) : uwordV m 0 = 1 ∧ uwordV m (1 + i) = bitV m i ∧ uwordV m (6 + i) = 1 - bitV m i ∧ uwordV m (11 + i) = bitV m i := by
  rcases (show i = 0 ∨ i = 1 ∨ i = 2 ∨ i = 3 ∨ i = 4 by omega) with rfl | rfl | rfl | rfl | rfl <;> exact ⟨rfl, rfl, rfl, rfl⟩
theorem good_word (m : Nat) : goodW (uwordV m) = true := by
  rw [good_iff]
  refine ⟨rfl, fun i hi => ?_⟩
  obtain ⟨_, h1, h2, h3⟩ := word_at m hi
  rw [h1, h2, h3, wrap_c (bit_01 m i)]
  exact ⟨rfl, rfl⟩
theorem num_word {m : Nat} (hm : m < 32) : num5 (fun i => uwordV m (1 + i)) = m := by
  unfold num5
  dsimp only
  rw [(word_at m (i := 0) (by decide)).2.1, (word_at m (i := 1) (by decide)).2.1, (word_at m (i := 2) (by decide)).2.1, (word_at m (i := 3) (by decide)).2.1, (word_at m (i := 4) (by decide)).2.1]
  unfold bitV
  simp only [Nat.sub_zero, Nat.reduceSub, Nat.reducePow]
  omega
theorem damaged {m a b : Nat} {x : Nat → Int} (hp : ∀ j, j < 16 → 0 ≤ x j) (hx : ∀ j, j < 16 → x j = uwordV m j ∨ x j = 2 ∨ j = a ∨ j = b) :
    (∀ j, j < 16 → x j = uwordV m j) ∨ (∃ j, j < 16 ∧ x j ≠ uwordV m j) ∧ (goodW x = false ∨ ∃ i, i < 5 ∧ 1 < x (1 + i)) := by
  by_cases h : ∀ j, j < 16 → x j = uwordV m j
  · exact .inl h
  refine .inr ⟨?_, ?_⟩
  · refine Classical.byContradiction fun hn => h fun j hj => Classical.byContradiction fun he => hn ⟨j, hj, he⟩
  refine Classical.byContradiction fun hn => h ?_
  have hg : goodW x = true := by
    cases hg : goodW x with
    | true => rfl
    | false => exact absurd (.inl hg) hn
  have h1 : ∀ i, i < 5 → x (1 + i) ≤ 1 := fun i hi => Int.not_lt.1 fun hlt => hn (.inr ⟨i, hi, hlt⟩)
  obtain ⟨g0, g⟩ := (good_iff x).1 hg
  have key : ∀ i, i < 5 → x (1 + i) = bitV m i ∧ x (6 + i) = 1 - bitV m i ∧ x (11 + i) = bitV m i := by
    intro i hi
    obtain ⟨e1, e2⟩ := g i hi
    have l1 := h1 i hi
    obtain ⟨_, w1, w2, w3⟩ := word_at m hi
    have b01 := bit_01 m i
    have l0 := hp (1 + i) (by omega)
    have x1 := hx (1 + i) (by omega)
    have x6 := hx (6 + i) (by omega)
    have x11 := hx (11 + i) (by omega)
    rw [w1] at x1
    rw [w2] at x6
    rw [w3] at x11
    have hb : x (1 + i) = bitV m i := by
      refine Classical.byContradiction fun hne => ?_
      by_cases c6 : x (6 + i) = 1 - bitV m i
      · rw [wrap_c (by omega)] at e2
        omega
      · rw [wrap_c (by omega)] at e2
        omega
    rw [hb] at e1 e2
    rw [wrap_c b01] at e2
    exact ⟨hb, e2, e1.symm⟩
  intro j hj
  by_cases j0 : j = 0
  · rw [j0, g0]
    rfl
  by_cases j1 : j < 6
  · obtain ⟨i, rfl⟩ : ∃ i, j = 1 + i := ⟨j - 1, by omega⟩
    rw [(key i (by omega)).1, (word_at m (show i < 5 by omega)).2.1]
  by_cases j2 : j < 11
  · obtain ⟨i, rfl⟩ : ∃ i, j = 6 + i := ⟨j - 6, by omega⟩
    rw [(key i (by omega)).2.1, (word_at m (show i < 5 by omega)).2.2.1]
  · obtain ⟨i, rfl⟩ : ∃ i, j = 11 + i := ⟨j - 11, by omega⟩
    rw [(key i (by omega)).2.2, (word_at m (show i < 5 by omega)).2.2.2]
theorem w16_congr {x y : Nat → Int} (h : ∀ j, j < 16 → x j = y j) : w16 x = w16 y := by
  unfold w16
  rw [h 0 (by decide), h 1 (by decide), h 2 (by decide), h 3 (by decide), h 4 (by decide), h 5 (by decide), h 6 (by decide), h 7 (by decide), h 8 (by decide), h 9 (by decide), h 10 (by decide), h 11 (by decide), h 12 (by decide), h 13 (by decide), h 14 (by decide), h 15 (by decide)]
theorem key_sent {m : Nat} (hm : m < 32) : callP Try.prog 27 [.agg (w16 (uwordV m))] (· = keyA (some m)) := by
  have e := key_t (x := uwordV m) (fun i hi => by
    rw [(word_at m hi).2.1]
    rcases bit_01 m i with h | h <;> rw [h] <;> decide) (good_word m)
  rw [num_word hm] at e
  exact e
theorem key_hit {m a b : Nat} (hm : m < 32) {x : Nat → Int} (h0 : ∀ j, j < 16 → 0 ≤ x j) (hx : ∀ j, j < 16 → x j = uwordV m j ∨ x j = 2 ∨ j = a ∨ j = b) :
    (∀ j, j < 16 → x j = uwordV m j) ∧ callP Try.prog 27 [.agg (w16 x)] (· = keyA (some m)) ∨ (∃ j, j < 16 ∧ x j ≠ uwordV m j) ∧ callP Try.prog 27 [.agg (w16 x)] (· = keyA none) := by
  rcases damaged h0 hx with h | ⟨h, h'⟩
  · refine .inl ⟨h, ?_⟩
    rw [w16_congr h]
    exact key_sent hm
  · exact .inr ⟨h, key_f (fun i hi => h0 (1 + i) (by omega)) h'⟩
theorem all_any {n : Nat} {f : Nat → List AVal} {W : Nat → Nat → Int} {r : Nat → Option Int} (hf : ∀ i, i < n → f i = w16 (W i)) (hk : ∀ i, i < n → callP Try.prog 27 [.agg (w16 (W i))] (· = keyA (r i))) (hn : n ≤ 1000) :
    callP Try.prog 8 [.ro 16 n f] (· = .tuple [ints .i64 (rcv r n).out, .agg [.bool (rcv r n).lock, .int .i64 (rcv r n).bad]]) :=
  callP_arg (.cons (.up (.up (.ro hf))) .nil) (all_c hk hn)
theorem live_c : callP Try.prog 5 [] (· = .bool true) := by
  refine callE_def env (fn := Try.f5) rfl (by decide) rfl ?_
  refine callT_E (uword_c (m := 17) (by decide)) rfl ?_
  repeat refine stp ?_
  apply choice_l
  repeat refine stp ?_
  refine callT_E (all_any (n := 1) (W := fun _ => uwordV 17) (r := fun _ => some 17) (fun i hi => by obtain rfl : i = 0 := (by omega); rfl) (fun i _ => key_sent (m := 17) (by decide)) (by decide)) rfl ?_
  repeat refine stp ?_
  show Eqv _ _
  exact .up (.up (.refl _))
end Go.Proofs
