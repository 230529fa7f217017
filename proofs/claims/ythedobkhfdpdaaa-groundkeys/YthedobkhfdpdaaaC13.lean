/- Chapter 30: entries that are consistent. -/
import Derived.Test.YthedobkhfdpdaaaC12
set_option linter.unusedVariables false
set_option linter.unusedSimpArgs false
namespace Go.Proofs
open Go.E
set_option maxRecDepth 8000
theorem suit_none {N : Nns} {v n : Int} (h : N.find n = none) : suit N v n = false := by rw [suit, h]
theorem suit_some {N : Nns} {v n : Int} {i : Nat} (h : N.find n = some i) : suit N v n = fits (vrb v) (N.m i) := by rw [suit, h]
theorem typed_lt {x : Shw} {c : Int} {j : Nat} (h : (j : Int) < c) : typed x c j = decide (x.f j ≤ 9) := if_pos h
theorem typed_ge {x : Shw} {c : Int} {j : Nat} (h : ¬ (j : Int) < c) : typed x c j = decide (x.f j = 10) := if_neg h
def typz (ty : Shw) (cnt : Int) : Bool := typed ty cnt 0 && typed ty cnt 1 && typed ty cnt 2 && typed ty cnt 3 && typed ty cnt 4
theorem typ_all {ty : Shw} {cnt : Int} (h : ∀ j, j < 5 → typed ty cnt j = true) : typz ty cnt = true := by
  simp only [typz, h 0 (by decide), h 1 (by decide), h 2 (by decide), h 3 (by decide), h 4 (by decide), Bool.and_self]
theorem typ_not {ty : Shw} {cnt : Int} {j : Nat} (hj : j < 5) (h : typed ty cnt j = false) : typz ty cnt = false := by
  rcases (show j = 0 ∨ j = 1 ∨ j = 2 ∨ j = 3 ∨ j = 4 by omega) with rfl | rfl | rfl | rfl | rfl <;> simp [typz, h]
def data (p : Pan) : Bool := suit p.N p.vb p.nn && decide ((vrb p.vb).k = 3) && decide (0 ≤ p.cmp ∧ p.cmp ≤ 2) && (vrb p.vb).c p.cmp && decide (0 ≤ p.cnt ∧ p.cnt ≤ 5) && decide (p.ty.s ≤ 2)
theorem entry3 {p : Pan} (h : p.st = 3) : entryV p = (data p && typz p.ty p.cnt) := by
  unfold entryV data typz
  rw [if_neg (by omega), if_neg (by omega), if_neg (by omega), if_pos h]
  simp only [Bool.and_assoc]
set_option maxHeartbeats 8000000 in
theorem cons_low (p : Pan) (h : p.st ≠ 3) : callP Try.prog 39 [p.A] (· = .bool (entryV p)) := by
  refine callE_def env (fn := Try.f39) rfl (by decide) rfl ?_
  by_cases h0 : p.st = 0
  · rw [entryV, if_pos h0]
    repeat refine stp ?_
    show Eqv (.bool (p.cnt == 0)) _
    rw [show (p.cnt == 0) = decide (p.cnt = 0) from rfl]
    exact .up (.up (.refl _))
  by_cases h1 : p.st = 1
  · rw [entryV, if_neg h0, if_pos h1]
    repeat refine stp ?_
    refine callT_E (counted_c p.cnt p.vb) rfl ?_
    repeat refine stp ?_
    show Eqv _ _
    exact .up (.up (.refl _))
  by_cases h2 : p.st = 2
  · rw [entryV, if_neg h0, if_neg h1, if_pos (.inl h2)]
    repeat refine stp ?_
    refine callT_E (counted_c p.cnt p.nn) rfl ?_
    repeat refine stp ?_
    show Eqv _ _
    exact .up (.up (.refl _))
  by_cases h4 : p.st = 4
  · rw [entryV, if_neg h0, if_neg h1, if_pos (.inr h4)]
    repeat refine stp ?_
    refine callT_E (counted_c p.cnt p.nn) rfl ?_
    repeat refine stp ?_
    show Eqv _ _
    exact .up (.up (.refl _))
  rw [entryV, if_neg h0, if_neg h1, if_neg (by omega), if_neg h]
  repeat refine stp ?_
  show Eqv _ _
  exact .up (.up (.refl _))
end Go.Proofs
namespace Go.Proofs
open Go.E
set_option maxRecDepth 8000
set_option maxHeartbeats 16000000 in
theorem cons_ok0 (N : Nns) (vb nn : Int) (ty : Shw) (cnt : Int) (l0 l1 l2 : Shw) (act : Vrb) (an av aq : Int) (asked : Bool) (D : Dsp) (o c1 c2 : Bool) (i : Nat)
    (e : callP Try.prog 40 [N.A, .int .i64 vb, .int .i64 nn] (· = .tuple [Vrb.A ⟨3, o, true, c1, c2⟩, nounA N nn i, .bool true])) (hn : 0 ≤ cnt ∧ cnt ≤ 5) (hs2 : ty.s ≤ 2) :
    callP Try.prog 39 [Pan.A ⟨N, 3, vb, nn, ty, cnt, 0, l0, l1, l2, act, an, av, aq, asked, D⟩] (· = .bool (typz ty cnt)) := by
  refine callE_def env (fn := Try.f39) rfl (by decide) rfl ?_
  have next : ∀ {i : Nat}, (∀ j, j < i → typed ty cnt j = true) → typed ty cnt i = true → ∀ j, j < i + 1 → typed ty cnt j = true := fun {i} hs ht j hj => by
    rcases Nat.lt_or_ge j i with h | h
    · exact hs j h
    · obtain rfl : j = i := by omega
      exact ht
  repeat refine stp ?_
  refine callT_E e rfl ?_
  repeat refine stp ?_
  refine loop_weak (fun i : Nat => slots 110 [(1, .ptr ⟨0, 0, 0⟩), (86, .agg [.int .u8 ty.a, .int .u8 ty.b, .int .u8 ty.c, .int .u8 ty.d, .int .u8 ty.e]), (87, .int .i64 i)]) (fun _ => [.cells (Pan.L ⟨N, 3, vb, nn, ty, cnt, 0, l0, l1, l2, act, an, av, aq, asked, D⟩)])
    (fun i => i ≤ 5 ∧ ∀ j, j < i → typed ty cnt j = true) (fun i => 5 - i) 0 ⟨by decide, fun j hj => absurd hj (by omega)⟩ (weak_keep (keep 110 [1, 86, 87]) [0] rfl rfl rfl) ?_
  rintro i ⟨hi, hs⟩
  match i, hi with
  | 0, _ =>
    by_cases hlt : (0 : Int) < cnt
    · by_cases hd : ty.a ≤ 9
      · have ht : typed ty cnt 0 = true := (typed_lt (by omega)).trans (decide_eq_true hd)
        repeat refine stp ?_
        exact ⟨1, ⟨by decide, next hs ht⟩, by decide, weak_keep (keep 110 [1, 86, 87]) [0] rfl rfl rfl⟩
      · rw [typ_not (j := 0) (by decide) ((typed_lt (by omega)).trans (decide_eq_false hd))]
        repeat refine stp ?_
        show Eqv _ _
        exact .up (.up (.refl _))
    · by_cases hd : ty.a = 10
      · have ht : typed ty cnt 0 = true := (typed_ge (by omega)).trans (decide_eq_true hd)
        repeat refine stp ?_
        exact ⟨1, ⟨by decide, next hs ht⟩, by decide, weak_keep (keep 110 [1, 86, 87]) [0] rfl rfl rfl⟩
      · rw [typ_not (j := 0) (by decide) ((typed_ge (by omega)).trans (decide_eq_false hd))]
        repeat refine stp ?_
        show Eqv _ _
        exact .up (.up (.refl _))
  | 1, _ =>
    by_cases hlt : (1 : Int) < cnt
    · by_cases hd : ty.b ≤ 9
      · have ht : typed ty cnt 1 = true := (typed_lt (by omega)).trans (decide_eq_true hd)
        repeat refine stp ?_
        exact ⟨2, ⟨by decide, next hs ht⟩, by decide, weak_keep (keep 110 [1, 86, 87]) [0] rfl rfl rfl⟩
      · rw [typ_not (j := 1) (by decide) ((typed_lt (by omega)).trans (decide_eq_false hd))]
        repeat refine stp ?_
        show Eqv _ _
        exact .up (.up (.refl _))
    · by_cases hd : ty.b = 10
      · have ht : typed ty cnt 1 = true := (typed_ge (by omega)).trans (decide_eq_true hd)
        repeat refine stp ?_
        exact ⟨2, ⟨by decide, next hs ht⟩, by decide, weak_keep (keep 110 [1, 86, 87]) [0] rfl rfl rfl⟩
      · rw [typ_not (j := 1) (by decide) ((typed_ge (by omega)).trans (decide_eq_false hd))]
        repeat refine stp ?_
        show Eqv _ _
        exact .up (.up (.refl _))
  | 2, _ =>
    by_cases hlt : (2 : Int) < cnt
    · by_cases hd : ty.c ≤ 9
      · have ht : typed ty cnt 2 = true := (typed_lt (by omega)).trans (decide_eq_true hd)
        repeat refine stp ?_
        exact ⟨3, ⟨by decide, next hs ht⟩, by decide, weak_keep (keep 110 [1, 86, 87]) [0] rfl rfl rfl⟩
      · rw [typ_not (j := 2) (by decide) ((typed_lt (by omega)).trans (decide_eq_false hd))]
        repeat refine stp ?_
        show Eqv _ _
        exact .up (.up (.refl _))
    · by_cases hd : ty.c = 10
      · have ht : typed ty cnt 2 = true := (typed_ge (by omega)).trans (decide_eq_true hd)
        repeat refine stp ?_
        exact ⟨3, ⟨by decide, next hs ht⟩, by decide, weak_keep (keep 110 [1, 86, 87]) [0] rfl rfl rfl⟩
      · rw [typ_not (j := 2) (by decide) ((typed_ge (by omega)).trans (decide_eq_false hd))]
        repeat refine stp ?_
        show Eqv _ _
        exact .up (.up (.refl _))
  | 3, _ =>
    by_cases hlt : (3 : Int) < cnt
    · by_cases hd : ty.d ≤ 9
      · have ht : typed ty cnt 3 = true := (typed_lt (by omega)).trans (decide_eq_true hd)
        repeat refine stp ?_
        exact ⟨4, ⟨by decide, next hs ht⟩, by decide, weak_keep (keep 110 [1, 86, 87]) [0] rfl rfl rfl⟩
      · rw [typ_not (j := 3) (by decide) ((typed_lt (by omega)).trans (decide_eq_false hd))]
        repeat refine stp ?_
        show Eqv _ _
        exact .up (.up (.refl _))
    · by_cases hd : ty.d = 10
      · have ht : typed ty cnt 3 = true := (typed_ge (by omega)).trans (decide_eq_true hd)
        repeat refine stp ?_
        exact ⟨4, ⟨by decide, next hs ht⟩, by decide, weak_keep (keep 110 [1, 86, 87]) [0] rfl rfl rfl⟩
      · rw [typ_not (j := 3) (by decide) ((typed_ge (by omega)).trans (decide_eq_false hd))]
        repeat refine stp ?_
        show Eqv _ _
        exact .up (.up (.refl _))
  | 4, _ =>
    by_cases hlt : (4 : Int) < cnt
    · by_cases hd : ty.e ≤ 9
      · have ht : typed ty cnt 4 = true := (typed_lt (by omega)).trans (decide_eq_true hd)
        repeat refine stp ?_
        exact ⟨5, ⟨by decide, next hs ht⟩, by decide, weak_keep (keep 110 [1, 86, 87]) [0] rfl rfl rfl⟩
      · rw [typ_not (j := 4) (by decide) ((typed_lt (by omega)).trans (decide_eq_false hd))]
        repeat refine stp ?_
        show Eqv _ _
        exact .up (.up (.refl _))
    · by_cases hd : ty.e = 10
      · have ht : typed ty cnt 4 = true := (typed_ge (by omega)).trans (decide_eq_true hd)
        repeat refine stp ?_
        exact ⟨5, ⟨by decide, next hs ht⟩, by decide, weak_keep (keep 110 [1, 86, 87]) [0] rfl rfl rfl⟩
      · rw [typ_not (j := 4) (by decide) ((typed_ge (by omega)).trans (decide_eq_false hd))]
        repeat refine stp ?_
        show Eqv _ _
        exact .up (.up (.refl _))
  | 5, _ =>
    rw [typ_all hs]
    repeat refine stp ?_
    show Eqv _ _
    exact .up (.up (.refl _))
end Go.Proofs
