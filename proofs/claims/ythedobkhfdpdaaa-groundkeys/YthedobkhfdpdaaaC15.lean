/- Chapter 30: the entry of a component. -/
import Derived.Test.YthedobkhfdpdaaaC13
set_option linter.unusedVariables false
set_option linter.unusedSimpArgs false
namespace Go.Proofs
open Go.E
set_option maxRecDepth 8000
set_option maxHeartbeats 16000000 in
theorem cons_ok2 (N : Nns) (vb nn : Int) (ty : Shw) (cnt : Int) (l0 l1 l2 : Shw) (act : Vrb) (an av aq : Int) (asked : Bool) (D : Dsp) (o c0 c1 : Bool) (i : Nat)
    (e : callP Try.prog 40 [N.A, .int .i64 vb, .int .i64 nn] (· = .tuple [Vrb.A ⟨3, o, c0, c1, true⟩, nounA N nn i, .bool true])) (hn : 0 ≤ cnt ∧ cnt ≤ 5) (hs2 : ty.s ≤ 2) :
    callP Try.prog 39 [Pan.A ⟨N, 3, vb, nn, ty, cnt, 2, l0, l1, l2, act, an, av, aq, asked, D⟩] (· = .bool (typz ty cnt)) := by
  refine callE_def env (fn := Try.f39) rfl (by decide) rfl ?_
  have next : ∀ {i : Nat}, (∀ j, j < i → typed ty cnt j = true) → typed ty cnt i = true → ∀ j, j < i + 1 → typed ty cnt j = true := fun {i} hs ht j hj => by
    rcases Nat.lt_or_ge j i with h | h
    · exact hs j h
    · obtain rfl : j = i := by omega
      exact ht
  repeat refine stp ?_
  refine callT_E e rfl ?_
  repeat refine stp ?_
  refine loop_weak (fun i : Nat => slots 110 [(1, .ptr ⟨0, 0, 0⟩), (86, .agg [.int .u8 ty.a, .int .u8 ty.b, .int .u8 ty.c, .int .u8 ty.d, .int .u8 ty.e]), (87, .int .i64 i)]) (fun _ => [.cells (Pan.L ⟨N, 3, vb, nn, ty, cnt, 2, l0, l1, l2, act, an, av, aq, asked, D⟩)])
    (fun i => i ≤ 5 ∧ ∀ j, j < i → typed ty cnt j = true) (fun i => 5 - i) 0 ⟨by decide, fun j hj => absurd hj (by omega)⟩ (weak_keep (keep 110 [1, 86, 87]) [0] rfl rfl rfl) ?_
  rintro i ⟨hi, hs⟩
  match i, hi with
  | 0, _ =>
    by_cases hlt : (0 : Int) < cnt
    · by_cases hd : ty.a ≤ 9
      · have ht : typed ty cnt 0 = true := (typed_lt (by omega)).trans (decide_eq_true hd)
        repeat refine stp ?_
        exact ⟨1, ⟨by decide, next hs ht⟩, by decide, weak_keep (keep 110 [1, 86, 87]) [0] rfl rfl rfl⟩
      · rw [typ_not (j := 0) (by decide) ((typed_lt (by omega)).trans (decide_eq_false hd))]
        repeat refine stp ?_
        show Eqv _ _
        exact .up (.up (.refl _))
    · by_cases hd : ty.a = 10
      · have ht : typed ty cnt 0 = true := (typed_ge (by omega)).trans (decide_eq_true hd)
        repeat refine stp ?_
        exact ⟨1, ⟨by decide, next hs ht⟩, by decide, weak_keep (keep 110 [1, 86, 87]) [0] rfl rfl rfl⟩
      · rw [typ_not (j := 0) (by decide) ((typed_ge (by omega)).trans (decide_eq_false hd))]
        repeat refine stp ?_
        show Eqv _ _
        exact .up (.up (.refl _))
  | 1, _ =>
    by_cases hlt : (1 : Int) < cnt
    · by_cases hd : ty.b ≤ 9
      · have ht : typed ty cnt 1 = true := (typed_lt (by omega)).trans (decide_eq_true hd)
        repeat refine stp ?_
        exact ⟨2, ⟨by decide, next hs ht⟩, by decide, weak_keep (keep 110 [1, 86, 87]) [0] rfl rfl rfl⟩
      · rw [typ_not (j := 1) (by decide) ((typed_lt (by omega)).trans (decide_eq_false hd))]
        repeat refine stp ?_
        show Eqv _ _
        exact .up (.up (.refl _))
    · by_cases hd : ty.b = 10
      · have ht : typed ty cnt 1 = true := (typed_ge (by omega)).trans (decide_eq_true hd)
        repeat refine stp ?_
        exact ⟨2, ⟨by decide, next hs ht⟩, by decide, weak_keep (keep 110 [1, 86, 87]) [0] rfl rfl rfl⟩
      · rw [typ_not (j := 1) (by decide) ((typed_ge (by omega)).trans (decide_eq_false hd))]
        repeat refine stp ?_
        show Eqv _ _
        exact .up (.up (.refl _))
  | 2, _ =>
    by_cases hlt : (2 : Int) < cnt
    · by_cases hd : ty.c ≤ 9
      · have ht : typed ty cnt 2 = true := (typed_lt (by omega)).trans (decide_eq_true hd)
        repeat refine stp ?_
        exact ⟨3, ⟨by decide, next hs ht⟩, by decide, weak_keep (keep 110 [1, 86, 87]) [0] rfl rfl rfl⟩
      · rw [typ_not (j := 2) (by decide) ((typed_lt (by omega)).trans (decide_eq_false hd))]
        repeat refine stp ?_
        show Eqv _ _
        exact .up (.up (.refl _))
    · by_cases hd : ty.c = 10
      · have ht : typed ty cnt 2 = true := (typed_ge (by omega)).trans (decide_eq_true hd)
        repeat refine stp ?_
        exact ⟨3, ⟨by decide, next hs ht⟩, by decide, weak_keep (keep 110 [1, 86, 87]) [0] rfl rfl rfl⟩
      · rw [typ_not (j := 2) (by decide) ((typed_ge (by omega)).trans (decide_eq_false hd))]
        repeat refine stp ?_
        show Eqv _ _
        exact .up (.up (.refl _))
  | 3, _ =>
    by_cases hlt : (3 : Int) < cnt
    · by_cases hd : ty.d ≤ 9
      · have ht : typed ty cnt 3 = true := (typed_lt (by omega)).trans (decide_eq_true hd)
        repeat refine stp ?_
        exact ⟨4, ⟨by decide, next hs ht⟩, by decide, weak_keep (keep 110 [1, 86, 87]) [0] rfl rfl rfl⟩
      · rw [typ_not (j := 3) (by decide) ((typed_lt (by omega)).trans (decide_eq_false hd))]
        repeat refine stp ?_
        show Eqv _ _
        exact .up (.up (.refl _))
    · by_cases hd : ty.d = 10
      · have ht : typed ty cnt 3 = true := (typed_ge (by omega)).trans (decide_eq_true hd)
        repeat refine stp ?_
        exact ⟨4, ⟨by decide, next hs ht⟩, by decide, weak_keep (keep 110 [1, 86, 87]) [0] rfl rfl rfl⟩
      · rw [typ_not (j := 3) (by decide) ((typed_ge (by omega)).trans (decide_eq_false hd))]
        repeat refine stp ?_
        show Eqv _ _
        exact .up (.up (.refl _))
  | 4, _ =>
    by_cases hlt : (4 : Int) < cnt
    · by_cases hd : ty.e ≤ 9
      · have ht : typed ty cnt 4 = true := (typed_lt (by omega)).trans (decide_eq_true hd)
        repeat refine stp ?_
        exact ⟨5, ⟨by decide, next hs ht⟩, by decide, weak_keep (keep 110 [1, 86, 87]) [0] rfl rfl rfl⟩
      · rw [typ_not (j := 4) (by decide) ((typed_lt (by omega)).trans (decide_eq_false hd))]
        repeat refine stp ?_
        show Eqv _ _
        exact .up (.up (.refl _))
    · by_cases hd : ty.e = 10
      · have ht : typed ty cnt 4 = true := (typed_ge (by omega)).trans (decide_eq_true hd)
        repeat refine stp ?_
        exact ⟨5, ⟨by decide, next hs ht⟩, by decide, weak_keep (keep 110 [1, 86, 87]) [0] rfl rfl rfl⟩
      · rw [typ_not (j := 4) (by decide) ((typed_ge (by omega)).trans (decide_eq_false hd))]
        repeat refine stp ?_
        show Eqv _ _
        exact .up (.up (.refl _))
  | 5, _ =>
    rw [typ_all hs]
    repeat refine stp ?_
    show Eqv _ _
    exact .up (.up (.refl _))
end Go.Proofs
