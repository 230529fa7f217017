/- GroundKeys: what uplink.Key says of a word. -/
import Derived.Test.YthedobkhfdpdaaaC45
set_option linter.unusedVariables false
set_option linter.unusedSimpArgs false
namespace Go.Proofs
open Go.E
set_option maxRecDepth 20000
theorem share_q {P : Program} {T : TEnv} {n0 : Nat} {all : List Oper} {tm : List AVal} {H : Heap} {Q0 : List AVal → Heap → Prop} (tm' : List AVal) (H' : Heap)
    (h : ∀ Q : List AVal → Heap → Prop, Q tm' H' → drawN P T n0 all tm H Q) (hq : Q0 tm' H') : drawN P T n0 all tm H Q0 := h Q0 hq
abbrev grp (x : Nat → Int) (k : Nat) : List AVal := g5 fun i => x (k + i)
def goodW (x : Nat → Int) : Bool := x 0 == 1 && ((x 1 == x 11 && (x 2 == x 12 && (x 3 == x 13 && (x 4 == x 14 && (x 5 == x 15 && true))))) && (x 6 == IntKind.u8.wrap (1 - x 1) && (x 7 == IntKind.u8.wrap (1 - x 2) && (x 8 == IntKind.u8.wrap (1 - x 3) && (x 9 == IntKind.u8.wrap (1 - x 4) && (x 10 == IntKind.u8.wrap (1 - x 5) && true))))))
set_option maxHeartbeats 4000000 in
theorem key_gen {x : Nat → Int} {n m : Int} {ok b : Bool} (h : callP Try.prog 37 [.agg (grp x 1)] (· = .tuple [.int .i64 n, .bool ok]))
    (hV : (m = 0 ∧ b = false) ∧ ok = false ∨ (m = 0 ∧ b = false) ∧ ok = true ∧ goodW x = false ∨ (m = n ∧ b = true) ∧ ok = true ∧ goodW x = true) : callP Try.prog 27 [.agg (w16 x)] (· = .tuple [.int .i64 m, .bool b]) := by
  refine callE_def env (fn := Try.f27) rfl (by decide) rfl ?_
  repeat refine stp ?_
  refine share_q (slots 42 [(1, .ptr ⟨0, 0, 0⟩), (2, .int .i64 0), (3, .bool false), (4, .ptr ⟨1, 0, 0⟩), (5, .ptr ⟨2, 0, 0⟩), (6, .ptr ⟨3, 0, 0⟩)]) [.cells (w16 x), .cells (grp x 1), .cells (grp x 6), .cells (grp x 11)] (fun Q hQ => ?_) ?_
  · refine draw_treeW (picks [0, 1, 2, 3, 4, 6, 7] (.alts (.alt 5 ((.alts (.alt 8 ((.fork3 9 10 11 ((.fork 10 11 (picks [11, 12, 13, 14] .done) (picks [10, 12, 13, 14] .done))) ((.fork 9 11 (picks [11, 12, 13, 14] .done) (picks [9, 12, 13, 14] .done))) ((.fork 9 10 (picks [10, 12, 13, 14] .done) (picks [9, 12, 13, 14] .done))))) (.alt 9 ((.fork3 8 10 11 ((.fork 10 11 (picks [11, 12, 13, 14] .done) (picks [10, 12, 13, 14] .done))) ((.fork 8 11 (picks [11, 12, 13, 14] .done) ((.fork 8 12 (picks [12, 13, 14] .done) ((.fork 8 13 (picks [13, 14] .done) (picks [8, 14] .done))))))) ((.fork 8 10 (picks [10, 12, 13, 14] .done) ((.fork 8 12 (picks [12, 13, 14] .done) ((.fork 8 13 (picks [13, 14] .done) (picks [8, 14] .done))))))))) (.alt 10 ((.fork3 8 9 11 ((.fork 9 11 (picks [11, 12, 13, 14] .done) (picks [9, 12, 13, 14] .done))) ((.fork 8 11 (picks [11, 12, 13, 14] .done) ((.fork 8 12 (picks [12, 13, 14] .done) ((.fork 8 13 (picks [13, 14] .done) (picks [8, 14] .done))))))) ((.fork 8 9 (picks [9, 12, 13, 14] .done) ((.fork 8 12 (picks [12, 13, 14] .done) ((.fork 8 13 (picks [13, 14] .done) (picks [8, 14] .done))))))))) (.alt 11 ((.fork3 8 9 10 ((.fork 9 10 (picks [10, 12, 13, 14] .done) (picks [9, 12, 13, 14] .done))) ((.fork 8 10 (picks [10, 12, 13, 14] .done) ((.fork 8 12 (picks [12, 13, 14] .done) ((.fork 8 13 (picks [13, 14] .done) (picks [8, 14] .done))))))) ((.fork 8 9 (picks [9, 12, 13, 14] .done) ((.fork 8 12 (picks [12, 13, 14] .done) ((.fork 8 13 (picks [13, 14] .done) (picks [8, 14] .done))))))))) (.stop))))))) (.alt 8 ((.alts (.alt 5 ((.fork3 9 10 11 ((.fork 10 11 (picks [11, 12, 13, 14] .done) (picks [10, 12, 13, 14] .done))) ((.fork 9 11 (picks [11, 12, 13, 14] .done) (picks [9, 12, 13, 14] .done))) ((.fork 9 10 (picks [10, 12, 13, 14] .done) (picks [9, 12, 13, 14] .done))))) (.alt 9 ((.fork3 5 10 11 ((.fork 10 11 (picks [11, 12, 13, 14] .done) (picks [10, 12, 13, 14] .done))) ((.fork 5 11 (picks [11, 12, 13, 14] .done) ((.fork 5 12 (picks [12, 13, 14] .done) (picks [5, 13, 14] .done))))) ((.fork 5 10 (picks [10, 12, 13, 14] .done) ((.fork 5 12 (picks [12, 13, 14] .done) (picks [5, 13, 14] .done))))))) (.alt 10 ((.fork3 5 9 11 ((.fork 9 11 (picks [11, 12, 13, 14] .done) (picks [9, 12, 13, 14] .done))) ((.fork 5 11 (picks [11, 12, 13, 14] .done) ((.fork 5 12 (picks [12, 13, 14] .done) (picks [5, 13, 14] .done))))) ((.fork 5 9 (picks [9, 12, 13, 14] .done) ((.fork 5 12 (picks [12, 13, 14] .done) (picks [5, 13, 14] .done))))))) (.alt 11 ((.fork3 5 9 10 ((.fork 9 10 (picks [10, 12, 13, 14] .done) (picks [9, 12, 13, 14] .done))) ((.fork 5 10 (picks [10, 12, 13, 14] .done) ((.fork 5 12 (picks [12, 13, 14] .done) (picks [5, 13, 14] .done))))) ((.fork 5 9 (picks [9, 12, 13, 14] .done) ((.fork 5 12 (picks [12, 13, 14] .done) (picks [5, 13, 14] .done))))))) (.stop))))))) (.alt 9 ((.alts (.alt 5 ((.fork3 8 10 11 ((.fork 10 11 (picks [11, 12, 13, 14] .done) (picks [10, 12, 13, 14] .done))) ((.fork 8 11 (picks [11, 12, 13, 14] .done) ((.fork 8 12 (picks [12, 13, 14] .done) ((.fork 8 13 (picks [13, 14] .done) (picks [8, 14] .done))))))) ((.fork 8 10 (picks [10, 12, 13, 14] .done) ((.fork 8 12 (picks [12, 13, 14] .done) ((.fork 8 13 (picks [13, 14] .done) (picks [8, 14] .done))))))))) (.alt 8 ((.fork3 5 10 11 ((.fork 10 11 (picks [11, 12, 13, 14] .done) (picks [10, 12, 13, 14] .done))) ((.fork 5 11 (picks [11, 12, 13, 14] .done) ((.fork 5 12 (picks [12, 13, 14] .done) (picks [5, 13, 14] .done))))) ((.fork 5 10 (picks [10, 12, 13, 14] .done) ((.fork 5 12 (picks [12, 13, 14] .done) (picks [5, 13, 14] .done))))))) (.alt 10 ((.fork3 5 8 11 ((.fork 8 11 (picks [11, 12, 13, 14] .done) ((.fork 8 12 (picks [12, 13, 14] .done) ((.fork 8 13 (picks [13, 14] .done) (picks [8, 14] .done))))))) ((.fork 5 11 (picks [11, 12, 13, 14] .done) ((.fork 5 12 (picks [12, 13, 14] .done) (picks [5, 13, 14] .done))))) ((.fork3 5 8 12 ((.fork 8 12 (picks [12, 13, 14] .done) ((.fork 8 13 (picks [13, 14] .done) (picks [8, 14] .done))))) ((.fork 5 12 (picks [12, 13, 14] .done) (picks [5, 13, 14] .done))) (picks [5] (.fork 8 13 (picks [13, 14] .done) (picks [8, 14] .done))))))) (.alt 11 ((.fork3 5 8 10 ((.fork 8 10 (picks [10, 12, 13, 14] .done) ((.fork 8 12 (picks [12, 13, 14] .done) ((.fork 8 13 (picks [13, 14] .done) (picks [8, 14] .done))))))) ((.fork 5 10 (picks [10, 12, 13, 14] .done) ((.fork 5 12 (picks [12, 13, 14] .done) (picks [5, 13, 14] .done))))) ((.fork3 5 8 12 ((.fork 8 12 (picks [12, 13, 14] .done) ((.fork 8 13 (picks [13, 14] .done) (picks [8, 14] .done))))) ((.fork 5 12 (picks [12, 13, 14] .done) (picks [5, 13, 14] .done))) (picks [5] (.fork 8 13 (picks [13, 14] .done) (picks [8, 14] .done))))))) (.stop))))))) (.alt 10 ((.alts (.alt 5 ((.fork3 8 9 11 ((.fork 9 11 (picks [11, 12, 13, 14] .done) (picks [9, 12, 13, 14] .done))) ((.fork 8 11 (picks [11, 12, 13, 14] .done) ((.fork 8 12 (picks [12, 13, 14] .done) ((.fork 8 13 (picks [13, 14] .done) (picks [8, 14] .done))))))) ((.fork 8 9 (picks [9, 12, 13, 14] .done) ((.fork 8 12 (picks [12, 13, 14] .done) ((.fork 8 13 (picks [13, 14] .done) (picks [8, 14] .done))))))))) (.alt 8 ((.fork3 5 9 11 ((.fork 9 11 (picks [11, 12, 13, 14] .done) (picks [9, 12, 13, 14] .done))) ((.fork 5 11 (picks [11, 12, 13, 14] .done) ((.fork 5 12 (picks [12, 13, 14] .done) (picks [5, 13, 14] .done))))) ((.fork 5 9 (picks [9, 12, 13, 14] .done) ((.fork 5 12 (picks [12, 13, 14] .done) (picks [5, 13, 14] .done))))))) (.alt 9 ((.fork3 5 8 11 ((.fork 8 11 (picks [11, 12, 13, 14] .done) ((.fork 8 12 (picks [12, 13, 14] .done) ((.fork 8 13 (picks [13, 14] .done) (picks [8, 14] .done))))))) ((.fork 5 11 (picks [11, 12, 13, 14] .done) ((.fork 5 12 (picks [12, 13, 14] .done) (picks [5, 13, 14] .done))))) ((.fork3 5 8 12 ((.fork 8 12 (picks [12, 13, 14] .done) ((.fork 8 13 (picks [13, 14] .done) (picks [8, 14] .done))))) ((.fork 5 12 (picks [12, 13, 14] .done) (picks [5, 13, 14] .done))) (picks [5] (.fork 8 13 (picks [13, 14] .done) (picks [8, 14] .done))))))) (.alt 11 ((.fork3 5 8 9 ((.fork 8 9 (picks [9, 12, 13, 14] .done) ((.fork 8 12 (picks [12, 13, 14] .done) ((.fork 8 13 (picks [13, 14] .done) (picks [8, 14] .done))))))) ((.fork 5 9 (picks [9, 12, 13, 14] .done) ((.fork 5 12 (picks [12, 13, 14] .done) (picks [5, 13, 14] .done))))) ((.fork3 5 8 12 ((.fork 8 12 (picks [12, 13, 14] .done) ((.fork 8 13 (picks [13, 14] .done) (picks [8, 14] .done))))) ((.fork 5 12 (picks [12, 13, 14] .done) (picks [5, 13, 14] .done))) (picks [5] (.fork 8 13 (picks [13, 14] .done) (picks [8, 14] .done))))))) (.stop))))))) (.alt 11 ((.alts (.alt 5 ((.fork3 8 9 10 ((.fork 9 10 (picks [10, 12, 13, 14] .done) (picks [9, 12, 13, 14] .done))) ((.fork 8 10 (picks [10, 12, 13, 14] .done) ((.fork 8 12 (picks [12, 13, 14] .done) ((.fork 8 13 (picks [13, 14] .done) (picks [8, 14] .done))))))) ((.fork 8 9 (picks [9, 12, 13, 14] .done) ((.fork 8 12 (picks [12, 13, 14] .done) ((.fork 8 13 (picks [13, 14] .done) (picks [8, 14] .done))))))))) (.alt 8 ((.fork3 5 9 10 ((.fork 9 10 (picks [10, 12, 13, 14] .done) (picks [9, 12, 13, 14] .done))) ((.fork 5 10 (picks [10, 12, 13, 14] .done) ((.fork 5 12 (picks [12, 13, 14] .done) (picks [5, 13, 14] .done))))) ((.fork 5 9 (picks [9, 12, 13, 14] .done) ((.fork 5 12 (picks [12, 13, 14] .done) (picks [5, 13, 14] .done))))))) (.alt 9 ((.fork3 5 8 10 ((.fork 8 10 (picks [10, 12, 13, 14] .done) ((.fork 8 12 (picks [12, 13, 14] .done) ((.fork 8 13 (picks [13, 14] .done) (picks [8, 14] .done))))))) ((.fork 5 10 (picks [10, 12, 13, 14] .done) ((.fork 5 12 (picks [12, 13, 14] .done) (picks [5, 13, 14] .done))))) ((.fork3 5 8 12 ((.fork 8 12 (picks [12, 13, 14] .done) ((.fork 8 13 (picks [13, 14] .done) (picks [8, 14] .done))))) ((.fork 5 12 (picks [12, 13, 14] .done) (picks [5, 13, 14] .done))) (picks [5] (.fork 8 13 (picks [13, 14] .done) (picks [8, 14] .done))))))) (.alt 10 ((.fork3 5 8 9 ((.fork 8 9 (picks [9, 12, 13, 14] .done) ((.fork 8 12 (picks [12, 13, 14] .done) ((.fork 8 13 (picks [13, 14] .done) (picks [8, 14] .done))))))) ((.fork 5 9 (picks [9, 12, 13, 14] .done) ((.fork 5 12 (picks [12, 13, 14] .done) (picks [5, 13, 14] .done))))) ((.fork3 5 8 12 ((.fork 8 12 (picks [12, 13, 14] .done) ((.fork 8 13 (picks [13, 14] .done) (picks [8, 14] .done))))) ((.fork 5 12 (picks [12, 13, 14] .done) (picks [5, 13, 14] .done))) (picks [5] (.fork 8 13 (picks [13, 14] .done) (picks [8, 14] .done))))))) (.stop))))))) (.stop)))))))) (by decide +kernel) ?_
    repeat refine stp ?_
    repeat' (first | exact trivial | refine And.intro ?_ ?_)
    all_goals (first | exact end_weak (weak_keep (keep 42 [1, 2, 3, 4, 5, 6]) [0, 1, 2, 3] rfl rfl rfl) hQ | exact end_weak (weak_keep (keep 42 [1, 2, 3, 4, 5, 6]) [0, 1, 3, 2] rfl rfl rfl) hQ | exact end_weak (weak_keep (keep 42 [1, 2, 3, 4, 5, 6]) [0, 2, 1, 3] rfl rfl rfl) hQ | exact end_weak (weak_keep (keep 42 [1, 2, 3, 4, 5, 6]) [0, 2, 3, 1] rfl rfl rfl) hQ | exact end_weak (weak_keep (keep 42 [1, 2, 3, 4, 5, 6]) [0, 3, 1, 2] rfl rfl rfl) hQ | exact end_weak (weak_keep (keep 42 [1, 2, 3, 4, 5, 6]) [0, 3, 2, 1] rfl rfl rfl) hQ)
  repeat refine stp ?_
  refine callT_E h rfl ?_
  repeat refine stp ?_
  rcases hV with ⟨⟨rfl, rfl⟩, rfl⟩ | ⟨⟨rfl, rfl⟩, rfl, hg⟩ | ⟨⟨rfl, rfl⟩, rfl, hg⟩
  · repeat refine stp ?_
    refine draw_tree (picks (List.range 18) .done) (by decide +kernel) ?_
    repeat refine stp ?_
    show Eqv _ _
    exact .up (.up (.refl _))
  · repeat refine stp ?_
    refine draw_tree (picks (List.range 18) .done) (by decide +kernel) ?_
    repeat refine stp ?_
    apply branch_intro <;> intro h0
    · repeat (first | refine stp ?_ | refine Exists.intro (AVal.agg (g5 fun i => IntKind.u8.wrap (1 - x (1 + i)))) (And.intro (And.intro (ucomp_c fun i => x (1 + i)) rfl) ?_))
      show Eqv _ _
      exact .up (.up (.refl _))
    · repeat refine stp ?_
      apply branch_intro <;> intro h1
      · repeat (first | refine stp ?_ | refine Exists.intro (AVal.agg (g5 fun i => IntKind.u8.wrap (1 - x (1 + i)))) (And.intro (And.intro (ucomp_c fun i => x (1 + i)) rfl) ?_))
        show Eqv _ _
        exact .up (.up (.refl _))
      · repeat (first | refine stp ?_ | refine Exists.intro (AVal.agg (g5 fun i => IntKind.u8.wrap (1 - x (1 + i)))) (And.intro (And.intro (ucomp_c fun i => x (1 + i)) rfl) ?_))
        apply branch_intro <;> intro h2
        · repeat refine stp ?_
          show Eqv _ _
          exact .up (.up (.refl _))
        · exfalso
          have h1' := congrArg not h1
          have h2' := congrArg not h2
          simp only [Bool.not_not] at h1' h2'
          unfold goodW at hg
          rw [show (x 0 == 1) = true by simpa using h0] at hg
          have e3 : ∀ p q : Bool, p = true → q = true → (true && (p && q)) = true := fun p q a b => by rw [a, b]; rfl
          exact Bool.noConfusion (hg.symm.trans (e3 _ _ h1' h2'))
  · have h0 : (x 0 != 1) = false := by
      unfold goodW at hg
      simp at hg ⊢
      exact hg.1
    have h12 := hg
    unfold goodW at h12
    rw [show (x 0 == 1) = true by simpa using h0, Bool.true_and, Bool.and_eq_true] at h12
    have e1 := congrArg not h12.1
    have e2 := congrArg not h12.2
    simp only [Bool.not_true] at e1 e2
    repeat refine stp ?_
    refine draw_tree (picks (List.range 18) .done) (by decide +kernel) ?_
    repeat (first | refine stp ?_ | refine branch_f' h0 ?_ | refine branch_f' e1 ?_ | refine branch_f' e2 ?_ | refine Exists.intro (AVal.agg (g5 fun i => IntKind.u8.wrap (1 - x (1 + i)))) (And.intro (And.intro (ucomp_c fun i => x (1 + i)) rfl) ?_))
    show Eqv _ _
    exact .up (.up (.refl _))
theorem key_t {x : Nat → Int} (hb : ∀ i, i < 5 → 0 ≤ x (1 + i) ∧ x (1 + i) ≤ 1) (hg : goodW x = true) :
    callP Try.prog 27 [.agg (w16 x)] (· = .tuple [.int .i64 (num5 fun i => x (1 + i)), .bool true]) :=
  key_gen (number_ok hb) (.inr (.inr ⟨⟨rfl, rfl⟩, rfl, hg⟩))
theorem key_f {x : Nat → Int} (h0 : ∀ i, i < 5 → 0 ≤ x (1 + i)) (hb : goodW x = false ∨ ∃ i, i < 5 ∧ 1 < x (1 + i)) :
    callP Try.prog 27 [.agg (w16 x)] (· = .tuple [.int .i64 0, .bool false]) := by
  by_cases h : ∀ i, i < 5 → x (1 + i) ≤ 1
  · refine key_gen (number_ok (x := fun i => x (1 + i)) fun i hi => ⟨h0 i hi, h i hi⟩) (.inr (.inl ⟨⟨rfl, rfl⟩, rfl, ?_⟩))
    rcases hb with hb | ⟨i, hi, h1⟩
    · exact hb
    · exact absurd (h i hi) (by omega)
  · have ex : ∃ k, k < 5 ∧ (∀ i, i < k → x (1 + i) ≤ 1) ∧ 1 < x (1 + k) := by
      by_cases a0 : x (1 + 0) ≤ 1
      · by_cases a1 : x (1 + 1) ≤ 1
        · by_cases a2 : x (1 + 2) ≤ 1
          · by_cases a3 : x (1 + 3) ≤ 1
            · by_cases a4 : x (1 + 4) ≤ 1
              · refine absurd (fun i hi => ?_) h
                rcases (show i = 0 ∨ i = 1 ∨ i = 2 ∨ i = 3 ∨ i = 4 by omega) with rfl | rfl | rfl | rfl | rfl <;> assumption
              · exact ⟨4, by decide, fun i hi => by rcases (show i = 0 ∨ i = 1 ∨ i = 2 ∨ i = 3 by omega) with rfl | rfl | rfl | rfl <;> assumption, Int.not_le.1 a4⟩
            · exact ⟨3, by decide, fun i hi => by rcases (show i = 0 ∨ i = 1 ∨ i = 2 by omega) with rfl | rfl | rfl <;> assumption, Int.not_le.1 a3⟩
          · exact ⟨2, by decide, fun i hi => by rcases (show i = 0 ∨ i = 1 by omega) with rfl | rfl <;> assumption, Int.not_le.1 a2⟩
        · exact ⟨1, by decide, fun i hi => by rcases (show i = 0 by omega) with rfl; assumption, Int.not_le.1 a1⟩
      · exact ⟨0, by decide, fun i hi => absurd hi (by omega), Int.not_le.1 a0⟩
    obtain ⟨k, hk, h1, h2⟩ := ex
    exact key_gen (number_no (x := fun i => x (1 + i)) hk h1 h2) (.inl ⟨⟨rfl, rfl⟩, rfl⟩)
end Go.Proofs
