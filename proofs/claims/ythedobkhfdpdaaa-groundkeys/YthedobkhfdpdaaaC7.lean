/- Chapter 29, part s: lists of nouns; verbs. -/
import Derived.Test.YthedobkhfdpdaaaC6
set_option linter.unusedVariables false
set_option linter.unusedSimpArgs false
namespace Go.Proofs
open Go.E
set_option maxRecDepth 8000
abbrev cmpL (c : Cmp) : List AVal := [.int .u8 c.k, .int .i64 c.a, .int .i64 c.n, .int .i64 c.s]
def nrow (num : Nat → Int) (m : Nat → Nat) (cr : Nat → Nat → List AVal) (i : Nat) : List AVal := [.int .i64 (num i), .ro 4 (m i) (cr i)]
def goodI (num : Nat → Int) (m : Nat → Nat) (cm : Nat → Nat → Cmp) (i : Nat) : Bool :=
  decide ((if i = 0 then 0 else num (i - 1)) < num i ∧ num i ≤ 99 ∧ 1 ≤ m i ∧ m i ≤ 3) && (List.range (m i)).all fun j => validC (cm i j)
def mayB (n : Nat) (num : Nat → Int) (m : Nat → Nat) (cm : Nat → Nat → Cmp) : Bool := (List.range n).all (goodI num m cm)
theorem mayB_false {n : Nat} {num : Nat → Int} {m : Nat → Nat} {cm : Nat → Nat → Cmp} {i : Nat} (hi : i < n) (h : goodI num m cm i = false) : mayB n num m cm = false := by
  rw [mayB, List.all_eq_false]
  exact ⟨i, List.mem_range.2 hi, by rw [h]; decide⟩
theorem mayB_true {n : Nat} {num : Nat → Int} {m : Nat → Nat} {cm : Nat → Nat → Cmp} (h : ∀ i, i < n → goodI num m cm i = true) : mayB n num m cm = true := by
  rw [mayB, List.all_eq_true]
  exact fun i hi => h i (List.mem_range.1 hi)
set_option maxHeartbeats 8000000 in
theorem may_c (n : Nat) (num : Nat → Int) (m : Nat → Nat) (cr : Nat → Nat → List AVal) (cm : Nat → Nat → Cmp) (hn : n ≤ 9223372036854775807) (hm : ∀ i, i < n → m i ≤ 9223372036854775807)
    (hc : ∀ i, i < n → ∀ j, j < m i → cr i j = cmpL (cm i j)) (hok : ∀ i, i < n → ∀ j, j < m i → (cm i j).Ok) : callP Try.prog 13 [.ro 2 n (nrow num m cr)] (· = .bool (mayB n num m cm)) := by
  refine callE_def env (fn := Try.f13) rfl (by decide) rfl ?_
  refine loop_weak (fun i : Nat => slots 49 [(3, .int .i64 (if i = 0 then 0 else num (i - 1))), (8, .ro 2 n (nrow num m cr)), (9, .int .i64 n), (10, .int .i64 i)]) (fun _ => [])
    (fun i => i ≤ n ∧ ∀ i', i' < i → goodI num m cm i' = true) (fun i => n - i) 0 ⟨Nat.zero_le _, fun i' h => absurd h (by omega)⟩ (weak_keep (keep 49 [3, 8, 9, 10]) [] rfl rfl rfl) ?_
  rintro i ⟨hi, hg⟩
  by_cases hin : i = n
  · subst hin
    repeat refine stm ?_
    rw [mayB_true hg]
    show Eqv _ _
    exact .up (.up (.refl _))
  have hlt : i < n := by omega
  have hmi := hm i hlt
  generalize hl : (if i = 0 then (0 : Int) else num (i - 1)) = last
  have hgi : goodI num m cm i = (decide (last < num i ∧ num i ≤ 99 ∧ 1 ≤ m i ∧ m i ≤ 3) && (List.range (m i)).all fun j => validC (cm i j)) := by rw [goodI, hl]
  repeat refine stm ?_
  apply need_intro
  · omega
  conv => whnf
  simp only [Int.toNat_natCast]
  by_cases h1 : num i ≤ last
  · repeat refine stm ?_
    rw [mayB_false hlt (by rw [hgi, decide_eq_false (by omega)]; rfl)]
    show Eqv _ _
    exact .up (.up (.refl _))
  repeat refine stm ?_
  by_cases h2 : num i > 99
  · repeat refine stm ?_
    rw [mayB_false hlt (by rw [hgi, decide_eq_false (by omega)]; rfl)]
    show Eqv _ _
    exact .up (.up (.refl _))
  repeat refine stm ?_
  by_cases h3 : m i = 0
  · repeat refine stm ?_
    rw [mayB_false hlt (by rw [hgi, decide_eq_false (by omega)]; rfl)]
    show Eqv _ _
    exact .up (.up (.refl _))
  repeat refine stm ?_
  by_cases h4 : m i > 3
  · repeat refine stm ?_
    rw [mayB_false hlt (by rw [hgi, decide_eq_false (by omega)]; rfl)]
    show Eqv _ _
    exact .up (.up (.refl _))
  repeat refine stm ?_
  refine loop_weak (fun j : Nat => slots 49 [(3, .int .i64 (num i)), (8, .ro 2 n (nrow num m cr)), (9, .int .i64 n), (10, .int .i64 i), (38, .ro 4 (m i) (fun j => cmpL (cm i j))), (39, .int .i64 (m i)), (40, .int .i64 j)]) (fun _ => [])
    (fun j => j ≤ m i ∧ ∀ j', j' < j → validC (cm i j') = true) (fun j => m i - j) 0 ⟨Nat.zero_le _, fun j' h => absurd h (by omega)⟩
    ((weak_slot 38 (.up (.up (.ro fun j hj => hc i hlt j hj))) rfl).trans (weak_keep (keep 49 [3, 8, 9, 10, 38, 39, 40]) [] rfl rfl rfl)) ?_
  rintro j ⟨hj, hgj⟩
  by_cases hjm : j = m i
  · have hall : goodI num m cm i = true := by
      rw [hgi, decide_eq_true (by omega), Bool.true_and, List.all_eq_true]
      intro j' hj'
      exact hgj j' (by have := List.mem_range.1 hj'; omega)
    repeat refine stm ?_
    refine ⟨i + 1, ⟨by omega, fun i' hi' => ?_⟩, by omega, weak_keep (keep 49 [3, 8, 9, 10]) [] rfl ?_ rfl⟩
    · rcases Nat.lt_or_ge i' i with h | h
      · exact hg i' h
      · obtain rfl : i' = i := by omega
        exact hall
    · show [_, _, _, _, _, _, _, _, _, _, _, _, _, _, _, _, _, _, _, _, _, _, _, _, _, _, _, _, _, _, _, _, _, _, _, _, _, _, _, _, _, _, _, _, _, _, _, _, _] = _
      have e3 : IntKind.i64.wrap ((i : Int) + 1) = ((i + 1 : Nat) : Int) := by rw [wi (by omega) (by omega)]; rfl
      rw [e3]
      rfl
  have hjl : j < m i := by omega
  repeat refine stm ?_
  apply need_intro
  · omega
  conv => whnf
  simp only [Int.toNat_natCast]
  refine callT_E (valid_c (cm i j) (hok i hlt j hjl)) rfl ?_
  by_cases hv : validC (cm i j) = false
  · rw [hv]
    repeat refine stm ?_
    rw [mayB_false hlt (by rw [hgi, Bool.and_eq_false_iff]; exact .inr (List.all_eq_false.2 ⟨j, List.mem_range.2 hjl, by rw [hv]; decide⟩))]
    show Eqv _ _
    exact .up (.up (.refl _))
  have hvt : validC (cm i j) = true := by simpa using hv
  rw [hvt]
  repeat refine stm ?_
  refine ⟨j + 1, ⟨by omega, fun j' hj' => ?_⟩, by omega, weak_keep (keep 49 [3, 8, 9, 10, 38, 39, 40]) [] rfl ?_ rfl⟩
  · rcases Nat.lt_or_ge j' j with h | h
    · exact hgj j' h
    · obtain rfl : j' = j := by omega
      exact hvt
  · show [_, _, _, _, _, _, _, _, _, _, _, _, _, _, _, _, _, _, _, _, _, _, _, _, _, _, _, _, _, _, _, _, _, _, _, _, _, _, _, _, _, _, _, _, _, _, _, _, _] = _
    have e3 : IntKind.i64.wrap ((j : Int) + 1) = ((j + 1 : Nat) : Int) := by rw [wi (by omega) (by omega)]; rfl
    rw [e3]
    rfl
end Go.Proofs
