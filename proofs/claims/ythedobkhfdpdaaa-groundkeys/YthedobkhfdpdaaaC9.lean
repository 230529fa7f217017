/- Chapter 29, part w: Find. -/
import Derived.Test.YthedobkhfdpdaaaC7
set_option linter.unusedVariables false
set_option linter.unusedSimpArgs false
namespace Go.Proofs
open Go.E
set_option maxRecDepth 8000
theorem find_first {n i : Nat} {num : Nat → Int} {x : Int} (hi : i < n) (hx : num i = x) (hg : ∀ i', i' < i → num i' ≠ x) : (List.range n).find? (fun i => num i == x) = some i := by
  induction n with
  | zero => omega
  | succ n ih =>
    rw [List.range_succ, List.find?_append]
    by_cases h : i < n
    · rw [ih h]; rfl
    · obtain rfl : i = n := by omega
      rw [show (List.range i).find? (fun i => num i == x) = none from List.find?_eq_none.2 fun j hj => by
        have := hg j (List.mem_range.1 hj)
        simpa using this]
      simp [hx]
def findV (n : Nat) (num : Nat → Int) (m : Nat → Nat) (cr : Nat → Nat → List AVal) (x : Int) : AVal :=
  match (List.range n).find? (fun i => num i == x) with
  | some i => .tuple [.agg [.int .i64 x, .ro 4 (m i) (cr i)], .int .i64 0]
  | none => .tuple [.agg [.int .i64 0, .nilslice], .int .i64 7]
set_option maxHeartbeats 8000000 in
theorem find_c (n : Nat) (num : Nat → Int) (m : Nat → Nat) (cr : Nat → Nat → List AVal) (x : Int) (hn : n ≤ 9223372036854775807) (hm : ∀ i, i < n → m i * 32 ≤ 140737488355328) :
    callP Try.prog 31 [.ro 2 n (nrow num m cr), .int .i64 x] (· = findV n num m cr x) := by
  refine callE_def env (fn := Try.f31) rfl (by decide) (by unfold findV; split <;> rfl) ?_
  refine loop_weak (fun i : Nat => slots 25 [(1, .int .i64 x), (4, .ptr ⟨0, 0, 0⟩), (8, .ro 2 n (nrow num m cr)), (9, .int .i64 n), (10, .int .i64 i)]) (fun _ => [.cells [.int .i64 0, .nilslice]])
    (fun i => i ≤ n ∧ ∀ i', i' < i → num i' ≠ x) (fun i => n - i) 0 ⟨Nat.zero_le _, fun i' h => absurd h (by omega)⟩ (weak_keep (keep 25 [1, 4, 8, 9, 10]) [0] rfl rfl rfl) ?_
  rintro i ⟨hi, hg⟩
  by_cases hin : i = n
  · subst hin
    have e0 : findV i num m cr x = .tuple [.agg [.int .i64 0, .nilslice], .int .i64 7] := by
      rw [findV, show (List.range i).find? (fun i => num i == x) = none from List.find?_eq_none.2 fun j hj => by
        have := hg j (List.mem_range.1 hj)
        simpa using this]
    repeat refine stm ?_
    rw [e0]
    show Eqv _ _
    exact .up (.up (.refl _))
  have hlt : i < n := by omega
  have hmi := hm i hlt
  repeat refine stm ?_
  apply need_intro
  · omega
  conv => whnf
  simp only [Int.toNat_natCast]
  by_cases hx : num i = x
  · have e1 : findV n num m cr x = .tuple [.agg [.int .i64 x, .ro 4 (m i) (cr i)], .int .i64 0] := by
      rw [findV, show (List.range n).find? (fun i => num i == x) = some i from ?_]
      exact find_first hlt hx hg
    repeat refine stm ?_
    apply need_intro
    · show m i * 32 ≤ 2 ^ 47
      exact hmi
    apply choice_l
    repeat refine stm ?_
    rw [e1]
    show Eqv _ _
    exact .up (.up (.refl _))
  · repeat refine stm ?_
    refine ⟨i + 1, ⟨by omega, fun i' hi' => ?_⟩, by omega, weak_keep (keep 25 [1, 4, 8, 9, 10]) [0] rfl ?_ rfl⟩
    · rcases Nat.lt_or_ge i' i with h | h
      · exact hg i' h
      · obtain rfl : i' = i := by omega
        exact hx
    · show [_, _, _, _, _, _, _, _, _, _, _, _, _, _, _, _, _, _, _, _, _, _, _, _, _] = _
      have e3 : IntKind.i64.wrap ((i : Int) + 1) = ((i + 1 : Nat) : Int) := by rw [wi (by omega) (by omega)]; rfl
      rw [e3]
      rfl
end Go.Proofs
