/- Chapter 28, laws, part a: works. -/
import Derived.Test.YteoeocfncachcaaC1
/-! La. -/
namespace Go.Proofs
open Go.E

theorem parse_1 : parse ⟨#[86, 51, 55, 69, 32, 48, 48, 69]⟩ = ([13, 4, 8, 15, 1, 1, 15], 0, 0) := by decide +kernel
theorem parse_2 : parse ⟨#[86, 51, 120]⟩ = ([], 2, 5) := by decide +kernel
theorem print_1 : printA [11, 2, 19] = .tuple [.str ⟨#[43, 49, 80]⟩, .int .i64 0] := rfl

set_option maxRecDepth 4000 in
theorem works_c : callP Try.prog 11 [] (· = .bool true) := by
  refine callE_def env (fn := Try.f11) rfl (by decide) rfl ?_
  refine callT_E (code_c (n := 13) (by decide) (by decide)) rfl ?_
  refine callT_E (code_c (n := 0) (by decide) (by decide)) rfl ?_
  refine callT_E (key_c 28) rfl ?_
  refine callT_E (parse_c ⟨#[86, 51, 55, 69, 32, 48, 48, 69]⟩) rfl ?_
  refine callT_E (parse_c ⟨#[86, 51, 120]⟩) rfl ?_
  apply choice_l
  refine callT_E (print_c (l := [11, 2, 19]) (by unfold Short; decide) (by unfold Bytes; decide)) rfl ?_
  rw [parseV, parse_1, parseV, parse_2, print_1]
  repeat refine branch_true ?_
  apply choice_l
  repeat refine branch_true ?_
  refine callT_E (lsame_c (a := [13, 4, 8, 15, 1, 1, 15]) (b := [13, 4, 8, 15, 1, 1, 15]) (by unfold Short; decide)) rfl ?_
  repeat refine branch_true ?_
  refine branch_t (beq_self_eq_true _) ?_
  repeat refine branch_true ?_
  show Eqv _ _
  exact .up (.up (.refl _))

/-! KeycodeCodes. -/
def hitsTo : Nat → Nat
  | 0 => 0
  | n + 1 => hitsTo n + (if ((n : Int) - 5) ∈ keyCodes then 1 else 0)
theorem hits_le : ∀ n, hitsTo n ≤ n
  | 0 => Nat.le_refl _
  | n + 1 => by
    have := hits_le n
    unfold hitsTo
    split <;> omega
theorem codes_ok : ∀ i : Fin 19, 1 ≤ keyCodes.getD i.1 0 ∧ keyCodes.getD i.1 0 ≤ 31 := by decide
theorem posI_mem : ∀ {l : List Int} {x : Int}, posI l x = none ↔ x ∉ l
  | [], x => by simp [posI]
  | y :: r, x => by
    have ih := posI_mem (l := r) (x := x)
    rw [posI]
    by_cases hy : y = x
    · simp [hy]
    · rw [if_neg hy]
      cases hr : posI r x with
      | none =>
        have := ih.1 hr
        simp [this, Ne.symm hy]
      | some i =>
        simp only [reduceCtorEq, false_iff, Classical.not_not]
        have : ¬ x ∉ r := fun h => by rw [ih.2 h] at hr; cases hr
        exact List.mem_cons_of_mem _ (Classical.not_not.1 this)
set_option maxRecDepth 4000 in
theorem codes_law : callP Try.prog 3 [] (· = .bool true) := by
  refine callE_def env (fn := Try.f3) rfl (by decide) rfl ?_
  refine loop_inv (keep 57 [1, 2]) (fun n : Nat => slots 57 [(1, .int .i64 (hitsTo n)), (2, .int .i64 ((n : Int) - 5))]) (fun _ => [])
    (fun n => n ≤ 305) (fun n => 305 - n) 0 (by omega) rfl rfl ?_
  intro n hn
  have hh := hits_le n
  have e1 : IntKind.i64.wrap ((n : Int) - 5 + 1) = ((n + 1 : Nat) : Int) - 5 := by rw [wi (by omega) (by omega)]; omega
  have e2 : IntKind.i64.wrap ((hitsTo n : Int) + 1) = ((hitsTo n + 1 : Nat) : Int) := by rw [wi (by omega) (by omega)]; omega
  apply branch_intro <;> intro h
  · have hlt : n < 305 := by simp at h; omega
    refine callT_E (key_c _) rfl ?_
    cases hk : posI keyCodes ((n : Int) - 5) with
    | none =>
      rw [foundV, hk]
      have hm := posI_mem.1 hk
      apply branch_intro <;> intro h2
      · apply branch_intro <;> intro h3
        · simp at h3
        · refine ⟨n + 1, by omega, by omega, ?_, rfl⟩
          show [_, _, _, _, _, _, _, _, _, _, _, _, _, _, _, _, _, _, _, _, _, _, _, _, _, _, _, _, _, _, _, _, _, _, _, _, _, _, _, _, _, _, _, _, _, _, _, _, _, _, _, _, _, _, _, _, _] = _
          rw [e1, hitsTo, if_neg hm]
          rfl
      · cases h2
    | some i =>
      rw [foundV, hk]
      obtain ⟨hi, hc⟩ := posI_inv hk
      have hi : i < 19 := hi
      have hm : ((n : Int) - 5) ∈ keyCodes := Classical.not_not.1 fun h => by rw [posI_mem.2 h] at hk; cases hk
      obtain ⟨c1, c2⟩ := codes_ok ⟨i, hi⟩
      rw [hc] at c1 c2
      apply branch_intro <;> intro h2
      · cases h2
      · have hkey : isKey ((i : Int) + 1) = true := by simp [isKey]; omega
        refine callT_E (code_c (n := (i : Int) + 1) (by omega) (by omega)) rfl ?_
        have hco : codeOf ((i : Int) + 1) = (n : Int) - 5 := by
          rw [codeOf, if_pos hkey, show ((i : Int) + 1).toNat - 1 = i by omega, hc]
        rw [codeV, hco, codeE, if_pos hkey]
        refine branch_f (by decide) ?_
        repeat refine branch_false ?_
        refine branch_f (by simp) ?_
        repeat refine branch_false ?_
        refine branch_f (by simp; omega) ?_
        repeat refine branch_false ?_
        refine branch_f (by simp; omega) ?_
        refine ⟨n + 1, by omega, by omega, ?_, rfl⟩
        show [_, _, _, _, _, _, _, _, _, _, _, _, _, _, _, _, _, _, _, _, _, _, _, _, _, _, _, _, _, _, _, _, _, _, _, _, _, _, _, _, _, _, _, _, _, _, _, _, _, _, _, _, _, _, _, _, _] = _
        rw [e1, e2, hitsTo, if_pos hm]
        rfl
  · have hlt : n = 305 := by simp at h; omega
    subst hlt
    have h19 : hitsTo 305 = 19 := by decide +kernel
    rw [h19]
    refine callT_E (code_c (n := 20) (by decide) (by decide)) rfl ?_
    repeat refine branch_true ?_
    refine callT_E works_c rfl ?_
    repeat refine branch_true ?_
    show Eqv _ _
    exact .up (.up (.refl _))
end Go.Proofs
