/- Chapter 27, part j: the law of the digits. -/
import Derived.Test.YtdbdppoecijdhaaC5
set_option linter.unusedVariables false
set_option linter.unusedSimpArgs false
/-! Aj. -/
namespace Go.Proofs
open Go.E
set_option maxRecDepth 8000

def cntB (i : Nat) : Bool := decide (digN (i : Int) < 11)
def cnt : Nat → Nat
  | 0 => 0
  | i + 1 => cnt i + (if cntB i = true then 1 else 0)
theorem cnt_le : ∀ i, cnt i ≤ i
  | 0 => Nat.le_refl _
  | i + 1 => by
    have := cnt_le i
    simp only [cnt]
    split <;> omega
theorem cnt_all : cnt 256 = 11 := by decide +kernel
theorem codeV_dig {c : Int} (h : digN c < 11) : codeV (digN c) = c := by
  unfold digN at h ⊢
  split
  · rename_i e; rw [e]; rfl
  split
  · rename_i e; rw [e]; rfl
  split
  · rename_i e; rw [e]; rfl
  split
  · rename_i e; rw [e]; rfl
  split
  · rename_i e; rw [e]; rfl
  split
  · rename_i e; rw [e]; rfl
  split
  · rename_i e; rw [e]; rfl
  split
  · rename_i e; rw [e]; rfl
  split
  · rename_i e; rw [e]; rfl
  split
  · rename_i e; rw [e]; rfl
  split
  · rename_i e; rw [e]; rfl
  simp_all
set_option maxHeartbeats 1000000 in
theorem digits_law : callP Try.prog 4 [] (· = .bool true) := by
  refine callE_def env (fn := Try.f4) rfl (by decide) rfl ?_
  refine loop_weak (fun i : Nat => slots 71 [(0, .bool false), (1, .int .i64 (cnt i)), (2, .int .i64 i)]) (fun _ => [])
    (fun i => i ≤ 256) (fun i => 256 - i) 0 (Nat.zero_le _) (weak_keep (keep 71 [0, 1, 2]) [] rfl rfl rfl) ?_
  intro i hi
  have ei : IntKind.i64.wrap ((i : Int) + 1) = ((i + 1 : Nat) : Int) := by rw [wi (by omega) (by omega)]; rfl
  have e8 : i < 256 → IntKind.u8.wrap (i : Int) = i := fun h => wu8 (by omega) (by omega)
  have hc := cnt_le i
  apply branch_intro <;> intro h
  · have h : i < 256 := by simp at h; omega
    have e8 := e8 h
    by_cases hd : digN (i : Int) < 11
    · have c1 := digit_c (i : Int)
      rw [digE_of, if_pos hd, digV_of hd] at c1
      have c2 := code_c hd
      rw [codeV_dig hd] at c2
      have hn : cnt (i + 1) = cnt i + 1 := by simp only [cnt]; rw [if_pos (by unfold cntB; exact decide_eq_true hd)]
      have ec : IntKind.i64.wrap ((cnt i : Int) + 1) = ((cnt (i + 1) : Nat) : Int) := by rw [wi (by omega) (by omega), hn]; omega
      have e64 : IntKind.i64.wrap (i : Int) = i := wi (by omega) (by omega)
      refine callT_E ((congrArg (fun c => callP Try.prog 15 [.int .u8 c] (· = _)) e8).mpr c1) rfl ?_
      repeat (first | refine branch_t' (by decide +kernel) ?_ | refine branch_f' (by decide +kernel) ?_)
      refine callT_E c2 rfl ?_
      repeat (first | refine branch_t' (by decide +kernel) ?_ | refine branch_f' (by decide +kernel) ?_)
      refine branch_f' (by rw [e64]; simp) ?_
      repeat (first | refine branch_true ?_ | refine branch_false ?_ | refine branch_f' (bne_self_eq_false _) ?_ | refine branch_t' (beq_self_eq_true _) ?_ | refine branch_t' (decide_eq_true rfl) ?_)
      refine branch_f' (decide_eq_false (by omega)) ?_
      refine ⟨i + 1, h, by omega, weak_keep (keep 71 [0, 1, 2]) [] rfl ?_ rfl⟩
      show [_, _, _, _, _, _, _, _, _, _, _, _, _, _, _, _, _, _, _, _, _, _, _, _, _, _, _, _, _, _, _, _, _, _, _, _, _, _, _, _, _, _, _, _, _, _, _, _, _, _, _, _, _, _, _, _, _, _, _, _, _, _, _, _, _, _, _, _, _, _, _] = _
      rw [ei, ec]
      rfl
    · have c1 := digit_c (i : Int)
      rw [digE_of, if_neg hd] at c1
      have hn : cnt (i + 1) = cnt i := by simp only [cnt]; rw [if_neg (by unfold cntB; simpa using hd)]; rfl
      refine callT_E ((congrArg (fun c => callP Try.prog 15 [.int .u8 c] (· = _)) e8).mpr c1) rfl ?_
      repeat (first | refine branch_t' (by decide +kernel) ?_ | refine branch_f' (by decide +kernel) ?_)
      refine ⟨i + 1, h, by omega, weak_keep (keep 71 [0, 1, 2]) [] rfl ?_ rfl⟩
      show [_, _, _, _, _, _, _, _, _, _, _, _, _, _, _, _, _, _, _, _, _, _, _, _, _, _, _, _, _, _, _, _, _, _, _, _, _, _, _, _, _, _, _, _, _, _, _, _, _, _, _, _, _, _, _, _, _, _, _, _, _, _, _, _, _, _, _, _, _, _, _] = _
      rw [ei, hn]
      rfl
  · have : i = 256 := by simp at h; omega
    subst this
    refine callT_E (code_bad (x := 11) (by omega)) rfl ?_
    refine callT_E (code_c (n := 10) (by decide)) rfl ?_
    rw [cnt_all]
    repeat (first | refine branch_t' (by decide +kernel) ?_ | refine branch_f' (by decide +kernel) ?_)
    refine callT_E works_c rfl ?_
    repeat (first | refine branch_t' (by decide +kernel) ?_ | refine branch_f' (by decide +kernel) ?_)
    show Eqv _ _
    exact .up (.up (.refl _))
end Go.Proofs
