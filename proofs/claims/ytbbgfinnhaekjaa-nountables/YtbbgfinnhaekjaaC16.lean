/- Chapter 29, part za: the law of the tables. -/
import Derived.Test.YtbbgfinnhaekjaaC11
import Derived.Test.YtbbgfinnhaekjaaC12
import Derived.Test.YtbbgfinnhaekjaaC13
import Derived.Test.YtbbgfinnhaekjaaC15
import Derived.Test.YtbbgfinnhaekjaaC5
import Derived.Test.YtbbgfinnhaekjaaC7
import Derived.Test.YtbbgfinnhaekjaaC14
set_option linter.unusedVariables false
set_option linter.unusedSimpArgs false
/-! Bq. -/
namespace Go.Proofs
open Go.E
set_option maxRecDepth 8000

/-- A verb. -/
structure Vrb where
  k : Int
  o : Bool
  c0 : Bool
  c1 : Bool
  c2 : Bool
abbrev Vrb.L (v : Vrb) : List AVal := [.int .u8 v.k, .bool v.o, .bool v.c0, .bool v.c1, .bool v.c2]
abbrev Vrb.A (v : Vrb) : AVal := .agg v.L
def Vrb.z : Vrb := ⟨0, false, false, false, false⟩
def Vrb.c (v : Vrb) (i : Int) : Bool := if i = 0 then v.c0 else if i = 1 then v.c1 else v.c2
/-- The first component after i that a verb selects; 3 if there is none. -/
def Vrb.next (v : Vrb) (i : Int) : Int :=
  if i < 0 ∧ v.c0 = true then 0 else if i < 1 ∧ v.c1 = true then 1 else if i < 2 ∧ v.c2 = true then 2 else 3
def vrb (n : Int) : Vrb :=
  if n = 1 then ⟨1, true, true, false, false⟩ else
  if n = 2 then ⟨1, true, false, true, false⟩ else
  if n = 3 then ⟨1, true, false, false, true⟩ else
  if n = 4 then ⟨1, true, true, true, false⟩ else
  if n = 5 then ⟨1, true, true, true, true⟩ else
  if n = 6 then ⟨1, false, true, true, true⟩ else
  if n = 11 then ⟨2, true, true, false, false⟩ else
  if n = 12 then ⟨2, true, false, true, false⟩ else
  if n = 13 then ⟨2, true, false, false, true⟩ else
  if n = 14 then ⟨2, true, true, true, false⟩ else
  if n = 15 then ⟨2, true, true, true, true⟩ else
  if n = 16 then ⟨2, false, true, true, true⟩ else
  if n = 21 then ⟨3, false, true, false, false⟩ else
  if n = 22 then ⟨3, false, false, true, false⟩ else
  if n = 23 then ⟨3, false, false, false, true⟩ else
  if n = 24 then ⟨3, false, true, true, false⟩ else
  if n = 25 then ⟨3, false, true, true, true⟩ else
  if n = 32 then ⟨4, false, false, false, false⟩ else
  if n = 33 then ⟨5, false, false, false, false⟩ else
  if n = 34 then ⟨6, false, false, false, false⟩ else
  if n = 35 then ⟨7, false, false, false, false⟩ else
  if n = 37 then ⟨8, false, false, false, false⟩ else .z
theorem verbV_vrb (n : Int) : verbV n = ((vrb n).A, decide ((vrb n).k ≠ 0)) := by
  by_cases h1 : n = 1
  · subst h1; rfl
  by_cases h2 : n = 2
  · subst h2; rfl
  by_cases h3 : n = 3
  · subst h3; rfl
  by_cases h4 : n = 4
  · subst h4; rfl
  by_cases h5 : n = 5
  · subst h5; rfl
  by_cases h6 : n = 6
  · subst h6; rfl
  by_cases h11 : n = 11
  · subst h11; rfl
  by_cases h12 : n = 12
  · subst h12; rfl
  by_cases h13 : n = 13
  · subst h13; rfl
  by_cases h14 : n = 14
  · subst h14; rfl
  by_cases h15 : n = 15
  · subst h15; rfl
  by_cases h16 : n = 16
  · subst h16; rfl
  by_cases h21 : n = 21
  · subst h21; rfl
  by_cases h22 : n = 22
  · subst h22; rfl
  by_cases h23 : n = 23
  · subst h23; rfl
  by_cases h24 : n = 24
  · subst h24; rfl
  by_cases h25 : n = 25
  · subst h25; rfl
  by_cases h32 : n = 32
  · subst h32; rfl
  by_cases h33 : n = 33
  · subst h33; rfl
  by_cases h34 : n = 34
  · subst h34; rfl
  by_cases h35 : n = 35
  · subst h35; rfl
  by_cases h37 : n = 37
  · subst h37; rfl
  simp only [verbV, vrb, if_neg h1, if_neg h2, if_neg h3, if_neg h4, if_neg h5, if_neg h6, if_neg h11, if_neg h12, if_neg h13, if_neg h14, if_neg h15, if_neg h16, if_neg h21, if_neg h22, if_neg h23, if_neg h24, if_neg h25, if_neg h32, if_neg h33, if_neg h34, if_neg h35, if_neg h37]
  rfl

theorem va2 (n : Int) : callP Try.prog 21 [.int .i64 n] (· = .tuple [(vrb n).A, .bool (decide ((vrb n).k ≠ 0))]) := by
  have h := vaV n
  rw [verbV_vrb] at h
  exact h
theorem vb2 (n : Int) : callP Try.prog 22 [.int .i64 n] (· = .tuple [(vrb n).A, .bool (decide ((vrb n).k ≠ 0))]) := by
  have h := vbV n
  rw [verbV_vrb] at h
  exact h
def capK (n : Nat) : Nat := Int.toNat (if (60 : Int) < (n : Int) then 60 else (n : Int)) - 0
theorem capK_le (n : Nat) : capK n ≤ n := by
  unfold capK
  split <;> omega
set_option maxHeartbeats 16000000 in
theorem tables_go (n : Nat) (num : Nat → Int) (m : Nat → Nat) (cm : Nat → Nat → Cmp) (x : Int) (hn : n ≤ 9223372036854775807) (hm : ∀ i, i < n → m i * 32 ≤ 140737488355328)
    (hok : ∀ i, i < n → ∀ j, j < m i → (cm i j).Ok) : callP Try.prog 7 [.ro 2 n (nrow num m (fun i j => cmpL (cm i j))), .int .i64 x] (· = .bool true) := by
  have hK := capK_le n
  refine callE_def env (fn := Try.f7) rfl (by decide) rfl ?_
  apply need_intro
  · dsimp only
    by_cases h60 : (60 : Int) < n
    · rw [if_pos h60]; omega
    · rw [if_neg h60]; omega
  refine loop_weak (fun i : Nat => slots 95 [(0, .ro 2 (capK n) (nrow (fun i => num (0 + i)) (fun i => m (0 + i)) (fun i j => cmpL (cm (0 + i) j)))), (1, .int .i64 x), (5, .int .i64 ((i : Int) - 1))]) (fun _ => [])
    (fun i => i ≤ 42) (fun i => 42 - i) 0 (by decide) (weak_keep (keep 95 [0, 1, 5]) [] rfl rfl rfl) ?_
  intro i hi
  by_cases h42 : i = 42
  · subst h42
    repeat (first | refine branch_true ?_ | refine branch_false ?_ | (refine branch_t' (decide_eq_true ?_) ?_; focus omega) | (refine branch_f' (decide_eq_false ?_) ?_; focus omega) | (refine branch_t' (beq_iff_eq.2 ?_) ?_; focus omega) | (refine branch_f' (beq_eq_false_iff_ne.2 ?_) ?_; focus omega) | (refine branch_t' (bne_iff_ne.2 ?_) ?_; focus omega) | (refine branch_f' (bne_eq_false_iff_eq.2 ?_) ?_; focus omega) | refine branch_t' (by assumption) ?_ | refine branch_f' (by assumption) ?_)
    refine callT_E (va2 x) rfl ?_
    refine callT_E (vb2 x) rfl ?_
    have e23 := find_c (capK n) (fun i => num (0 + i)) (fun i => m (0 + i)) (fun i j => cmpL (cm (0 + i) j)) x (by omega) (fun i h => hm (0 + i) (by omega))
    have e24 := findR_c (capK n) (fun i => num (0 + i)) (fun i => m (0 + i)) (fun i j => cmpL (cm (0 + i) j)) x (by omega) (fun i h => hm (0 + i) (by omega))
    have f0 := may_c (capK n) (fun i => num (0 + i)) (fun i => m (0 + i)) (fun i j => cmpL (cm (0 + i) j)) (fun i => cm (0 + i)) (by omega) (fun i h => by have := hm (0 + i) (by omega); omega) (fun i h j hj => rfl) (fun i h j hj => hok (0 + i) (by omega) j hj)
    have f1 := mayR_c (capK n) (fun i => num (0 + i)) (fun i => m (0 + i)) (fun i => cm (0 + i)) (by omega) (fun i h => by have := hm (0 + i) (by omega); omega) (fun i h j hj => hok (0 + i) (by omega) j hj)
    cases hf : (List.range (capK n)).find? (fun i => num (0 + i) == x) with
    | none =>
      have ev : findV (capK n) (fun i => num (0 + i)) (fun i => m (0 + i)) (fun i j => cmpL (cm (0 + i) j)) x = .tuple [.agg [.int .i64 0, .nilslice], .int .i64 7] := by rw [findV, hf]
      rw [ev] at e23 e24
      refine callT_E e23 rfl ?_
      refine callT_E e24 rfl ?_
      repeat (first | refine need_intro (by decide) ?_ | refine branch_true ?_ | refine branch_false ?_ | (refine branch_t' (decide_eq_true ?_) ?_; focus omega) | (refine branch_f' (decide_eq_false ?_) ?_; focus omega) | (refine branch_t' (beq_iff_eq.2 ?_) ?_; focus omega) | (refine branch_f' (beq_eq_false_iff_ne.2 ?_) ?_; focus omega) | (refine branch_t' (bne_iff_ne.2 ?_) ?_; focus omega) | (refine branch_f' (bne_eq_false_iff_eq.2 ?_) ?_; focus omega) | refine branch_t' (by assumption) ?_ | refine branch_f' (by assumption) ?_ | refine branch_f' (bne_self_eq_false _) ?_ | refine branch_t' (beq_self_eq_true _) ?_ | (refine branch_f' ?_ ?_; focus (simp; done)) | (refine branch_t' ?_ ?_; focus (simp; done)))
      refine callT_E same_nil rfl ?_
      repeat (first | refine need_intro (by decide) ?_ | refine branch_true ?_ | refine branch_false ?_ | (refine branch_t' (decide_eq_true ?_) ?_; focus omega) | (refine branch_f' (decide_eq_false ?_) ?_; focus omega) | (refine branch_t' (beq_iff_eq.2 ?_) ?_; focus omega) | (refine branch_f' (beq_eq_false_iff_ne.2 ?_) ?_; focus omega) | (refine branch_t' (bne_iff_ne.2 ?_) ?_; focus omega) | (refine branch_f' (bne_eq_false_iff_eq.2 ?_) ?_; focus omega) | refine branch_t' (by assumption) ?_ | refine branch_f' (by assumption) ?_ | refine branch_f' (bne_self_eq_false _) ?_ | refine branch_t' (beq_self_eq_true _) ?_ | (refine branch_f' ?_ ?_; focus (simp; done)) | (refine branch_t' ?_ ?_; focus (simp; done)))
      refine callT_E f0 rfl ?_
      repeat (first | refine need_intro (by decide) ?_ | refine branch_true ?_ | refine branch_false ?_ | (refine branch_t' (decide_eq_true ?_) ?_; focus omega) | (refine branch_f' (decide_eq_false ?_) ?_; focus omega) | (refine branch_t' (beq_iff_eq.2 ?_) ?_; focus omega) | (refine branch_f' (beq_eq_false_iff_ne.2 ?_) ?_; focus omega) | (refine branch_t' (bne_iff_ne.2 ?_) ?_; focus omega) | (refine branch_f' (bne_eq_false_iff_eq.2 ?_) ?_; focus omega) | refine branch_t' (by assumption) ?_ | refine branch_f' (by assumption) ?_ | refine branch_f' (bne_self_eq_false _) ?_ | refine branch_t' (beq_self_eq_true _) ?_ | (refine branch_f' ?_ ?_; focus (simp; done)) | (refine branch_t' ?_ ?_; focus (simp; done)))
      refine callT_E f1 rfl ?_
      repeat (first | refine need_intro (by decide) ?_ | refine branch_true ?_ | refine branch_false ?_ | (refine branch_t' (decide_eq_true ?_) ?_; focus omega) | (refine branch_f' (decide_eq_false ?_) ?_; focus omega) | (refine branch_t' (beq_iff_eq.2 ?_) ?_; focus omega) | (refine branch_f' (beq_eq_false_iff_ne.2 ?_) ?_; focus omega) | (refine branch_t' (bne_iff_ne.2 ?_) ?_; focus omega) | (refine branch_f' (bne_eq_false_iff_eq.2 ?_) ?_; focus omega) | refine branch_t' (by assumption) ?_ | refine branch_f' (by assumption) ?_ | refine branch_f' (bne_self_eq_false _) ?_ | refine branch_t' (beq_self_eq_true _) ?_ | (refine branch_f' ?_ ?_; focus (simp; done)) | (refine branch_t' ?_ ?_; focus (simp; done)))
      refine callT_E works_c rfl ?_
      repeat (first | refine need_intro (by decide) ?_ | refine branch_true ?_ | refine branch_false ?_ | (refine branch_t' (decide_eq_true ?_) ?_; focus omega) | (refine branch_f' (decide_eq_false ?_) ?_; focus omega) | (refine branch_t' (beq_iff_eq.2 ?_) ?_; focus omega) | (refine branch_f' (beq_eq_false_iff_ne.2 ?_) ?_; focus omega) | (refine branch_t' (bne_iff_ne.2 ?_) ?_; focus omega) | (refine branch_f' (bne_eq_false_iff_eq.2 ?_) ?_; focus omega) | refine branch_t' (by assumption) ?_ | refine branch_f' (by assumption) ?_ | refine branch_f' (bne_self_eq_false _) ?_ | refine branch_t' (beq_self_eq_true _) ?_ | (refine branch_f' ?_ ?_; focus (simp; done)) | (refine branch_t' ?_ ?_; focus (simp; done)))
      show Eqv _ _
      exact .up (.up (.refl _))
    | some i =>
      have ev : findV (capK n) (fun i => num (0 + i)) (fun i => m (0 + i)) (fun i j => cmpL (cm (0 + i) j)) x = .tuple [.agg [.int .i64 x, .ro 4 (m (0 + i)) (fun j => cmpL (cm (0 + i) j))], .int .i64 0] := by rw [findV, hf]
      rw [ev] at e23 e24
      refine callT_E e23 rfl ?_
      refine callT_E e24 rfl ?_
      repeat (first | refine need_intro (by decide) ?_ | refine branch_true ?_ | refine branch_false ?_ | (refine branch_t' (decide_eq_true ?_) ?_; focus omega) | (refine branch_f' (decide_eq_false ?_) ?_; focus omega) | (refine branch_t' (beq_iff_eq.2 ?_) ?_; focus omega) | (refine branch_f' (beq_eq_false_iff_ne.2 ?_) ?_; focus omega) | (refine branch_t' (bne_iff_ne.2 ?_) ?_; focus omega) | (refine branch_f' (bne_eq_false_iff_eq.2 ?_) ?_; focus omega) | refine branch_t' (by assumption) ?_ | refine branch_f' (by assumption) ?_ | refine branch_f' (bne_self_eq_false _) ?_ | refine branch_t' (beq_self_eq_true _) ?_ | (refine branch_f' ?_ ?_; focus (simp; done)) | (refine branch_t' ?_ ?_; focus (simp; done)))
      refine callT_E (same_c x (m (0 + i)) (fun j => cm (0 + i) j) (by have := hm (0 + i) (by have := List.mem_range.1 (List.mem_of_find?_eq_some hf); omega); omega)) rfl ?_
      repeat (first | refine need_intro (by decide) ?_ | refine branch_true ?_ | refine branch_false ?_ | (refine branch_t' (decide_eq_true ?_) ?_; focus omega) | (refine branch_f' (decide_eq_false ?_) ?_; focus omega) | (refine branch_t' (beq_iff_eq.2 ?_) ?_; focus omega) | (refine branch_f' (beq_eq_false_iff_ne.2 ?_) ?_; focus omega) | (refine branch_t' (bne_iff_ne.2 ?_) ?_; focus omega) | (refine branch_f' (bne_eq_false_iff_eq.2 ?_) ?_; focus omega) | refine branch_t' (by assumption) ?_ | refine branch_f' (by assumption) ?_ | refine branch_f' (bne_self_eq_false _) ?_ | refine branch_t' (beq_self_eq_true _) ?_ | (refine branch_f' ?_ ?_; focus (simp; done)) | (refine branch_t' ?_ ?_; focus (simp; done)))
      refine callT_E f0 rfl ?_
      repeat (first | refine need_intro (by decide) ?_ | refine branch_true ?_ | refine branch_false ?_ | (refine branch_t' (decide_eq_true ?_) ?_; focus omega) | (refine branch_f' (decide_eq_false ?_) ?_; focus omega) | (refine branch_t' (beq_iff_eq.2 ?_) ?_; focus omega) | (refine branch_f' (beq_eq_false_iff_ne.2 ?_) ?_; focus omega) | (refine branch_t' (bne_iff_ne.2 ?_) ?_; focus omega) | (refine branch_f' (bne_eq_false_iff_eq.2 ?_) ?_; focus omega) | refine branch_t' (by assumption) ?_ | refine branch_f' (by assumption) ?_ | refine branch_f' (bne_self_eq_false _) ?_ | refine branch_t' (beq_self_eq_true _) ?_ | (refine branch_f' ?_ ?_; focus (simp; done)) | (refine branch_t' ?_ ?_; focus (simp; done)))
      refine callT_E f1 rfl ?_
      repeat (first | refine need_intro (by decide) ?_ | refine branch_true ?_ | refine branch_false ?_ | (refine branch_t' (decide_eq_true ?_) ?_; focus omega) | (refine branch_f' (decide_eq_false ?_) ?_; focus omega) | (refine branch_t' (beq_iff_eq.2 ?_) ?_; focus omega) | (refine branch_f' (beq_eq_false_iff_ne.2 ?_) ?_; focus omega) | (refine branch_t' (bne_iff_ne.2 ?_) ?_; focus omega) | (refine branch_f' (bne_eq_false_iff_eq.2 ?_) ?_; focus omega) | refine branch_t' (by assumption) ?_ | refine branch_f' (by assumption) ?_ | refine branch_f' (bne_self_eq_false _) ?_ | refine branch_t' (beq_self_eq_true _) ?_ | (refine branch_f' ?_ ?_; focus (simp; done)) | (refine branch_t' ?_ ?_; focus (simp; done)))
      refine callT_E works_c rfl ?_
      repeat (first | refine need_intro (by decide) ?_ | refine branch_true ?_ | refine branch_false ?_ | (refine branch_t' (decide_eq_true ?_) ?_; focus omega) | (refine branch_f' (decide_eq_false ?_) ?_; focus omega) | (refine branch_t' (beq_iff_eq.2 ?_) ?_; focus omega) | (refine branch_f' (beq_eq_false_iff_ne.2 ?_) ?_; focus omega) | (refine branch_t' (bne_iff_ne.2 ?_) ?_; focus omega) | (refine branch_f' (bne_eq_false_iff_eq.2 ?_) ?_; focus omega) | refine branch_t' (by assumption) ?_ | refine branch_f' (by assumption) ?_ | refine branch_f' (bne_self_eq_false _) ?_ | refine branch_t' (beq_self_eq_true _) ?_ | (refine branch_f' ?_ ?_; focus (simp; done)) | (refine branch_t' ?_ ?_; focus (simp; done)))
      show Eqv _ _
      exact .up (.up (.refl _))
  · repeat (first | refine branch_true ?_ | refine branch_false ?_ | (refine branch_t' (decide_eq_true ?_) ?_; focus omega) | (refine branch_f' (decide_eq_false ?_) ?_; focus omega) | (refine branch_t' (beq_iff_eq.2 ?_) ?_; focus omega) | (refine branch_f' (beq_eq_false_iff_ne.2 ?_) ?_; focus omega) | (refine branch_t' (bne_iff_ne.2 ?_) ?_; focus omega) | (refine branch_f' (bne_eq_false_iff_eq.2 ?_) ?_; focus omega) | refine branch_t' (by assumption) ?_ | refine branch_f' (by assumption) ?_)
    refine callT_E (va2 _) rfl ?_
    refine callT_E (vb2 _) rfl ?_
    repeat (first | refine need_intro (by decide) ?_ | refine branch_true ?_ | refine branch_false ?_ | (refine branch_t' (decide_eq_true ?_) ?_; focus omega) | (refine branch_f' (decide_eq_false ?_) ?_; focus omega) | (refine branch_t' (beq_iff_eq.2 ?_) ?_; focus omega) | (refine branch_f' (beq_eq_false_iff_ne.2 ?_) ?_; focus omega) | (refine branch_t' (bne_iff_ne.2 ?_) ?_; focus omega) | (refine branch_f' (bne_eq_false_iff_eq.2 ?_) ?_; focus omega) | refine branch_t' (by assumption) ?_ | refine branch_f' (by assumption) ?_ | refine branch_f' (bne_self_eq_false _) ?_ | refine branch_t' (beq_self_eq_true _) ?_ | (refine branch_f' ?_ ?_; focus (simp; done)) | (refine branch_t' ?_ ?_; focus (simp; done)))
    refine ⟨i + 1, by omega, by omega, weak_keep (keep 95 [0, 1, 5]) [] rfl ?_ rfl⟩
    show [_, _, _, _, _, _, _, _, _, _, _, _, _, _, _, _, _, _, _, _, _, _, _, _, _, _, _, _, _, _, _, _, _, _, _, _, _, _, _, _, _, _, _, _, _, _, _, _, _, _, _, _, _, _, _, _, _, _, _, _, _, _, _, _, _, _, _, _, _, _, _, _, _, _, _, _, _, _, _, _, _, _, _, _, _, _, _, _, _, _, _, _, _, _, _] = _
    have e3 : IntKind.i64.wrap ((i : Int) - 1 + 1) = ((i + 1 : Nat) : Int) - 1 := by rw [wi (by omega) (by omega)]; omega
    rw [e3]
    rfl

theorem aggL_cmp (f : Nat → Int) : aggL f [.u8, .i64, .i64, .i64] 0 = cmpL ⟨f 0, f 1, f 2, f 3⟩ := rfl
theorem tables_law (n : Nat) (num : Nat → Int) (m : Nat → Nat) (D : Nat → Nat → Nat → Int) (hn : n ≤ maxLen)
    (hw : ∀ i, i < n → IntKind.i64.has (num i) ∧ m i ≤ maxLen ∧ ∀ j, j < m i → HasL [.u8, .i64, .i64, .i64] (D i j)) (hm : ∀ i, i < n → m i * 32 ≤ 140737488355328) (x : Int) (_ : -9223372036854775808 ≤ x ∧ x ≤ 9223372036854775807) :
    callP Try.prog 7 [.ro 2 n (fun i => [.int .i64 (num i), .ro 4 (m i) (fun j => aggL (D i j) [.u8, .i64, .i64, .i64] 0)]), .int .i64 x] (· = .bool true) :=
  tables_go n num m (fun i j => ⟨D i j 0, D i j 1, D i j 2, D i j 3⟩) x hn hm (fun i hi j hj => cmp_of ((hw i hi).2.2 j hj))
end Go.Proofs
