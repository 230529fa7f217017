/- Chapter 27, part i: Apply, all rows; the examples; the law of the digits. -/
import Derived.Test.YtdbdppoecijdhaaC3
import Derived.Test.YtdbdppoecijdhaaC4
set_option linter.unusedVariables false
set_option linter.unusedSimpArgs false
/-! Ai. -/
namespace Go.Proofs
open Go.E
set_option maxRecDepth 8000

def rowN (w : Int) : Nat := (w / 2048 % 16).toNat
def apE (w : Int) : Int := match rowN w with
  | 0 => 3 | 14 => 3 | 15 => 3 | 12 => 0 | 13 => 0
  | r => if fitW (r - 1) w = true then 0 else 5
def apD (d : Nat → Int) (w : Int) : Nat → Int := match rowN w with
  | 0 => fun _ => 0 | 14 => fun _ => 0 | 15 => fun _ => 0 | 12 => upd d 24 (w % 2048) | 13 => upd d 25 (w % 2048)
  | r => if fitW (r - 1) w = true then newD d (r - 1) (digV (w / 32 % 32)) (digV (w % 32)) (sgV d (onB w) (r - 1)) else fun _ => 0
theorem apply_c {d : Nat → Int} (hd : WD d) (hm : mayB d = true) {w : Int} (h0 : 0 ≤ w) (h1 : w < 65536) : callP Try.prog 10 [dispA d, .int .u16 w] (· = .tuple [dispA (apD d w), .int .i64 (apE w)]) := by
  obtain ⟨r, hr⟩ : ∃ r : Nat, rowN w = r := ⟨_, rfl⟩
  have hw : w / 2048 % 16 = r := by unfold rowN at hr; omega
  have hlt : r < 16 := by omega
  unfold apD apE
  rw [hr]
  have h16 : r = 0 ∨ r = 1 ∨ r = 2 ∨ r = 3 ∨ r = 4 ∨ r = 5 ∨ r = 6 ∨ r = 7 ∨ r = 8 ∨ r = 9 ∨ r = 10 ∨ r = 11 ∨ r = 12 ∨ r = 13 ∨ r = 14 ∨ r = 15 := by omega
  rcases h16 with rfl | rfl | rfl | rfl | rfl | rfl | rfl | rfl | rfl | rfl | rfl | rfl | rfl | rfl | rfl | rfl
  · exact apply_r0 hd hm h0 h1 hw
  · simp only [Nat.reduceSub]
    by_cases hf : fitW 0 w = true
    · rw [if_pos hf, if_pos hf]; exact apply_ok0 hd hm h0 h1 hw hf
    · rw [if_neg hf, if_neg hf]; exact apply_no0 hd hm h0 h1 hw (Bool.eq_false_iff.2 hf)
  · simp only [Nat.reduceSub]
    by_cases hf : fitW 1 w = true
    · rw [if_pos hf, if_pos hf]; exact apply_ok1 hd hm h0 h1 hw hf
    · rw [if_neg hf, if_neg hf]; exact apply_no1 hd hm h0 h1 hw (Bool.eq_false_iff.2 hf)
  · simp only [Nat.reduceSub]
    by_cases hf : fitW 2 w = true
    · rw [if_pos hf, if_pos hf]; exact apply_ok2 hd hm h0 h1 hw hf
    · rw [if_neg hf, if_neg hf]; exact apply_no2 hd hm h0 h1 hw (Bool.eq_false_iff.2 hf)
  · simp only [Nat.reduceSub]
    by_cases hf : fitW 3 w = true
    · rw [if_pos hf, if_pos hf]; exact apply_ok3 hd hm h0 h1 hw hf
    · rw [if_neg hf, if_neg hf]; exact apply_no3 hd hm h0 h1 hw (Bool.eq_false_iff.2 hf)
  · simp only [Nat.reduceSub]
    by_cases hf : fitW 4 w = true
    · rw [if_pos hf, if_pos hf]; exact apply_ok4 hd hm h0 h1 hw hf
    · rw [if_neg hf, if_neg hf]; exact apply_no4 hd hm h0 h1 hw (Bool.eq_false_iff.2 hf)
  · simp only [Nat.reduceSub]
    by_cases hf : fitW 5 w = true
    · rw [if_pos hf, if_pos hf]; exact apply_ok5 hd hm h0 h1 hw hf
    · rw [if_neg hf, if_neg hf]; exact apply_no5 hd hm h0 h1 hw (Bool.eq_false_iff.2 hf)
  · simp only [Nat.reduceSub]
    by_cases hf : fitW 6 w = true
    · rw [if_pos hf, if_pos hf]; exact apply_ok6 hd hm h0 h1 hw hf
    · rw [if_neg hf, if_neg hf]; exact apply_no6 hd hm h0 h1 hw (Bool.eq_false_iff.2 hf)
  · simp only [Nat.reduceSub]
    by_cases hf : fitW 7 w = true
    · rw [if_pos hf, if_pos hf]; exact apply_ok7 hd hm h0 h1 hw hf
    · rw [if_neg hf, if_neg hf]; exact apply_no7 hd hm h0 h1 hw (Bool.eq_false_iff.2 hf)
  · simp only [Nat.reduceSub]
    by_cases hf : fitW 8 w = true
    · rw [if_pos hf, if_pos hf]; exact apply_ok8 hd hm h0 h1 hw hf
    · rw [if_neg hf, if_neg hf]; exact apply_no8 hd hm h0 h1 hw (Bool.eq_false_iff.2 hf)
  · simp only [Nat.reduceSub]
    by_cases hf : fitW 9 w = true
    · rw [if_pos hf, if_pos hf]; exact apply_ok9 hd hm h0 h1 hw hf
    · rw [if_neg hf, if_neg hf]; exact apply_no9 hd hm h0 h1 hw (Bool.eq_false_iff.2 hf)
  · simp only [Nat.reduceSub]
    by_cases hf : fitW 10 w = true
    · rw [if_pos hf, if_pos hf]; exact apply_ok10 hd hm h0 h1 hw hf
    · rw [if_neg hf, if_neg hf]; exact apply_no10 hd hm h0 h1 hw (Bool.eq_false_iff.2 hf)
  · exact apply_r12 hd hm h0 h1 hw
  · exact apply_r13 hd hm h0 h1 hw
  · exact apply_r14 hd hm h0 h1 hw
  · exact apply_r15 hd hm h0 h1 hw
theorem blank_w : WD blankD := by
  refine ⟨fun j hj => ?_, by decide, by decide⟩
  unfold W8 blankD clD
  split <;> omega
theorem blank_may : mayB blankD = true := by decide +kernel
/-- The blank display with R1 +12345. -/
def firstD (j : Nat) : Int := match j with
  | 6 => 1 | 7 => 1 | 8 => 2 | 9 => 3 | 10 => 4 | 11 => 5
  | j => blankD j
theorem first_w : WD firstD := by
  refine ⟨fun j hj => ?_, by decide, by decide⟩
  have := blank_w.1 j hj
  unfold firstD
  split <;> first | exact this | (unfold W8; omega)
theorem first_may : mayB firstD = true := by decide +kernel
theorem first_c : callP Try.prog 34 [] (· = dispA firstD) := by
  refine callE_def env (fn := Try.f34) rfl (by decide) rfl ?_
  refine callT_E clear_c rfl ?_
  repeat (refine need_intro (by decide) ?_)
  show Eqv _ _
  exact .up (.up (.refl _))
/-- row's answer. -/
theorem rowB_c {d : Nat → Int} (hd : WD d) (hm : mayB d = true) {n : Nat} (h1 : 1 ≤ n) (h2 : n ≤ 13) (w : Int) : callP Try.prog 33 [dispA d, .int .i64 n, .int .u16 w] (· = .bool (rowW d n == w)) := by
  refine callE_def env (fn := Try.f33) rfl (by decide) rfl ?_
  refine callT_E (row_c hd hm h1 h2) rfl ?_
  apply branch_intro <;> intro h
  · repeat (first | refine branch_true ?_ | refine branch_false ?_ | refine branch_f' (bne_self_eq_false _) ?_ | refine branch_t' (beq_self_eq_true _) ?_ | refine branch_t' (decide_eq_true rfl) ?_)
    show Eqv _ _
    rw [h]
    show Eqv _ _
    exact .up (.up (.refl _))
  · repeat (first | refine branch_true ?_ | refine branch_false ?_ | refine branch_f' (bne_self_eq_false _) ?_ | refine branch_t' (beq_self_eq_true _) ?_ | refine branch_t' (decide_eq_true rfl) ?_)
    show Eqv _ _
    rw [h]
    show Eqv _ _
    exact .up (.up (.refl _))
theorem works_c : callP Try.prog 11 [] (· = .bool true) := by
  refine callE_def env (fn := Try.f11) rfl (by decide) rfl ?_
  refine callT_E (code_c (n := 0) (by decide)) rfl ?_
  refine callT_E (digit_c 25) rfl ?_
  refine callT_E clear_c rfl ?_
  refine callT_E (apply_c blank_w blank_may (by decide) (by decide)) rfl ?_
  refine callT_E clear_c rfl ?_
  refine callT_E (apply_c blank_w blank_may (by decide) (by decide)) rfl ?_
  repeat (first | refine branch_t' (by decide +kernel) ?_ | refine branch_f' (by decide +kernel) ?_)
  repeat (refine need_intro (by decide) ?_)
  repeat (first | refine branch_t' (by decide +kernel) ?_ | refine branch_f' (by decide +kernel) ?_)
  refine callT_E first_c rfl ?_
  repeat (first | refine branch_t' (by decide +kernel) ?_ | refine branch_f' (by decide +kernel) ?_)
  refine callT_E (rowB_c first_w first_may (n := 8) (by decide) (by decide) 16387) rfl ?_
  repeat (first | refine branch_t' (by decide +kernel) ?_ | refine branch_f' (by decide +kernel) ?_)
  refine callT_E first_c rfl ?_
  repeat (first | refine branch_t' (by decide +kernel) ?_ | refine branch_f' (by decide +kernel) ?_)
  refine callT_E (rowB_c first_w first_may (n := 7) (by decide) (by decide) 16187) rfl ?_
  repeat (first | refine branch_t' (by decide +kernel) ?_ | refine branch_f' (by decide +kernel) ?_)
  refine callT_E first_c rfl ?_
  repeat (first | refine branch_t' (by decide +kernel) ?_ | refine branch_f' (by decide +kernel) ?_)
  refine callT_E (rowB_c first_w first_may (n := 6) (by decide) (by decide) 12798) rfl ?_
  repeat (first | refine branch_t' (by decide +kernel) ?_ | refine branch_f' (by decide +kernel) ?_)
  show Eqv _ _
  refine eqv_of_eq (congrArg AVal.bool ?_)
  decide +kernel
end Go.Proofs
