/- Chapter 27: the law of the known examples. -/
import Derived.Test.YtdbdppoecijdhaaC13
import Derived.Test.YtdbdppoecijdhaaC6
set_option linter.unusedVariables false
set_option linter.unusedSimpArgs false
/-! Ce. -/
namespace Go.Proofs
open Go.E
set_option maxRecDepth 8000

def vD (j : Nat) : Int := match j with | 2 => 1 | 3 => 6 | 24 => 5 | j => blankD j
def badD (j : Nat) : Int := match j with | 12 => 3 | j => blankD j
def minD (j : Nat) : Int := match j with | 6 => 2 | j => firstD j
theorem v_w : WD vD := by
  refine ⟨fun j hj => ?_, by decide, by decide⟩
  have : ∀ j : Fin 24, 0 ≤ vD j.1 ∧ vD j.1 < 256 := by decide
  exact this ⟨j, hj⟩
theorem bad_w : WD badD := by
  refine ⟨fun j hj => ?_, by decide, by decide⟩
  have : ∀ j : Fin 24, 0 ≤ badD j.1 ∧ badD j.1 < 256 := by decide
  exact this ⟨j, hj⟩
theorem min_w : WD minD := by
  refine ⟨fun j hj => ?_, by decide, by decide⟩
  have : ∀ j : Fin 24, 0 ≤ minD j.1 ∧ minD j.1 < 256 := by decide
  exact this ⟨j, hj⟩
theorem v_may : mayB vD = true := by decide +kernel
theorem bad_may : mayB badD = false := by decide +kernel
theorem min_may : mayB minD = true := by decide +kernel
theorem first_txt : callP Try.prog 31 [dispA firstD] (· = .str ⟨#[80, 82, 79, 71, 32, 95, 95, 10, 86, 69, 82, 66, 32, 95, 95, 10, 78, 79, 85, 78, 32, 95, 95, 10, 82, 49, 32, 43, 49, 50, 51, 52, 53, 10, 82, 50, 32, 95, 95, 95, 95, 95, 95, 10, 82, 51, 32, 95, 95, 95, 95, 95, 95, 10]⟩) := by
  have h := text_c (good_of first_w first_may)
  rwa [show txtS firstD = ⟨#[80, 82, 79, 71, 32, 95, 95, 10, 86, 69, 82, 66, 32, 95, 95, 10, 78, 79, 85, 78, 32, 95, 95, 10, 82, 49, 32, 43, 49, 50, 51, 52, 53, 10, 82, 50, 32, 95, 95, 95, 95, 95, 95, 10, 82, 51, 32, 95, 95, 95, 95, 95, 95, 10]⟩ from by decide +kernel] at h
theorem chg_min : callP Try.prog 21 [dispA firstD, dispA minD] (· = ints .u16 [13822, 15163]) := by
  have h := changed_c (good_of first_w first_may) (good_of min_w min_may)
  rwa [show chgN firstD minD 13 = [13822, 15163] from by decide +kernel] at h
theorem show_two : callP Try.prog 18 [ints .u16 [20604, 16480]] (· = .tuple [dispA (fun _ => 0), .int .i64 1, .int .i64 5]) := by
  have h := show_no (l := [20604, 16480]) (fun x hx => by simp at hx; omega) (by decide) (m := 1) (by decide) (fun j hj => by
    obtain rfl : j = 0 := by omega
    decide +kernel) (by decide +kernel)
  rwa [show apE ([20604, 16480].getD 1 0) = 5 from by decide +kernel] at h

set_option maxHeartbeats 1000000 in
theorem known_law : callP Try.prog 8 [] (· = .bool true) := by
  have r14 := row_bad2 v_w v_may (k := 14) (by decide)
  have r0 := row_bad2 v_w v_may (k := 0) (by decide)
  have rb := row_bad1 bad_w bad_may 0
  have a0 := apply_r0 blank_w blank_may (w := 0) (by decide) (by decide) (by decide)
  have a14 := apply_r14 blank_w blank_may (w := 28672) (by decide) (by decide) (by decide)
  have ab := apply_bad bad_w bad_may 0
  have b10 := rowB_c v_w v_may (n := 10) (by decide) (by decide) 20604
  have b12 := rowB_c v_w v_may (n := 12) (by decide) (by decide) 24581
  have b13 := rowB_c v_w v_may (n := 13) (by decide) (by decide) 26624
  rw [show (rowW vD 10 == 20604) = true from by decide +kernel] at b10
  rw [show (rowW vD 12 == 24581) = true from by decide +kernel] at b12
  rw [show (rowW vD 13 == 26624) = true from by decide +kernel] at b13
  have wb := words_bad bad_w bad_may
  have cb := changed_bad bad_w first_w (.inl bad_may)
  have tb := text_bad bad_w bad_may
  have mb := may_c bad_w
  rw [bad_may] at mb
  have a3 := apply_c blank_w blank_may (w := 7168) (by decide) (by decide)
  rw [show apE 7168 = 5 from by decide +kernel] at a3
  refine callP_def env (fn := Try.f8) rfl (by decide) ?_
  repeat refine stm ?_
  refine callT_E clear_c rfl ?_
  repeat refine stm ?_
  refine callT_E clear_c rfl ?_
  repeat refine stm ?_
  refine callT_E r14 rfl ?_
  repeat refine stm ?_
  refine callT_E r0 rfl ?_
  repeat refine stm ?_
  refine callT_E rb rfl ?_
  repeat refine stm ?_
  refine callT_E clear_c rfl ?_
  repeat refine stm ?_
  refine callT_E a0 rfl ?_
  repeat refine stm ?_
  refine callT_E clear_c rfl ?_
  repeat refine stm ?_
  refine callT_E a14 rfl ?_
  repeat refine stm ?_
  refine callT_E ab rfl ?_
  repeat refine stm ?_
  refine choice_l ?_
  repeat refine stm ?_
  refine callT_E show_two rfl ?_
  repeat refine stm ?_
  refine callT_E b10 rfl ?_
  repeat refine stm ?_
  refine callT_E b12 rfl ?_
  repeat refine stm ?_
  refine callT_E b13 rfl ?_
  repeat refine stm ?_
  refine callT_E first_c rfl ?_
  repeat refine stm ?_
  refine draw_tree (picks (List.range 4) .done) (by decide +kernel) ?_
  refine ⟨_, ⟨first_c, rfl⟩, ?_⟩
  repeat refine stm ?_
  refine ⟨_, ⟨chg_min, rfl⟩, ?_⟩
  repeat refine stm ?_
  refine draw_tree (picks (List.range 33) .done) (by decide +kernel) ?_
  repeat refine stm ?_
  refine ⟨_, ⟨wb, rfl⟩, ?_⟩
  repeat refine stm ?_
  refine ⟨_, ⟨first_c, rfl⟩, ?_⟩
  repeat refine stm ?_
  refine ⟨_, ⟨cb, rfl⟩, ?_⟩
  repeat refine stm ?_
  refine ⟨_, ⟨tb, rfl⟩, ?_⟩
  repeat refine stm ?_
  refine callT_E clear_c rfl ?_
  repeat refine stm ?_
  refine callT_E a3 rfl ?_
  repeat refine stm ?_
  refine callT_E first_c rfl ?_
  repeat refine stm ?_
  refine callT_E first_txt rfl ?_
  repeat refine stm ?_
  refine callT_E mb rfl ?_
  repeat refine stm ?_
  refine callT_E works_c rfl ?_
  repeat refine stm ?_
  exact rfl
end Go.Proofs
