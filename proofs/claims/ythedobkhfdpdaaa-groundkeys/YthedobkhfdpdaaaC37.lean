/- Chapter 30: new panels, and what is refused. -/
import Derived.Test.YthedobkhfdpdaaaC36
set_option linter.unusedVariables false
set_option linter.unusedSimpArgs false
namespace Go.Proofs
open Go.E
set_option maxRecDepth 8000
def Nns.none : Nns := ⟨0, fun _ => 0, fun _ => 0, fun _ _ => ⟨0, 0, 0, 0⟩⟩
def Dsp.z : Dsp := ⟨0, 0, 0, 0, 0, 0, z6, z6, z6, 0, 0⟩
def Pan.zero : Pan := ⟨Nns.none, 0, 0, 0, z6, 0, 0, z6, z6, z6, .z, 0, 0, 0, false, Dsp.z⟩
def newP (N : Nns) : Pan := ⟨N, 0, 0, 0, z6, 0, 0, z6, z6, z6, .z, 0, 0, 0, false, Dsp.clear⟩
theorem zero_eqv : Eqv1 (.agg zL) Pan.zero.A := .agg (.cons (.nil 2 _) (eqvL0_refl _))
theorem new_ok (N : Nns) (hN : N.OkP) (h : N.may = true) : callP Try.prog 4 [N.A] (· = .tuple [(newP N).A, .int .i64 0]) := by
  have e := nmay N hN
  rw [h] at e
  refine callE_def env (fn := Try.f4) rfl (by decide) rfl ?_
  repeat refine stp ?_
  refine callT_E e rfl ?_
  repeat refine stp ?_
  refine callT_E clear_d rfl ?_
  repeat refine stp ?_
  refine callT_E (own_c (newP N) hN) rfl ?_
  repeat refine stp ?_
  show Eqv _ _
  exact .up (.up (.refl _))
theorem new_no (N : Nns) (hN : N.OkP) (h : N.may = false) : callP Try.prog 4 [N.A] (· = .tuple [Pan.zero.A, .int .i64 2]) := by
  have e := nmay N hN
  rw [h] at e
  refine callE_def env (fn := Try.f4) rfl (by decide) rfl ?_
  repeat refine stp ?_
  refine callT_E e rfl ?_
  repeat refine stp ?_
  show Eqv (.tuple [_, _]) _
  exact .tuple (.cons zero_eqv (.cons (.up (.refl _)) .nil))
end Go.Proofs
