/- GroundKeys: the up-link's words. -/
import Derived.Test.YthedobkhfdpdaaaC2
import Derived.Test.YthedobkhfdpdaaaE5
set_option linter.unusedVariables false
set_option linter.unusedSimpArgs false
namespace Go.Proofs
open Go.E
set_option maxRecDepth 8000
abbrev g5 (x : Nat → Int) : List AVal := [.int .u8 (x 0), .int .u8 (x 1), .int .u8 (x 2), .int .u8 (x 3), .int .u8 (x 4)]
abbrev w16 (x : Nat → Int) : List AVal := [.int .u8 (x 0), .int .u8 (x 1), .int .u8 (x 2), .int .u8 (x 3), .int .u8 (x 4), .int .u8 (x 5), .int .u8 (x 6), .int .u8 (x 7), .int .u8 (x 8), .int .u8 (x 9), .int .u8 (x 10), .int .u8 (x 11), .int .u8 (x 12), .int .u8 (x 13), .int .u8 (x 14), .int .u8 (x 15)]
def num5 (x : Nat → Int) : Int := 16 * x 0 + 8 * x 1 + 4 * x 2 + 2 * x 3 + x 4
theorem number_ok {x : Nat → Int} (h : ∀ i, i < 5 → 0 ≤ x i ∧ x i ≤ 1) : callP Try.prog 37 [.agg (g5 x)] (· = .tuple [.int .i64 (num5 x), .bool true]) := by
  have h0 := h 0 (by decide)
  have h1 := h 1 (by decide)
  have h2 := h 2 (by decide)
  have h3 := h 3 (by decide)
  have h4 := h 4 (by decide)
  refine callE_def env (fn := Try.f37) rfl (by decide) rfl ?_
  repeat (first | refine stp ?_ | refine loop_unr 6 ?_)
  show Eqv _ _
  have e : ∀ y : Int, -1000 ≤ y → y ≤ 1000 → IntKind.i64.wrap y = y := fun y a b => wi (by omega) (by omega)
  simp (disch := omega) only [e]
  refine eqv_of_eq (congrArg (fun z => AVal.tuple [.int .i64 z, .bool true]) ?_)
  unfold num5
  omega
theorem number_no {x : Nat → Int} {k : Nat} (hk : k < 5) (h1 : ∀ i, i < k → x i ≤ 1) (h2 : 1 < x k) : callP Try.prog 37 [.agg (g5 x)] (· = .tuple [.int .i64 0, .bool false]) := by
  refine callE_def env (fn := Try.f37) rfl (by decide) rfl ?_
  match k, hk with
  | 0, _ =>
    repeat (first | refine stp ?_ | refine loop_unr 6 ?_)
    show Eqv _ _
    exact .up (.up (.refl _))
  | 1, _ =>
    have q0 := h1 0 (by decide)
    repeat (first | refine stp ?_ | refine loop_unr 6 ?_)
    show Eqv _ _
    exact .up (.up (.refl _))
  | 2, _ =>
    have q0 := h1 0 (by decide)
    have q1 := h1 1 (by decide)
    repeat (first | refine stp ?_ | refine loop_unr 6 ?_)
    show Eqv _ _
    exact .up (.up (.refl _))
  | 3, _ =>
    have q0 := h1 0 (by decide)
    have q1 := h1 1 (by decide)
    have q2 := h1 2 (by decide)
    repeat (first | refine stp ?_ | refine loop_unr 6 ?_)
    show Eqv _ _
    exact .up (.up (.refl _))
  | 4, _ =>
    have q0 := h1 0 (by decide)
    have q1 := h1 1 (by decide)
    have q2 := h1 2 (by decide)
    have q3 := h1 3 (by decide)
    repeat (first | refine stp ?_ | refine loop_unr 6 ?_)
    show Eqv _ _
    exact .up (.up (.refl _))
theorem ucomp_c (x : Nat → Int) : callP Try.prog 19 [.agg (g5 x)] (· = .agg (g5 fun i => IntKind.u8.wrap (1 - x i))) := by
  refine callE_def env (fn := Try.f19) rfl (by decide) rfl ?_
  repeat (first | refine stp ?_ | refine loop_unr 6 ?_)
  show Eqv _ _
  exact .up (.up (.refl _))
def bitV (m i : Nat) : Int := (m / 2 ^ (4 - i) % 2 : Nat)
theorem bits_c {m : Nat} (h : m < 32) : callP Try.prog 18 [.int .i64 m] (· = .agg (g5 (bitV m))) := by
  refine callE_def env (fn := Try.f18) rfl (by decide) rfl ?_
  repeat (first | refine stp ?_ | refine loop_unr 6 ?_)
  show Eqv _ _
  rcases (show m = 0 ∨ m = 1 ∨ m = 2 ∨ m = 3 ∨ m = 4 ∨ m = 5 ∨ m = 6 ∨ m = 7 ∨ m = 8 ∨ m = 9 ∨ m = 10 ∨ m = 11 ∨ m = 12 ∨ m = 13 ∨ m = 14 ∨ m = 15 ∨ m = 16 ∨ m = 17 ∨ m = 18 ∨ m = 19 ∨ m = 20 ∨ m = 21 ∨ m = 22 ∨ m = 23 ∨ m = 24 ∨ m = 25 ∨ m = 26 ∨ m = 27 ∨ m = 28 ∨ m = 29 ∨ m = 30 ∨ m = 31 by omega) with rfl | rfl | rfl | rfl | rfl | rfl | rfl | rfl | rfl | rfl | rfl | rfl | rfl | rfl | rfl | rfl | rfl | rfl | rfl | rfl | rfl | rfl | rfl | rfl | rfl | rfl | rfl | rfl | rfl | rfl | rfl | rfl <;> exact eqv_of_eq rfl
def uwordV (m i : Nat) : Int := if i = 0 then 1 else if i < 6 then bitV m (i - 1) else if i < 11 then 1 - bitV m (i - 6) else bitV m (i - 11)
theorem uword_c {m : Nat} (h : m < 32) : callP Try.prog 7 [.int .i64 m] (· = .tuple [.agg (w16 (uwordV m)), .int .i64 0]) := by
  refine callE_def env (fn := Try.f7) rfl (by decide) rfl ?_
  repeat refine stp ?_
  refine callT_E (bits_c h) rfl ?_
  repeat refine stp ?_
  refine callT_E (ucomp_c _) rfl ?_
  repeat refine stp ?_
  refine draw_last 2 (List.range 2) (by decide +kernel) ?_
  repeat refine stp ?_
  refine draw_last 2 (List.range 2) (by decide +kernel) ?_
  repeat refine stp ?_
  refine draw_last 2 (List.range 2) (by decide +kernel) ?_
  repeat refine stp ?_
  show Eqv _ _
  have e : ∀ i, IntKind.u8.wrap (1 - bitV m i) = 1 - bitV m i := fun i => by
    have : bitV m i = 0 ∨ bitV m i = 1 := by unfold bitV; omega
    rcases this with h | h <;> rw [h] <;> rfl
  simp only [e]
  exact eqv_of_eq rfl
end Go.Proofs
namespace Go.Proofs
open Go.E
set_option maxRecDepth 8000
def codeT : List Nat := [16, 1, 2, 3, 4, 5, 6, 7, 8, 9, 26, 27, 17, 31, 28, 30, 25, 18, 20]
theorem codes_c : callP Try.prog 17 [] (· = .agg [.int .i64 16, .int .i64 1, .int .i64 2, .int .i64 3, .int .i64 4, .int .i64 5, .int .i64 6, .int .i64 7, .int .i64 8, .int .i64 9, .int .i64 26, .int .i64 27, .int .i64 17, .int .i64 31, .int .i64 28, .int .i64 30, .int .i64 25, .int .i64 18, .int .i64 20]) := by
  refine callE_def env (fn := Try.f17) rfl (by decide) rfl ?_
  repeat refine stp ?_
  show Eqv _ _
  exact .up (.up (.refl _))
theorem key_c1 : callP Try.prog 9 [.int .i64 16] (· = .tuple [.int .u8 1, .bool true]) := by
  refine callE_def env (fn := Try.f9) rfl (by decide) rfl ?_
  repeat refine stp ?_
  refine callT_E codes_c rfl ?_
  repeat (first | refine stp ?_ | refine loop_unr 20 ?_)
  show Eqv _ _
  exact .up (.up (.refl _))
theorem key_c2 : callP Try.prog 9 [.int .i64 1] (· = .tuple [.int .u8 2, .bool true]) := by
  refine callE_def env (fn := Try.f9) rfl (by decide) rfl ?_
  repeat refine stp ?_
  refine callT_E codes_c rfl ?_
  repeat (first | refine stp ?_ | refine loop_unr 20 ?_)
  show Eqv _ _
  exact .up (.up (.refl _))
theorem key_c3 : callP Try.prog 9 [.int .i64 2] (· = .tuple [.int .u8 3, .bool true]) := by
  refine callE_def env (fn := Try.f9) rfl (by decide) rfl ?_
  repeat refine stp ?_
  refine callT_E codes_c rfl ?_
  repeat (first | refine stp ?_ | refine loop_unr 20 ?_)
  show Eqv _ _
  exact .up (.up (.refl _))
theorem key_c4 : callP Try.prog 9 [.int .i64 3] (· = .tuple [.int .u8 4, .bool true]) := by
  refine callE_def env (fn := Try.f9) rfl (by decide) rfl ?_
  repeat refine stp ?_
  refine callT_E codes_c rfl ?_
  repeat (first | refine stp ?_ | refine loop_unr 20 ?_)
  show Eqv _ _
  exact .up (.up (.refl _))
theorem key_c5 : callP Try.prog 9 [.int .i64 4] (· = .tuple [.int .u8 5, .bool true]) := by
  refine callE_def env (fn := Try.f9) rfl (by decide) rfl ?_
  repeat refine stp ?_
  refine callT_E codes_c rfl ?_
  repeat (first | refine stp ?_ | refine loop_unr 20 ?_)
  show Eqv _ _
  exact .up (.up (.refl _))
theorem key_c6 : callP Try.prog 9 [.int .i64 5] (· = .tuple [.int .u8 6, .bool true]) := by
  refine callE_def env (fn := Try.f9) rfl (by decide) rfl ?_
  repeat refine stp ?_
  refine callT_E codes_c rfl ?_
  repeat (first | refine stp ?_ | refine loop_unr 20 ?_)
  show Eqv _ _
  exact .up (.up (.refl _))
theorem key_c7 : callP Try.prog 9 [.int .i64 6] (· = .tuple [.int .u8 7, .bool true]) := by
  refine callE_def env (fn := Try.f9) rfl (by decide) rfl ?_
  repeat refine stp ?_
  refine callT_E codes_c rfl ?_
  repeat (first | refine stp ?_ | refine loop_unr 20 ?_)
  show Eqv _ _
  exact .up (.up (.refl _))
theorem key_c8 : callP Try.prog 9 [.int .i64 7] (· = .tuple [.int .u8 8, .bool true]) := by
  refine callE_def env (fn := Try.f9) rfl (by decide) rfl ?_
  repeat refine stp ?_
  refine callT_E codes_c rfl ?_
  repeat (first | refine stp ?_ | refine loop_unr 20 ?_)
  show Eqv _ _
  exact .up (.up (.refl _))
theorem key_c9 : callP Try.prog 9 [.int .i64 8] (· = .tuple [.int .u8 9, .bool true]) := by
  refine callE_def env (fn := Try.f9) rfl (by decide) rfl ?_
  repeat refine stp ?_
  refine callT_E codes_c rfl ?_
  repeat (first | refine stp ?_ | refine loop_unr 20 ?_)
  show Eqv _ _
  exact .up (.up (.refl _))
theorem key_c10 : callP Try.prog 9 [.int .i64 9] (· = .tuple [.int .u8 10, .bool true]) := by
  refine callE_def env (fn := Try.f9) rfl (by decide) rfl ?_
  repeat refine stp ?_
  refine callT_E codes_c rfl ?_
  repeat (first | refine stp ?_ | refine loop_unr 20 ?_)
  show Eqv _ _
  exact .up (.up (.refl _))
theorem key_c11 : callP Try.prog 9 [.int .i64 26] (· = .tuple [.int .u8 11, .bool true]) := by
  refine callE_def env (fn := Try.f9) rfl (by decide) rfl ?_
  repeat refine stp ?_
  refine callT_E codes_c rfl ?_
  repeat (first | refine stp ?_ | refine loop_unr 20 ?_)
  show Eqv _ _
  exact .up (.up (.refl _))
theorem key_c12 : callP Try.prog 9 [.int .i64 27] (· = .tuple [.int .u8 12, .bool true]) := by
  refine callE_def env (fn := Try.f9) rfl (by decide) rfl ?_
  repeat refine stp ?_
  refine callT_E codes_c rfl ?_
  repeat (first | refine stp ?_ | refine loop_unr 20 ?_)
  show Eqv _ _
  exact .up (.up (.refl _))
theorem key_c13 : callP Try.prog 9 [.int .i64 17] (· = .tuple [.int .u8 13, .bool true]) := by
  refine callE_def env (fn := Try.f9) rfl (by decide) rfl ?_
  repeat refine stp ?_
  refine callT_E codes_c rfl ?_
  repeat (first | refine stp ?_ | refine loop_unr 20 ?_)
  show Eqv _ _
  exact .up (.up (.refl _))
theorem key_c14 : callP Try.prog 9 [.int .i64 31] (· = .tuple [.int .u8 14, .bool true]) := by
  refine callE_def env (fn := Try.f9) rfl (by decide) rfl ?_
  repeat refine stp ?_
  refine callT_E codes_c rfl ?_
  repeat (first | refine stp ?_ | refine loop_unr 20 ?_)
  show Eqv _ _
  exact .up (.up (.refl _))
theorem key_c15 : callP Try.prog 9 [.int .i64 28] (· = .tuple [.int .u8 15, .bool true]) := by
  refine callE_def env (fn := Try.f9) rfl (by decide) rfl ?_
  repeat refine stp ?_
  refine callT_E codes_c rfl ?_
  repeat (first | refine stp ?_ | refine loop_unr 20 ?_)
  show Eqv _ _
  exact .up (.up (.refl _))
theorem key_c16 : callP Try.prog 9 [.int .i64 30] (· = .tuple [.int .u8 16, .bool true]) := by
  refine callE_def env (fn := Try.f9) rfl (by decide) rfl ?_
  repeat refine stp ?_
  refine callT_E codes_c rfl ?_
  repeat (first | refine stp ?_ | refine loop_unr 20 ?_)
  show Eqv _ _
  exact .up (.up (.refl _))
theorem key_c17 : callP Try.prog 9 [.int .i64 25] (· = .tuple [.int .u8 17, .bool true]) := by
  refine callE_def env (fn := Try.f9) rfl (by decide) rfl ?_
  repeat refine stp ?_
  refine callT_E codes_c rfl ?_
  repeat (first | refine stp ?_ | refine loop_unr 20 ?_)
  show Eqv _ _
  exact .up (.up (.refl _))
theorem key_c18 : callP Try.prog 9 [.int .i64 18] (· = .tuple [.int .u8 18, .bool true]) := by
  refine callE_def env (fn := Try.f9) rfl (by decide) rfl ?_
  repeat refine stp ?_
  refine callT_E codes_c rfl ?_
  repeat (first | refine stp ?_ | refine loop_unr 20 ?_)
  show Eqv _ _
  exact .up (.up (.refl _))
theorem key_c19 : callP Try.prog 9 [.int .i64 20] (· = .tuple [.int .u8 19, .bool true]) := by
  refine callE_def env (fn := Try.f9) rfl (by decide) rfl ?_
  repeat refine stp ?_
  refine callT_E codes_c rfl ?_
  repeat (first | refine stp ?_ | refine loop_unr 20 ?_)
  show Eqv _ _
  exact .up (.up (.refl _))
end Go.Proofs
namespace Go.Proofs
open Go.E
set_option maxRecDepth 8000
theorem after_bad {w : Nat → Int} {l : Bool} {c : Int} (hk : callP Try.prog 27 [.agg (w16 w)] (· = .tuple [.int .i64 0, .bool false])) (h0 : 0 ≤ c) (h1 : c < 32767) :
    callP Try.prog 20 [.agg [.bool l, .int .i64 c], .agg (w16 w)] (· = .tuple [.agg [.bool true, .int .i64 (c + 1)], .int .i64 0, .bool false]) := by
  refine callE_def env (fn := Try.f20) rfl (by decide) rfl ?_
  repeat refine stp ?_
  refine callT_E hk rfl ?_
  repeat refine stp ?_
  show Eqv _ _
  rw [wi (by omega) (by omega)]
  exact .up (.up (.refl _))
theorem after_locked {w : Nat → Int} {n c : Int} (hk : callP Try.prog 27 [.agg (w16 w)] (· = .tuple [.int .i64 n, .bool true])) :
    callP Try.prog 20 [.agg [.bool true, .int .i64 c], .agg (w16 w)] (· = .tuple [.agg [.bool (n != 18), .int .i64 c], .int .i64 0, .bool false]) := by
  refine callE_def env (fn := Try.f20) rfl (by decide) rfl ?_
  repeat refine stp ?_
  refine callT_E hk rfl ?_
  repeat refine stp ?_
  show Eqv _ _
  exact .up (.up (.refl _))
theorem after_open {w : Nat → Int} {n c : Int} (hk : callP Try.prog 27 [.agg (w16 w)] (· = .tuple [.int .i64 n, .bool true])) :
    callP Try.prog 20 [.agg [.bool false, .int .i64 c], .agg (w16 w)] (· = .tuple [.agg [.bool false, .int .i64 c], .int .i64 n, .bool true]) := by
  refine callE_def env (fn := Try.f20) rfl (by decide) rfl ?_
  repeat refine stp ?_
  refine callT_E hk rfl ?_
  repeat refine stp ?_
  show Eqv _ _
  exact .up (.up (.refl _))
end Go.Proofs
