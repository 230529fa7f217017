/- Chapter 29, part u: the verbs of the program, at every number. -/
import Derived.Test.YthedobkhfdpdaaaC7
set_option linter.unusedVariables false
set_option linter.unusedSimpArgs false
namespace Go.Proofs
open Go.E
set_option maxRecDepth 8000
def verbV (n : Int) : AVal × Bool :=
  if n = 1 then (.agg [.int .u8 1, .bool true, .bool true, .bool false, .bool false], true) else
  if n = 2 then (.agg [.int .u8 1, .bool true, .bool false, .bool true, .bool false], true) else
  if n = 3 then (.agg [.int .u8 1, .bool true, .bool false, .bool false, .bool true], true) else
  if n = 4 then (.agg [.int .u8 1, .bool true, .bool true, .bool true, .bool false], true) else
  if n = 5 then (.agg [.int .u8 1, .bool true, .bool true, .bool true, .bool true], true) else
  if n = 6 then (.agg [.int .u8 1, .bool false, .bool true, .bool true, .bool true], true) else
  if n = 11 then (.agg [.int .u8 2, .bool true, .bool true, .bool false, .bool false], true) else
  if n = 12 then (.agg [.int .u8 2, .bool true, .bool false, .bool true, .bool false], true) else
  if n = 13 then (.agg [.int .u8 2, .bool true, .bool false, .bool false, .bool true], true) else
  if n = 14 then (.agg [.int .u8 2, .bool true, .bool true, .bool true, .bool false], true) else
  if n = 15 then (.agg [.int .u8 2, .bool true, .bool true, .bool true, .bool true], true) else
  if n = 16 then (.agg [.int .u8 2, .bool false, .bool true, .bool true, .bool true], true) else
  if n = 21 then (.agg [.int .u8 3, .bool false, .bool true, .bool false, .bool false], true) else
  if n = 22 then (.agg [.int .u8 3, .bool false, .bool false, .bool true, .bool false], true) else
  if n = 23 then (.agg [.int .u8 3, .bool false, .bool false, .bool false, .bool true], true) else
  if n = 24 then (.agg [.int .u8 3, .bool false, .bool true, .bool true, .bool false], true) else
  if n = 25 then (.agg [.int .u8 3, .bool false, .bool true, .bool true, .bool true], true) else
  if n = 32 then (.agg [.int .u8 4, .bool false, .bool false, .bool false, .bool false], true) else
  if n = 33 then (.agg [.int .u8 5, .bool false, .bool false, .bool false, .bool false], true) else
  if n = 34 then (.agg [.int .u8 6, .bool false, .bool false, .bool false, .bool false], true) else
  if n = 35 then (.agg [.int .u8 7, .bool false, .bool false, .bool false, .bool false], true) else
  if n = 37 then (.agg [.int .u8 8, .bool false, .bool false, .bool false, .bool false], true) else
  (.agg [.int .u8 0, .bool false, .bool false, .bool false, .bool false], false)
theorem va_1 : callP Try.prog 47 [.int .i64 1] (· = .tuple [.agg [.int .u8 1, .bool true, .bool true, .bool false, .bool false], .bool true]) := by
  refine callE_def env (fn := Try.f47) rfl (by decide) rfl ?_
  repeat refine stm ?_
  show Eqv _ _
  exact .up (.up (.refl _))
theorem va_2 : callP Try.prog 47 [.int .i64 2] (· = .tuple [.agg [.int .u8 1, .bool true, .bool false, .bool true, .bool false], .bool true]) := by
  refine callE_def env (fn := Try.f47) rfl (by decide) rfl ?_
  repeat refine stm ?_
  show Eqv _ _
  exact .up (.up (.refl _))
theorem va_3 : callP Try.prog 47 [.int .i64 3] (· = .tuple [.agg [.int .u8 1, .bool true, .bool false, .bool false, .bool true], .bool true]) := by
  refine callE_def env (fn := Try.f47) rfl (by decide) rfl ?_
  repeat refine stm ?_
  show Eqv _ _
  exact .up (.up (.refl _))
theorem va_4 : callP Try.prog 47 [.int .i64 4] (· = .tuple [.agg [.int .u8 1, .bool true, .bool true, .bool true, .bool false], .bool true]) := by
  refine callE_def env (fn := Try.f47) rfl (by decide) rfl ?_
  repeat refine stm ?_
  show Eqv _ _
  exact .up (.up (.refl _))
theorem va_5 : callP Try.prog 47 [.int .i64 5] (· = .tuple [.agg [.int .u8 1, .bool true, .bool true, .bool true, .bool true], .bool true]) := by
  refine callE_def env (fn := Try.f47) rfl (by decide) rfl ?_
  repeat refine stm ?_
  show Eqv _ _
  exact .up (.up (.refl _))
theorem va_6 : callP Try.prog 47 [.int .i64 6] (· = .tuple [.agg [.int .u8 1, .bool false, .bool true, .bool true, .bool true], .bool true]) := by
  refine callE_def env (fn := Try.f47) rfl (by decide) rfl ?_
  repeat refine stm ?_
  show Eqv _ _
  exact .up (.up (.refl _))
theorem va_11 : callP Try.prog 47 [.int .i64 11] (· = .tuple [.agg [.int .u8 2, .bool true, .bool true, .bool false, .bool false], .bool true]) := by
  refine callE_def env (fn := Try.f47) rfl (by decide) rfl ?_
  repeat refine stm ?_
  refine callT_E va_1 rfl ?_
  repeat refine stm ?_
  show Eqv _ _
  exact .up (.up (.refl _))
theorem va_12 : callP Try.prog 47 [.int .i64 12] (· = .tuple [.agg [.int .u8 2, .bool true, .bool false, .bool true, .bool false], .bool true]) := by
  refine callE_def env (fn := Try.f47) rfl (by decide) rfl ?_
  repeat refine stm ?_
  refine callT_E va_2 rfl ?_
  repeat refine stm ?_
  show Eqv _ _
  exact .up (.up (.refl _))
theorem va_13 : callP Try.prog 47 [.int .i64 13] (· = .tuple [.agg [.int .u8 2, .bool true, .bool false, .bool false, .bool true], .bool true]) := by
  refine callE_def env (fn := Try.f47) rfl (by decide) rfl ?_
  repeat refine stm ?_
  refine callT_E va_3 rfl ?_
  repeat refine stm ?_
  show Eqv _ _
  exact .up (.up (.refl _))
theorem va_14 : callP Try.prog 47 [.int .i64 14] (· = .tuple [.agg [.int .u8 2, .bool true, .bool true, .bool true, .bool false], .bool true]) := by
  refine callE_def env (fn := Try.f47) rfl (by decide) rfl ?_
  repeat refine stm ?_
  refine callT_E va_4 rfl ?_
  repeat refine stm ?_
  show Eqv _ _
  exact .up (.up (.refl _))
theorem va_15 : callP Try.prog 47 [.int .i64 15] (· = .tuple [.agg [.int .u8 2, .bool true, .bool true, .bool true, .bool true], .bool true]) := by
  refine callE_def env (fn := Try.f47) rfl (by decide) rfl ?_
  repeat refine stm ?_
  refine callT_E va_5 rfl ?_
  repeat refine stm ?_
  show Eqv _ _
  exact .up (.up (.refl _))
theorem va_16 : callP Try.prog 47 [.int .i64 16] (· = .tuple [.agg [.int .u8 2, .bool false, .bool true, .bool true, .bool true], .bool true]) := by
  refine callE_def env (fn := Try.f47) rfl (by decide) rfl ?_
  repeat refine stm ?_
  refine callT_E va_6 rfl ?_
  repeat refine stm ?_
  show Eqv _ _
  exact .up (.up (.refl _))
theorem va_21 : callP Try.prog 47 [.int .i64 21] (· = .tuple [.agg [.int .u8 3, .bool false, .bool true, .bool false, .bool false], .bool true]) := by
  refine callE_def env (fn := Try.f47) rfl (by decide) rfl ?_
  repeat refine stm ?_
  refine callT_E va_1 rfl ?_
  repeat refine stm ?_
  show Eqv _ _
  exact .up (.up (.refl _))
theorem va_22 : callP Try.prog 47 [.int .i64 22] (· = .tuple [.agg [.int .u8 3, .bool false, .bool false, .bool true, .bool false], .bool true]) := by
  refine callE_def env (fn := Try.f47) rfl (by decide) rfl ?_
  repeat refine stm ?_
  refine callT_E va_2 rfl ?_
  repeat refine stm ?_
  show Eqv _ _
  exact .up (.up (.refl _))
theorem va_23 : callP Try.prog 47 [.int .i64 23] (· = .tuple [.agg [.int .u8 3, .bool false, .bool false, .bool false, .bool true], .bool true]) := by
  refine callE_def env (fn := Try.f47) rfl (by decide) rfl ?_
  repeat refine stm ?_
  refine callT_E va_3 rfl ?_
  repeat refine stm ?_
  show Eqv _ _
  exact .up (.up (.refl _))
theorem va_24 : callP Try.prog 47 [.int .i64 24] (· = .tuple [.agg [.int .u8 3, .bool false, .bool true, .bool true, .bool false], .bool true]) := by
  refine callE_def env (fn := Try.f47) rfl (by decide) rfl ?_
  repeat refine stm ?_
  refine callT_E va_4 rfl ?_
  repeat refine stm ?_
  show Eqv _ _
  exact .up (.up (.refl _))
theorem va_25 : callP Try.prog 47 [.int .i64 25] (· = .tuple [.agg [.int .u8 3, .bool false, .bool true, .bool true, .bool true], .bool true]) := by
  refine callE_def env (fn := Try.f47) rfl (by decide) rfl ?_
  repeat refine stm ?_
  refine callT_E va_5 rfl ?_
  repeat refine stm ?_
  show Eqv _ _
  exact .up (.up (.refl _))
theorem va_32 : callP Try.prog 47 [.int .i64 32] (· = .tuple [.agg [.int .u8 4, .bool false, .bool false, .bool false, .bool false], .bool true]) := by
  refine callE_def env (fn := Try.f47) rfl (by decide) rfl ?_
  repeat refine stm ?_
  show Eqv _ _
  exact .up (.up (.refl _))
theorem va_33 : callP Try.prog 47 [.int .i64 33] (· = .tuple [.agg [.int .u8 5, .bool false, .bool false, .bool false, .bool false], .bool true]) := by
  refine callE_def env (fn := Try.f47) rfl (by decide) rfl ?_
  repeat refine stm ?_
  show Eqv _ _
  exact .up (.up (.refl _))
theorem va_34 : callP Try.prog 47 [.int .i64 34] (· = .tuple [.agg [.int .u8 6, .bool false, .bool false, .bool false, .bool false], .bool true]) := by
  refine callE_def env (fn := Try.f47) rfl (by decide) rfl ?_
  repeat refine stm ?_
  show Eqv _ _
  exact .up (.up (.refl _))
theorem va_35 : callP Try.prog 47 [.int .i64 35] (· = .tuple [.agg [.int .u8 7, .bool false, .bool false, .bool false, .bool false], .bool true]) := by
  refine callE_def env (fn := Try.f47) rfl (by decide) rfl ?_
  repeat refine stm ?_
  show Eqv _ _
  exact .up (.up (.refl _))
theorem va_37 : callP Try.prog 47 [.int .i64 37] (· = .tuple [.agg [.int .u8 8, .bool false, .bool false, .bool false, .bool false], .bool true]) := by
  refine callE_def env (fn := Try.f47) rfl (by decide) rfl ?_
  repeat refine stm ?_
  show Eqv _ _
  exact .up (.up (.refl _))
set_option maxHeartbeats 8000000 in
theorem vaV (n : Int) : callP Try.prog 47 [.int .i64 n] (· = .tuple [(verbV n).1, .bool (verbV n).2]) := by
  by_cases h1 : n = 1
  · subst h1; exact va_1
  by_cases h2 : n = 2
  · subst h2; exact va_2
  by_cases h3 : n = 3
  · subst h3; exact va_3
  by_cases h4 : n = 4
  · subst h4; exact va_4
  by_cases h5 : n = 5
  · subst h5; exact va_5
  by_cases h6 : n = 6
  · subst h6; exact va_6
  by_cases h11 : n = 11
  · subst h11; exact va_11
  by_cases h12 : n = 12
  · subst h12; exact va_12
  by_cases h13 : n = 13
  · subst h13; exact va_13
  by_cases h14 : n = 14
  · subst h14; exact va_14
  by_cases h15 : n = 15
  · subst h15; exact va_15
  by_cases h16 : n = 16
  · subst h16; exact va_16
  by_cases h21 : n = 21
  · subst h21; exact va_21
  by_cases h22 : n = 22
  · subst h22; exact va_22
  by_cases h23 : n = 23
  · subst h23; exact va_23
  by_cases h24 : n = 24
  · subst h24; exact va_24
  by_cases h25 : n = 25
  · subst h25; exact va_25
  by_cases h32 : n = 32
  · subst h32; exact va_32
  by_cases h33 : n = 33
  · subst h33; exact va_33
  by_cases h34 : n = 34
  · subst h34; exact va_34
  by_cases h35 : n = 35
  · subst h35; exact va_35
  by_cases h37 : n = 37
  · subst h37; exact va_37
  rw [verbV, if_neg h1, if_neg h2, if_neg h3, if_neg h4, if_neg h5, if_neg h6, if_neg h11, if_neg h12, if_neg h13, if_neg h14, if_neg h15, if_neg h16, if_neg h21, if_neg h22, if_neg h23, if_neg h24, if_neg h25, if_neg h32, if_neg h33, if_neg h34, if_neg h35, if_neg h37]
  refine callE_def env (fn := Try.f47) rfl (by decide) rfl ?_
  repeat refine stm ?_
  show Eqv _ _
  exact .up (.up (.refl _))
end Go.Proofs
