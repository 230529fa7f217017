/- Chapter 30: the law Asks. -/
import Derived.Test.YtblgcojannjmcaaC45
set_option linter.unusedVariables false
set_option linter.unusedSimpArgs false
/-! Xc. -/
namespace Go.Proofs
open Go.E
set_option maxRecDepth 8000

theorem words_nil' : Words [] := fun x hx => by cases hx
set_option maxHeartbeats 16000000 in
theorem asks_law (a : Int) (ha : 0 ≤ a ∧ a < 256) (b : Int) (hb : 0 ≤ b ∧ b < 256) : callP Try.prog 5 [.int .u8 a, .int .u8 b] (· = .bool true) := by
  have ta := tmod4 ha.1
  have tb := tmod4 hb.1
  obtain ⟨i, hi⟩ := fin4 ta
  obtain ⟨j, hj⟩ := fin4 tb
  have hA := af i
  have hB := bf i j
  have hBp := B_p j
  rw [← hi] at hA hB
  rw [← hj] at hB hBp
  refine callE_def env (fn := Try.f5) rfl (by decide) rfl ?_
  repeat (first | refine ndD ?_ | refine ndS ?_ | refine branch_true ?_ | refine branch_false ?_ | refine brT ?_ | refine brF ?_ | refine brD ?_ | refine brE ?_ | refine brU ?_ | refine brV ?_)
  refine partW_at rfl (show _ = some (AVal.int .i64 (aV (a.tmod 4))) from ?_) ?_
  · rcases ta with e | e | e | e <;> rw [e] <;> rfl
  generalize aV (a.tmod 4) = v at hA hB
  have p1 : callP Try.prog 10 [A0.A, .int .u8 13] (· = .tuple [A1.A, (pressV A0 13).2.A, .int .i64 0]) := press_ok A0 A0_good.ok A0_good.may 13 rfl
  have q1 : callP Try.prog 19 [A1.A, .int .i64 v, .int .i64 20] (· = .tuple [(A2 v).A, (askP A1 v 20).2.A, .int .i64 0]) := ask_ok A1 A1_good.ok ((may_iff _).2 A1_good.may) v 20 hA.s
  have p2 : callP Try.prog 10 [(A2 v).A, .int .u8 17] (· = .tuple [(A3 v).A, (pressV (A2 v) 17).2.A, .int .i64 0]) := press_ok (A2 v) (A2_good hA).ok (A2_good hA).may 17 rfl
  have l2 := free_c (A2 v) hA.a4
  have f2 := flashes_c (A2 v) hA.a4
  have l3 := free_c (A3 v) hA.b7
  have f3 := flashes_c (A3 v) hA.b7
  rw [hA.a1] at l2
  rw [hA.a2] at f2
  rw [hA.b1] at l3
  rw [hA.b2] at f3
  have y1 : callP Try.prog 23 [(A3 v).A, ints .u8 (parse (bT (b.tmod 4))).1, .nilslice] (· = .tuple [(B1 v (b.tmod 4)).p.A, reqsA [⟨bK (b.tmod 4), 0, []⟩], ints .u16 (B1 v (b.tmod 4)).l, .int .i64 0]) := play_t (A3 v) (A3_good hA) (bT (b.tmod 4)) _ hB.r
  have g1 : Good (B1 v (b.tmod 4)).p := (play_inv (s := ⟨A3 v, [], []⟩) ⟨A3_good hA, words_nil'⟩ (parse_key _)).p
  have y2 : callP Try.prog 23 [(B1 v (b.tmod 4)).p.A, ints .u8 (parse (bT (b.tmod 4))).1, .nilslice] (· = .tuple [(B2 v (b.tmod 4)).p.A, reqsA [], ints .u16 (B2 v (b.tmod 4)).l, .int .i64 0]) := play_t (B1 v (b.tmod 4)).p g1 (bT (b.tmod 4)) _ hB.r2
  have fl1 := flashes_c (B1 v (b.tmod 4)).p hB.b
  have fr1 := free_c (B1 v (b.tmod 4)).p hB.b
  have wr2 := wrong_c (B2 v (b.tmod 4)).p hB.b2
  rw [hB.f] at fl1
  rw [hB.w] at fr1
  rw [hB.w2] at wr2
  have n1 : (B1 v (b.tmod 4)).p.av = 0 := hB.a
  have n2 : (B1 v (b.tmod 4)).p.asked = false := hB.k
  have k1 := hA.k
  have k2 := hA.b6
  have s1 := hA.a3
  have s2 := hA.b3
  have s3 := hA.b4
  have s4 := hA.b5
  repeat (first | refine ndD ?_ | refine ndS ?_ | refine branch_true ?_ | refine branch_false ?_ | refine brT ?_ | refine brF ?_ | refine brD ?_ | refine brE ?_ | refine brU ?_ | refine brV ?_)
  refine callT_E table_c rfl ?_
  repeat (first | refine ndD ?_ | refine ndS ?_ | refine branch_true ?_ | refine branch_false ?_ | refine brT ?_ | refine brF ?_ | refine brD ?_ | refine brE ?_ | refine brU ?_ | refine brV ?_)
  refine callT_E (new_ok tabN tab_ok tab_may) rfl ?_
  repeat (first | refine ndD ?_ | refine ndS ?_ | refine branch_true ?_ | refine branch_false ?_ | refine brT ?_ | refine brF ?_ | refine brD ?_ | refine brE ?_ | refine brU ?_ | refine brV ?_)
  refine callT_E p1 rfl ?_
  repeat (first | refine ndD ?_ | refine ndS ?_ | refine branch_true ?_ | refine branch_false ?_ | refine brT ?_ | refine brF ?_ | refine brD ?_ | refine brE ?_ | refine brU ?_ | refine brV ?_)
  refine callT_E q1 rfl ?_
  repeat (first | refine ndD ?_ | refine ndS ?_ | refine branch_true ?_ | refine branch_false ?_ | refine brT ?_ | refine brF ?_ | refine brD ?_ | refine brE ?_ | refine brU ?_ | refine brV ?_)
  refine callT_E l2 rfl ?_
  repeat (first | refine ndD ?_ | refine ndS ?_ | refine branch_true ?_ | refine branch_false ?_ | refine brT ?_ | refine brF ?_ | refine brD ?_ | refine brE ?_ | refine brU ?_ | refine brV ?_)
  refine callT_E f2 rfl ?_
  repeat (first | refine ndD ?_ | refine ndS ?_ | refine branch_true ?_ | refine branch_false ?_ | refine brT ?_ | refine brF ?_ | refine brD ?_ | refine brE ?_ | refine brU ?_ | refine brV ?_)
  refine callT_E p2 rfl ?_
  repeat (first | refine ndD ?_ | refine ndS ?_ | refine branch_true ?_ | refine branch_false ?_ | refine brT ?_ | refine brF ?_ | refine brD ?_ | refine brE ?_ | refine brU ?_ | refine brV ?_)
  refine callT_E l3 rfl ?_
  repeat (first | refine ndD ?_ | refine ndS ?_ | refine branch_true ?_ | refine branch_false ?_ | refine brT ?_ | refine brF ?_ | refine brD ?_ | refine brE ?_ | refine brU ?_ | refine brV ?_)
  refine callT_E f3 rfl ?_
  repeat (first | refine ndD ?_ | refine ndS ?_ | refine branch_true ?_ | refine branch_false ?_ | refine brT ?_ | refine brF ?_ | refine brD ?_ | refine brE ?_ | refine brU ?_ | refine brV ?_)
  by_cases h21 : v = 21
  · rw [if_pos h21] at k2
    obtain ⟨c0, c1, c2, c3, c4, c5⟩ := C_f
    have g3 : Good (A3 21) := by rw [← h21]; exact A3_good hA
    have y3 : callP Try.prog 23 [(A3 v).A, ints .u8 (parse cT).1, .nilslice] (· = .tuple [C1.p.A, reqsA C1.rs, ints .u16 C1.l, .int .i64 0]) := by
      rw [h21]
      exact callP_arg (.cons (Eqv.same _) (.cons (Eqv.same _) (.cons (.up (.up (.nil 1 _))) .nil))) (play_c (A3 21) g3 (parse cT).1 [] (parse_key cT) (by have := parse_len cT; omega) words_nil' (by decide))
    have fl3 := flashes_c C1.p c5
    rw [c4] at fl3
    refine branch_f' (by rw [k2, h21]; decide) ?_
    repeat (first | refine ndD ?_ | refine ndS ?_ | refine branch_true ?_ | refine branch_false ?_ | refine brT ?_ | refine brF ?_ | refine brD ?_ | refine brE ?_ | refine brU ?_ | refine brV ?_)
    refine partW_at rfl (show _ = some (AVal.str (bT (b.tmod 4))) from ?_) ?_
    · rcases tb with e | e | e | e <;> rw [e] <;> rfl
    refine callT_E (parse_t _ hBp) rfl ?_
    repeat (first | refine ndD ?_ | refine ndS ?_ | refine branch_true ?_ | refine branch_false ?_ | refine brT ?_ | refine brF ?_ | refine brD ?_ | refine brE ?_ | refine brU ?_ | refine brV ?_)
    refine callT_E y1 rfl ?_
    repeat (first | refine ndD ?_ | refine ndS ?_ | refine branch_true ?_ | refine branch_false ?_ | refine brT ?_ | refine brF ?_ | refine brD ?_ | refine brE ?_ | refine brU ?_ | refine brV ?_)
    refine partW_at rfl (show _ = some (AVal.int .u8 (bK (b.tmod 4))) from ?_) ?_
    · rcases tb with e | e | e | e <;> rw [e] <;> rfl
    repeat (first | refine ndD ?_ | refine ndS ?_ | refine branch_true ?_ | refine branch_false ?_ | refine brT ?_ | refine brF ?_ | refine brD ?_ | refine brE ?_ | refine brU ?_ | refine brV ?_)
    refine callT_E fl1 rfl ?_
    repeat (first | refine ndD ?_ | refine ndS ?_ | refine branch_true ?_ | refine branch_false ?_ | refine brT ?_ | refine brF ?_ | refine brD ?_ | refine brE ?_ | refine brU ?_ | refine brV ?_)
    refine callT_E fr1 rfl ?_
    repeat (first | refine ndD ?_ | refine ndS ?_ | refine branch_true ?_ | refine branch_false ?_ | refine brT ?_ | refine brF ?_ | refine brD ?_ | refine brE ?_ | refine brU ?_ | refine brV ?_)
    refine callT_E y2 rfl ?_
    repeat (first | refine ndD ?_ | refine ndS ?_ | refine branch_true ?_ | refine branch_false ?_ | refine brT ?_ | refine brF ?_ | refine brD ?_ | refine brE ?_ | refine brU ?_ | refine brV ?_)
    refine callT_E wr2 rfl ?_
    repeat (first | refine ndD ?_ | refine ndS ?_ | refine branch_true ?_ | refine branch_false ?_ | refine brT ?_ | refine brF ?_ | refine brD ?_ | refine brE ?_ | refine brU ?_ | refine brV ?_)
    refine callT_E (parse_t cT c0) rfl ?_
    repeat (first | refine ndD ?_ | refine ndS ?_ | refine branch_true ?_ | refine branch_false ?_ | refine brT ?_ | refine brF ?_ | refine brD ?_ | refine brE ?_ | refine brU ?_ | refine brV ?_)
    refine callT_E y3 rfl ?_
    repeat (first | refine ndD ?_ | refine ndS ?_ | refine branch_true ?_ | refine branch_false ?_ | refine brT ?_ | refine brF ?_ | refine brD ?_ | refine brE ?_ | refine brU ?_ | refine brV ?_)
    refine callT_E fl3 rfl ?_
    repeat (first | refine ndD ?_ | refine ndS ?_ | refine branch_true ?_ | refine branch_false ?_ | refine brT ?_ | refine brF ?_ | refine brD ?_ | refine brE ?_ | refine brU ?_ | refine brV ?_)
    refine callT_E works_c rfl ?_
    repeat (first | refine ndD ?_ | refine ndS ?_ | refine branch_true ?_ | refine branch_false ?_ | refine brT ?_ | refine brF ?_ | refine brD ?_ | refine brE ?_ | refine brU ?_ | refine brV ?_)
    show Eqv _ _
    exact .up (.up (.refl _))
  · rw [if_neg h21] at k2
    refine branch_f' (by simp [k2, h21]) ?_
    repeat (first | refine ndD ?_ | refine ndS ?_ | refine branch_true ?_ | refine branch_false ?_ | refine brT ?_ | refine brF ?_ | refine brD ?_ | refine brE ?_ | refine brU ?_ | refine brV ?_)
    refine partW_at rfl (show _ = some (AVal.str (bT (b.tmod 4))) from ?_) ?_
    · rcases tb with e | e | e | e <;> rw [e] <;> rfl
    refine callT_E (parse_t _ hBp) rfl ?_
    repeat (first | refine ndD ?_ | refine ndS ?_ | refine branch_true ?_ | refine branch_false ?_ | refine brT ?_ | refine brF ?_ | refine brD ?_ | refine brE ?_ | refine brU ?_ | refine brV ?_)
    refine callT_E y1 rfl ?_
    repeat (first | refine ndD ?_ | refine ndS ?_ | refine branch_true ?_ | refine branch_false ?_ | refine brT ?_ | refine brF ?_ | refine brD ?_ | refine brE ?_ | refine brU ?_ | refine brV ?_)
    refine partW_at rfl (show _ = some (AVal.int .u8 (bK (b.tmod 4))) from ?_) ?_
    · rcases tb with e | e | e | e <;> rw [e] <;> rfl
    repeat (first | refine ndD ?_ | refine ndS ?_ | refine branch_true ?_ | refine branch_false ?_ | refine brT ?_ | refine brF ?_ | refine brD ?_ | refine brE ?_ | refine brU ?_ | refine brV ?_)
    refine callT_E fl1 rfl ?_
    repeat (first | refine ndD ?_ | refine ndS ?_ | refine branch_true ?_ | refine branch_false ?_ | refine brT ?_ | refine brF ?_ | refine brD ?_ | refine brE ?_ | refine brU ?_ | refine brV ?_)
    refine callT_E fr1 rfl ?_
    repeat (first | refine ndD ?_ | refine ndS ?_ | refine branch_true ?_ | refine branch_false ?_ | refine brT ?_ | refine brF ?_ | refine brD ?_ | refine brE ?_ | refine brU ?_ | refine brV ?_)
    refine callT_E y2 rfl ?_
    repeat (first | refine ndD ?_ | refine ndS ?_ | refine branch_true ?_ | refine branch_false ?_ | refine brT ?_ | refine brF ?_ | refine brD ?_ | refine brE ?_ | refine brU ?_ | refine brV ?_)
    refine callT_E wr2 rfl ?_
    repeat (first | refine ndD ?_ | refine ndS ?_ | refine branch_true ?_ | refine branch_false ?_ | refine brT ?_ | refine brF ?_ | refine brD ?_ | refine brE ?_ | refine brU ?_ | refine brV ?_)
    refine callT_E works_c rfl ?_
    repeat (first | refine ndD ?_ | refine ndS ?_ | refine branch_true ?_ | refine branch_false ?_ | refine brT ?_ | refine brF ?_ | refine brD ?_ | refine brE ?_ | refine brU ?_ | refine brV ?_)
    show Eqv _ _
    exact .up (.up (.refl _))
end Go.Proofs
