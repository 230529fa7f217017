/- Chapter 27, part e: the reference: Apply. -/
import Derived.Test.YtdbdppoecijdhaaC8
set_option linter.unusedVariables false
set_option linter.unusedSimpArgs false
/-! Be. -/
namespace Go.Proofs
open Go.E
set_option maxRecDepth 8000

set_option maxHeartbeats 1000000 in
theorem rapply_no2 {d : Nat → Int} (hm : mayB d = true) {w : Int} (h0 : 0 ≤ w) (h1 : w < 65536) (hr : w / 2048 % 16 = 2) (hf : fitW 1 w = false) : callP Try.prog 17 [dispA d, .int .u16 w] (· = .tuple [dispA (fun _ => 0), .int .i64 5]) := by
  by_cases hl : digN (w / 32 % 32) < 11
  · by_cases hq : digN (w % 32) < 11
    · exfalso
      unfold fitW at hf
      rw [decide_eq_true hl, decide_eq_true hq] at hf
      simp [hasS] at hf
    · skip
      have c1 : callP Try.prog 25 [.int .u8 (w / 32 % 32)] (· = .tuple [.int .u8 (digV (w / 32 % 32)), .int .i64 0]) := by
        have c := rdigit_c (w / 32 % 32)
        rw [digE_of, if_pos hl] at c
        exact c
      have c2 : callP Try.prog 25 [.int .u8 (w % 32)] (· = .tuple [.int .u8 (digV (w % 32)), .int .i64 2]) := by
        have c := rdigit_c (w % 32)
        rw [digE_of, if_neg hq] at c
        exact c
      have c := rmay_c (d := d)
      rw [hm] at c
      have er := rr_of h0 h1
      rw [hr] at er
      have en := rn_of h0 h1
      have ecl := rlc_of (w := w) h0
      have ecr := rrc_of (w := w) h0
      have eon := reon h0
      refine callE_def env (fn := Try.f17) rfl (by decide) rfl ?_
      refine callT_E c rfl ?_
      repeat refine stb ?_
      repeat refine ndD ?_
      conv => whnf
      rw [er, en]
      repeat refine stk ?_
      repeat refine ndD ?_
      repeat refine stk ?_
      refine callT_E ((congrArg (fun c => callP Try.prog 25 [.int .u8 c] (· = _)) ecl).mpr c1) rfl ?_
      repeat refine ndD ?_
      refine callT_E ((congrArg (fun c => callP Try.prog 25 [.int .u8 c] (· = _)) ecr).mpr c2) rfl ?_
      refine callT_E rhalf2 rfl ?_
      repeat refine stk ?_
      show Eqv _ _
      exact .up (.up (.refl _))
  · by_cases hq : digN (w % 32) < 11
    · skip
      have c1 : callP Try.prog 25 [.int .u8 (w / 32 % 32)] (· = .tuple [.int .u8 (digV (w / 32 % 32)), .int .i64 2]) := by
        have c := rdigit_c (w / 32 % 32)
        rw [digE_of, if_neg hl] at c
        exact c
      have c2 : callP Try.prog 25 [.int .u8 (w % 32)] (· = .tuple [.int .u8 (digV (w % 32)), .int .i64 0]) := by
        have c := rdigit_c (w % 32)
        rw [digE_of, if_pos hq] at c
        exact c
      have c := rmay_c (d := d)
      rw [hm] at c
      have er := rr_of h0 h1
      rw [hr] at er
      have en := rn_of h0 h1
      have ecl := rlc_of (w := w) h0
      have ecr := rrc_of (w := w) h0
      have eon := reon h0
      refine callE_def env (fn := Try.f17) rfl (by decide) rfl ?_
      refine callT_E c rfl ?_
      repeat refine stb ?_
      repeat refine ndD ?_
      conv => whnf
      rw [er, en]
      repeat refine stk ?_
      repeat refine ndD ?_
      repeat refine stk ?_
      refine callT_E ((congrArg (fun c => callP Try.prog 25 [.int .u8 c] (· = _)) ecl).mpr c1) rfl ?_
      repeat refine ndD ?_
      refine callT_E ((congrArg (fun c => callP Try.prog 25 [.int .u8 c] (· = _)) ecr).mpr c2) rfl ?_
      refine callT_E rhalf2 rfl ?_
      repeat refine stk ?_
      show Eqv _ _
      exact .up (.up (.refl _))
    · skip
      have c1 : callP Try.prog 25 [.int .u8 (w / 32 % 32)] (· = .tuple [.int .u8 (digV (w / 32 % 32)), .int .i64 2]) := by
        have c := rdigit_c (w / 32 % 32)
        rw [digE_of, if_neg hl] at c
        exact c
      have c2 : callP Try.prog 25 [.int .u8 (w % 32)] (· = .tuple [.int .u8 (digV (w % 32)), .int .i64 2]) := by
        have c := rdigit_c (w % 32)
        rw [digE_of, if_neg hq] at c
        exact c
      have c := rmay_c (d := d)
      rw [hm] at c
      have er := rr_of h0 h1
      rw [hr] at er
      have en := rn_of h0 h1
      have ecl := rlc_of (w := w) h0
      have ecr := rrc_of (w := w) h0
      have eon := reon h0
      refine callE_def env (fn := Try.f17) rfl (by decide) rfl ?_
      refine callT_E c rfl ?_
      repeat refine stb ?_
      repeat refine ndD ?_
      conv => whnf
      rw [er, en]
      repeat refine stk ?_
      repeat refine ndD ?_
      repeat refine stk ?_
      refine callT_E ((congrArg (fun c => callP Try.prog 25 [.int .u8 c] (· = _)) ecl).mpr c1) rfl ?_
      repeat refine ndD ?_
      refine callT_E ((congrArg (fun c => callP Try.prog 25 [.int .u8 c] (· = _)) ecr).mpr c2) rfl ?_
      refine callT_E rhalf2 rfl ?_
      repeat refine stk ?_
      show Eqv _ _
      exact .up (.up (.refl _))
set_option maxHeartbeats 2000000 in
theorem rapply_ok2 {d : Nat → Int} (hm : mayB d = true) {w : Int} (h0 : 0 ≤ w) (h1 : w < 65536) (hr : w / 2048 % 16 = 2) (hf : fitW 1 w = true) : callP Try.prog 17 [dispA d, .int .u16 w] (· = .tuple [dispA (newD d 1 (digV (w / 32 % 32)) (digV (w % 32)) (sgV d (onB w) 1)), .int .i64 0]) := by
  unfold fitW at hf
  simp only [Bool.and_eq_true, decide_eq_true_eq] at hf
  obtain ⟨⟨⟨hl, hq⟩, hns⟩, h7⟩ := hf
  by_cases hon : onB w = true
  · have hs : sgV d (onB w) 1 = 1 := by unfold sgV; rw [hon]; rfl
    have eb : Int.tmod (IntKind.i64.wrap (Int.tdiv (w % 32768) 1024)) 2 = 1 := by have := eonv h0; rw [hon] at this; simpa using this
    have c1 : callP Try.prog 25 [.int .u8 (w / 32 % 32)] (· = .tuple [.int .u8 (digV (w / 32 % 32)), .int .i64 0]) := by
      have c := rdigit_c (w / 32 % 32)
      rw [digE_of, if_pos hl] at c
      exact c
    have c2 : callP Try.prog 25 [.int .u8 (w % 32)] (· = .tuple [.int .u8 (digV (w % 32)), .int .i64 0]) := by
      have c := rdigit_c (w % 32)
      rw [digE_of, if_pos hq] at c
      exact c
    have c := rmay_c (d := d)
    rw [hm] at c
    have er := rr_of h0 h1
    rw [hr] at er
    have en := rn_of h0 h1
    have ecl := rlc_of (w := w) h0
    have ecr := rrc_of (w := w) h0
    have eon := reon h0
    refine callE_def env (fn := Try.f17) rfl (by decide) rfl ?_
    refine callT_E c rfl ?_
    repeat refine stb ?_
    repeat refine ndD ?_
    conv => whnf
    rw [er, en]
    repeat refine stk ?_
    repeat refine ndD ?_
    repeat refine stk ?_
    refine callT_E ((congrArg (fun c => callP Try.prog 25 [.int .u8 c] (· = _)) ecl).mpr c1) rfl ?_
    repeat refine ndD ?_
    refine callT_E ((congrArg (fun c => callP Try.prog 25 [.int .u8 c] (· = _)) ecr).mpr c2) rfl ?_
    refine callT_E rhalf2 rfl ?_
    repeat refine stk ?_
    refine callT_E rput2 rfl ?_
    rw [eb]
    repeat refine stk ?_
    repeat refine ndD ?_
    repeat refine stk ?_
    show Eqv (.tuple [_, _]) (.tuple [dispA (newD d 1 (digV (w / 32 % 32)) (digV (w % 32)) (sgV d (onB w) 1)), _])
    rw [hs]
    exact .up (.up (.refl _))
  · have hon := Bool.eq_false_iff.2 hon
    have eb : Int.tmod (IntKind.i64.wrap (Int.tdiv (w % 32768) 1024)) 2 = 0 := by have := eonv h0; rw [hon] at this; simpa using this
    have c1 : callP Try.prog 25 [.int .u8 (w / 32 % 32)] (· = .tuple [.int .u8 (digV (w / 32 % 32)), .int .i64 0]) := by
      have c := rdigit_c (w / 32 % 32)
      rw [digE_of, if_pos hl] at c
      exact c
    have c2 : callP Try.prog 25 [.int .u8 (w % 32)] (· = .tuple [.int .u8 (digV (w % 32)), .int .i64 0]) := by
      have c := rdigit_c (w % 32)
      rw [digE_of, if_pos hq] at c
      exact c
    have c := rmay_c (d := d)
    rw [hm] at c
    have er := rr_of h0 h1
    rw [hr] at er
    have en := rn_of h0 h1
    have ecl := rlc_of (w := w) h0
    have ecr := rrc_of (w := w) h0
    have eon := reon h0
    refine callE_def env (fn := Try.f17) rfl (by decide) rfl ?_
    refine callT_E c rfl ?_
    repeat refine stb ?_
    repeat refine ndD ?_
    conv => whnf
    rw [er, en]
    repeat refine stk ?_
    repeat refine ndD ?_
    repeat refine stk ?_
    refine callT_E ((congrArg (fun c => callP Try.prog 25 [.int .u8 c] (· = _)) ecl).mpr c1) rfl ?_
    repeat refine ndD ?_
    refine callT_E ((congrArg (fun c => callP Try.prog 25 [.int .u8 c] (· = _)) ecr).mpr c2) rfl ?_
    refine callT_E rhalf2 rfl ?_
    repeat refine stk ?_
    refine callT_E rput2 rfl ?_
    rw [eb]
    repeat refine stk ?_
    repeat refine ndD ?_
    repeat refine stk ?_
    repeat refine ndD ?_
    apply branch_intro <;> intro hb
    · have hb : d 18 = 1 := beq_iff_eq.1 hb
      have hs : sgV d (onB w) 1 = 0 := by unfold sgV; rw [hon]; simp [hb]
      repeat refine ndD ?_
      show Eqv (.tuple [_, _]) (.tuple [dispA (newD d 1 (digV (w / 32 % 32)) (digV (w % 32)) (sgV d (onB w) 1)), _])
      rw [hs]
      exact .up (.up (.refl _))
    · have hb : ¬ d 18 = 1 := beq_eq_false_iff_ne.1 hb
      have hs : sgV d (onB w) 1 = d 18 := by unfold sgV; rw [hon]; simp [hb]
      show Eqv (.tuple [_, _]) (.tuple [dispA (newD d 1 (digV (w / 32 % 32)) (digV (w % 32)) (sgV d (onB w) 1)), _])
      rw [hs]
      exact .up (.up (.refl _))
set_option maxHeartbeats 1000000 in
theorem rapply_no4 {d : Nat → Int} (hm : mayB d = true) {w : Int} (h0 : 0 ≤ w) (h1 : w < 65536) (hr : w / 2048 % 16 = 4) (hf : fitW 3 w = false) : callP Try.prog 17 [dispA d, .int .u16 w] (· = .tuple [dispA (fun _ => 0), .int .i64 5]) := by
  by_cases hl : digN (w / 32 % 32) < 11
  · by_cases hq : digN (w % 32) < 11
    · exfalso
      unfold fitW at hf
      rw [decide_eq_true hl, decide_eq_true hq] at hf
      simp [hasS] at hf
    · skip
      have c1 : callP Try.prog 25 [.int .u8 (w / 32 % 32)] (· = .tuple [.int .u8 (digV (w / 32 % 32)), .int .i64 0]) := by
        have c := rdigit_c (w / 32 % 32)
        rw [digE_of, if_pos hl] at c
        exact c
      have c2 : callP Try.prog 25 [.int .u8 (w % 32)] (· = .tuple [.int .u8 (digV (w % 32)), .int .i64 2]) := by
        have c := rdigit_c (w % 32)
        rw [digE_of, if_neg hq] at c
        exact c
      have c := rmay_c (d := d)
      rw [hm] at c
      have er := rr_of h0 h1
      rw [hr] at er
      have en := rn_of h0 h1
      have ecl := rlc_of (w := w) h0
      have ecr := rrc_of (w := w) h0
      have eon := reon h0
      refine callE_def env (fn := Try.f17) rfl (by decide) rfl ?_
      refine callT_E c rfl ?_
      repeat refine stb ?_
      repeat refine ndD ?_
      conv => whnf
      rw [er, en]
      repeat refine stk ?_
      repeat refine ndD ?_
      repeat refine stk ?_
      refine callT_E ((congrArg (fun c => callP Try.prog 25 [.int .u8 c] (· = _)) ecl).mpr c1) rfl ?_
      repeat refine ndD ?_
      refine callT_E ((congrArg (fun c => callP Try.prog 25 [.int .u8 c] (· = _)) ecr).mpr c2) rfl ?_
      refine callT_E rhalf4 rfl ?_
      repeat refine stk ?_
      show Eqv _ _
      exact .up (.up (.refl _))
  · by_cases hq : digN (w % 32) < 11
    · skip
      have c1 : callP Try.prog 25 [.int .u8 (w / 32 % 32)] (· = .tuple [.int .u8 (digV (w / 32 % 32)), .int .i64 2]) := by
        have c := rdigit_c (w / 32 % 32)
        rw [digE_of, if_neg hl] at c
        exact c
      have c2 : callP Try.prog 25 [.int .u8 (w % 32)] (· = .tuple [.int .u8 (digV (w % 32)), .int .i64 0]) := by
        have c := rdigit_c (w % 32)
        rw [digE_of, if_pos hq] at c
        exact c
      have c := rmay_c (d := d)
      rw [hm] at c
      have er := rr_of h0 h1
      rw [hr] at er
      have en := rn_of h0 h1
      have ecl := rlc_of (w := w) h0
      have ecr := rrc_of (w := w) h0
      have eon := reon h0
      refine callE_def env (fn := Try.f17) rfl (by decide) rfl ?_
      refine callT_E c rfl ?_
      repeat refine stb ?_
      repeat refine ndD ?_
      conv => whnf
      rw [er, en]
      repeat refine stk ?_
      repeat refine ndD ?_
      repeat refine stk ?_
      refine callT_E ((congrArg (fun c => callP Try.prog 25 [.int .u8 c] (· = _)) ecl).mpr c1) rfl ?_
      repeat refine ndD ?_
      refine callT_E ((congrArg (fun c => callP Try.prog 25 [.int .u8 c] (· = _)) ecr).mpr c2) rfl ?_
      refine callT_E rhalf4 rfl ?_
      repeat refine stk ?_
      show Eqv _ _
      exact .up (.up (.refl _))
    · skip
      have c1 : callP Try.prog 25 [.int .u8 (w / 32 % 32)] (· = .tuple [.int .u8 (digV (w / 32 % 32)), .int .i64 2]) := by
        have c := rdigit_c (w / 32 % 32)
        rw [digE_of, if_neg hl] at c
        exact c
      have c2 : callP Try.prog 25 [.int .u8 (w % 32)] (· = .tuple [.int .u8 (digV (w % 32)), .int .i64 2]) := by
        have c := rdigit_c (w % 32)
        rw [digE_of, if_neg hq] at c
        exact c
      have c := rmay_c (d := d)
      rw [hm] at c
      have er := rr_of h0 h1
      rw [hr] at er
      have en := rn_of h0 h1
      have ecl := rlc_of (w := w) h0
      have ecr := rrc_of (w := w) h0
      have eon := reon h0
      refine callE_def env (fn := Try.f17) rfl (by decide) rfl ?_
      refine callT_E c rfl ?_
      repeat refine stb ?_
      repeat refine ndD ?_
      conv => whnf
      rw [er, en]
      repeat refine stk ?_
      repeat refine ndD ?_
      repeat refine stk ?_
      refine callT_E ((congrArg (fun c => callP Try.prog 25 [.int .u8 c] (· = _)) ecl).mpr c1) rfl ?_
      repeat refine ndD ?_
      refine callT_E ((congrArg (fun c => callP Try.prog 25 [.int .u8 c] (· = _)) ecr).mpr c2) rfl ?_
      refine callT_E rhalf4 rfl ?_
      repeat refine stk ?_
      show Eqv _ _
      exact .up (.up (.refl _))
set_option maxHeartbeats 2000000 in
theorem rapply_ok4 {d : Nat → Int} (hm : mayB d = true) {w : Int} (h0 : 0 ≤ w) (h1 : w < 65536) (hr : w / 2048 % 16 = 4) (hf : fitW 3 w = true) : callP Try.prog 17 [dispA d, .int .u16 w] (· = .tuple [dispA (newD d 3 (digV (w / 32 % 32)) (digV (w % 32)) (sgV d (onB w) 3)), .int .i64 0]) := by
  unfold fitW at hf
  simp only [Bool.and_eq_true, decide_eq_true_eq] at hf
  obtain ⟨⟨⟨hl, hq⟩, hns⟩, h7⟩ := hf
  by_cases hon : onB w = true
  · have hs : sgV d (onB w) 3 = 2 := by unfold sgV; rw [hon]; rfl
    have eb : Int.tmod (IntKind.i64.wrap (Int.tdiv (w % 32768) 1024)) 2 = 1 := by have := eonv h0; rw [hon] at this; simpa using this
    have c1 : callP Try.prog 25 [.int .u8 (w / 32 % 32)] (· = .tuple [.int .u8 (digV (w / 32 % 32)), .int .i64 0]) := by
      have c := rdigit_c (w / 32 % 32)
      rw [digE_of, if_pos hl] at c
      exact c
    have c2 : callP Try.prog 25 [.int .u8 (w % 32)] (· = .tuple [.int .u8 (digV (w % 32)), .int .i64 0]) := by
      have c := rdigit_c (w % 32)
      rw [digE_of, if_pos hq] at c
      exact c
    have c := rmay_c (d := d)
    rw [hm] at c
    have er := rr_of h0 h1
    rw [hr] at er
    have en := rn_of h0 h1
    have ecl := rlc_of (w := w) h0
    have ecr := rrc_of (w := w) h0
    have eon := reon h0
    refine callE_def env (fn := Try.f17) rfl (by decide) rfl ?_
    refine callT_E c rfl ?_
    repeat refine stb ?_
    repeat refine ndD ?_
    conv => whnf
    rw [er, en]
    repeat refine stk ?_
    repeat refine ndD ?_
    repeat refine stk ?_
    refine callT_E ((congrArg (fun c => callP Try.prog 25 [.int .u8 c] (· = _)) ecl).mpr c1) rfl ?_
    repeat refine ndD ?_
    refine callT_E ((congrArg (fun c => callP Try.prog 25 [.int .u8 c] (· = _)) ecr).mpr c2) rfl ?_
    refine callT_E rhalf4 rfl ?_
    repeat refine stk ?_
    refine callT_E rput4 rfl ?_
    rw [eb]
    repeat refine stk ?_
    repeat refine ndD ?_
    repeat refine stk ?_
    show Eqv (.tuple [_, _]) (.tuple [dispA (newD d 3 (digV (w / 32 % 32)) (digV (w % 32)) (sgV d (onB w) 3)), _])
    rw [hs]
    exact .up (.up (.refl _))
  · have hon := Bool.eq_false_iff.2 hon
    have eb : Int.tmod (IntKind.i64.wrap (Int.tdiv (w % 32768) 1024)) 2 = 0 := by have := eonv h0; rw [hon] at this; simpa using this
    have c1 : callP Try.prog 25 [.int .u8 (w / 32 % 32)] (· = .tuple [.int .u8 (digV (w / 32 % 32)), .int .i64 0]) := by
      have c := rdigit_c (w / 32 % 32)
      rw [digE_of, if_pos hl] at c
      exact c
    have c2 : callP Try.prog 25 [.int .u8 (w % 32)] (· = .tuple [.int .u8 (digV (w % 32)), .int .i64 0]) := by
      have c := rdigit_c (w % 32)
      rw [digE_of, if_pos hq] at c
      exact c
    have c := rmay_c (d := d)
    rw [hm] at c
    have er := rr_of h0 h1
    rw [hr] at er
    have en := rn_of h0 h1
    have ecl := rlc_of (w := w) h0
    have ecr := rrc_of (w := w) h0
    have eon := reon h0
    refine callE_def env (fn := Try.f17) rfl (by decide) rfl ?_
    refine callT_E c rfl ?_
    repeat refine stb ?_
    repeat refine ndD ?_
    conv => whnf
    rw [er, en]
    repeat refine stk ?_
    repeat refine ndD ?_
    repeat refine stk ?_
    refine callT_E ((congrArg (fun c => callP Try.prog 25 [.int .u8 c] (· = _)) ecl).mpr c1) rfl ?_
    repeat refine ndD ?_
    refine callT_E ((congrArg (fun c => callP Try.prog 25 [.int .u8 c] (· = _)) ecr).mpr c2) rfl ?_
    refine callT_E rhalf4 rfl ?_
    repeat refine stk ?_
    refine callT_E rput4 rfl ?_
    rw [eb]
    repeat refine stk ?_
    repeat refine ndD ?_
    repeat refine stk ?_
    repeat refine ndD ?_
    apply branch_intro <;> intro hb
    · have hb : d 12 = 2 := beq_iff_eq.1 hb
      have hs : sgV d (onB w) 3 = 0 := by unfold sgV; rw [hon]; simp [hb]
      repeat refine ndD ?_
      show Eqv (.tuple [_, _]) (.tuple [dispA (newD d 3 (digV (w / 32 % 32)) (digV (w % 32)) (sgV d (onB w) 3)), _])
      rw [hs]
      exact .up (.up (.refl _))
    · have hb : ¬ d 12 = 2 := beq_eq_false_iff_ne.1 hb
      have hs : sgV d (onB w) 3 = d 12 := by unfold sgV; rw [hon]; simp [hb]
      show Eqv (.tuple [_, _]) (.tuple [dispA (newD d 3 (digV (w / 32 % 32)) (digV (w % 32)) (sgV d (onB w) 3)), _])
      rw [hs]
      exact .up (.up (.refl _))
set_option maxHeartbeats 1000000 in
theorem rapply_no9 {d : Nat → Int} (hm : mayB d = true) {w : Int} (h0 : 0 ≤ w) (h1 : w < 65536) (hr : w / 2048 % 16 = 9) (hf : fitW 8 w = false) : callP Try.prog 17 [dispA d, .int .u16 w] (· = .tuple [dispA (fun _ => 0), .int .i64 5]) := by
  by_cases hl : digN (w / 32 % 32) < 11
  · by_cases hq : digN (w % 32) < 11
    · have hon : onB w = true := by
        unfold fitW at hf
        rw [decide_eq_true hl, decide_eq_true hq] at hf
        simpa [hasS] using hf
      have c1 : callP Try.prog 25 [.int .u8 (w / 32 % 32)] (· = .tuple [.int .u8 (digV (w / 32 % 32)), .int .i64 0]) := by
        have c := rdigit_c (w / 32 % 32)
        rw [digE_of, if_pos hl] at c
        exact c
      have c2 : callP Try.prog 25 [.int .u8 (w % 32)] (· = .tuple [.int .u8 (digV (w % 32)), .int .i64 0]) := by
        have c := rdigit_c (w % 32)
        rw [digE_of, if_pos hq] at c
        exact c
      have c := rmay_c (d := d)
      rw [hm] at c
      have er := rr_of h0 h1
      rw [hr] at er
      have en := rn_of h0 h1
      have ecl := rlc_of (w := w) h0
      have ecr := rrc_of (w := w) h0
      have eon := reon h0
      refine callE_def env (fn := Try.f17) rfl (by decide) rfl ?_
      refine callT_E c rfl ?_
      repeat refine stb ?_
      repeat refine ndD ?_
      conv => whnf
      rw [er, en]
      repeat refine stk ?_
      repeat refine ndD ?_
      repeat refine stk ?_
      refine callT_E ((congrArg (fun c => callP Try.prog 25 [.int .u8 c] (· = _)) ecl).mpr c1) rfl ?_
      repeat refine ndD ?_
      refine callT_E ((congrArg (fun c => callP Try.prog 25 [.int .u8 c] (· = _)) ecr).mpr c2) rfl ?_
      refine callT_E rhalf9 rfl ?_
      repeat refine stk ?_
      refine branch_t' (by rw [eon]; exact hon) ?_
      repeat refine stk ?_
      show Eqv _ _
      exact .up (.up (.refl _))
    · skip
      have c1 : callP Try.prog 25 [.int .u8 (w / 32 % 32)] (· = .tuple [.int .u8 (digV (w / 32 % 32)), .int .i64 0]) := by
        have c := rdigit_c (w / 32 % 32)
        rw [digE_of, if_pos hl] at c
        exact c
      have c2 : callP Try.prog 25 [.int .u8 (w % 32)] (· = .tuple [.int .u8 (digV (w % 32)), .int .i64 2]) := by
        have c := rdigit_c (w % 32)
        rw [digE_of, if_neg hq] at c
        exact c
      have c := rmay_c (d := d)
      rw [hm] at c
      have er := rr_of h0 h1
      rw [hr] at er
      have en := rn_of h0 h1
      have ecl := rlc_of (w := w) h0
      have ecr := rrc_of (w := w) h0
      have eon := reon h0
      refine callE_def env (fn := Try.f17) rfl (by decide) rfl ?_
      refine callT_E c rfl ?_
      repeat refine stb ?_
      repeat refine ndD ?_
      conv => whnf
      rw [er, en]
      repeat refine stk ?_
      repeat refine ndD ?_
      repeat refine stk ?_
      refine callT_E ((congrArg (fun c => callP Try.prog 25 [.int .u8 c] (· = _)) ecl).mpr c1) rfl ?_
      repeat refine ndD ?_
      refine callT_E ((congrArg (fun c => callP Try.prog 25 [.int .u8 c] (· = _)) ecr).mpr c2) rfl ?_
      refine callT_E rhalf9 rfl ?_
      repeat refine stk ?_
      show Eqv _ _
      exact .up (.up (.refl _))
  · by_cases hq : digN (w % 32) < 11
    · skip
      have c1 : callP Try.prog 25 [.int .u8 (w / 32 % 32)] (· = .tuple [.int .u8 (digV (w / 32 % 32)), .int .i64 2]) := by
        have c := rdigit_c (w / 32 % 32)
        rw [digE_of, if_neg hl] at c
        exact c
      have c2 : callP Try.prog 25 [.int .u8 (w % 32)] (· = .tuple [.int .u8 (digV (w % 32)), .int .i64 0]) := by
        have c := rdigit_c (w % 32)
        rw [digE_of, if_pos hq] at c
        exact c
      have c := rmay_c (d := d)
      rw [hm] at c
      have er := rr_of h0 h1
      rw [hr] at er
      have en := rn_of h0 h1
      have ecl := rlc_of (w := w) h0
      have ecr := rrc_of (w := w) h0
      have eon := reon h0
      refine callE_def env (fn := Try.f17) rfl (by decide) rfl ?_
      refine callT_E c rfl ?_
      repeat refine stb ?_
      repeat refine ndD ?_
      conv => whnf
      rw [er, en]
      repeat refine stk ?_
      repeat refine ndD ?_
      repeat refine stk ?_
      refine callT_E ((congrArg (fun c => callP Try.prog 25 [.int .u8 c] (· = _)) ecl).mpr c1) rfl ?_
      repeat refine ndD ?_
      refine callT_E ((congrArg (fun c => callP Try.prog 25 [.int .u8 c] (· = _)) ecr).mpr c2) rfl ?_
      refine callT_E rhalf9 rfl ?_
      repeat refine stk ?_
      show Eqv _ _
      exact .up (.up (.refl _))
    · skip
      have c1 : callP Try.prog 25 [.int .u8 (w / 32 % 32)] (· = .tuple [.int .u8 (digV (w / 32 % 32)), .int .i64 2]) := by
        have c := rdigit_c (w / 32 % 32)
        rw [digE_of, if_neg hl] at c
        exact c
      have c2 : callP Try.prog 25 [.int .u8 (w % 32)] (· = .tuple [.int .u8 (digV (w % 32)), .int .i64 2]) := by
        have c := rdigit_c (w % 32)
        rw [digE_of, if_neg hq] at c
        exact c
      have c := rmay_c (d := d)
      rw [hm] at c
      have er := rr_of h0 h1
      rw [hr] at er
      have en := rn_of h0 h1
      have ecl := rlc_of (w := w) h0
      have ecr := rrc_of (w := w) h0
      have eon := reon h0
      refine callE_def env (fn := Try.f17) rfl (by decide) rfl ?_
      refine callT_E c rfl ?_
      repeat refine stb ?_
      repeat refine ndD ?_
      conv => whnf
      rw [er, en]
      repeat refine stk ?_
      repeat refine ndD ?_
      repeat refine stk ?_
      refine callT_E ((congrArg (fun c => callP Try.prog 25 [.int .u8 c] (· = _)) ecl).mpr c1) rfl ?_
      repeat refine ndD ?_
      refine callT_E ((congrArg (fun c => callP Try.prog 25 [.int .u8 c] (· = _)) ecr).mpr c2) rfl ?_
      refine callT_E rhalf9 rfl ?_
      repeat refine stk ?_
      show Eqv _ _
      exact .up (.up (.refl _))
set_option maxHeartbeats 2000000 in
theorem rapply_ok9 {d : Nat → Int} (hm : mayB d = true) {w : Int} (h0 : 0 ≤ w) (h1 : w < 65536) (hr : w / 2048 % 16 = 9) (hf : fitW 8 w = true) : callP Try.prog 17 [dispA d, .int .u16 w] (· = .tuple [dispA (newD d 8 (digV (w / 32 % 32)) (digV (w % 32)) (sgV d (onB w) 8)), .int .i64 0]) := by
  unfold fitW at hf
  simp only [Bool.and_eq_true, decide_eq_true_eq] at hf
  obtain ⟨⟨⟨hl, hq⟩, hns⟩, h7⟩ := hf
  have hon : onB w = false := by simpa [hasS] using hns
  have eb : Int.tmod (IntKind.i64.wrap (Int.tdiv (w % 32768) 1024)) 2 = 0 := by have := eonv h0; rw [hon] at this; simpa using this
  have c1 : callP Try.prog 25 [.int .u8 (w / 32 % 32)] (· = .tuple [.int .u8 (digV (w / 32 % 32)), .int .i64 0]) := by
    have c := rdigit_c (w / 32 % 32)
    rw [digE_of, if_pos hl] at c
    exact c
  have c2 : callP Try.prog 25 [.int .u8 (w % 32)] (· = .tuple [.int .u8 (digV (w % 32)), .int .i64 0]) := by
    have c := rdigit_c (w % 32)
    rw [digE_of, if_pos hq] at c
    exact c
  have c := rmay_c (d := d)
  rw [hm] at c
  have er := rr_of h0 h1
  rw [hr] at er
  have en := rn_of h0 h1
  have ecl := rlc_of (w := w) h0
  have ecr := rrc_of (w := w) h0
  have eon := reon h0
  refine callE_def env (fn := Try.f17) rfl (by decide) rfl ?_
  refine callT_E c rfl ?_
  repeat refine stb ?_
  repeat refine ndD ?_
  conv => whnf
  rw [er, en]
  repeat refine stk ?_
  repeat refine ndD ?_
  repeat refine stk ?_
  refine callT_E ((congrArg (fun c => callP Try.prog 25 [.int .u8 c] (· = _)) ecl).mpr c1) rfl ?_
  repeat refine ndD ?_
  refine callT_E ((congrArg (fun c => callP Try.prog 25 [.int .u8 c] (· = _)) ecr).mpr c2) rfl ?_
  refine callT_E rhalf9 rfl ?_
  repeat refine stk ?_
  refine branch_f' (by rw [eon]; exact hon) ?_
  repeat refine stk ?_
  refine callT_E rput9 rfl ?_
  repeat refine stk ?_
  show Eqv _ _
  exact .up (.up (.refl _))
set_option maxHeartbeats 1000000 in
theorem rapply_no10 {d : Nat → Int} (hm : mayB d = true) {w : Int} (h0 : 0 ≤ w) (h1 : w < 65536) (hr : w / 2048 % 16 = 10) (hf : fitW 9 w = false) : callP Try.prog 17 [dispA d, .int .u16 w] (· = .tuple [dispA (fun _ => 0), .int .i64 5]) := by
  by_cases hl : digN (w / 32 % 32) < 11
  · by_cases hq : digN (w % 32) < 11
    · have hon : onB w = true := by
        unfold fitW at hf
        rw [decide_eq_true hl, decide_eq_true hq] at hf
        simpa [hasS] using hf
      have c1 : callP Try.prog 25 [.int .u8 (w / 32 % 32)] (· = .tuple [.int .u8 (digV (w / 32 % 32)), .int .i64 0]) := by
        have c := rdigit_c (w / 32 % 32)
        rw [digE_of, if_pos hl] at c
        exact c
      have c2 : callP Try.prog 25 [.int .u8 (w % 32)] (· = .tuple [.int .u8 (digV (w % 32)), .int .i64 0]) := by
        have c := rdigit_c (w % 32)
        rw [digE_of, if_pos hq] at c
        exact c
      have c := rmay_c (d := d)
      rw [hm] at c
      have er := rr_of h0 h1
      rw [hr] at er
      have en := rn_of h0 h1
      have ecl := rlc_of (w := w) h0
      have ecr := rrc_of (w := w) h0
      have eon := reon h0
      refine callE_def env (fn := Try.f17) rfl (by decide) rfl ?_
      refine callT_E c rfl ?_
      repeat refine stb ?_
      repeat refine ndD ?_
      conv => whnf
      rw [er, en]
      repeat refine stk ?_
      repeat refine ndD ?_
      repeat refine stk ?_
      refine callT_E ((congrArg (fun c => callP Try.prog 25 [.int .u8 c] (· = _)) ecl).mpr c1) rfl ?_
      repeat refine ndD ?_
      refine callT_E ((congrArg (fun c => callP Try.prog 25 [.int .u8 c] (· = _)) ecr).mpr c2) rfl ?_
      refine callT_E rhalf10 rfl ?_
      repeat refine stk ?_
      refine branch_t' (by rw [eon]; exact hon) ?_
      repeat refine stk ?_
      show Eqv _ _
      exact .up (.up (.refl _))
    · skip
      have c1 : callP Try.prog 25 [.int .u8 (w / 32 % 32)] (· = .tuple [.int .u8 (digV (w / 32 % 32)), .int .i64 0]) := by
        have c := rdigit_c (w / 32 % 32)
        rw [digE_of, if_pos hl] at c
        exact c
      have c2 : callP Try.prog 25 [.int .u8 (w % 32)] (· = .tuple [.int .u8 (digV (w % 32)), .int .i64 2]) := by
        have c := rdigit_c (w % 32)
        rw [digE_of, if_neg hq] at c
        exact c
      have c := rmay_c (d := d)
      rw [hm] at c
      have er := rr_of h0 h1
      rw [hr] at er
      have en := rn_of h0 h1
      have ecl := rlc_of (w := w) h0
      have ecr := rrc_of (w := w) h0
      have eon := reon h0
      refine callE_def env (fn := Try.f17) rfl (by decide) rfl ?_
      refine callT_E c rfl ?_
      repeat refine stb ?_
      repeat refine ndD ?_
      conv => whnf
      rw [er, en]
      repeat refine stk ?_
      repeat refine ndD ?_
      repeat refine stk ?_
      refine callT_E ((congrArg (fun c => callP Try.prog 25 [.int .u8 c] (· = _)) ecl).mpr c1) rfl ?_
      repeat refine ndD ?_
      refine callT_E ((congrArg (fun c => callP Try.prog 25 [.int .u8 c] (· = _)) ecr).mpr c2) rfl ?_
      refine callT_E rhalf10 rfl ?_
      repeat refine stk ?_
      show Eqv _ _
      exact .up (.up (.refl _))
  · by_cases hq : digN (w % 32) < 11
    · skip
      have c1 : callP Try.prog 25 [.int .u8 (w / 32 % 32)] (· = .tuple [.int .u8 (digV (w / 32 % 32)), .int .i64 2]) := by
        have c := rdigit_c (w / 32 % 32)
        rw [digE_of, if_neg hl] at c
        exact c
      have c2 : callP Try.prog 25 [.int .u8 (w % 32)] (· = .tuple [.int .u8 (digV (w % 32)), .int .i64 0]) := by
        have c := rdigit_c (w % 32)
        rw [digE_of, if_pos hq] at c
        exact c
      have c := rmay_c (d := d)
      rw [hm] at c
      have er := rr_of h0 h1
      rw [hr] at er
      have en := rn_of h0 h1
      have ecl := rlc_of (w := w) h0
      have ecr := rrc_of (w := w) h0
      have eon := reon h0
      refine callE_def env (fn := Try.f17) rfl (by decide) rfl ?_
      refine callT_E c rfl ?_
      repeat refine stb ?_
      repeat refine ndD ?_
      conv => whnf
      rw [er, en]
      repeat refine stk ?_
      repeat refine ndD ?_
      repeat refine stk ?_
      refine callT_E ((congrArg (fun c => callP Try.prog 25 [.int .u8 c] (· = _)) ecl).mpr c1) rfl ?_
      repeat refine ndD ?_
      refine callT_E ((congrArg (fun c => callP Try.prog 25 [.int .u8 c] (· = _)) ecr).mpr c2) rfl ?_
      refine callT_E rhalf10 rfl ?_
      repeat refine stk ?_
      show Eqv _ _
      exact .up (.up (.refl _))
    · skip
      have c1 : callP Try.prog 25 [.int .u8 (w / 32 % 32)] (· = .tuple [.int .u8 (digV (w / 32 % 32)), .int .i64 2]) := by
        have c := rdigit_c (w / 32 % 32)
        rw [digE_of, if_neg hl] at c
        exact c
      have c2 : callP Try.prog 25 [.int .u8 (w % 32)] (· = .tuple [.int .u8 (digV (w % 32)), .int .i64 2]) := by
        have c := rdigit_c (w % 32)
        rw [digE_of, if_neg hq] at c
        exact c
      have c := rmay_c (d := d)
      rw [hm] at c
      have er := rr_of h0 h1
      rw [hr] at er
      have en := rn_of h0 h1
      have ecl := rlc_of (w := w) h0
      have ecr := rrc_of (w := w) h0
      have eon := reon h0
      refine callE_def env (fn := Try.f17) rfl (by decide) rfl ?_
      refine callT_E c rfl ?_
      repeat refine stb ?_
      repeat refine ndD ?_
      conv => whnf
      rw [er, en]
      repeat refine stk ?_
      repeat refine ndD ?_
      repeat refine stk ?_
      refine callT_E ((congrArg (fun c => callP Try.prog 25 [.int .u8 c] (· = _)) ecl).mpr c1) rfl ?_
      repeat refine ndD ?_
      refine callT_E ((congrArg (fun c => callP Try.prog 25 [.int .u8 c] (· = _)) ecr).mpr c2) rfl ?_
      refine callT_E rhalf10 rfl ?_
      repeat refine stk ?_
      show Eqv _ _
      exact .up (.up (.refl _))
set_option maxHeartbeats 2000000 in
theorem rapply_ok10 {d : Nat → Int} (hm : mayB d = true) {w : Int} (h0 : 0 ≤ w) (h1 : w < 65536) (hr : w / 2048 % 16 = 10) (hf : fitW 9 w = true) : callP Try.prog 17 [dispA d, .int .u16 w] (· = .tuple [dispA (newD d 9 (digV (w / 32 % 32)) (digV (w % 32)) (sgV d (onB w) 9)), .int .i64 0]) := by
  unfold fitW at hf
  simp only [Bool.and_eq_true, decide_eq_true_eq] at hf
  obtain ⟨⟨⟨hl, hq⟩, hns⟩, h7⟩ := hf
  have hon : onB w = false := by simpa [hasS] using hns
  have eb : Int.tmod (IntKind.i64.wrap (Int.tdiv (w % 32768) 1024)) 2 = 0 := by have := eonv h0; rw [hon] at this; simpa using this
  have c1 : callP Try.prog 25 [.int .u8 (w / 32 % 32)] (· = .tuple [.int .u8 (digV (w / 32 % 32)), .int .i64 0]) := by
    have c := rdigit_c (w / 32 % 32)
    rw [digE_of, if_pos hl] at c
    exact c
  have c2 : callP Try.prog 25 [.int .u8 (w % 32)] (· = .tuple [.int .u8 (digV (w % 32)), .int .i64 0]) := by
    have c := rdigit_c (w % 32)
    rw [digE_of, if_pos hq] at c
    exact c
  have c := rmay_c (d := d)
  rw [hm] at c
  have er := rr_of h0 h1
  rw [hr] at er
  have en := rn_of h0 h1
  have ecl := rlc_of (w := w) h0
  have ecr := rrc_of (w := w) h0
  have eon := reon h0
  refine callE_def env (fn := Try.f17) rfl (by decide) rfl ?_
  refine callT_E c rfl ?_
  repeat refine stb ?_
  repeat refine ndD ?_
  conv => whnf
  rw [er, en]
  repeat refine stk ?_
  repeat refine ndD ?_
  repeat refine stk ?_
  refine callT_E ((congrArg (fun c => callP Try.prog 25 [.int .u8 c] (· = _)) ecl).mpr c1) rfl ?_
  repeat refine ndD ?_
  refine callT_E ((congrArg (fun c => callP Try.prog 25 [.int .u8 c] (· = _)) ecr).mpr c2) rfl ?_
  refine callT_E rhalf10 rfl ?_
  repeat refine stk ?_
  refine branch_f' (by rw [eon]; exact hon) ?_
  repeat refine stk ?_
  refine callT_E rput10 rfl ?_
  repeat refine stk ?_
  show Eqv _ _
  exact .up (.up (.refl _))
end Go.Proofs
