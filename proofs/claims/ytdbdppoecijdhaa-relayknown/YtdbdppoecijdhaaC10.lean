/- Chapter 27, part f: the reference: Apply. -/
import Derived.Test.YtdbdppoecijdhaaC8
set_option linter.unusedVariables false
set_option linter.unusedSimpArgs false
/-! Bf. -/
namespace Go.Proofs
open Go.E
set_option maxRecDepth 8000

set_option maxHeartbeats 1000000 in
theorem rapply_no5 {d : Nat → Int} (hm : mayB d = true) {w : Int} (h0 : 0 ≤ w) (h1 : w < 65536) (hr : w / 2048 % 16 = 5) (hf : fitW 4 w = false) : callP Try.prog 17 [dispA d, .int .u16 w] (· = .tuple [dispA (fun _ => 0), .int .i64 5]) := by
  by_cases hl : digN (w / 32 % 32) < 11
  · by_cases hq : digN (w % 32) < 11
    · exfalso
      unfold fitW at hf
      rw [decide_eq_true hl, decide_eq_true hq] at hf
      simp [hasS] at hf
    · skip
      have c1 : callP Try.prog 25 [.int .u8 (w / 32 % 32)] (· = .tuple [.int .u8 (digV (w / 32 % 32)), .int .i64 0]) := by
        have c := rdigit_c (w / 32 % 32)
        rw [digE_of, if_pos hl] at c
        exact c
      have c2 : callP Try.prog 25 [.int .u8 (w % 32)] (· = .tuple [.int .u8 (digV (w % 32)), .int .i64 2]) := by
        have c := rdigit_c (w % 32)
        rw [digE_of, if_neg hq] at c
        exact c
      have c := rmay_c (d := d)
      rw [hm] at c
      have er := rr_of h0 h1
      rw [hr] at er
      have en := rn_of h0 h1
      have ecl := rlc_of (w := w) h0
      have ecr := rrc_of (w := w) h0
      have eon := reon h0
      refine callE_def env (fn := Try.f17) rfl (by decide) rfl ?_
      refine callT_E c rfl ?_
      repeat refine stb ?_
      repeat refine ndD ?_
      conv => whnf
      rw [er, en]
      repeat refine stk ?_
      repeat refine ndD ?_
      repeat refine stk ?_
      refine callT_E ((congrArg (fun c => callP Try.prog 25 [.int .u8 c] (· = _)) ecl).mpr c1) rfl ?_
      repeat refine ndD ?_
      refine callT_E ((congrArg (fun c => callP Try.prog 25 [.int .u8 c] (· = _)) ecr).mpr c2) rfl ?_
      refine callT_E rhalf5 rfl ?_
      repeat refine stk ?_
      show Eqv _ _
      exact .up (.up (.refl _))
  · by_cases hq : digN (w % 32) < 11
    · skip
      have c1 : callP Try.prog 25 [.int .u8 (w / 32 % 32)] (· = .tuple [.int .u8 (digV (w / 32 % 32)), .int .i64 2]) := by
        have c := rdigit_c (w / 32 % 32)
        rw [digE_of, if_neg hl] at c
        exact c
      have c2 : callP Try.prog 25 [.int .u8 (w % 32)] (· = .tuple [.int .u8 (digV (w % 32)), .int .i64 0]) := by
        have c := rdigit_c (w % 32)
        rw [digE_of, if_pos hq] at c
        exact c
      have c := rmay_c (d := d)
      rw [hm] at c
      have er := rr_of h0 h1
      rw [hr] at er
      have en := rn_of h0 h1
      have ecl := rlc_of (w := w) h0
      have ecr := rrc_of (w := w) h0
      have eon := reon h0
      refine callE_def env (fn := Try.f17) rfl (by decide) rfl ?_
      refine callT_E c rfl ?_
      repeat refine stb ?_
      repeat refine ndD ?_
      conv => whnf
      rw [er, en]
      repeat refine stk ?_
      repeat refine ndD ?_
      repeat refine stk ?_
      refine callT_E ((congrArg (fun c => callP Try.prog 25 [.int .u8 c] (· = _)) ecl).mpr c1) rfl ?_
      repeat refine ndD ?_
      refine callT_E ((congrArg (fun c => callP Try.prog 25 [.int .u8 c] (· = _)) ecr).mpr c2) rfl ?_
      refine callT_E rhalf5 rfl ?_
      repeat refine stk ?_
      show Eqv _ _
      exact .up (.up (.refl _))
    · skip
      have c1 : callP Try.prog 25 [.int .u8 (w / 32 % 32)] (· = .tuple [.int .u8 (digV (w / 32 % 32)), .int .i64 2]) := by
        have c := rdigit_c (w / 32 % 32)
        rw [digE_of, if_neg hl] at c
        exact c
      have c2 : callP Try.prog 25 [.int .u8 (w % 32)] (· = .tuple [.int .u8 (digV (w % 32)), .int .i64 2]) := by
        have c := rdigit_c (w % 32)
        rw [digE_of, if_neg hq] at c
        exact c
      have c := rmay_c (d := d)
      rw [hm] at c
      have er := rr_of h0 h1
      rw [hr] at er
      have en := rn_of h0 h1
      have ecl := rlc_of (w := w) h0
      have ecr := rrc_of (w := w) h0
      have eon := reon h0
      refine callE_def env (fn := Try.f17) rfl (by decide) rfl ?_
      refine callT_E c rfl ?_
      repeat refine stb ?_
      repeat refine ndD ?_
      conv => whnf
      rw [er, en]
      repeat refine stk ?_
      repeat refine ndD ?_
      repeat refine stk ?_
      refine callT_E ((congrArg (fun c => callP Try.prog 25 [.int .u8 c] (· = _)) ecl).mpr c1) rfl ?_
      repeat refine ndD ?_
      refine callT_E ((congrArg (fun c => callP Try.prog 25 [.int .u8 c] (· = _)) ecr).mpr c2) rfl ?_
      refine callT_E rhalf5 rfl ?_
      repeat refine stk ?_
      show Eqv _ _
      exact .up (.up (.refl _))
set_option maxHeartbeats 2000000 in
theorem rapply_ok5 {d : Nat → Int} (hm : mayB d = true) {w : Int} (h0 : 0 ≤ w) (h1 : w < 65536) (hr : w / 2048 % 16 = 5) (hf : fitW 4 w = true) : callP Try.prog 17 [dispA d, .int .u16 w] (· = .tuple [dispA (newD d 4 (digV (w / 32 % 32)) (digV (w % 32)) (sgV d (onB w) 4)), .int .i64 0]) := by
  unfold fitW at hf
  simp only [Bool.and_eq_true, decide_eq_true_eq] at hf
  obtain ⟨⟨⟨hl, hq⟩, hns⟩, h7⟩ := hf
  by_cases hon : onB w = true
  · have hs : sgV d (onB w) 4 = 1 := by unfold sgV; rw [hon]; rfl
    have eb : Int.tmod (IntKind.i64.wrap (Int.tdiv (w % 32768) 1024)) 2 = 1 := by have := eonv h0; rw [hon] at this; simpa using this
    have c1 : callP Try.prog 25 [.int .u8 (w / 32 % 32)] (· = .tuple [.int .u8 (digV (w / 32 % 32)), .int .i64 0]) := by
      have c := rdigit_c (w / 32 % 32)
      rw [digE_of, if_pos hl] at c
      exact c
    have c2 : callP Try.prog 25 [.int .u8 (w % 32)] (· = .tuple [.int .u8 (digV (w % 32)), .int .i64 0]) := by
      have c := rdigit_c (w % 32)
      rw [digE_of, if_pos hq] at c
      exact c
    have c := rmay_c (d := d)
    rw [hm] at c
    have er := rr_of h0 h1
    rw [hr] at er
    have en := rn_of h0 h1
    have ecl := rlc_of (w := w) h0
    have ecr := rrc_of (w := w) h0
    have eon := reon h0
    refine callE_def env (fn := Try.f17) rfl (by decide) rfl ?_
    refine callT_E c rfl ?_
    repeat refine stb ?_
    repeat refine ndD ?_
    conv => whnf
    rw [er, en]
    repeat refine stk ?_
    repeat refine ndD ?_
    repeat refine stk ?_
    refine callT_E ((congrArg (fun c => callP Try.prog 25 [.int .u8 c] (· = _)) ecl).mpr c1) rfl ?_
    repeat refine ndD ?_
    refine callT_E ((congrArg (fun c => callP Try.prog 25 [.int .u8 c] (· = _)) ecr).mpr c2) rfl ?_
    refine callT_E rhalf5 rfl ?_
    repeat refine stk ?_
    refine callT_E rput5 rfl ?_
    rw [eb]
    repeat refine stk ?_
    repeat refine ndD ?_
    repeat refine stk ?_
    show Eqv (.tuple [_, _]) (.tuple [dispA (newD d 4 (digV (w / 32 % 32)) (digV (w % 32)) (sgV d (onB w) 4)), _])
    rw [hs]
    exact .up (.up (.refl _))
  · have hon := Bool.eq_false_iff.2 hon
    have eb : Int.tmod (IntKind.i64.wrap (Int.tdiv (w % 32768) 1024)) 2 = 0 := by have := eonv h0; rw [hon] at this; simpa using this
    have c1 : callP Try.prog 25 [.int .u8 (w / 32 % 32)] (· = .tuple [.int .u8 (digV (w / 32 % 32)), .int .i64 0]) := by
      have c := rdigit_c (w / 32 % 32)
      rw [digE_of, if_pos hl] at c
      exact c
    have c2 : callP Try.prog 25 [.int .u8 (w % 32)] (· = .tuple [.int .u8 (digV (w % 32)), .int .i64 0]) := by
      have c := rdigit_c (w % 32)
      rw [digE_of, if_pos hq] at c
      exact c
    have c := rmay_c (d := d)
    rw [hm] at c
    have er := rr_of h0 h1
    rw [hr] at er
    have en := rn_of h0 h1
    have ecl := rlc_of (w := w) h0
    have ecr := rrc_of (w := w) h0
    have eon := reon h0
    refine callE_def env (fn := Try.f17) rfl (by decide) rfl ?_
    refine callT_E c rfl ?_
    repeat refine stb ?_
    repeat refine ndD ?_
    conv => whnf
    rw [er, en]
    repeat refine stk ?_
    repeat refine ndD ?_
    repeat refine stk ?_
    refine callT_E ((congrArg (fun c => callP Try.prog 25 [.int .u8 c] (· = _)) ecl).mpr c1) rfl ?_
    repeat refine ndD ?_
    refine callT_E ((congrArg (fun c => callP Try.prog 25 [.int .u8 c] (· = _)) ecr).mpr c2) rfl ?_
    refine callT_E rhalf5 rfl ?_
    repeat refine stk ?_
    refine callT_E rput5 rfl ?_
    rw [eb]
    repeat refine stk ?_
    repeat refine ndD ?_
    repeat refine stk ?_
    repeat refine ndD ?_
    apply branch_intro <;> intro hb
    · have hb : d 12 = 1 := beq_iff_eq.1 hb
      have hs : sgV d (onB w) 4 = 0 := by unfold sgV; rw [hon]; simp [hb]
      repeat refine ndD ?_
      show Eqv (.tuple [_, _]) (.tuple [dispA (newD d 4 (digV (w / 32 % 32)) (digV (w % 32)) (sgV d (onB w) 4)), _])
      rw [hs]
      exact .up (.up (.refl _))
    · have hb : ¬ d 12 = 1 := beq_eq_false_iff_ne.1 hb
      have hs : sgV d (onB w) 4 = d 12 := by unfold sgV; rw [hon]; simp [hb]
      show Eqv (.tuple [_, _]) (.tuple [dispA (newD d 4 (digV (w / 32 % 32)) (digV (w % 32)) (sgV d (onB w) 4)), _])
      rw [hs]
      exact .up (.up (.refl _))
set_option maxHeartbeats 1000000 in
theorem rapply_no6 {d : Nat → Int} (hm : mayB d = true) {w : Int} (h0 : 0 ≤ w) (h1 : w < 65536) (hr : w / 2048 % 16 = 6) (hf : fitW 5 w = false) : callP Try.prog 17 [dispA d, .int .u16 w] (· = .tuple [dispA (fun _ => 0), .int .i64 5]) := by
  by_cases hl : digN (w / 32 % 32) < 11
  · by_cases hq : digN (w % 32) < 11
    · exfalso
      unfold fitW at hf
      rw [decide_eq_true hl, decide_eq_true hq] at hf
      simp [hasS] at hf
    · skip
      have c1 : callP Try.prog 25 [.int .u8 (w / 32 % 32)] (· = .tuple [.int .u8 (digV (w / 32 % 32)), .int .i64 0]) := by
        have c := rdigit_c (w / 32 % 32)
        rw [digE_of, if_pos hl] at c
        exact c
      have c2 : callP Try.prog 25 [.int .u8 (w % 32)] (· = .tuple [.int .u8 (digV (w % 32)), .int .i64 2]) := by
        have c := rdigit_c (w % 32)
        rw [digE_of, if_neg hq] at c
        exact c
      have c := rmay_c (d := d)
      rw [hm] at c
      have er := rr_of h0 h1
      rw [hr] at er
      have en := rn_of h0 h1
      have ecl := rlc_of (w := w) h0
      have ecr := rrc_of (w := w) h0
      have eon := reon h0
      refine callE_def env (fn := Try.f17) rfl (by decide) rfl ?_
      refine callT_E c rfl ?_
      repeat refine stb ?_
      repeat refine ndD ?_
      conv => whnf
      rw [er, en]
      repeat refine stk ?_
      repeat refine ndD ?_
      repeat refine stk ?_
      refine callT_E ((congrArg (fun c => callP Try.prog 25 [.int .u8 c] (· = _)) ecl).mpr c1) rfl ?_
      repeat refine ndD ?_
      refine callT_E ((congrArg (fun c => callP Try.prog 25 [.int .u8 c] (· = _)) ecr).mpr c2) rfl ?_
      refine callT_E rhalf6 rfl ?_
      repeat refine stk ?_
      show Eqv _ _
      exact .up (.up (.refl _))
  · by_cases hq : digN (w % 32) < 11
    · skip
      have c1 : callP Try.prog 25 [.int .u8 (w / 32 % 32)] (· = .tuple [.int .u8 (digV (w / 32 % 32)), .int .i64 2]) := by
        have c := rdigit_c (w / 32 % 32)
        rw [digE_of, if_neg hl] at c
        exact c
      have c2 : callP Try.prog 25 [.int .u8 (w % 32)] (· = .tuple [.int .u8 (digV (w % 32)), .int .i64 0]) := by
        have c := rdigit_c (w % 32)
        rw [digE_of, if_pos hq] at c
        exact c
      have c := rmay_c (d := d)
      rw [hm] at c
      have er := rr_of h0 h1
      rw [hr] at er
      have en := rn_of h0 h1
      have ecl := rlc_of (w := w) h0
      have ecr := rrc_of (w := w) h0
      have eon := reon h0
      refine callE_def env (fn := Try.f17) rfl (by decide) rfl ?_
      refine callT_E c rfl ?_
      repeat refine stb ?_
      repeat refine ndD ?_
      conv => whnf
      rw [er, en]
      repeat refine stk ?_
      repeat refine ndD ?_
      repeat refine stk ?_
      refine callT_E ((congrArg (fun c => callP Try.prog 25 [.int .u8 c] (· = _)) ecl).mpr c1) rfl ?_
      repeat refine ndD ?_
      refine callT_E ((congrArg (fun c => callP Try.prog 25 [.int .u8 c] (· = _)) ecr).mpr c2) rfl ?_
      refine callT_E rhalf6 rfl ?_
      repeat refine stk ?_
      show Eqv _ _
      exact .up (.up (.refl _))
    · skip
      have c1 : callP Try.prog 25 [.int .u8 (w / 32 % 32)] (· = .tuple [.int .u8 (digV (w / 32 % 32)), .int .i64 2]) := by
        have c := rdigit_c (w / 32 % 32)
        rw [digE_of, if_neg hl] at c
        exact c
      have c2 : callP Try.prog 25 [.int .u8 (w % 32)] (· = .tuple [.int .u8 (digV (w % 32)), .int .i64 2]) := by
        have c := rdigit_c (w % 32)
        rw [digE_of, if_neg hq] at c
        exact c
      have c := rmay_c (d := d)
      rw [hm] at c
      have er := rr_of h0 h1
      rw [hr] at er
      have en := rn_of h0 h1
      have ecl := rlc_of (w := w) h0
      have ecr := rrc_of (w := w) h0
      have eon := reon h0
      refine callE_def env (fn := Try.f17) rfl (by decide) rfl ?_
      refine callT_E c rfl ?_
      repeat refine stb ?_
      repeat refine ndD ?_
      conv => whnf
      rw [er, en]
      repeat refine stk ?_
      repeat refine ndD ?_
      repeat refine stk ?_
      refine callT_E ((congrArg (fun c => callP Try.prog 25 [.int .u8 c] (· = _)) ecl).mpr c1) rfl ?_
      repeat refine ndD ?_
      refine callT_E ((congrArg (fun c => callP Try.prog 25 [.int .u8 c] (· = _)) ecr).mpr c2) rfl ?_
      refine callT_E rhalf6 rfl ?_
      repeat refine stk ?_
      show Eqv _ _
      exact .up (.up (.refl _))
set_option maxHeartbeats 2000000 in
theorem rapply_ok6 {d : Nat → Int} (hm : mayB d = true) {w : Int} (h0 : 0 ≤ w) (h1 : w < 65536) (hr : w / 2048 % 16 = 6) (hf : fitW 5 w = true) : callP Try.prog 17 [dispA d, .int .u16 w] (· = .tuple [dispA (newD d 5 (digV (w / 32 % 32)) (digV (w % 32)) (sgV d (onB w) 5)), .int .i64 0]) := by
  unfold fitW at hf
  simp only [Bool.and_eq_true, decide_eq_true_eq] at hf
  obtain ⟨⟨⟨hl, hq⟩, hns⟩, h7⟩ := hf
  by_cases hon : onB w = true
  · have hs : sgV d (onB w) 5 = 2 := by unfold sgV; rw [hon]; rfl
    have eb : Int.tmod (IntKind.i64.wrap (Int.tdiv (w % 32768) 1024)) 2 = 1 := by have := eonv h0; rw [hon] at this; simpa using this
    have c1 : callP Try.prog 25 [.int .u8 (w / 32 % 32)] (· = .tuple [.int .u8 (digV (w / 32 % 32)), .int .i64 0]) := by
      have c := rdigit_c (w / 32 % 32)
      rw [digE_of, if_pos hl] at c
      exact c
    have c2 : callP Try.prog 25 [.int .u8 (w % 32)] (· = .tuple [.int .u8 (digV (w % 32)), .int .i64 0]) := by
      have c := rdigit_c (w % 32)
      rw [digE_of, if_pos hq] at c
      exact c
    have c := rmay_c (d := d)
    rw [hm] at c
    have er := rr_of h0 h1
    rw [hr] at er
    have en := rn_of h0 h1
    have ecl := rlc_of (w := w) h0
    have ecr := rrc_of (w := w) h0
    have eon := reon h0
    refine callE_def env (fn := Try.f17) rfl (by decide) rfl ?_
    refine callT_E c rfl ?_
    repeat refine stb ?_
    repeat refine ndD ?_
    conv => whnf
    rw [er, en]
    repeat refine stk ?_
    repeat refine ndD ?_
    repeat refine stk ?_
    refine callT_E ((congrArg (fun c => callP Try.prog 25 [.int .u8 c] (· = _)) ecl).mpr c1) rfl ?_
    repeat refine ndD ?_
    refine callT_E ((congrArg (fun c => callP Try.prog 25 [.int .u8 c] (· = _)) ecr).mpr c2) rfl ?_
    refine callT_E rhalf6 rfl ?_
    repeat refine stk ?_
    refine callT_E rput6 rfl ?_
    rw [eb]
    repeat refine stk ?_
    repeat refine ndD ?_
    repeat refine stk ?_
    show Eqv (.tuple [_, _]) (.tuple [dispA (newD d 5 (digV (w / 32 % 32)) (digV (w % 32)) (sgV d (onB w) 5)), _])
    rw [hs]
    exact .up (.up (.refl _))
  · have hon := Bool.eq_false_iff.2 hon
    have eb : Int.tmod (IntKind.i64.wrap (Int.tdiv (w % 32768) 1024)) 2 = 0 := by have := eonv h0; rw [hon] at this; simpa using this
    have c1 : callP Try.prog 25 [.int .u8 (w / 32 % 32)] (· = .tuple [.int .u8 (digV (w / 32 % 32)), .int .i64 0]) := by
      have c := rdigit_c (w / 32 % 32)
      rw [digE_of, if_pos hl] at c
      exact c
    have c2 : callP Try.prog 25 [.int .u8 (w % 32)] (· = .tuple [.int .u8 (digV (w % 32)), .int .i64 0]) := by
      have c := rdigit_c (w % 32)
      rw [digE_of, if_pos hq] at c
      exact c
    have c := rmay_c (d := d)
    rw [hm] at c
    have er := rr_of h0 h1
    rw [hr] at er
    have en := rn_of h0 h1
    have ecl := rlc_of (w := w) h0
    have ecr := rrc_of (w := w) h0
    have eon := reon h0
    refine callE_def env (fn := Try.f17) rfl (by decide) rfl ?_
    refine callT_E c rfl ?_
    repeat refine stb ?_
    repeat refine ndD ?_
    conv => whnf
    rw [er, en]
    repeat refine stk ?_
    repeat refine ndD ?_
    repeat refine stk ?_
    refine callT_E ((congrArg (fun c => callP Try.prog 25 [.int .u8 c] (· = _)) ecl).mpr c1) rfl ?_
    repeat refine ndD ?_
    refine callT_E ((congrArg (fun c => callP Try.prog 25 [.int .u8 c] (· = _)) ecr).mpr c2) rfl ?_
    refine callT_E rhalf6 rfl ?_
    repeat refine stk ?_
    refine callT_E rput6 rfl ?_
    rw [eb]
    repeat refine stk ?_
    repeat refine ndD ?_
    repeat refine stk ?_
    repeat refine ndD ?_
    apply branch_intro <;> intro hb
    · have hb : d 6 = 2 := beq_iff_eq.1 hb
      have hs : sgV d (onB w) 5 = 0 := by unfold sgV; rw [hon]; simp [hb]
      repeat refine ndD ?_
      show Eqv (.tuple [_, _]) (.tuple [dispA (newD d 5 (digV (w / 32 % 32)) (digV (w % 32)) (sgV d (onB w) 5)), _])
      rw [hs]
      exact .up (.up (.refl _))
    · have hb : ¬ d 6 = 2 := beq_eq_false_iff_ne.1 hb
      have hs : sgV d (onB w) 5 = d 6 := by unfold sgV; rw [hon]; simp [hb]
      show Eqv (.tuple [_, _]) (.tuple [dispA (newD d 5 (digV (w / 32 % 32)) (digV (w % 32)) (sgV d (onB w) 5)), _])
      rw [hs]
      exact .up (.up (.refl _))
set_option maxHeartbeats 1000000 in
theorem rapply_no11 {d : Nat → Int} (hm : mayB d = true) {w : Int} (h0 : 0 ≤ w) (h1 : w < 65536) (hr : w / 2048 % 16 = 11) (hf : fitW 10 w = false) : callP Try.prog 17 [dispA d, .int .u16 w] (· = .tuple [dispA (fun _ => 0), .int .i64 5]) := by
  by_cases hl : digN (w / 32 % 32) < 11
  · by_cases hq : digN (w % 32) < 11
    · have hon : onB w = true := by
        unfold fitW at hf
        rw [decide_eq_true hl, decide_eq_true hq] at hf
        simpa [hasS] using hf
      have c1 : callP Try.prog 25 [.int .u8 (w / 32 % 32)] (· = .tuple [.int .u8 (digV (w / 32 % 32)), .int .i64 0]) := by
        have c := rdigit_c (w / 32 % 32)
        rw [digE_of, if_pos hl] at c
        exact c
      have c2 : callP Try.prog 25 [.int .u8 (w % 32)] (· = .tuple [.int .u8 (digV (w % 32)), .int .i64 0]) := by
        have c := rdigit_c (w % 32)
        rw [digE_of, if_pos hq] at c
        exact c
      have c := rmay_c (d := d)
      rw [hm] at c
      have er := rr_of h0 h1
      rw [hr] at er
      have en := rn_of h0 h1
      have ecl := rlc_of (w := w) h0
      have ecr := rrc_of (w := w) h0
      have eon := reon h0
      refine callE_def env (fn := Try.f17) rfl (by decide) rfl ?_
      refine callT_E c rfl ?_
      repeat refine stb ?_
      repeat refine ndD ?_
      conv => whnf
      rw [er, en]
      repeat refine stk ?_
      repeat refine ndD ?_
      repeat refine stk ?_
      refine callT_E ((congrArg (fun c => callP Try.prog 25 [.int .u8 c] (· = _)) ecl).mpr c1) rfl ?_
      repeat refine ndD ?_
      refine callT_E ((congrArg (fun c => callP Try.prog 25 [.int .u8 c] (· = _)) ecr).mpr c2) rfl ?_
      refine callT_E rhalf11 rfl ?_
      repeat refine stk ?_
      refine branch_t' (by rw [eon]; exact hon) ?_
      repeat refine stk ?_
      show Eqv _ _
      exact .up (.up (.refl _))
    · skip
      have c1 : callP Try.prog 25 [.int .u8 (w / 32 % 32)] (· = .tuple [.int .u8 (digV (w / 32 % 32)), .int .i64 0]) := by
        have c := rdigit_c (w / 32 % 32)
        rw [digE_of, if_pos hl] at c
        exact c
      have c2 : callP Try.prog 25 [.int .u8 (w % 32)] (· = .tuple [.int .u8 (digV (w % 32)), .int .i64 2]) := by
        have c := rdigit_c (w % 32)
        rw [digE_of, if_neg hq] at c
        exact c
      have c := rmay_c (d := d)
      rw [hm] at c
      have er := rr_of h0 h1
      rw [hr] at er
      have en := rn_of h0 h1
      have ecl := rlc_of (w := w) h0
      have ecr := rrc_of (w := w) h0
      have eon := reon h0
      refine callE_def env (fn := Try.f17) rfl (by decide) rfl ?_
      refine callT_E c rfl ?_
      repeat refine stb ?_
      repeat refine ndD ?_
      conv => whnf
      rw [er, en]
      repeat refine stk ?_
      repeat refine ndD ?_
      repeat refine stk ?_
      refine callT_E ((congrArg (fun c => callP Try.prog 25 [.int .u8 c] (· = _)) ecl).mpr c1) rfl ?_
      repeat refine ndD ?_
      refine callT_E ((congrArg (fun c => callP Try.prog 25 [.int .u8 c] (· = _)) ecr).mpr c2) rfl ?_
      refine callT_E rhalf11 rfl ?_
      repeat refine stk ?_
      show Eqv _ _
      exact .up (.up (.refl _))
  · by_cases hq : digN (w % 32) < 11
    · skip
      have c1 : callP Try.prog 25 [.int .u8 (w / 32 % 32)] (· = .tuple [.int .u8 (digV (w / 32 % 32)), .int .i64 2]) := by
        have c := rdigit_c (w / 32 % 32)
        rw [digE_of, if_neg hl] at c
        exact c
      have c2 : callP Try.prog 25 [.int .u8 (w % 32)] (· = .tuple [.int .u8 (digV (w % 32)), .int .i64 0]) := by
        have c := rdigit_c (w % 32)
        rw [digE_of, if_pos hq] at c
        exact c
      have c := rmay_c (d := d)
      rw [hm] at c
      have er := rr_of h0 h1
      rw [hr] at er
      have en := rn_of h0 h1
      have ecl := rlc_of (w := w) h0
      have ecr := rrc_of (w := w) h0
      have eon := reon h0
      refine callE_def env (fn := Try.f17) rfl (by decide) rfl ?_
      refine callT_E c rfl ?_
      repeat refine stb ?_
      repeat refine ndD ?_
      conv => whnf
      rw [er, en]
      repeat refine stk ?_
      repeat refine ndD ?_
      repeat refine stk ?_
      refine callT_E ((congrArg (fun c => callP Try.prog 25 [.int .u8 c] (· = _)) ecl).mpr c1) rfl ?_
      repeat refine ndD ?_
      refine callT_E ((congrArg (fun c => callP Try.prog 25 [.int .u8 c] (· = _)) ecr).mpr c2) rfl ?_
      refine callT_E rhalf11 rfl ?_
      repeat refine stk ?_
      show Eqv _ _
      exact .up (.up (.refl _))
    · skip
      have c1 : callP Try.prog 25 [.int .u8 (w / 32 % 32)] (· = .tuple [.int .u8 (digV (w / 32 % 32)), .int .i64 2]) := by
        have c := rdigit_c (w / 32 % 32)
        rw [digE_of, if_neg hl] at c
        exact c
      have c2 : callP Try.prog 25 [.int .u8 (w % 32)] (· = .tuple [.int .u8 (digV (w % 32)), .int .i64 2]) := by
        have c := rdigit_c (w % 32)
        rw [digE_of, if_neg hq] at c
        exact c
      have c := rmay_c (d := d)
      rw [hm] at c
      have er := rr_of h0 h1
      rw [hr] at er
      have en := rn_of h0 h1
      have ecl := rlc_of (w := w) h0
      have ecr := rrc_of (w := w) h0
      have eon := reon h0
      refine callE_def env (fn := Try.f17) rfl (by decide) rfl ?_
      refine callT_E c rfl ?_
      repeat refine stb ?_
      repeat refine ndD ?_
      conv => whnf
      rw [er, en]
      repeat refine stk ?_
      repeat refine ndD ?_
      repeat refine stk ?_
      refine callT_E ((congrArg (fun c => callP Try.prog 25 [.int .u8 c] (· = _)) ecl).mpr c1) rfl ?_
      repeat refine ndD ?_
      refine callT_E ((congrArg (fun c => callP Try.prog 25 [.int .u8 c] (· = _)) ecr).mpr c2) rfl ?_
      refine callT_E rhalf11 rfl ?_
      repeat refine stk ?_
      show Eqv _ _
      exact .up (.up (.refl _))
set_option maxHeartbeats 2000000 in
theorem rapply_ok11 {d : Nat → Int} (hm : mayB d = true) {w : Int} (h0 : 0 ≤ w) (h1 : w < 65536) (hr : w / 2048 % 16 = 11) (hf : fitW 10 w = true) : callP Try.prog 17 [dispA d, .int .u16 w] (· = .tuple [dispA (newD d 10 (digV (w / 32 % 32)) (digV (w % 32)) (sgV d (onB w) 10)), .int .i64 0]) := by
  unfold fitW at hf
  simp only [Bool.and_eq_true, decide_eq_true_eq] at hf
  obtain ⟨⟨⟨hl, hq⟩, hns⟩, h7⟩ := hf
  have hon : onB w = false := by simpa [hasS] using hns
  have eb : Int.tmod (IntKind.i64.wrap (Int.tdiv (w % 32768) 1024)) 2 = 0 := by have := eonv h0; rw [hon] at this; simpa using this
  have c1 : callP Try.prog 25 [.int .u8 (w / 32 % 32)] (· = .tuple [.int .u8 (digV (w / 32 % 32)), .int .i64 0]) := by
    have c := rdigit_c (w / 32 % 32)
    rw [digE_of, if_pos hl] at c
    exact c
  have c2 : callP Try.prog 25 [.int .u8 (w % 32)] (· = .tuple [.int .u8 (digV (w % 32)), .int .i64 0]) := by
    have c := rdigit_c (w % 32)
    rw [digE_of, if_pos hq] at c
    exact c
  have c := rmay_c (d := d)
  rw [hm] at c
  have er := rr_of h0 h1
  rw [hr] at er
  have en := rn_of h0 h1
  have ecl := rlc_of (w := w) h0
  have ecr := rrc_of (w := w) h0
  have eon := reon h0
  refine callE_def env (fn := Try.f17) rfl (by decide) rfl ?_
  refine callT_E c rfl ?_
  repeat refine stb ?_
  repeat refine ndD ?_
  conv => whnf
  rw [er, en]
  repeat refine stk ?_
  repeat refine ndD ?_
  repeat refine stk ?_
  refine callT_E ((congrArg (fun c => callP Try.prog 25 [.int .u8 c] (· = _)) ecl).mpr c1) rfl ?_
  repeat refine ndD ?_
  refine callT_E ((congrArg (fun c => callP Try.prog 25 [.int .u8 c] (· = _)) ecr).mpr c2) rfl ?_
  refine callT_E rhalf11 rfl ?_
  repeat refine stk ?_
  refine branch_f' (by rw [eon]; exact hon) ?_
  repeat refine stk ?_
  refine callT_E rput11 rfl ?_
  repeat refine stk ?_
  show Eqv _ _
  exact .up (.up (.refl _))
set_option maxHeartbeats 1000000 in
theorem rapply_no7 {d : Nat → Int} (hm : mayB d = true) {w : Int} (h0 : 0 ≤ w) (h1 : w < 65536) (hr : w / 2048 % 16 = 7) (hf : fitW 6 w = false) : callP Try.prog 17 [dispA d, .int .u16 w] (· = .tuple [dispA (fun _ => 0), .int .i64 5]) := by
  by_cases hl : digN (w / 32 % 32) < 11
  · by_cases hq : digN (w % 32) < 11
    · exfalso
      unfold fitW at hf
      rw [decide_eq_true hl, decide_eq_true hq] at hf
      simp [hasS] at hf
    · skip
      have c1 : callP Try.prog 25 [.int .u8 (w / 32 % 32)] (· = .tuple [.int .u8 (digV (w / 32 % 32)), .int .i64 0]) := by
        have c := rdigit_c (w / 32 % 32)
        rw [digE_of, if_pos hl] at c
        exact c
      have c2 : callP Try.prog 25 [.int .u8 (w % 32)] (· = .tuple [.int .u8 (digV (w % 32)), .int .i64 2]) := by
        have c := rdigit_c (w % 32)
        rw [digE_of, if_neg hq] at c
        exact c
      have c := rmay_c (d := d)
      rw [hm] at c
      have er := rr_of h0 h1
      rw [hr] at er
      have en := rn_of h0 h1
      have ecl := rlc_of (w := w) h0
      have ecr := rrc_of (w := w) h0
      have eon := reon h0
      refine callE_def env (fn := Try.f17) rfl (by decide) rfl ?_
      refine callT_E c rfl ?_
      repeat refine stb ?_
      repeat refine ndD ?_
      conv => whnf
      rw [er, en]
      repeat refine stk ?_
      repeat refine ndD ?_
      repeat refine stk ?_
      refine callT_E ((congrArg (fun c => callP Try.prog 25 [.int .u8 c] (· = _)) ecl).mpr c1) rfl ?_
      repeat refine ndD ?_
      refine callT_E ((congrArg (fun c => callP Try.prog 25 [.int .u8 c] (· = _)) ecr).mpr c2) rfl ?_
      refine callT_E rhalf7 rfl ?_
      repeat refine stk ?_
      show Eqv _ _
      exact .up (.up (.refl _))
  · by_cases hq : digN (w % 32) < 11
    · skip
      have c1 : callP Try.prog 25 [.int .u8 (w / 32 % 32)] (· = .tuple [.int .u8 (digV (w / 32 % 32)), .int .i64 2]) := by
        have c := rdigit_c (w / 32 % 32)
        rw [digE_of, if_neg hl] at c
        exact c
      have c2 : callP Try.prog 25 [.int .u8 (w % 32)] (· = .tuple [.int .u8 (digV (w % 32)), .int .i64 0]) := by
        have c := rdigit_c (w % 32)
        rw [digE_of, if_pos hq] at c
        exact c
      have c := rmay_c (d := d)
      rw [hm] at c
      have er := rr_of h0 h1
      rw [hr] at er
      have en := rn_of h0 h1
      have ecl := rlc_of (w := w) h0
      have ecr := rrc_of (w := w) h0
      have eon := reon h0
      refine callE_def env (fn := Try.f17) rfl (by decide) rfl ?_
      refine callT_E c rfl ?_
      repeat refine stb ?_
      repeat refine ndD ?_
      conv => whnf
      rw [er, en]
      repeat refine stk ?_
      repeat refine ndD ?_
      repeat refine stk ?_
      refine callT_E ((congrArg (fun c => callP Try.prog 25 [.int .u8 c] (· = _)) ecl).mpr c1) rfl ?_
      repeat refine ndD ?_
      refine callT_E ((congrArg (fun c => callP Try.prog 25 [.int .u8 c] (· = _)) ecr).mpr c2) rfl ?_
      refine callT_E rhalf7 rfl ?_
      repeat refine stk ?_
      show Eqv _ _
      exact .up (.up (.refl _))
    · skip
      have c1 : callP Try.prog 25 [.int .u8 (w / 32 % 32)] (· = .tuple [.int .u8 (digV (w / 32 % 32)), .int .i64 2]) := by
        have c := rdigit_c (w / 32 % 32)
        rw [digE_of, if_neg hl] at c
        exact c
      have c2 : callP Try.prog 25 [.int .u8 (w % 32)] (· = .tuple [.int .u8 (digV (w % 32)), .int .i64 2]) := by
        have c := rdigit_c (w % 32)
        rw [digE_of, if_neg hq] at c
        exact c
      have c := rmay_c (d := d)
      rw [hm] at c
      have er := rr_of h0 h1
      rw [hr] at er
      have en := rn_of h0 h1
      have ecl := rlc_of (w := w) h0
      have ecr := rrc_of (w := w) h0
      have eon := reon h0
      refine callE_def env (fn := Try.f17) rfl (by decide) rfl ?_
      refine callT_E c rfl ?_
      repeat refine stb ?_
      repeat refine ndD ?_
      conv => whnf
      rw [er, en]
      repeat refine stk ?_
      repeat refine ndD ?_
      repeat refine stk ?_
      refine callT_E ((congrArg (fun c => callP Try.prog 25 [.int .u8 c] (· = _)) ecl).mpr c1) rfl ?_
      repeat refine ndD ?_
      refine callT_E ((congrArg (fun c => callP Try.prog 25 [.int .u8 c] (· = _)) ecr).mpr c2) rfl ?_
      refine callT_E rhalf7 rfl ?_
      repeat refine stk ?_
      show Eqv _ _
      exact .up (.up (.refl _))
set_option maxHeartbeats 2000000 in
theorem rapply_ok7 {d : Nat → Int} (hm : mayB d = true) {w : Int} (h0 : 0 ≤ w) (h1 : w < 65536) (hr : w / 2048 % 16 = 7) (hf : fitW 6 w = true) : callP Try.prog 17 [dispA d, .int .u16 w] (· = .tuple [dispA (newD d 6 (digV (w / 32 % 32)) (digV (w % 32)) (sgV d (onB w) 6)), .int .i64 0]) := by
  unfold fitW at hf
  simp only [Bool.and_eq_true, decide_eq_true_eq] at hf
  obtain ⟨⟨⟨hl, hq⟩, hns⟩, h7⟩ := hf
  by_cases hon : onB w = true
  · have hs : sgV d (onB w) 6 = 1 := by unfold sgV; rw [hon]; rfl
    have eb : Int.tmod (IntKind.i64.wrap (Int.tdiv (w % 32768) 1024)) 2 = 1 := by have := eonv h0; rw [hon] at this; simpa using this
    have c1 : callP Try.prog 25 [.int .u8 (w / 32 % 32)] (· = .tuple [.int .u8 (digV (w / 32 % 32)), .int .i64 0]) := by
      have c := rdigit_c (w / 32 % 32)
      rw [digE_of, if_pos hl] at c
      exact c
    have c2 : callP Try.prog 25 [.int .u8 (w % 32)] (· = .tuple [.int .u8 (digV (w % 32)), .int .i64 0]) := by
      have c := rdigit_c (w % 32)
      rw [digE_of, if_pos hq] at c
      exact c
    have c := rmay_c (d := d)
    rw [hm] at c
    have er := rr_of h0 h1
    rw [hr] at er
    have en := rn_of h0 h1
    have ecl := rlc_of (w := w) h0
    have ecr := rrc_of (w := w) h0
    have eon := reon h0
    refine callE_def env (fn := Try.f17) rfl (by decide) rfl ?_
    refine callT_E c rfl ?_
    repeat refine stb ?_
    repeat refine ndD ?_
    conv => whnf
    rw [er, en]
    repeat refine stk ?_
    repeat refine ndD ?_
    repeat refine stk ?_
    refine callT_E ((congrArg (fun c => callP Try.prog 25 [.int .u8 c] (· = _)) ecl).mpr c1) rfl ?_
    repeat refine ndD ?_
    refine callT_E ((congrArg (fun c => callP Try.prog 25 [.int .u8 c] (· = _)) ecr).mpr c2) rfl ?_
    refine callT_E rhalf7 rfl ?_
    repeat refine stk ?_
    refine callT_E rput7 rfl ?_
    rw [eb]
    repeat refine stk ?_
    repeat refine ndD ?_
    repeat refine stk ?_
    show Eqv (.tuple [_, _]) (.tuple [dispA (newD d 6 (digV (w / 32 % 32)) (digV (w % 32)) (sgV d (onB w) 6)), _])
    rw [hs]
    exact .up (.up (.refl _))
  · have hon := Bool.eq_false_iff.2 hon
    have eb : Int.tmod (IntKind.i64.wrap (Int.tdiv (w % 32768) 1024)) 2 = 0 := by have := eonv h0; rw [hon] at this; simpa using this
    have c1 : callP Try.prog 25 [.int .u8 (w / 32 % 32)] (· = .tuple [.int .u8 (digV (w / 32 % 32)), .int .i64 0]) := by
      have c := rdigit_c (w / 32 % 32)
      rw [digE_of, if_pos hl] at c
      exact c
    have c2 : callP Try.prog 25 [.int .u8 (w % 32)] (· = .tuple [.int .u8 (digV (w % 32)), .int .i64 0]) := by
      have c := rdigit_c (w % 32)
      rw [digE_of, if_pos hq] at c
      exact c
    have c := rmay_c (d := d)
    rw [hm] at c
    have er := rr_of h0 h1
    rw [hr] at er
    have en := rn_of h0 h1
    have ecl := rlc_of (w := w) h0
    have ecr := rrc_of (w := w) h0
    have eon := reon h0
    refine callE_def env (fn := Try.f17) rfl (by decide) rfl ?_
    refine callT_E c rfl ?_
    repeat refine stb ?_
    repeat refine ndD ?_
    conv => whnf
    rw [er, en]
    repeat refine stk ?_
    repeat refine ndD ?_
    repeat refine stk ?_
    refine callT_E ((congrArg (fun c => callP Try.prog 25 [.int .u8 c] (· = _)) ecl).mpr c1) rfl ?_
    repeat refine ndD ?_
    refine callT_E ((congrArg (fun c => callP Try.prog 25 [.int .u8 c] (· = _)) ecr).mpr c2) rfl ?_
    refine callT_E rhalf7 rfl ?_
    repeat refine stk ?_
    refine callT_E rput7 rfl ?_
    rw [eb]
    repeat refine stk ?_
    repeat refine ndD ?_
    repeat refine stk ?_
    repeat refine ndD ?_
    apply branch_intro <;> intro hb
    · have hb : d 6 = 1 := beq_iff_eq.1 hb
      have hs : sgV d (onB w) 6 = 0 := by unfold sgV; rw [hon]; simp [hb]
      repeat refine ndD ?_
      show Eqv (.tuple [_, _]) (.tuple [dispA (newD d 6 (digV (w / 32 % 32)) (digV (w % 32)) (sgV d (onB w) 6)), _])
      rw [hs]
      exact .up (.up (.refl _))
    · have hb : ¬ d 6 = 1 := beq_eq_false_iff_ne.1 hb
      have hs : sgV d (onB w) 6 = d 6 := by unfold sgV; rw [hon]; simp [hb]
      show Eqv (.tuple [_, _]) (.tuple [dispA (newD d 6 (digV (w / 32 % 32)) (digV (w % 32)) (sgV d (onB w) 6)), _])
      rw [hs]
      exact .up (.up (.refl _))
end Go.Proofs
