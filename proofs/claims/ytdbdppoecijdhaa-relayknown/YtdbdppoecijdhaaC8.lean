/- Chapter 27, part t: the reference: Apply. -/
import Derived.Test.YtdbdppoecijdhaaC7
set_option linter.unusedVariables false
set_option linter.unusedSimpArgs false
/-! Bc. -/
namespace Go.Proofs
open Go.E
set_option maxRecDepth 8000

theorem tm_pos {a b : Int} (h : 0 ≤ a) : Int.tmod a b = a % b := Int.tmod_eq_emod_of_nonneg h
theorem td_pos {a b : Int} (h : 0 ≤ a) : Int.tdiv a b = a / b := Int.tdiv_eq_ediv_of_nonneg h
theorem rn_of {w : Int} (h0 : 0 ≤ w) (h1 : w < 65536) : Int.tmod (IntKind.i64.wrap w) 32768 = w % 32768 := by
  rw [wi (x := w) (by omega) (by omega), tm_pos h0]
theorem rr_of {w : Int} (h0 : 0 ≤ w) (h1 : w < 65536) : IntKind.i64.wrap (Int.tdiv (Int.tmod (IntKind.i64.wrap w) 32768) 2048) = w / 2048 % 16 := by
  rw [rn_of h0 h1, td_pos (by omega), wi (by omega) (by omega)]
  omega
theorem rlc_of {w : Int} (h0 : 0 ≤ w) : IntKind.u8.wrap (Int.tmod (IntKind.i64.wrap (Int.tdiv (w % 32768) 32)) 32) = w / 32 % 32 := by
  rw [td_pos (by omega), wi (x := w % 32768 / 32) (by omega) (by omega), tm_pos (by omega), wu8 (by omega) (by omega)]
  omega
theorem rrc_of {w : Int} (h0 : 0 ≤ w) : IntKind.u8.wrap (Int.tmod (w % 32768) 32) = w % 32 := by
  rw [tm_pos (by omega), wu8 (by omega) (by omega)]
  omega
theorem eonv {w : Int} (h0 : 0 ≤ w) : Int.tmod (IntKind.i64.wrap (Int.tdiv (w % 32768) 1024)) 2 = if onB w = true then 1 else 0 := by
  rw [td_pos (by omega), wi (x := w % 32768 / 1024) (by omega) (by omega), tm_pos (by omega)]
  unfold onB
  by_cases h : w / 1024 % 2 = 1
  · rw [decide_eq_true h, if_pos rfl]; omega
  · rw [decide_eq_false h, if_neg (by decide)]; omega
theorem reon {w : Int} (h0 : 0 ≤ w) : (Int.tmod (IntKind.i64.wrap (Int.tdiv (w % 32768) 1024)) 2 == 1) = onB w := by
  rw [eonv h0]
  cases onB w <;> rfl
theorem rapply_bad {d : Nat → Int} (hm : mayB d = false) (w : Int) : callP Try.prog 17 [dispA d, .int .u16 w] (· = .tuple [dispA (fun _ => 0), .int .i64 2]) := by
  have c := rmay_c (d := d)
  rw [hm] at c
  refine callE_def env (fn := Try.f17) rfl (by decide) rfl ?_
  refine callT_E c rfl ?_
  repeat refine stb ?_
  show Eqv _ _
  exact .up (.up (.refl _))
theorem rapply_r0 {d : Nat → Int} (hm : mayB d = true) {w : Int} (h0 : 0 ≤ w) (h1 : w < 65536) (hr : w / 2048 % 16 = 0) : callP Try.prog 17 [dispA d, .int .u16 w] (· = .tuple [dispA (fun _ => 0), .int .i64 3]) := by
  have c := rmay_c (d := d)
  rw [hm] at c
  have er := rr_of h0 h1
  rw [hr] at er
  have en := rn_of h0 h1
  have ecl := rlc_of (w := w) h0
  have ecr := rrc_of (w := w) h0
  have eon := reon h0
  refine callE_def env (fn := Try.f17) rfl (by decide) rfl ?_
  refine callT_E c rfl ?_
  repeat refine stb ?_
  repeat refine ndD ?_
  conv => whnf
  rw [er, en]
  repeat refine stk ?_
  repeat refine ndD ?_
  repeat refine stk ?_
  show Eqv _ _
  exact .up (.up (.refl _))
theorem rapply_r14 {d : Nat → Int} (hm : mayB d = true) {w : Int} (h0 : 0 ≤ w) (h1 : w < 65536) (hr : w / 2048 % 16 = 14) : callP Try.prog 17 [dispA d, .int .u16 w] (· = .tuple [dispA (fun _ => 0), .int .i64 3]) := by
  have c := rmay_c (d := d)
  rw [hm] at c
  have er := rr_of h0 h1
  rw [hr] at er
  have en := rn_of h0 h1
  have ecl := rlc_of (w := w) h0
  have ecr := rrc_of (w := w) h0
  have eon := reon h0
  refine callE_def env (fn := Try.f17) rfl (by decide) rfl ?_
  refine callT_E c rfl ?_
  repeat refine stb ?_
  repeat refine ndD ?_
  conv => whnf
  rw [er, en]
  repeat refine stk ?_
  repeat refine ndD ?_
  repeat refine stk ?_
  show Eqv _ _
  exact .up (.up (.refl _))
theorem rapply_r15 {d : Nat → Int} (hm : mayB d = true) {w : Int} (h0 : 0 ≤ w) (h1 : w < 65536) (hr : w / 2048 % 16 = 15) : callP Try.prog 17 [dispA d, .int .u16 w] (· = .tuple [dispA (fun _ => 0), .int .i64 3]) := by
  have c := rmay_c (d := d)
  rw [hm] at c
  have er := rr_of h0 h1
  rw [hr] at er
  have en := rn_of h0 h1
  have ecl := rlc_of (w := w) h0
  have ecr := rrc_of (w := w) h0
  have eon := reon h0
  refine callE_def env (fn := Try.f17) rfl (by decide) rfl ?_
  refine callT_E c rfl ?_
  repeat refine stb ?_
  repeat refine ndD ?_
  conv => whnf
  rw [er, en]
  repeat refine stk ?_
  repeat refine ndD ?_
  repeat refine stk ?_
  show Eqv _ _
  exact .up (.up (.refl _))
theorem rapply_r12 {d : Nat → Int} (hm : mayB d = true) {w : Int} (h0 : 0 ≤ w) (h1 : w < 65536) (hr : w / 2048 % 16 = 12) : callP Try.prog 17 [dispA d, .int .u16 w] (· = .tuple [dispA (upd d 24 (w % 2048)), .int .i64 0]) := by
  have ew : IntKind.u16.wrap (Int.tmod (w % 32768) 2048) = w % 2048 := by rw [tm_pos (by omega), wu16 (by omega) (by omega)]; omega
  have c := rmay_c (d := d)
  rw [hm] at c
  have er := rr_of h0 h1
  rw [hr] at er
  have en := rn_of h0 h1
  have ecl := rlc_of (w := w) h0
  have ecr := rrc_of (w := w) h0
  have eon := reon h0
  refine callE_def env (fn := Try.f17) rfl (by decide) rfl ?_
  refine callT_E c rfl ?_
  repeat refine stb ?_
  repeat refine ndD ?_
  conv => whnf
  rw [er, en]
  repeat refine stk ?_
  repeat refine ndD ?_
  repeat refine stk ?_
  show Eqv (.tuple [.agg _, _]) _
  rw [← ew]
  show Eqv _ _
  exact .up (.up (.refl _))
theorem rapply_r13 {d : Nat → Int} (hm : mayB d = true) {w : Int} (h0 : 0 ≤ w) (h1 : w < 65536) (hr : w / 2048 % 16 = 13) : callP Try.prog 17 [dispA d, .int .u16 w] (· = .tuple [dispA (upd d 25 (w % 2048)), .int .i64 0]) := by
  have ew : IntKind.u16.wrap (Int.tmod (w % 32768) 2048) = w % 2048 := by rw [tm_pos (by omega), wu16 (by omega) (by omega)]; omega
  have c := rmay_c (d := d)
  rw [hm] at c
  have er := rr_of h0 h1
  rw [hr] at er
  have en := rn_of h0 h1
  have ecl := rlc_of (w := w) h0
  have ecr := rrc_of (w := w) h0
  have eon := reon h0
  refine callE_def env (fn := Try.f17) rfl (by decide) rfl ?_
  refine callT_E c rfl ?_
  repeat refine stb ?_
  repeat refine ndD ?_
  conv => whnf
  rw [er, en]
  repeat refine stk ?_
  repeat refine ndD ?_
  repeat refine stk ?_
  show Eqv (.tuple [.agg _, _]) _
  rw [← ew]
  show Eqv _ _
  exact .up (.up (.refl _))
end Go.Proofs
/-! Bd. -/
namespace Go.Proofs
open Go.E
set_option maxRecDepth 8000

set_option maxHeartbeats 1000000 in
theorem rapply_no1 {d : Nat → Int} (hm : mayB d = true) {w : Int} (h0 : 0 ≤ w) (h1 : w < 65536) (hr : w / 2048 % 16 = 1) (hf : fitW 0 w = false) : callP Try.prog 17 [dispA d, .int .u16 w] (· = .tuple [dispA (fun _ => 0), .int .i64 5]) := by
  by_cases hl : digN (w / 32 % 32) < 11
  · by_cases hq : digN (w % 32) < 11
    · exfalso
      unfold fitW at hf
      rw [decide_eq_true hl, decide_eq_true hq] at hf
      simp [hasS] at hf
    · skip
      have c1 : callP Try.prog 25 [.int .u8 (w / 32 % 32)] (· = .tuple [.int .u8 (digV (w / 32 % 32)), .int .i64 0]) := by
        have c := rdigit_c (w / 32 % 32)
        rw [digE_of, if_pos hl] at c
        exact c
      have c2 : callP Try.prog 25 [.int .u8 (w % 32)] (· = .tuple [.int .u8 (digV (w % 32)), .int .i64 2]) := by
        have c := rdigit_c (w % 32)
        rw [digE_of, if_neg hq] at c
        exact c
      have c := rmay_c (d := d)
      rw [hm] at c
      have er := rr_of h0 h1
      rw [hr] at er
      have en := rn_of h0 h1
      have ecl := rlc_of (w := w) h0
      have ecr := rrc_of (w := w) h0
      have eon := reon h0
      refine callE_def env (fn := Try.f17) rfl (by decide) rfl ?_
      refine callT_E c rfl ?_
      repeat refine stb ?_
      repeat refine ndD ?_
      conv => whnf
      rw [er, en]
      repeat refine stk ?_
      repeat refine ndD ?_
      repeat refine stk ?_
      refine callT_E ((congrArg (fun c => callP Try.prog 25 [.int .u8 c] (· = _)) ecl).mpr c1) rfl ?_
      repeat refine ndD ?_
      refine callT_E ((congrArg (fun c => callP Try.prog 25 [.int .u8 c] (· = _)) ecr).mpr c2) rfl ?_
      refine callT_E rhalf1 rfl ?_
      repeat refine stk ?_
      show Eqv _ _
      exact .up (.up (.refl _))
  · by_cases hq : digN (w % 32) < 11
    · skip
      have c1 : callP Try.prog 25 [.int .u8 (w / 32 % 32)] (· = .tuple [.int .u8 (digV (w / 32 % 32)), .int .i64 2]) := by
        have c := rdigit_c (w / 32 % 32)
        rw [digE_of, if_neg hl] at c
        exact c
      have c2 : callP Try.prog 25 [.int .u8 (w % 32)] (· = .tuple [.int .u8 (digV (w % 32)), .int .i64 0]) := by
        have c := rdigit_c (w % 32)
        rw [digE_of, if_pos hq] at c
        exact c
      have c := rmay_c (d := d)
      rw [hm] at c
      have er := rr_of h0 h1
      rw [hr] at er
      have en := rn_of h0 h1
      have ecl := rlc_of (w := w) h0
      have ecr := rrc_of (w := w) h0
      have eon := reon h0
      refine callE_def env (fn := Try.f17) rfl (by decide) rfl ?_
      refine callT_E c rfl ?_
      repeat refine stb ?_
      repeat refine ndD ?_
      conv => whnf
      rw [er, en]
      repeat refine stk ?_
      repeat refine ndD ?_
      repeat refine stk ?_
      refine callT_E ((congrArg (fun c => callP Try.prog 25 [.int .u8 c] (· = _)) ecl).mpr c1) rfl ?_
      repeat refine ndD ?_
      refine callT_E ((congrArg (fun c => callP Try.prog 25 [.int .u8 c] (· = _)) ecr).mpr c2) rfl ?_
      refine callT_E rhalf1 rfl ?_
      repeat refine stk ?_
      show Eqv _ _
      exact .up (.up (.refl _))
    · skip
      have c1 : callP Try.prog 25 [.int .u8 (w / 32 % 32)] (· = .tuple [.int .u8 (digV (w / 32 % 32)), .int .i64 2]) := by
        have c := rdigit_c (w / 32 % 32)
        rw [digE_of, if_neg hl] at c
        exact c
      have c2 : callP Try.prog 25 [.int .u8 (w % 32)] (· = .tuple [.int .u8 (digV (w % 32)), .int .i64 2]) := by
        have c := rdigit_c (w % 32)
        rw [digE_of, if_neg hq] at c
        exact c
      have c := rmay_c (d := d)
      rw [hm] at c
      have er := rr_of h0 h1
      rw [hr] at er
      have en := rn_of h0 h1
      have ecl := rlc_of (w := w) h0
      have ecr := rrc_of (w := w) h0
      have eon := reon h0
      refine callE_def env (fn := Try.f17) rfl (by decide) rfl ?_
      refine callT_E c rfl ?_
      repeat refine stb ?_
      repeat refine ndD ?_
      conv => whnf
      rw [er, en]
      repeat refine stk ?_
      repeat refine ndD ?_
      repeat refine stk ?_
      refine callT_E ((congrArg (fun c => callP Try.prog 25 [.int .u8 c] (· = _)) ecl).mpr c1) rfl ?_
      repeat refine ndD ?_
      refine callT_E ((congrArg (fun c => callP Try.prog 25 [.int .u8 c] (· = _)) ecr).mpr c2) rfl ?_
      refine callT_E rhalf1 rfl ?_
      repeat refine stk ?_
      show Eqv _ _
      exact .up (.up (.refl _))
set_option maxHeartbeats 2000000 in
theorem rapply_ok1 {d : Nat → Int} (hm : mayB d = true) {w : Int} (h0 : 0 ≤ w) (h1 : w < 65536) (hr : w / 2048 % 16 = 1) (hf : fitW 0 w = true) : callP Try.prog 17 [dispA d, .int .u16 w] (· = .tuple [dispA (newD d 0 (digV (w / 32 % 32)) (digV (w % 32)) (sgV d (onB w) 0)), .int .i64 0]) := by
  unfold fitW at hf
  simp only [Bool.and_eq_true, decide_eq_true_eq] at hf
  obtain ⟨⟨⟨hl, hq⟩, hns⟩, h7⟩ := hf
  by_cases hon : onB w = true
  · have hs : sgV d (onB w) 0 = 2 := by unfold sgV; rw [hon]; rfl
    have eb : Int.tmod (IntKind.i64.wrap (Int.tdiv (w % 32768) 1024)) 2 = 1 := by have := eonv h0; rw [hon] at this; simpa using this
    have c1 : callP Try.prog 25 [.int .u8 (w / 32 % 32)] (· = .tuple [.int .u8 (digV (w / 32 % 32)), .int .i64 0]) := by
      have c := rdigit_c (w / 32 % 32)
      rw [digE_of, if_pos hl] at c
      exact c
    have c2 : callP Try.prog 25 [.int .u8 (w % 32)] (· = .tuple [.int .u8 (digV (w % 32)), .int .i64 0]) := by
      have c := rdigit_c (w % 32)
      rw [digE_of, if_pos hq] at c
      exact c
    have c := rmay_c (d := d)
    rw [hm] at c
    have er := rr_of h0 h1
    rw [hr] at er
    have en := rn_of h0 h1
    have ecl := rlc_of (w := w) h0
    have ecr := rrc_of (w := w) h0
    have eon := reon h0
    refine callE_def env (fn := Try.f17) rfl (by decide) rfl ?_
    refine callT_E c rfl ?_
    repeat refine stb ?_
    repeat refine ndD ?_
    conv => whnf
    rw [er, en]
    repeat refine stk ?_
    repeat refine ndD ?_
    repeat refine stk ?_
    refine callT_E ((congrArg (fun c => callP Try.prog 25 [.int .u8 c] (· = _)) ecl).mpr c1) rfl ?_
    repeat refine ndD ?_
    refine callT_E ((congrArg (fun c => callP Try.prog 25 [.int .u8 c] (· = _)) ecr).mpr c2) rfl ?_
    refine callT_E rhalf1 rfl ?_
    repeat refine stk ?_
    refine callT_E rput1 rfl ?_
    rw [eb]
    repeat refine stk ?_
    repeat refine ndD ?_
    repeat refine stk ?_
    show Eqv (.tuple [_, _]) (.tuple [dispA (newD d 0 (digV (w / 32 % 32)) (digV (w % 32)) (sgV d (onB w) 0)), _])
    rw [hs]
    exact .up (.up (.refl _))
  · have hon := Bool.eq_false_iff.2 hon
    have eb : Int.tmod (IntKind.i64.wrap (Int.tdiv (w % 32768) 1024)) 2 = 0 := by have := eonv h0; rw [hon] at this; simpa using this
    have c1 : callP Try.prog 25 [.int .u8 (w / 32 % 32)] (· = .tuple [.int .u8 (digV (w / 32 % 32)), .int .i64 0]) := by
      have c := rdigit_c (w / 32 % 32)
      rw [digE_of, if_pos hl] at c
      exact c
    have c2 : callP Try.prog 25 [.int .u8 (w % 32)] (· = .tuple [.int .u8 (digV (w % 32)), .int .i64 0]) := by
      have c := rdigit_c (w % 32)
      rw [digE_of, if_pos hq] at c
      exact c
    have c := rmay_c (d := d)
    rw [hm] at c
    have er := rr_of h0 h1
    rw [hr] at er
    have en := rn_of h0 h1
    have ecl := rlc_of (w := w) h0
    have ecr := rrc_of (w := w) h0
    have eon := reon h0
    refine callE_def env (fn := Try.f17) rfl (by decide) rfl ?_
    refine callT_E c rfl ?_
    repeat refine stb ?_
    repeat refine ndD ?_
    conv => whnf
    rw [er, en]
    repeat refine stk ?_
    repeat refine ndD ?_
    repeat refine stk ?_
    refine callT_E ((congrArg (fun c => callP Try.prog 25 [.int .u8 c] (· = _)) ecl).mpr c1) rfl ?_
    repeat refine ndD ?_
    refine callT_E ((congrArg (fun c => callP Try.prog 25 [.int .u8 c] (· = _)) ecr).mpr c2) rfl ?_
    refine callT_E rhalf1 rfl ?_
    repeat refine stk ?_
    refine callT_E rput1 rfl ?_
    rw [eb]
    repeat refine stk ?_
    repeat refine ndD ?_
    repeat refine stk ?_
    repeat refine ndD ?_
    apply branch_intro <;> intro hb
    · have hb : d 18 = 2 := beq_iff_eq.1 hb
      have hs : sgV d (onB w) 0 = 0 := by unfold sgV; rw [hon]; simp [hb]
      repeat refine ndD ?_
      show Eqv (.tuple [_, _]) (.tuple [dispA (newD d 0 (digV (w / 32 % 32)) (digV (w % 32)) (sgV d (onB w) 0)), _])
      rw [hs]
      exact .up (.up (.refl _))
    · have hb : ¬ d 18 = 2 := beq_eq_false_iff_ne.1 hb
      have hs : sgV d (onB w) 0 = d 18 := by unfold sgV; rw [hon]; simp [hb]
      show Eqv (.tuple [_, _]) (.tuple [dispA (newD d 0 (digV (w / 32 % 32)) (digV (w % 32)) (sgV d (onB w) 0)), _])
      rw [hs]
      exact .up (.up (.refl _))
set_option maxHeartbeats 1000000 in
theorem rapply_no3 {d : Nat → Int} (hm : mayB d = true) {w : Int} (h0 : 0 ≤ w) (h1 : w < 65536) (hr : w / 2048 % 16 = 3) (hf : fitW 2 w = false) : callP Try.prog 17 [dispA d, .int .u16 w] (· = .tuple [dispA (fun _ => 0), .int .i64 5]) := by
  by_cases hl : digN (w / 32 % 32) < 11
  · by_cases hq : digN (w % 32) < 11
    · have hon : onB w = true := by
        unfold fitW at hf
        rw [decide_eq_true hl, decide_eq_true hq] at hf
        simpa [hasS] using hf
      have c1 : callP Try.prog 25 [.int .u8 (w / 32 % 32)] (· = .tuple [.int .u8 (digV (w / 32 % 32)), .int .i64 0]) := by
        have c := rdigit_c (w / 32 % 32)
        rw [digE_of, if_pos hl] at c
        exact c
      have c2 : callP Try.prog 25 [.int .u8 (w % 32)] (· = .tuple [.int .u8 (digV (w % 32)), .int .i64 0]) := by
        have c := rdigit_c (w % 32)
        rw [digE_of, if_pos hq] at c
        exact c
      have c := rmay_c (d := d)
      rw [hm] at c
      have er := rr_of h0 h1
      rw [hr] at er
      have en := rn_of h0 h1
      have ecl := rlc_of (w := w) h0
      have ecr := rrc_of (w := w) h0
      have eon := reon h0
      refine callE_def env (fn := Try.f17) rfl (by decide) rfl ?_
      refine callT_E c rfl ?_
      repeat refine stb ?_
      repeat refine ndD ?_
      conv => whnf
      rw [er, en]
      repeat refine stk ?_
      repeat refine ndD ?_
      repeat refine stk ?_
      refine callT_E ((congrArg (fun c => callP Try.prog 25 [.int .u8 c] (· = _)) ecl).mpr c1) rfl ?_
      repeat refine ndD ?_
      refine callT_E ((congrArg (fun c => callP Try.prog 25 [.int .u8 c] (· = _)) ecr).mpr c2) rfl ?_
      refine callT_E rhalf3 rfl ?_
      repeat refine stk ?_
      refine branch_t' (by rw [eon]; exact hon) ?_
      repeat refine stk ?_
      show Eqv _ _
      exact .up (.up (.refl _))
    · skip
      have c1 : callP Try.prog 25 [.int .u8 (w / 32 % 32)] (· = .tuple [.int .u8 (digV (w / 32 % 32)), .int .i64 0]) := by
        have c := rdigit_c (w / 32 % 32)
        rw [digE_of, if_pos hl] at c
        exact c
      have c2 : callP Try.prog 25 [.int .u8 (w % 32)] (· = .tuple [.int .u8 (digV (w % 32)), .int .i64 2]) := by
        have c := rdigit_c (w % 32)
        rw [digE_of, if_neg hq] at c
        exact c
      have c := rmay_c (d := d)
      rw [hm] at c
      have er := rr_of h0 h1
      rw [hr] at er
      have en := rn_of h0 h1
      have ecl := rlc_of (w := w) h0
      have ecr := rrc_of (w := w) h0
      have eon := reon h0
      refine callE_def env (fn := Try.f17) rfl (by decide) rfl ?_
      refine callT_E c rfl ?_
      repeat refine stb ?_
      repeat refine ndD ?_
      conv => whnf
      rw [er, en]
      repeat refine stk ?_
      repeat refine ndD ?_
      repeat refine stk ?_
      refine callT_E ((congrArg (fun c => callP Try.prog 25 [.int .u8 c] (· = _)) ecl).mpr c1) rfl ?_
      repeat refine ndD ?_
      refine callT_E ((congrArg (fun c => callP Try.prog 25 [.int .u8 c] (· = _)) ecr).mpr c2) rfl ?_
      refine callT_E rhalf3 rfl ?_
      repeat refine stk ?_
      show Eqv _ _
      exact .up (.up (.refl _))
  · by_cases hq : digN (w % 32) < 11
    · skip
      have c1 : callP Try.prog 25 [.int .u8 (w / 32 % 32)] (· = .tuple [.int .u8 (digV (w / 32 % 32)), .int .i64 2]) := by
        have c := rdigit_c (w / 32 % 32)
        rw [digE_of, if_neg hl] at c
        exact c
      have c2 : callP Try.prog 25 [.int .u8 (w % 32)] (· = .tuple [.int .u8 (digV (w % 32)), .int .i64 0]) := by
        have c := rdigit_c (w % 32)
        rw [digE_of, if_pos hq] at c
        exact c
      have c := rmay_c (d := d)
      rw [hm] at c
      have er := rr_of h0 h1
      rw [hr] at er
      have en := rn_of h0 h1
      have ecl := rlc_of (w := w) h0
      have ecr := rrc_of (w := w) h0
      have eon := reon h0
      refine callE_def env (fn := Try.f17) rfl (by decide) rfl ?_
      refine callT_E c rfl ?_
      repeat refine stb ?_
      repeat refine ndD ?_
      conv => whnf
      rw [er, en]
      repeat refine stk ?_
      repeat refine ndD ?_
      repeat refine stk ?_
      refine callT_E ((congrArg (fun c => callP Try.prog 25 [.int .u8 c] (· = _)) ecl).mpr c1) rfl ?_
      repeat refine ndD ?_
      refine callT_E ((congrArg (fun c => callP Try.prog 25 [.int .u8 c] (· = _)) ecr).mpr c2) rfl ?_
      refine callT_E rhalf3 rfl ?_
      repeat refine stk ?_
      show Eqv _ _
      exact .up (.up (.refl _))
    · skip
      have c1 : callP Try.prog 25 [.int .u8 (w / 32 % 32)] (· = .tuple [.int .u8 (digV (w / 32 % 32)), .int .i64 2]) := by
        have c := rdigit_c (w / 32 % 32)
        rw [digE_of, if_neg hl] at c
        exact c
      have c2 : callP Try.prog 25 [.int .u8 (w % 32)] (· = .tuple [.int .u8 (digV (w % 32)), .int .i64 2]) := by
        have c := rdigit_c (w % 32)
        rw [digE_of, if_neg hq] at c
        exact c
      have c := rmay_c (d := d)
      rw [hm] at c
      have er := rr_of h0 h1
      rw [hr] at er
      have en := rn_of h0 h1
      have ecl := rlc_of (w := w) h0
      have ecr := rrc_of (w := w) h0
      have eon := reon h0
      refine callE_def env (fn := Try.f17) rfl (by decide) rfl ?_
      refine callT_E c rfl ?_
      repeat refine stb ?_
      repeat refine ndD ?_
      conv => whnf
      rw [er, en]
      repeat refine stk ?_
      repeat refine ndD ?_
      repeat refine stk ?_
      refine callT_E ((congrArg (fun c => callP Try.prog 25 [.int .u8 c] (· = _)) ecl).mpr c1) rfl ?_
      repeat refine ndD ?_
      refine callT_E ((congrArg (fun c => callP Try.prog 25 [.int .u8 c] (· = _)) ecr).mpr c2) rfl ?_
      refine callT_E rhalf3 rfl ?_
      repeat refine stk ?_
      show Eqv _ _
      exact .up (.up (.refl _))
set_option maxHeartbeats 2000000 in
theorem rapply_ok3 {d : Nat → Int} (hm : mayB d = true) {w : Int} (h0 : 0 ≤ w) (h1 : w < 65536) (hr : w / 2048 % 16 = 3) (hf : fitW 2 w = true) : callP Try.prog 17 [dispA d, .int .u16 w] (· = .tuple [dispA (newD d 2 (digV (w / 32 % 32)) (digV (w % 32)) (sgV d (onB w) 2)), .int .i64 0]) := by
  unfold fitW at hf
  simp only [Bool.and_eq_true, decide_eq_true_eq] at hf
  obtain ⟨⟨⟨hl, hq⟩, hns⟩, h7⟩ := hf
  have hon : onB w = false := by simpa [hasS] using hns
  have eb : Int.tmod (IntKind.i64.wrap (Int.tdiv (w % 32768) 1024)) 2 = 0 := by have := eonv h0; rw [hon] at this; simpa using this
  have c1 : callP Try.prog 25 [.int .u8 (w / 32 % 32)] (· = .tuple [.int .u8 (digV (w / 32 % 32)), .int .i64 0]) := by
    have c := rdigit_c (w / 32 % 32)
    rw [digE_of, if_pos hl] at c
    exact c
  have c2 : callP Try.prog 25 [.int .u8 (w % 32)] (· = .tuple [.int .u8 (digV (w % 32)), .int .i64 0]) := by
    have c := rdigit_c (w % 32)
    rw [digE_of, if_pos hq] at c
    exact c
  have c := rmay_c (d := d)
  rw [hm] at c
  have er := rr_of h0 h1
  rw [hr] at er
  have en := rn_of h0 h1
  have ecl := rlc_of (w := w) h0
  have ecr := rrc_of (w := w) h0
  have eon := reon h0
  refine callE_def env (fn := Try.f17) rfl (by decide) rfl ?_
  refine callT_E c rfl ?_
  repeat refine stb ?_
  repeat refine ndD ?_
  conv => whnf
  rw [er, en]
  repeat refine stk ?_
  repeat refine ndD ?_
  repeat refine stk ?_
  refine callT_E ((congrArg (fun c => callP Try.prog 25 [.int .u8 c] (· = _)) ecl).mpr c1) rfl ?_
  repeat refine ndD ?_
  refine callT_E ((congrArg (fun c => callP Try.prog 25 [.int .u8 c] (· = _)) ecr).mpr c2) rfl ?_
  refine callT_E rhalf3 rfl ?_
  repeat refine stk ?_
  refine branch_f' (by rw [eon]; exact hon) ?_
  repeat refine stk ?_
  refine callT_E rput3 rfl ?_
  repeat refine stk ?_
  show Eqv _ _
  exact .up (.up (.refl _))
set_option maxHeartbeats 1000000 in
theorem rapply_no8 {d : Nat → Int} (hm : mayB d = true) {w : Int} (h0 : 0 ≤ w) (h1 : w < 65536) (hr : w / 2048 % 16 = 8) (hf : fitW 7 w = false) : callP Try.prog 17 [dispA d, .int .u16 w] (· = .tuple [dispA (fun _ => 0), .int .i64 5]) := by
  by_cases hl : digN (w / 32 % 32) < 11
  · by_cases hq : digN (w % 32) < 11
    · by_cases hon : onB w = true
      · skip
        have c1 : callP Try.prog 25 [.int .u8 (w / 32 % 32)] (· = .tuple [.int .u8 (digV (w / 32 % 32)), .int .i64 0]) := by
          have c := rdigit_c (w / 32 % 32)
          rw [digE_of, if_pos hl] at c
          exact c
        have c2 : callP Try.prog 25 [.int .u8 (w % 32)] (· = .tuple [.int .u8 (digV (w % 32)), .int .i64 0]) := by
          have c := rdigit_c (w % 32)
          rw [digE_of, if_pos hq] at c
          exact c
        have c := rmay_c (d := d)
        rw [hm] at c
        have er := rr_of h0 h1
        rw [hr] at er
        have en := rn_of h0 h1
        have ecl := rlc_of (w := w) h0
        have ecr := rrc_of (w := w) h0
        have eon := reon h0
        refine callE_def env (fn := Try.f17) rfl (by decide) rfl ?_
        refine callT_E c rfl ?_
        repeat refine stb ?_
        repeat refine ndD ?_
        conv => whnf
        rw [er, en]
        repeat refine stk ?_
        repeat refine ndD ?_
        repeat refine stk ?_
        refine callT_E ((congrArg (fun c => callP Try.prog 25 [.int .u8 c] (· = _)) ecl).mpr c1) rfl ?_
        repeat refine ndD ?_
        refine callT_E ((congrArg (fun c => callP Try.prog 25 [.int .u8 c] (· = _)) ecr).mpr c2) rfl ?_
        refine callT_E rhalf8 rfl ?_
        repeat refine stk ?_
        refine branch_t' (by rw [eon]; exact hon) ?_
        repeat refine stk ?_
        show Eqv _ _
        exact .up (.up (.refl _))
      · have hon := Bool.eq_false_iff.2 hon
        have h10 : digN (w / 32 % 32) ≠ 10 := by
          unfold fitW at hf
          rw [decide_eq_true hl, decide_eq_true hq, hon] at hf
          simpa [hasS] using hf
        have hv : (digV (w / 32 % 32) != 10) = true := by
          rw [digV_of hl, bne_iff_ne]
          omega
        have c1 : callP Try.prog 25 [.int .u8 (w / 32 % 32)] (· = .tuple [.int .u8 (digV (w / 32 % 32)), .int .i64 0]) := by
          have c := rdigit_c (w / 32 % 32)
          rw [digE_of, if_pos hl] at c
          exact c
        have c2 : callP Try.prog 25 [.int .u8 (w % 32)] (· = .tuple [.int .u8 (digV (w % 32)), .int .i64 0]) := by
          have c := rdigit_c (w % 32)
          rw [digE_of, if_pos hq] at c
          exact c
        have c := rmay_c (d := d)
        rw [hm] at c
        have er := rr_of h0 h1
        rw [hr] at er
        have en := rn_of h0 h1
        have ecl := rlc_of (w := w) h0
        have ecr := rrc_of (w := w) h0
        have eon := reon h0
        refine callE_def env (fn := Try.f17) rfl (by decide) rfl ?_
        refine callT_E c rfl ?_
        repeat refine stb ?_
        repeat refine ndD ?_
        conv => whnf
        rw [er, en]
        repeat refine stk ?_
        repeat refine ndD ?_
        repeat refine stk ?_
        refine callT_E ((congrArg (fun c => callP Try.prog 25 [.int .u8 c] (· = _)) ecl).mpr c1) rfl ?_
        repeat refine ndD ?_
        refine callT_E ((congrArg (fun c => callP Try.prog 25 [.int .u8 c] (· = _)) ecr).mpr c2) rfl ?_
        refine callT_E rhalf8 rfl ?_
        repeat refine stk ?_
        refine branch_f' (by rw [eon]; exact hon) ?_
        repeat refine stk ?_
        refine branch_t' hv ?_
        repeat refine stk ?_
        show Eqv _ _
        exact .up (.up (.refl _))
    · skip
      have c1 : callP Try.prog 25 [.int .u8 (w / 32 % 32)] (· = .tuple [.int .u8 (digV (w / 32 % 32)), .int .i64 0]) := by
        have c := rdigit_c (w / 32 % 32)
        rw [digE_of, if_pos hl] at c
        exact c
      have c2 : callP Try.prog 25 [.int .u8 (w % 32)] (· = .tuple [.int .u8 (digV (w % 32)), .int .i64 2]) := by
        have c := rdigit_c (w % 32)
        rw [digE_of, if_neg hq] at c
        exact c
      have c := rmay_c (d := d)
      rw [hm] at c
      have er := rr_of h0 h1
      rw [hr] at er
      have en := rn_of h0 h1
      have ecl := rlc_of (w := w) h0
      have ecr := rrc_of (w := w) h0
      have eon := reon h0
      refine callE_def env (fn := Try.f17) rfl (by decide) rfl ?_
      refine callT_E c rfl ?_
      repeat refine stb ?_
      repeat refine ndD ?_
      conv => whnf
      rw [er, en]
      repeat refine stk ?_
      repeat refine ndD ?_
      repeat refine stk ?_
      refine callT_E ((congrArg (fun c => callP Try.prog 25 [.int .u8 c] (· = _)) ecl).mpr c1) rfl ?_
      repeat refine ndD ?_
      refine callT_E ((congrArg (fun c => callP Try.prog 25 [.int .u8 c] (· = _)) ecr).mpr c2) rfl ?_
      refine callT_E rhalf8 rfl ?_
      repeat refine stk ?_
      show Eqv _ _
      exact .up (.up (.refl _))
  · by_cases hq : digN (w % 32) < 11
    · skip
      have c1 : callP Try.prog 25 [.int .u8 (w / 32 % 32)] (· = .tuple [.int .u8 (digV (w / 32 % 32)), .int .i64 2]) := by
        have c := rdigit_c (w / 32 % 32)
        rw [digE_of, if_neg hl] at c
        exact c
      have c2 : callP Try.prog 25 [.int .u8 (w % 32)] (· = .tuple [.int .u8 (digV (w % 32)), .int .i64 0]) := by
        have c := rdigit_c (w % 32)
        rw [digE_of, if_pos hq] at c
        exact c
      have c := rmay_c (d := d)
      rw [hm] at c
      have er := rr_of h0 h1
      rw [hr] at er
      have en := rn_of h0 h1
      have ecl := rlc_of (w := w) h0
      have ecr := rrc_of (w := w) h0
      have eon := reon h0
      refine callE_def env (fn := Try.f17) rfl (by decide) rfl ?_
      refine callT_E c rfl ?_
      repeat refine stb ?_
      repeat refine ndD ?_
      conv => whnf
      rw [er, en]
      repeat refine stk ?_
      repeat refine ndD ?_
      repeat refine stk ?_
      refine callT_E ((congrArg (fun c => callP Try.prog 25 [.int .u8 c] (· = _)) ecl).mpr c1) rfl ?_
      repeat refine ndD ?_
      refine callT_E ((congrArg (fun c => callP Try.prog 25 [.int .u8 c] (· = _)) ecr).mpr c2) rfl ?_
      refine callT_E rhalf8 rfl ?_
      repeat refine stk ?_
      show Eqv _ _
      exact .up (.up (.refl _))
    · skip
      have c1 : callP Try.prog 25 [.int .u8 (w / 32 % 32)] (· = .tuple [.int .u8 (digV (w / 32 % 32)), .int .i64 2]) := by
        have c := rdigit_c (w / 32 % 32)
        rw [digE_of, if_neg hl] at c
        exact c
      have c2 : callP Try.prog 25 [.int .u8 (w % 32)] (· = .tuple [.int .u8 (digV (w % 32)), .int .i64 2]) := by
        have c := rdigit_c (w % 32)
        rw [digE_of, if_neg hq] at c
        exact c
      have c := rmay_c (d := d)
      rw [hm] at c
      have er := rr_of h0 h1
      rw [hr] at er
      have en := rn_of h0 h1
      have ecl := rlc_of (w := w) h0
      have ecr := rrc_of (w := w) h0
      have eon := reon h0
      refine callE_def env (fn := Try.f17) rfl (by decide) rfl ?_
      refine callT_E c rfl ?_
      repeat refine stb ?_
      repeat refine ndD ?_
      conv => whnf
      rw [er, en]
      repeat refine stk ?_
      repeat refine ndD ?_
      repeat refine stk ?_
      refine callT_E ((congrArg (fun c => callP Try.prog 25 [.int .u8 c] (· = _)) ecl).mpr c1) rfl ?_
      repeat refine ndD ?_
      refine callT_E ((congrArg (fun c => callP Try.prog 25 [.int .u8 c] (· = _)) ecr).mpr c2) rfl ?_
      refine callT_E rhalf8 rfl ?_
      repeat refine stk ?_
      show Eqv _ _
      exact .up (.up (.refl _))
set_option maxHeartbeats 2000000 in
theorem rapply_ok8 {d : Nat → Int} (hm : mayB d = true) {w : Int} (h0 : 0 ≤ w) (h1 : w < 65536) (hr : w / 2048 % 16 = 8) (hf : fitW 7 w = true) : callP Try.prog 17 [dispA d, .int .u16 w] (· = .tuple [dispA (newD d 7 (digV (w / 32 % 32)) (digV (w % 32)) (sgV d (onB w) 7)), .int .i64 0]) := by
  unfold fitW at hf
  simp only [Bool.and_eq_true, decide_eq_true_eq] at hf
  obtain ⟨⟨⟨hl, hq⟩, hns⟩, h7⟩ := hf
  have hv : (digV (w / 32 % 32) != 10) = false := by
    rw [digV_of hl]
    simp at h7
    rw [h7]
    rfl
  have hon : onB w = false := by simpa [hasS] using hns
  have eb : Int.tmod (IntKind.i64.wrap (Int.tdiv (w % 32768) 1024)) 2 = 0 := by have := eonv h0; rw [hon] at this; simpa using this
  have c1 : callP Try.prog 25 [.int .u8 (w / 32 % 32)] (· = .tuple [.int .u8 (digV (w / 32 % 32)), .int .i64 0]) := by
    have c := rdigit_c (w / 32 % 32)
    rw [digE_of, if_pos hl] at c
    exact c
  have c2 : callP Try.prog 25 [.int .u8 (w % 32)] (· = .tuple [.int .u8 (digV (w % 32)), .int .i64 0]) := by
    have c := rdigit_c (w % 32)
    rw [digE_of, if_pos hq] at c
    exact c
  have c := rmay_c (d := d)
  rw [hm] at c
  have er := rr_of h0 h1
  rw [hr] at er
  have en := rn_of h0 h1
  have ecl := rlc_of (w := w) h0
  have ecr := rrc_of (w := w) h0
  have eon := reon h0
  refine callE_def env (fn := Try.f17) rfl (by decide) rfl ?_
  refine callT_E c rfl ?_
  repeat refine stb ?_
  repeat refine ndD ?_
  conv => whnf
  rw [er, en]
  repeat refine stk ?_
  repeat refine ndD ?_
  repeat refine stk ?_
  refine callT_E ((congrArg (fun c => callP Try.prog 25 [.int .u8 c] (· = _)) ecl).mpr c1) rfl ?_
  repeat refine ndD ?_
  refine callT_E ((congrArg (fun c => callP Try.prog 25 [.int .u8 c] (· = _)) ecr).mpr c2) rfl ?_
  refine callT_E rhalf8 rfl ?_
  repeat refine stk ?_
  refine branch_f' (by rw [eon]; exact hon) ?_
  repeat refine stk ?_
  refine branch_f' hv ?_
  repeat refine stk ?_
  refine callT_E rput8 rfl ?_
  repeat refine stk ?_
  show Eqv _ _
  exact .up (.up (.refl _))
end Go.Proofs
