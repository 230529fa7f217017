/- Chapter 27, part e: Apply, rows. -/
import Derived.Test.YtdbdppoecijdhaaC2
set_option linter.unusedVariables false
set_option linter.unusedSimpArgs false
/-! Ae. -/
namespace Go.Proofs
open Go.E
set_option maxRecDepth 8000

set_option maxHeartbeats 1000000 in
theorem apply_no0 {d : Nat → Int} (hd : WD d) (hm : mayB d = true) {w : Int} (h0 : 0 ≤ w) (h1 : w < 65536) (hr : w / 2048 % 16 = 1) (hf : fitW 0 w = false) : callP Try.prog 10 [dispA d, .int .u16 w] (· = .tuple [dispA (fun _ => 0), .int .i64 5]) := by
  by_cases hl : digN (w / 32 % 32) < 11
  · by_cases hq : digN (w % 32) < 11
    · exfalso
      unfold fitW at hf
      rw [decide_eq_true hl, decide_eq_true hq] at hf
      simp [hasS] at hf
    · skip
      have c1 : callP Try.prog 15 [.int .u8 (w / 32 % 32)] (· = .tuple [.int .u8 (digV (w / 32 % 32)), .int .i64 0]) := by
        have c := digit_c (w / 32 % 32)
        rw [digE_of, if_pos hl] at c
        exact c
      have c2 : callP Try.prog 15 [.int .u8 (w % 32)] (· = .tuple [.int .u8 (digV (w % 32)), .int .i64 2]) := by
        have c := digit_c (w % 32)
        rw [digE_of, if_neg hq] at c
        exact c
      have c := may_c hd
      rw [hm] at c
      have er := er_of h0 h1
      rw [hr] at er
      have el := el_of h0 h1
      have ecl := lc_of (w := w) h0
      have ecr := rc_of (w := w) h0
      have eon := on_of (w := w) h0
      refine callE_def env (fn := Try.f10) rfl (by decide) rfl ?_
      refine callT_E c rfl ?_
      repeat refine stb ?_
      repeat refine ndD ?_
      conv => whnf
      rw [er, el]
      repeat refine stk ?_
      refine callT_part [0, 2] rfl (table_c (d := d) (x := 10)) ?_
      rintro v H' ⟨rfl, rfl⟩ x G hx hG
      obtain rfl : x = tabA 0 2 := hx
      obtain rfl : G = [.cells (dcells d), .cells (dcells fun _ => 0), .cells [.int .u8 10], .cells (tabL 0 2)] := hG
      repeat refine ndD ?_
      refine callT_E ((congrArg (fun c => callP Try.prog 15 [.int .u8 c] (· = _)) ecl).mpr c1) rfl ?_
      refine callT_E ((congrArg (fun c => callP Try.prog 15 [.int .u8 c] (· = _)) ecr).mpr c2) rfl ?_
      repeat refine ndD ?_
      repeat refine stk ?_
      show Eqv _ _
      exact .up (.up (.refl _))
  · by_cases hq : digN (w % 32) < 11
    · skip
      have c1 : callP Try.prog 15 [.int .u8 (w / 32 % 32)] (· = .tuple [.int .u8 (digV (w / 32 % 32)), .int .i64 2]) := by
        have c := digit_c (w / 32 % 32)
        rw [digE_of, if_neg hl] at c
        exact c
      have c2 : callP Try.prog 15 [.int .u8 (w % 32)] (· = .tuple [.int .u8 (digV (w % 32)), .int .i64 0]) := by
        have c := digit_c (w % 32)
        rw [digE_of, if_pos hq] at c
        exact c
      have c := may_c hd
      rw [hm] at c
      have er := er_of h0 h1
      rw [hr] at er
      have el := el_of h0 h1
      have ecl := lc_of (w := w) h0
      have ecr := rc_of (w := w) h0
      have eon := on_of (w := w) h0
      refine callE_def env (fn := Try.f10) rfl (by decide) rfl ?_
      refine callT_E c rfl ?_
      repeat refine stb ?_
      repeat refine ndD ?_
      conv => whnf
      rw [er, el]
      repeat refine stk ?_
      refine callT_part [0, 2] rfl (table_c (d := d) (x := 10)) ?_
      rintro v H' ⟨rfl, rfl⟩ x G hx hG
      obtain rfl : x = tabA 0 2 := hx
      obtain rfl : G = [.cells (dcells d), .cells (dcells fun _ => 0), .cells [.int .u8 10], .cells (tabL 0 2)] := hG
      repeat refine ndD ?_
      refine callT_E ((congrArg (fun c => callP Try.prog 15 [.int .u8 c] (· = _)) ecl).mpr c1) rfl ?_
      refine callT_E ((congrArg (fun c => callP Try.prog 15 [.int .u8 c] (· = _)) ecr).mpr c2) rfl ?_
      repeat refine ndD ?_
      repeat refine stk ?_
      show Eqv _ _
      exact .up (.up (.refl _))
    · skip
      have c1 : callP Try.prog 15 [.int .u8 (w / 32 % 32)] (· = .tuple [.int .u8 (digV (w / 32 % 32)), .int .i64 2]) := by
        have c := digit_c (w / 32 % 32)
        rw [digE_of, if_neg hl] at c
        exact c
      have c2 : callP Try.prog 15 [.int .u8 (w % 32)] (· = .tuple [.int .u8 (digV (w % 32)), .int .i64 2]) := by
        have c := digit_c (w % 32)
        rw [digE_of, if_neg hq] at c
        exact c
      have c := may_c hd
      rw [hm] at c
      have er := er_of h0 h1
      rw [hr] at er
      have el := el_of h0 h1
      have ecl := lc_of (w := w) h0
      have ecr := rc_of (w := w) h0
      have eon := on_of (w := w) h0
      refine callE_def env (fn := Try.f10) rfl (by decide) rfl ?_
      refine callT_E c rfl ?_
      repeat refine stb ?_
      repeat refine ndD ?_
      conv => whnf
      rw [er, el]
      repeat refine stk ?_
      refine callT_part [0, 2] rfl (table_c (d := d) (x := 10)) ?_
      rintro v H' ⟨rfl, rfl⟩ x G hx hG
      obtain rfl : x = tabA 0 2 := hx
      obtain rfl : G = [.cells (dcells d), .cells (dcells fun _ => 0), .cells [.int .u8 10], .cells (tabL 0 2)] := hG
      repeat refine ndD ?_
      refine callT_E ((congrArg (fun c => callP Try.prog 15 [.int .u8 c] (· = _)) ecl).mpr c1) rfl ?_
      refine callT_E ((congrArg (fun c => callP Try.prog 15 [.int .u8 c] (· = _)) ecr).mpr c2) rfl ?_
      repeat refine ndD ?_
      repeat refine stk ?_
      show Eqv _ _
      exact .up (.up (.refl _))
set_option maxHeartbeats 2000000 in
theorem apply_ok0 {d : Nat → Int} (hd : WD d) (hm : mayB d = true) {w : Int} (h0 : 0 ≤ w) (h1 : w < 65536) (hr : w / 2048 % 16 = 1) (hf : fitW 0 w = true) : callP Try.prog 10 [dispA d, .int .u16 w] (· = .tuple [dispA (newD d 0 (digV (w / 32 % 32)) (digV (w % 32)) (sgV d (onB w) 0)), .int .i64 0]) := by
  unfold fitW at hf
  simp only [Bool.and_eq_true, decide_eq_true_eq] at hf
  obtain ⟨⟨⟨hl, hq⟩, hns⟩, h7⟩ := hf
  by_cases hon : onB w = true
  · skip
    have c1 : callP Try.prog 15 [.int .u8 (w / 32 % 32)] (· = .tuple [.int .u8 (digV (w / 32 % 32)), .int .i64 0]) := by
      have c := digit_c (w / 32 % 32)
      rw [digE_of, if_pos hl] at c
      exact c
    have c2 : callP Try.prog 15 [.int .u8 (w % 32)] (· = .tuple [.int .u8 (digV (w % 32)), .int .i64 0]) := by
      have c := digit_c (w % 32)
      rw [digE_of, if_pos hq] at c
      exact c
    have c := may_c hd
    rw [hm] at c
    have er := er_of h0 h1
    rw [hr] at er
    have el := el_of h0 h1
    have ecl := lc_of (w := w) h0
    have ecr := rc_of (w := w) h0
    have eon := on_of (w := w) h0
    refine callE_def env (fn := Try.f10) rfl (by decide) rfl ?_
    refine callT_E c rfl ?_
    repeat refine stb ?_
    repeat refine ndD ?_
    conv => whnf
    rw [er, el]
    repeat refine stk ?_
    refine callT_part [0, 2] rfl (table_c (d := d) (x := 10)) ?_
    rintro v H' ⟨rfl, rfl⟩ x G hx hG
    obtain rfl : x = tabA 0 2 := hx
    obtain rfl : G = [.cells (dcells d), .cells (dcells fun _ => 0), .cells [.int .u8 10], .cells (tabL 0 2)] := hG
    repeat refine ndD ?_
    refine callT_E ((congrArg (fun c => callP Try.prog 15 [.int .u8 c] (· = _)) ecl).mpr c1) rfl ?_
    refine callT_E ((congrArg (fun c => callP Try.prog 15 [.int .u8 c] (· = _)) ecr).mpr c2) rfl ?_
    repeat refine ndD ?_
    repeat refine stk ?_
    refine branch_t' (by rw [eon]; exact hon) ?_
    repeat refine stk ?_
    refine draw_tree (picks [0, 1, 2, 4, 5, 6] (.fork 3 7 (picks [7, 8, 9] .done) (picks [3, 8, 9] .done))) (by decide +kernel) ?_
    refine ⟨?_, ?_⟩
    · skip
      repeat refine stk ?_
      refine branch_t' (by rw [eon]; exact hon) ?_
      have hs : sgV d (onB w) 0 = 2 := by unfold sgV; rw [hon]; rfl
      show Eqv (.tuple [_, _]) (.tuple [dispA (newD d 0 (digV (w / 32 % 32)) (digV (w % 32)) (sgV d (onB w) 0)), _])
      rw [hs]
      exact .up (.up (.refl _))
    · skip
      repeat refine stk ?_
      refine branch_t' (by rw [eon]; exact hon) ?_
      have hs : sgV d (onB w) 0 = 2 := by unfold sgV; rw [hon]; rfl
      show Eqv (.tuple [_, _]) (.tuple [dispA (newD d 0 (digV (w / 32 % 32)) (digV (w % 32)) (sgV d (onB w) 0)), _])
      rw [hs]
      exact .up (.up (.refl _))
  · have hon := Bool.eq_false_iff.2 hon
    have c1 : callP Try.prog 15 [.int .u8 (w / 32 % 32)] (· = .tuple [.int .u8 (digV (w / 32 % 32)), .int .i64 0]) := by
      have c := digit_c (w / 32 % 32)
      rw [digE_of, if_pos hl] at c
      exact c
    have c2 : callP Try.prog 15 [.int .u8 (w % 32)] (· = .tuple [.int .u8 (digV (w % 32)), .int .i64 0]) := by
      have c := digit_c (w % 32)
      rw [digE_of, if_pos hq] at c
      exact c
    have c := may_c hd
    rw [hm] at c
    have er := er_of h0 h1
    rw [hr] at er
    have el := el_of h0 h1
    have ecl := lc_of (w := w) h0
    have ecr := rc_of (w := w) h0
    have eon := on_of (w := w) h0
    refine callE_def env (fn := Try.f10) rfl (by decide) rfl ?_
    refine callT_E c rfl ?_
    repeat refine stb ?_
    repeat refine ndD ?_
    conv => whnf
    rw [er, el]
    repeat refine stk ?_
    refine callT_part [0, 2] rfl (table_c (d := d) (x := 10)) ?_
    rintro v H' ⟨rfl, rfl⟩ x G hx hG
    obtain rfl : x = tabA 0 2 := hx
    obtain rfl : G = [.cells (dcells d), .cells (dcells fun _ => 0), .cells [.int .u8 10], .cells (tabL 0 2)] := hG
    repeat refine ndD ?_
    refine callT_E ((congrArg (fun c => callP Try.prog 15 [.int .u8 c] (· = _)) ecl).mpr c1) rfl ?_
    refine callT_E ((congrArg (fun c => callP Try.prog 15 [.int .u8 c] (· = _)) ecr).mpr c2) rfl ?_
    repeat refine ndD ?_
    repeat refine stk ?_
    refine branch_f' (by rw [eon]; exact hon) ?_
    repeat refine stk ?_
    refine draw_tree (picks [0, 1, 2, 4, 5, 6] (.fork 3 7 (picks [7, 8, 9] .done) (picks [3, 8, 9] .done))) (by decide +kernel) ?_
    refine ⟨?_, ?_⟩
    · skip
      repeat refine stk ?_
      refine branch_f' (by rw [eon]; exact hon) ?_
      refine draw_tree (picks [0, 1, 2, 3, 4, 5, 6, 7, 8, 9, 10, 11, 12] .done) (by decide +kernel) ?_
      repeat refine stb ?_
      apply branch_intro <;> intro hb
      · have hb : d 18 = 2 := by simpa using hb
        have hs : sgV d (onB w) 0 = 0 := by unfold sgV; rw [hon]; simp [hb]
        show Eqv (.tuple [_, _]) (.tuple [dispA (newD d 0 (digV (w / 32 % 32)) (digV (w % 32)) (sgV d (onB w) 0)), _])
        rw [hs]
        exact .up (.up (.refl _))
      · have hb : ¬ d 18 = 2 := by simpa using hb
        have hs : sgV d (onB w) 0 = d 18 := by unfold sgV; rw [hon]; simp [hb]
        show Eqv (.tuple [_, _]) (.tuple [dispA (newD d 0 (digV (w / 32 % 32)) (digV (w % 32)) (sgV d (onB w) 0)), _])
        rw [hs]
        exact .up (.up (.refl _))
    · skip
      repeat refine stk ?_
      refine branch_f' (by rw [eon]; exact hon) ?_
      refine draw_tree (picks [0, 1, 2, 3, 4, 5, 6, 7, 8, 9, 10, 11, 12] .done) (by decide +kernel) ?_
      repeat refine stb ?_
      apply branch_intro <;> intro hb
      · have hb : d 18 = 2 := by simpa using hb
        have hs : sgV d (onB w) 0 = 0 := by unfold sgV; rw [hon]; simp [hb]
        show Eqv (.tuple [_, _]) (.tuple [dispA (newD d 0 (digV (w / 32 % 32)) (digV (w % 32)) (sgV d (onB w) 0)), _])
        rw [hs]
        exact .up (.up (.refl _))
      · have hb : ¬ d 18 = 2 := by simpa using hb
        have hs : sgV d (onB w) 0 = d 18 := by unfold sgV; rw [hon]; simp [hb]
        show Eqv (.tuple [_, _]) (.tuple [dispA (newD d 0 (digV (w / 32 % 32)) (digV (w % 32)) (sgV d (onB w) 0)), _])
        rw [hs]
        exact .up (.up (.refl _))
set_option maxHeartbeats 1000000 in
theorem apply_no1 {d : Nat → Int} (hd : WD d) (hm : mayB d = true) {w : Int} (h0 : 0 ≤ w) (h1 : w < 65536) (hr : w / 2048 % 16 = 2) (hf : fitW 1 w = false) : callP Try.prog 10 [dispA d, .int .u16 w] (· = .tuple [dispA (fun _ => 0), .int .i64 5]) := by
  by_cases hl : digN (w / 32 % 32) < 11
  · by_cases hq : digN (w % 32) < 11
    · exfalso
      unfold fitW at hf
      rw [decide_eq_true hl, decide_eq_true hq] at hf
      simp [hasS] at hf
    · skip
      have c1 : callP Try.prog 15 [.int .u8 (w / 32 % 32)] (· = .tuple [.int .u8 (digV (w / 32 % 32)), .int .i64 0]) := by
        have c := digit_c (w / 32 % 32)
        rw [digE_of, if_pos hl] at c
        exact c
      have c2 : callP Try.prog 15 [.int .u8 (w % 32)] (· = .tuple [.int .u8 (digV (w % 32)), .int .i64 2]) := by
        have c := digit_c (w % 32)
        rw [digE_of, if_neg hq] at c
        exact c
      have c := may_c hd
      rw [hm] at c
      have er := er_of h0 h1
      rw [hr] at er
      have el := el_of h0 h1
      have ecl := lc_of (w := w) h0
      have ecr := rc_of (w := w) h0
      have eon := on_of (w := w) h0
      refine callE_def env (fn := Try.f10) rfl (by decide) rfl ?_
      refine callT_E c rfl ?_
      repeat refine stb ?_
      repeat refine ndD ?_
      conv => whnf
      rw [er, el]
      repeat refine stk ?_
      refine callT_part [0, 2] rfl (table_c (d := d) (x := 10)) ?_
      rintro v H' ⟨rfl, rfl⟩ x G hx hG
      obtain rfl : x = tabA 0 2 := hx
      obtain rfl : G = [.cells (dcells d), .cells (dcells fun _ => 0), .cells [.int .u8 10], .cells (tabL 0 2)] := hG
      repeat refine ndD ?_
      refine callT_E ((congrArg (fun c => callP Try.prog 15 [.int .u8 c] (· = _)) ecl).mpr c1) rfl ?_
      refine callT_E ((congrArg (fun c => callP Try.prog 15 [.int .u8 c] (· = _)) ecr).mpr c2) rfl ?_
      repeat refine ndD ?_
      repeat refine stk ?_
      show Eqv _ _
      exact .up (.up (.refl _))
  · by_cases hq : digN (w % 32) < 11
    · skip
      have c1 : callP Try.prog 15 [.int .u8 (w / 32 % 32)] (· = .tuple [.int .u8 (digV (w / 32 % 32)), .int .i64 2]) := by
        have c := digit_c (w / 32 % 32)
        rw [digE_of, if_neg hl] at c
        exact c
      have c2 : callP Try.prog 15 [.int .u8 (w % 32)] (· = .tuple [.int .u8 (digV (w % 32)), .int .i64 0]) := by
        have c := digit_c (w % 32)
        rw [digE_of, if_pos hq] at c
        exact c
      have c := may_c hd
      rw [hm] at c
      have er := er_of h0 h1
      rw [hr] at er
      have el := el_of h0 h1
      have ecl := lc_of (w := w) h0
      have ecr := rc_of (w := w) h0
      have eon := on_of (w := w) h0
      refine callE_def env (fn := Try.f10) rfl (by decide) rfl ?_
      refine callT_E c rfl ?_
      repeat refine stb ?_
      repeat refine ndD ?_
      conv => whnf
      rw [er, el]
      repeat refine stk ?_
      refine callT_part [0, 2] rfl (table_c (d := d) (x := 10)) ?_
      rintro v H' ⟨rfl, rfl⟩ x G hx hG
      obtain rfl : x = tabA 0 2 := hx
      obtain rfl : G = [.cells (dcells d), .cells (dcells fun _ => 0), .cells [.int .u8 10], .cells (tabL 0 2)] := hG
      repeat refine ndD ?_
      refine callT_E ((congrArg (fun c => callP Try.prog 15 [.int .u8 c] (· = _)) ecl).mpr c1) rfl ?_
      refine callT_E ((congrArg (fun c => callP Try.prog 15 [.int .u8 c] (· = _)) ecr).mpr c2) rfl ?_
      repeat refine ndD ?_
      repeat refine stk ?_
      show Eqv _ _
      exact .up (.up (.refl _))
    · skip
      have c1 : callP Try.prog 15 [.int .u8 (w / 32 % 32)] (· = .tuple [.int .u8 (digV (w / 32 % 32)), .int .i64 2]) := by
        have c := digit_c (w / 32 % 32)
        rw [digE_of, if_neg hl] at c
        exact c
      have c2 : callP Try.prog 15 [.int .u8 (w % 32)] (· = .tuple [.int .u8 (digV (w % 32)), .int .i64 2]) := by
        have c := digit_c (w % 32)
        rw [digE_of, if_neg hq] at c
        exact c
      have c := may_c hd
      rw [hm] at c
      have er := er_of h0 h1
      rw [hr] at er
      have el := el_of h0 h1
      have ecl := lc_of (w := w) h0
      have ecr := rc_of (w := w) h0
      have eon := on_of (w := w) h0
      refine callE_def env (fn := Try.f10) rfl (by decide) rfl ?_
      refine callT_E c rfl ?_
      repeat refine stb ?_
      repeat refine ndD ?_
      conv => whnf
      rw [er, el]
      repeat refine stk ?_
      refine callT_part [0, 2] rfl (table_c (d := d) (x := 10)) ?_
      rintro v H' ⟨rfl, rfl⟩ x G hx hG
      obtain rfl : x = tabA 0 2 := hx
      obtain rfl : G = [.cells (dcells d), .cells (dcells fun _ => 0), .cells [.int .u8 10], .cells (tabL 0 2)] := hG
      repeat refine ndD ?_
      refine callT_E ((congrArg (fun c => callP Try.prog 15 [.int .u8 c] (· = _)) ecl).mpr c1) rfl ?_
      refine callT_E ((congrArg (fun c => callP Try.prog 15 [.int .u8 c] (· = _)) ecr).mpr c2) rfl ?_
      repeat refine ndD ?_
      repeat refine stk ?_
      show Eqv _ _
      exact .up (.up (.refl _))
set_option maxHeartbeats 2000000 in
theorem apply_ok1 {d : Nat → Int} (hd : WD d) (hm : mayB d = true) {w : Int} (h0 : 0 ≤ w) (h1 : w < 65536) (hr : w / 2048 % 16 = 2) (hf : fitW 1 w = true) : callP Try.prog 10 [dispA d, .int .u16 w] (· = .tuple [dispA (newD d 1 (digV (w / 32 % 32)) (digV (w % 32)) (sgV d (onB w) 1)), .int .i64 0]) := by
  unfold fitW at hf
  simp only [Bool.and_eq_true, decide_eq_true_eq] at hf
  obtain ⟨⟨⟨hl, hq⟩, hns⟩, h7⟩ := hf
  by_cases hon : onB w = true
  · skip
    have c1 : callP Try.prog 15 [.int .u8 (w / 32 % 32)] (· = .tuple [.int .u8 (digV (w / 32 % 32)), .int .i64 0]) := by
      have c := digit_c (w / 32 % 32)
      rw [digE_of, if_pos hl] at c
      exact c
    have c2 : callP Try.prog 15 [.int .u8 (w % 32)] (· = .tuple [.int .u8 (digV (w % 32)), .int .i64 0]) := by
      have c := digit_c (w % 32)
      rw [digE_of, if_pos hq] at c
      exact c
    have c := may_c hd
    rw [hm] at c
    have er := er_of h0 h1
    rw [hr] at er
    have el := el_of h0 h1
    have ecl := lc_of (w := w) h0
    have ecr := rc_of (w := w) h0
    have eon := on_of (w := w) h0
    refine callE_def env (fn := Try.f10) rfl (by decide) rfl ?_
    refine callT_E c rfl ?_
    repeat refine stb ?_
    repeat refine ndD ?_
    conv => whnf
    rw [er, el]
    repeat refine stk ?_
    refine callT_part [0, 2] rfl (table_c (d := d) (x := 10)) ?_
    rintro v H' ⟨rfl, rfl⟩ x G hx hG
    obtain rfl : x = tabA 0 2 := hx
    obtain rfl : G = [.cells (dcells d), .cells (dcells fun _ => 0), .cells [.int .u8 10], .cells (tabL 0 2)] := hG
    repeat refine ndD ?_
    refine callT_E ((congrArg (fun c => callP Try.prog 15 [.int .u8 c] (· = _)) ecl).mpr c1) rfl ?_
    refine callT_E ((congrArg (fun c => callP Try.prog 15 [.int .u8 c] (· = _)) ecr).mpr c2) rfl ?_
    repeat refine ndD ?_
    repeat refine stk ?_
    refine branch_t' (by rw [eon]; exact hon) ?_
    repeat refine stk ?_
    refine draw_tree (picks [0, 1, 2, 4, 5, 6] (.fork 3 7 (picks [7, 8, 9] .done) (picks [3, 8, 9] .done))) (by decide +kernel) ?_
    refine ⟨?_, ?_⟩
    · skip
      repeat refine stk ?_
      refine branch_t' (by rw [eon]; exact hon) ?_
      have hs : sgV d (onB w) 1 = 1 := by unfold sgV; rw [hon]; rfl
      show Eqv (.tuple [_, _]) (.tuple [dispA (newD d 1 (digV (w / 32 % 32)) (digV (w % 32)) (sgV d (onB w) 1)), _])
      rw [hs]
      exact .up (.up (.refl _))
    · skip
      repeat refine stk ?_
      refine branch_t' (by rw [eon]; exact hon) ?_
      have hs : sgV d (onB w) 1 = 1 := by unfold sgV; rw [hon]; rfl
      show Eqv (.tuple [_, _]) (.tuple [dispA (newD d 1 (digV (w / 32 % 32)) (digV (w % 32)) (sgV d (onB w) 1)), _])
      rw [hs]
      exact .up (.up (.refl _))
  · have hon := Bool.eq_false_iff.2 hon
    have c1 : callP Try.prog 15 [.int .u8 (w / 32 % 32)] (· = .tuple [.int .u8 (digV (w / 32 % 32)), .int .i64 0]) := by
      have c := digit_c (w / 32 % 32)
      rw [digE_of, if_pos hl] at c
      exact c
    have c2 : callP Try.prog 15 [.int .u8 (w % 32)] (· = .tuple [.int .u8 (digV (w % 32)), .int .i64 0]) := by
      have c := digit_c (w % 32)
      rw [digE_of, if_pos hq] at c
      exact c
    have c := may_c hd
    rw [hm] at c
    have er := er_of h0 h1
    rw [hr] at er
    have el := el_of h0 h1
    have ecl := lc_of (w := w) h0
    have ecr := rc_of (w := w) h0
    have eon := on_of (w := w) h0
    refine callE_def env (fn := Try.f10) rfl (by decide) rfl ?_
    refine callT_E c rfl ?_
    repeat refine stb ?_
    repeat refine ndD ?_
    conv => whnf
    rw [er, el]
    repeat refine stk ?_
    refine callT_part [0, 2] rfl (table_c (d := d) (x := 10)) ?_
    rintro v H' ⟨rfl, rfl⟩ x G hx hG
    obtain rfl : x = tabA 0 2 := hx
    obtain rfl : G = [.cells (dcells d), .cells (dcells fun _ => 0), .cells [.int .u8 10], .cells (tabL 0 2)] := hG
    repeat refine ndD ?_
    refine callT_E ((congrArg (fun c => callP Try.prog 15 [.int .u8 c] (· = _)) ecl).mpr c1) rfl ?_
    refine callT_E ((congrArg (fun c => callP Try.prog 15 [.int .u8 c] (· = _)) ecr).mpr c2) rfl ?_
    repeat refine ndD ?_
    repeat refine stk ?_
    refine branch_f' (by rw [eon]; exact hon) ?_
    repeat refine stk ?_
    refine draw_tree (picks [0, 1, 2, 4, 5, 6] (.fork 3 7 (picks [7, 8, 9] .done) (picks [3, 8, 9] .done))) (by decide +kernel) ?_
    refine ⟨?_, ?_⟩
    · skip
      repeat refine stk ?_
      refine branch_f' (by rw [eon]; exact hon) ?_
      refine draw_tree (picks [0, 1, 2, 3, 4, 5, 6, 7, 8, 9, 10, 11, 12] .done) (by decide +kernel) ?_
      repeat refine stb ?_
      apply branch_intro <;> intro hb
      · have hb : d 18 = 1 := by simpa using hb
        have hs : sgV d (onB w) 1 = 0 := by unfold sgV; rw [hon]; simp [hb]
        show Eqv (.tuple [_, _]) (.tuple [dispA (newD d 1 (digV (w / 32 % 32)) (digV (w % 32)) (sgV d (onB w) 1)), _])
        rw [hs]
        exact .up (.up (.refl _))
      · have hb : ¬ d 18 = 1 := by simpa using hb
        have hs : sgV d (onB w) 1 = d 18 := by unfold sgV; rw [hon]; simp [hb]
        show Eqv (.tuple [_, _]) (.tuple [dispA (newD d 1 (digV (w / 32 % 32)) (digV (w % 32)) (sgV d (onB w) 1)), _])
        rw [hs]
        exact .up (.up (.refl _))
    · skip
      repeat refine stk ?_
      refine branch_f' (by rw [eon]; exact hon) ?_
      refine draw_tree (picks [0, 1, 2, 3, 4, 5, 6, 7, 8, 9, 10, 11, 12] .done) (by decide +kernel) ?_
      repeat refine stb ?_
      apply branch_intro <;> intro hb
      · have hb : d 18 = 1 := by simpa using hb
        have hs : sgV d (onB w) 1 = 0 := by unfold sgV; rw [hon]; simp [hb]
        show Eqv (.tuple [_, _]) (.tuple [dispA (newD d 1 (digV (w / 32 % 32)) (digV (w % 32)) (sgV d (onB w) 1)), _])
        rw [hs]
        exact .up (.up (.refl _))
      · have hb : ¬ d 18 = 1 := by simpa using hb
        have hs : sgV d (onB w) 1 = d 18 := by unfold sgV; rw [hon]; simp [hb]
        show Eqv (.tuple [_, _]) (.tuple [dispA (newD d 1 (digV (w / 32 % 32)) (digV (w % 32)) (sgV d (onB w) 1)), _])
        rw [hs]
        exact .up (.up (.refl _))
set_option maxHeartbeats 1000000 in
theorem apply_no2 {d : Nat → Int} (hd : WD d) (hm : mayB d = true) {w : Int} (h0 : 0 ≤ w) (h1 : w < 65536) (hr : w / 2048 % 16 = 3) (hf : fitW 2 w = false) : callP Try.prog 10 [dispA d, .int .u16 w] (· = .tuple [dispA (fun _ => 0), .int .i64 5]) := by
  by_cases hl : digN (w / 32 % 32) < 11
  · by_cases hq : digN (w % 32) < 11
    · have hon : onB w = true := by
        unfold fitW at hf
        rw [decide_eq_true hl, decide_eq_true hq] at hf
        simpa [hasS] using hf
      have c1 : callP Try.prog 15 [.int .u8 (w / 32 % 32)] (· = .tuple [.int .u8 (digV (w / 32 % 32)), .int .i64 0]) := by
        have c := digit_c (w / 32 % 32)
        rw [digE_of, if_pos hl] at c
        exact c
      have c2 : callP Try.prog 15 [.int .u8 (w % 32)] (· = .tuple [.int .u8 (digV (w % 32)), .int .i64 0]) := by
        have c := digit_c (w % 32)
        rw [digE_of, if_pos hq] at c
        exact c
      have c := may_c hd
      rw [hm] at c
      have er := er_of h0 h1
      rw [hr] at er
      have el := el_of h0 h1
      have ecl := lc_of (w := w) h0
      have ecr := rc_of (w := w) h0
      have eon := on_of (w := w) h0
      refine callE_def env (fn := Try.f10) rfl (by decide) rfl ?_
      refine callT_E c rfl ?_
      repeat refine stb ?_
      repeat refine ndD ?_
      conv => whnf
      rw [er, el]
      repeat refine stk ?_
      refine callT_part [0, 2] rfl (table_c (d := d) (x := 10)) ?_
      rintro v H' ⟨rfl, rfl⟩ x G hx hG
      obtain rfl : x = tabA 0 2 := hx
      obtain rfl : G = [.cells (dcells d), .cells (dcells fun _ => 0), .cells [.int .u8 10], .cells (tabL 0 2)] := hG
      repeat refine ndD ?_
      refine callT_E ((congrArg (fun c => callP Try.prog 15 [.int .u8 c] (· = _)) ecl).mpr c1) rfl ?_
      refine callT_E ((congrArg (fun c => callP Try.prog 15 [.int .u8 c] (· = _)) ecr).mpr c2) rfl ?_
      repeat refine ndD ?_
      repeat refine stk ?_
      refine branch_t' (by rw [eon]; exact hon) ?_
      repeat refine stk ?_
      show Eqv _ _
      exact .up (.up (.refl _))
    · skip
      have c1 : callP Try.prog 15 [.int .u8 (w / 32 % 32)] (· = .tuple [.int .u8 (digV (w / 32 % 32)), .int .i64 0]) := by
        have c := digit_c (w / 32 % 32)
        rw [digE_of, if_pos hl] at c
        exact c
      have c2 : callP Try.prog 15 [.int .u8 (w % 32)] (· = .tuple [.int .u8 (digV (w % 32)), .int .i64 2]) := by
        have c := digit_c (w % 32)
        rw [digE_of, if_neg hq] at c
        exact c
      have c := may_c hd
      rw [hm] at c
      have er := er_of h0 h1
      rw [hr] at er
      have el := el_of h0 h1
      have ecl := lc_of (w := w) h0
      have ecr := rc_of (w := w) h0
      have eon := on_of (w := w) h0
      refine callE_def env (fn := Try.f10) rfl (by decide) rfl ?_
      refine callT_E c rfl ?_
      repeat refine stb ?_
      repeat refine ndD ?_
      conv => whnf
      rw [er, el]
      repeat refine stk ?_
      refine callT_part [0, 2] rfl (table_c (d := d) (x := 10)) ?_
      rintro v H' ⟨rfl, rfl⟩ x G hx hG
      obtain rfl : x = tabA 0 2 := hx
      obtain rfl : G = [.cells (dcells d), .cells (dcells fun _ => 0), .cells [.int .u8 10], .cells (tabL 0 2)] := hG
      repeat refine ndD ?_
      refine callT_E ((congrArg (fun c => callP Try.prog 15 [.int .u8 c] (· = _)) ecl).mpr c1) rfl ?_
      refine callT_E ((congrArg (fun c => callP Try.prog 15 [.int .u8 c] (· = _)) ecr).mpr c2) rfl ?_
      repeat refine ndD ?_
      repeat refine stk ?_
      show Eqv _ _
      exact .up (.up (.refl _))
  · by_cases hq : digN (w % 32) < 11
    · skip
      have c1 : callP Try.prog 15 [.int .u8 (w / 32 % 32)] (· = .tuple [.int .u8 (digV (w / 32 % 32)), .int .i64 2]) := by
        have c := digit_c (w / 32 % 32)
        rw [digE_of, if_neg hl] at c
        exact c
      have c2 : callP Try.prog 15 [.int .u8 (w % 32)] (· = .tuple [.int .u8 (digV (w % 32)), .int .i64 0]) := by
        have c := digit_c (w % 32)
        rw [digE_of, if_pos hq] at c
        exact c
      have c := may_c hd
      rw [hm] at c
      have er := er_of h0 h1
      rw [hr] at er
      have el := el_of h0 h1
      have ecl := lc_of (w := w) h0
      have ecr := rc_of (w := w) h0
      have eon := on_of (w := w) h0
      refine callE_def env (fn := Try.f10) rfl (by decide) rfl ?_
      refine callT_E c rfl ?_
      repeat refine stb ?_
      repeat refine ndD ?_
      conv => whnf
      rw [er, el]
      repeat refine stk ?_
      refine callT_part [0, 2] rfl (table_c (d := d) (x := 10)) ?_
      rintro v H' ⟨rfl, rfl⟩ x G hx hG
      obtain rfl : x = tabA 0 2 := hx
      obtain rfl : G = [.cells (dcells d), .cells (dcells fun _ => 0), .cells [.int .u8 10], .cells (tabL 0 2)] := hG
      repeat refine ndD ?_
      refine callT_E ((congrArg (fun c => callP Try.prog 15 [.int .u8 c] (· = _)) ecl).mpr c1) rfl ?_
      refine callT_E ((congrArg (fun c => callP Try.prog 15 [.int .u8 c] (· = _)) ecr).mpr c2) rfl ?_
      repeat refine ndD ?_
      repeat refine stk ?_
      show Eqv _ _
      exact .up (.up (.refl _))
    · skip
      have c1 : callP Try.prog 15 [.int .u8 (w / 32 % 32)] (· = .tuple [.int .u8 (digV (w / 32 % 32)), .int .i64 2]) := by
        have c := digit_c (w / 32 % 32)
        rw [digE_of, if_neg hl] at c
        exact c
      have c2 : callP Try.prog 15 [.int .u8 (w % 32)] (· = .tuple [.int .u8 (digV (w % 32)), .int .i64 2]) := by
        have c := digit_c (w % 32)
        rw [digE_of, if_neg hq] at c
        exact c
      have c := may_c hd
      rw [hm] at c
      have er := er_of h0 h1
      rw [hr] at er
      have el := el_of h0 h1
      have ecl := lc_of (w := w) h0
      have ecr := rc_of (w := w) h0
      have eon := on_of (w := w) h0
      refine callE_def env (fn := Try.f10) rfl (by decide) rfl ?_
      refine callT_E c rfl ?_
      repeat refine stb ?_
      repeat refine ndD ?_
      conv => whnf
      rw [er, el]
      repeat refine stk ?_
      refine callT_part [0, 2] rfl (table_c (d := d) (x := 10)) ?_
      rintro v H' ⟨rfl, rfl⟩ x G hx hG
      obtain rfl : x = tabA 0 2 := hx
      obtain rfl : G = [.cells (dcells d), .cells (dcells fun _ => 0), .cells [.int .u8 10], .cells (tabL 0 2)] := hG
      repeat refine ndD ?_
      refine callT_E ((congrArg (fun c => callP Try.prog 15 [.int .u8 c] (· = _)) ecl).mpr c1) rfl ?_
      refine callT_E ((congrArg (fun c => callP Try.prog 15 [.int .u8 c] (· = _)) ecr).mpr c2) rfl ?_
      repeat refine ndD ?_
      repeat refine stk ?_
      show Eqv _ _
      exact .up (.up (.refl _))
set_option maxHeartbeats 2000000 in
theorem apply_ok2 {d : Nat → Int} (hd : WD d) (hm : mayB d = true) {w : Int} (h0 : 0 ≤ w) (h1 : w < 65536) (hr : w / 2048 % 16 = 3) (hf : fitW 2 w = true) : callP Try.prog 10 [dispA d, .int .u16 w] (· = .tuple [dispA (newD d 2 (digV (w / 32 % 32)) (digV (w % 32)) (sgV d (onB w) 2)), .int .i64 0]) := by
  unfold fitW at hf
  simp only [Bool.and_eq_true, decide_eq_true_eq] at hf
  obtain ⟨⟨⟨hl, hq⟩, hns⟩, h7⟩ := hf
  have hon : onB w = false := by simpa [hasS] using hns
  have c1 : callP Try.prog 15 [.int .u8 (w / 32 % 32)] (· = .tuple [.int .u8 (digV (w / 32 % 32)), .int .i64 0]) := by
    have c := digit_c (w / 32 % 32)
    rw [digE_of, if_pos hl] at c
    exact c
  have c2 : callP Try.prog 15 [.int .u8 (w % 32)] (· = .tuple [.int .u8 (digV (w % 32)), .int .i64 0]) := by
    have c := digit_c (w % 32)
    rw [digE_of, if_pos hq] at c
    exact c
  have c := may_c hd
  rw [hm] at c
  have er := er_of h0 h1
  rw [hr] at er
  have el := el_of h0 h1
  have ecl := lc_of (w := w) h0
  have ecr := rc_of (w := w) h0
  have eon := on_of (w := w) h0
  refine callE_def env (fn := Try.f10) rfl (by decide) rfl ?_
  refine callT_E c rfl ?_
  repeat refine stb ?_
  repeat refine ndD ?_
  conv => whnf
  rw [er, el]
  repeat refine stk ?_
  refine callT_part [0, 2] rfl (table_c (d := d) (x := 10)) ?_
  rintro v H' ⟨rfl, rfl⟩ x G hx hG
  obtain rfl : x = tabA 0 2 := hx
  obtain rfl : G = [.cells (dcells d), .cells (dcells fun _ => 0), .cells [.int .u8 10], .cells (tabL 0 2)] := hG
  repeat refine ndD ?_
  refine callT_E ((congrArg (fun c => callP Try.prog 15 [.int .u8 c] (· = _)) ecl).mpr c1) rfl ?_
  refine callT_E ((congrArg (fun c => callP Try.prog 15 [.int .u8 c] (· = _)) ecr).mpr c2) rfl ?_
  repeat refine ndD ?_
  repeat refine stk ?_
  refine branch_f' (by rw [eon]; exact hon) ?_
  repeat refine stk ?_
  refine draw_tree (picks [0, 1, 2, 4, 5, 6] (.fork 3 7 (picks [7, 8, 9] .done) (picks [3, 8, 9] .done))) (by decide +kernel) ?_
  refine ⟨?_, ?_⟩
  · skip
    repeat refine stk ?_
    refine branch_f' (by rw [eon]; exact hon) ?_
    refine draw_tree (picks [0, 1, 2, 3, 4, 5, 6, 7, 8, 9, 10, 11, 12] .done) (by decide +kernel) ?_
    repeat refine stb ?_
    show Eqv _ _
    exact .up (.up (.refl _))
  · skip
    repeat refine stk ?_
    refine branch_f' (by rw [eon]; exact hon) ?_
    refine draw_tree (picks [0, 1, 2, 3, 4, 5, 6, 7, 8, 9, 10, 11, 12] .done) (by decide +kernel) ?_
    repeat refine stb ?_
    show Eqv _ _
    exact .up (.up (.refl _))
end Go.Proofs
/-! Af. -/
namespace Go.Proofs
open Go.E
set_option maxRecDepth 8000

set_option maxHeartbeats 1000000 in
theorem apply_no3 {d : Nat → Int} (hd : WD d) (hm : mayB d = true) {w : Int} (h0 : 0 ≤ w) (h1 : w < 65536) (hr : w / 2048 % 16 = 4) (hf : fitW 3 w = false) : callP Try.prog 10 [dispA d, .int .u16 w] (· = .tuple [dispA (fun _ => 0), .int .i64 5]) := by
  by_cases hl : digN (w / 32 % 32) < 11
  · by_cases hq : digN (w % 32) < 11
    · exfalso
      unfold fitW at hf
      rw [decide_eq_true hl, decide_eq_true hq] at hf
      simp [hasS] at hf
    · skip
      have c1 : callP Try.prog 15 [.int .u8 (w / 32 % 32)] (· = .tuple [.int .u8 (digV (w / 32 % 32)), .int .i64 0]) := by
        have c := digit_c (w / 32 % 32)
        rw [digE_of, if_pos hl] at c
        exact c
      have c2 : callP Try.prog 15 [.int .u8 (w % 32)] (· = .tuple [.int .u8 (digV (w % 32)), .int .i64 2]) := by
        have c := digit_c (w % 32)
        rw [digE_of, if_neg hq] at c
        exact c
      have c := may_c hd
      rw [hm] at c
      have er := er_of h0 h1
      rw [hr] at er
      have el := el_of h0 h1
      have ecl := lc_of (w := w) h0
      have ecr := rc_of (w := w) h0
      have eon := on_of (w := w) h0
      refine callE_def env (fn := Try.f10) rfl (by decide) rfl ?_
      refine callT_E c rfl ?_
      repeat refine stb ?_
      repeat refine ndD ?_
      conv => whnf
      rw [er, el]
      repeat refine stk ?_
      refine callT_part [0, 2] rfl (table_c (d := d) (x := 10)) ?_
      rintro v H' ⟨rfl, rfl⟩ x G hx hG
      obtain rfl : x = tabA 0 2 := hx
      obtain rfl : G = [.cells (dcells d), .cells (dcells fun _ => 0), .cells [.int .u8 10], .cells (tabL 0 2)] := hG
      repeat refine ndD ?_
      refine callT_E ((congrArg (fun c => callP Try.prog 15 [.int .u8 c] (· = _)) ecl).mpr c1) rfl ?_
      refine callT_E ((congrArg (fun c => callP Try.prog 15 [.int .u8 c] (· = _)) ecr).mpr c2) rfl ?_
      repeat refine ndD ?_
      repeat refine stk ?_
      show Eqv _ _
      exact .up (.up (.refl _))
  · by_cases hq : digN (w % 32) < 11
    · skip
      have c1 : callP Try.prog 15 [.int .u8 (w / 32 % 32)] (· = .tuple [.int .u8 (digV (w / 32 % 32)), .int .i64 2]) := by
        have c := digit_c (w / 32 % 32)
        rw [digE_of, if_neg hl] at c
        exact c
      have c2 : callP Try.prog 15 [.int .u8 (w % 32)] (· = .tuple [.int .u8 (digV (w % 32)), .int .i64 0]) := by
        have c := digit_c (w % 32)
        rw [digE_of, if_pos hq] at c
        exact c
      have c := may_c hd
      rw [hm] at c
      have er := er_of h0 h1
      rw [hr] at er
      have el := el_of h0 h1
      have ecl := lc_of (w := w) h0
      have ecr := rc_of (w := w) h0
      have eon := on_of (w := w) h0
      refine callE_def env (fn := Try.f10) rfl (by decide) rfl ?_
      refine callT_E c rfl ?_
      repeat refine stb ?_
      repeat refine ndD ?_
      conv => whnf
      rw [er, el]
      repeat refine stk ?_
      refine callT_part [0, 2] rfl (table_c (d := d) (x := 10)) ?_
      rintro v H' ⟨rfl, rfl⟩ x G hx hG
      obtain rfl : x = tabA 0 2 := hx
      obtain rfl : G = [.cells (dcells d), .cells (dcells fun _ => 0), .cells [.int .u8 10], .cells (tabL 0 2)] := hG
      repeat refine ndD ?_
      refine callT_E ((congrArg (fun c => callP Try.prog 15 [.int .u8 c] (· = _)) ecl).mpr c1) rfl ?_
      refine callT_E ((congrArg (fun c => callP Try.prog 15 [.int .u8 c] (· = _)) ecr).mpr c2) rfl ?_
      repeat refine ndD ?_
      repeat refine stk ?_
      show Eqv _ _
      exact .up (.up (.refl _))
    · skip
      have c1 : callP Try.prog 15 [.int .u8 (w / 32 % 32)] (· = .tuple [.int .u8 (digV (w / 32 % 32)), .int .i64 2]) := by
        have c := digit_c (w / 32 % 32)
        rw [digE_of, if_neg hl] at c
        exact c
      have c2 : callP Try.prog 15 [.int .u8 (w % 32)] (· = .tuple [.int .u8 (digV (w % 32)), .int .i64 2]) := by
        have c := digit_c (w % 32)
        rw [digE_of, if_neg hq] at c
        exact c
      have c := may_c hd
      rw [hm] at c
      have er := er_of h0 h1
      rw [hr] at er
      have el := el_of h0 h1
      have ecl := lc_of (w := w) h0
      have ecr := rc_of (w := w) h0
      have eon := on_of (w := w) h0
      refine callE_def env (fn := Try.f10) rfl (by decide) rfl ?_
      refine callT_E c rfl ?_
      repeat refine stb ?_
      repeat refine ndD ?_
      conv => whnf
      rw [er, el]
      repeat refine stk ?_
      refine callT_part [0, 2] rfl (table_c (d := d) (x := 10)) ?_
      rintro v H' ⟨rfl, rfl⟩ x G hx hG
      obtain rfl : x = tabA 0 2 := hx
      obtain rfl : G = [.cells (dcells d), .cells (dcells fun _ => 0), .cells [.int .u8 10], .cells (tabL 0 2)] := hG
      repeat refine ndD ?_
      refine callT_E ((congrArg (fun c => callP Try.prog 15 [.int .u8 c] (· = _)) ecl).mpr c1) rfl ?_
      refine callT_E ((congrArg (fun c => callP Try.prog 15 [.int .u8 c] (· = _)) ecr).mpr c2) rfl ?_
      repeat refine ndD ?_
      repeat refine stk ?_
      show Eqv _ _
      exact .up (.up (.refl _))
set_option maxHeartbeats 2000000 in
theorem apply_ok3 {d : Nat → Int} (hd : WD d) (hm : mayB d = true) {w : Int} (h0 : 0 ≤ w) (h1 : w < 65536) (hr : w / 2048 % 16 = 4) (hf : fitW 3 w = true) : callP Try.prog 10 [dispA d, .int .u16 w] (· = .tuple [dispA (newD d 3 (digV (w / 32 % 32)) (digV (w % 32)) (sgV d (onB w) 3)), .int .i64 0]) := by
  unfold fitW at hf
  simp only [Bool.and_eq_true, decide_eq_true_eq] at hf
  obtain ⟨⟨⟨hl, hq⟩, hns⟩, h7⟩ := hf
  by_cases hon : onB w = true
  · skip
    have c1 : callP Try.prog 15 [.int .u8 (w / 32 % 32)] (· = .tuple [.int .u8 (digV (w / 32 % 32)), .int .i64 0]) := by
      have c := digit_c (w / 32 % 32)
      rw [digE_of, if_pos hl] at c
      exact c
    have c2 : callP Try.prog 15 [.int .u8 (w % 32)] (· = .tuple [.int .u8 (digV (w % 32)), .int .i64 0]) := by
      have c := digit_c (w % 32)
      rw [digE_of, if_pos hq] at c
      exact c
    have c := may_c hd
    rw [hm] at c
    have er := er_of h0 h1
    rw [hr] at er
    have el := el_of h0 h1
    have ecl := lc_of (w := w) h0
    have ecr := rc_of (w := w) h0
    have eon := on_of (w := w) h0
    refine callE_def env (fn := Try.f10) rfl (by decide) rfl ?_
    refine callT_E c rfl ?_
    repeat refine stb ?_
    repeat refine ndD ?_
    conv => whnf
    rw [er, el]
    repeat refine stk ?_
    refine callT_part [0, 2] rfl (table_c (d := d) (x := 10)) ?_
    rintro v H' ⟨rfl, rfl⟩ x G hx hG
    obtain rfl : x = tabA 0 2 := hx
    obtain rfl : G = [.cells (dcells d), .cells (dcells fun _ => 0), .cells [.int .u8 10], .cells (tabL 0 2)] := hG
    repeat refine ndD ?_
    refine callT_E ((congrArg (fun c => callP Try.prog 15 [.int .u8 c] (· = _)) ecl).mpr c1) rfl ?_
    refine callT_E ((congrArg (fun c => callP Try.prog 15 [.int .u8 c] (· = _)) ecr).mpr c2) rfl ?_
    repeat refine ndD ?_
    repeat refine stk ?_
    refine branch_t' (by rw [eon]; exact hon) ?_
    repeat refine stk ?_
    refine draw_tree (picks [0, 1, 2, 4, 5, 6] (.fork 3 7 (picks [7, 8, 9] .done) (picks [3, 8, 9] .done))) (by decide +kernel) ?_
    refine ⟨?_, ?_⟩
    · skip
      repeat refine stk ?_
      refine branch_t' (by rw [eon]; exact hon) ?_
      have hs : sgV d (onB w) 3 = 2 := by unfold sgV; rw [hon]; rfl
      show Eqv (.tuple [_, _]) (.tuple [dispA (newD d 3 (digV (w / 32 % 32)) (digV (w % 32)) (sgV d (onB w) 3)), _])
      rw [hs]
      exact .up (.up (.refl _))
    · skip
      repeat refine stk ?_
      refine branch_t' (by rw [eon]; exact hon) ?_
      have hs : sgV d (onB w) 3 = 2 := by unfold sgV; rw [hon]; rfl
      show Eqv (.tuple [_, _]) (.tuple [dispA (newD d 3 (digV (w / 32 % 32)) (digV (w % 32)) (sgV d (onB w) 3)), _])
      rw [hs]
      exact .up (.up (.refl _))
  · have hon := Bool.eq_false_iff.2 hon
    have c1 : callP Try.prog 15 [.int .u8 (w / 32 % 32)] (· = .tuple [.int .u8 (digV (w / 32 % 32)), .int .i64 0]) := by
      have c := digit_c (w / 32 % 32)
      rw [digE_of, if_pos hl] at c
      exact c
    have c2 : callP Try.prog 15 [.int .u8 (w % 32)] (· = .tuple [.int .u8 (digV (w % 32)), .int .i64 0]) := by
      have c := digit_c (w % 32)
      rw [digE_of, if_pos hq] at c
      exact c
    have c := may_c hd
    rw [hm] at c
    have er := er_of h0 h1
    rw [hr] at er
    have el := el_of h0 h1
    have ecl := lc_of (w := w) h0
    have ecr := rc_of (w := w) h0
    have eon := on_of (w := w) h0
    refine callE_def env (fn := Try.f10) rfl (by decide) rfl ?_
    refine callT_E c rfl ?_
    repeat refine stb ?_
    repeat refine ndD ?_
    conv => whnf
    rw [er, el]
    repeat refine stk ?_
    refine callT_part [0, 2] rfl (table_c (d := d) (x := 10)) ?_
    rintro v H' ⟨rfl, rfl⟩ x G hx hG
    obtain rfl : x = tabA 0 2 := hx
    obtain rfl : G = [.cells (dcells d), .cells (dcells fun _ => 0), .cells [.int .u8 10], .cells (tabL 0 2)] := hG
    repeat refine ndD ?_
    refine callT_E ((congrArg (fun c => callP Try.prog 15 [.int .u8 c] (· = _)) ecl).mpr c1) rfl ?_
    refine callT_E ((congrArg (fun c => callP Try.prog 15 [.int .u8 c] (· = _)) ecr).mpr c2) rfl ?_
    repeat refine ndD ?_
    repeat refine stk ?_
    refine branch_f' (by rw [eon]; exact hon) ?_
    repeat refine stk ?_
    refine draw_tree (picks [0, 1, 2, 4, 5, 6] (.fork 3 7 (picks [7, 8, 9] .done) (picks [3, 8, 9] .done))) (by decide +kernel) ?_
    refine ⟨?_, ?_⟩
    · skip
      repeat refine stk ?_
      refine branch_f' (by rw [eon]; exact hon) ?_
      refine draw_tree (picks [0, 1, 2, 3, 4, 5, 6, 7, 8, 9, 10, 11, 12] .done) (by decide +kernel) ?_
      repeat refine stb ?_
      apply branch_intro <;> intro hb
      · have hb : d 12 = 2 := by simpa using hb
        have hs : sgV d (onB w) 3 = 0 := by unfold sgV; rw [hon]; simp [hb]
        show Eqv (.tuple [_, _]) (.tuple [dispA (newD d 3 (digV (w / 32 % 32)) (digV (w % 32)) (sgV d (onB w) 3)), _])
        rw [hs]
        exact .up (.up (.refl _))
      · have hb : ¬ d 12 = 2 := by simpa using hb
        have hs : sgV d (onB w) 3 = d 12 := by unfold sgV; rw [hon]; simp [hb]
        show Eqv (.tuple [_, _]) (.tuple [dispA (newD d 3 (digV (w / 32 % 32)) (digV (w % 32)) (sgV d (onB w) 3)), _])
        rw [hs]
        exact .up (.up (.refl _))
    · skip
      repeat refine stk ?_
      refine branch_f' (by rw [eon]; exact hon) ?_
      refine draw_tree (picks [0, 1, 2, 3, 4, 5, 6, 7, 8, 9, 10, 11, 12] .done) (by decide +kernel) ?_
      repeat refine stb ?_
      apply branch_intro <;> intro hb
      · have hb : d 12 = 2 := by simpa using hb
        have hs : sgV d (onB w) 3 = 0 := by unfold sgV; rw [hon]; simp [hb]
        show Eqv (.tuple [_, _]) (.tuple [dispA (newD d 3 (digV (w / 32 % 32)) (digV (w % 32)) (sgV d (onB w) 3)), _])
        rw [hs]
        exact .up (.up (.refl _))
      · have hb : ¬ d 12 = 2 := by simpa using hb
        have hs : sgV d (onB w) 3 = d 12 := by unfold sgV; rw [hon]; simp [hb]
        show Eqv (.tuple [_, _]) (.tuple [dispA (newD d 3 (digV (w / 32 % 32)) (digV (w % 32)) (sgV d (onB w) 3)), _])
        rw [hs]
        exact .up (.up (.refl _))
set_option maxHeartbeats 1000000 in
theorem apply_no4 {d : Nat → Int} (hd : WD d) (hm : mayB d = true) {w : Int} (h0 : 0 ≤ w) (h1 : w < 65536) (hr : w / 2048 % 16 = 5) (hf : fitW 4 w = false) : callP Try.prog 10 [dispA d, .int .u16 w] (· = .tuple [dispA (fun _ => 0), .int .i64 5]) := by
  by_cases hl : digN (w / 32 % 32) < 11
  · by_cases hq : digN (w % 32) < 11
    · exfalso
      unfold fitW at hf
      rw [decide_eq_true hl, decide_eq_true hq] at hf
      simp [hasS] at hf
    · skip
      have c1 : callP Try.prog 15 [.int .u8 (w / 32 % 32)] (· = .tuple [.int .u8 (digV (w / 32 % 32)), .int .i64 0]) := by
        have c := digit_c (w / 32 % 32)
        rw [digE_of, if_pos hl] at c
        exact c
      have c2 : callP Try.prog 15 [.int .u8 (w % 32)] (· = .tuple [.int .u8 (digV (w % 32)), .int .i64 2]) := by
        have c := digit_c (w % 32)
        rw [digE_of, if_neg hq] at c
        exact c
      have c := may_c hd
      rw [hm] at c
      have er := er_of h0 h1
      rw [hr] at er
      have el := el_of h0 h1
      have ecl := lc_of (w := w) h0
      have ecr := rc_of (w := w) h0
      have eon := on_of (w := w) h0
      refine callE_def env (fn := Try.f10) rfl (by decide) rfl ?_
      refine callT_E c rfl ?_
      repeat refine stb ?_
      repeat refine ndD ?_
      conv => whnf
      rw [er, el]
      repeat refine stk ?_
      refine callT_part [0, 2] rfl (table_c (d := d) (x := 10)) ?_
      rintro v H' ⟨rfl, rfl⟩ x G hx hG
      obtain rfl : x = tabA 0 2 := hx
      obtain rfl : G = [.cells (dcells d), .cells (dcells fun _ => 0), .cells [.int .u8 10], .cells (tabL 0 2)] := hG
      repeat refine ndD ?_
      refine callT_E ((congrArg (fun c => callP Try.prog 15 [.int .u8 c] (· = _)) ecl).mpr c1) rfl ?_
      refine callT_E ((congrArg (fun c => callP Try.prog 15 [.int .u8 c] (· = _)) ecr).mpr c2) rfl ?_
      repeat refine ndD ?_
      repeat refine stk ?_
      show Eqv _ _
      exact .up (.up (.refl _))
  · by_cases hq : digN (w % 32) < 11
    · skip
      have c1 : callP Try.prog 15 [.int .u8 (w / 32 % 32)] (· = .tuple [.int .u8 (digV (w / 32 % 32)), .int .i64 2]) := by
        have c := digit_c (w / 32 % 32)
        rw [digE_of, if_neg hl] at c
        exact c
      have c2 : callP Try.prog 15 [.int .u8 (w % 32)] (· = .tuple [.int .u8 (digV (w % 32)), .int .i64 0]) := by
        have c := digit_c (w % 32)
        rw [digE_of, if_pos hq] at c
        exact c
      have c := may_c hd
      rw [hm] at c
      have er := er_of h0 h1
      rw [hr] at er
      have el := el_of h0 h1
      have ecl := lc_of (w := w) h0
      have ecr := rc_of (w := w) h0
      have eon := on_of (w := w) h0
      refine callE_def env (fn := Try.f10) rfl (by decide) rfl ?_
      refine callT_E c rfl ?_
      repeat refine stb ?_
      repeat refine ndD ?_
      conv => whnf
      rw [er, el]
      repeat refine stk ?_
      refine callT_part [0, 2] rfl (table_c (d := d) (x := 10)) ?_
      rintro v H' ⟨rfl, rfl⟩ x G hx hG
      obtain rfl : x = tabA 0 2 := hx
      obtain rfl : G = [.cells (dcells d), .cells (dcells fun _ => 0), .cells [.int .u8 10], .cells (tabL 0 2)] := hG
      repeat refine ndD ?_
      refine callT_E ((congrArg (fun c => callP Try.prog 15 [.int .u8 c] (· = _)) ecl).mpr c1) rfl ?_
      refine callT_E ((congrArg (fun c => callP Try.prog 15 [.int .u8 c] (· = _)) ecr).mpr c2) rfl ?_
      repeat refine ndD ?_
      repeat refine stk ?_
      show Eqv _ _
      exact .up (.up (.refl _))
    · skip
      have c1 : callP Try.prog 15 [.int .u8 (w / 32 % 32)] (· = .tuple [.int .u8 (digV (w / 32 % 32)), .int .i64 2]) := by
        have c := digit_c (w / 32 % 32)
        rw [digE_of, if_neg hl] at c
        exact c
      have c2 : callP Try.prog 15 [.int .u8 (w % 32)] (· = .tuple [.int .u8 (digV (w % 32)), .int .i64 2]) := by
        have c := digit_c (w % 32)
        rw [digE_of, if_neg hq] at c
        exact c
      have c := may_c hd
      rw [hm] at c
      have er := er_of h0 h1
      rw [hr] at er
      have el := el_of h0 h1
      have ecl := lc_of (w := w) h0
      have ecr := rc_of (w := w) h0
      have eon := on_of (w := w) h0
      refine callE_def env (fn := Try.f10) rfl (by decide) rfl ?_
      refine callT_E c rfl ?_
      repeat refine stb ?_
      repeat refine ndD ?_
      conv => whnf
      rw [er, el]
      repeat refine stk ?_
      refine callT_part [0, 2] rfl (table_c (d := d) (x := 10)) ?_
      rintro v H' ⟨rfl, rfl⟩ x G hx hG
      obtain rfl : x = tabA 0 2 := hx
      obtain rfl : G = [.cells (dcells d), .cells (dcells fun _ => 0), .cells [.int .u8 10], .cells (tabL 0 2)] := hG
      repeat refine ndD ?_
      refine callT_E ((congrArg (fun c => callP Try.prog 15 [.int .u8 c] (· = _)) ecl).mpr c1) rfl ?_
      refine callT_E ((congrArg (fun c => callP Try.prog 15 [.int .u8 c] (· = _)) ecr).mpr c2) rfl ?_
      repeat refine ndD ?_
      repeat refine stk ?_
      show Eqv _ _
      exact .up (.up (.refl _))
set_option maxHeartbeats 2000000 in
theorem apply_ok4 {d : Nat → Int} (hd : WD d) (hm : mayB d = true) {w : Int} (h0 : 0 ≤ w) (h1 : w < 65536) (hr : w / 2048 % 16 = 5) (hf : fitW 4 w = true) : callP Try.prog 10 [dispA d, .int .u16 w] (· = .tuple [dispA (newD d 4 (digV (w / 32 % 32)) (digV (w % 32)) (sgV d (onB w) 4)), .int .i64 0]) := by
  unfold fitW at hf
  simp only [Bool.and_eq_true, decide_eq_true_eq] at hf
  obtain ⟨⟨⟨hl, hq⟩, hns⟩, h7⟩ := hf
  by_cases hon : onB w = true
  · skip
    have c1 : callP Try.prog 15 [.int .u8 (w / 32 % 32)] (· = .tuple [.int .u8 (digV (w / 32 % 32)), .int .i64 0]) := by
      have c := digit_c (w / 32 % 32)
      rw [digE_of, if_pos hl] at c
      exact c
    have c2 : callP Try.prog 15 [.int .u8 (w % 32)] (· = .tuple [.int .u8 (digV (w % 32)), .int .i64 0]) := by
      have c := digit_c (w % 32)
      rw [digE_of, if_pos hq] at c
      exact c
    have c := may_c hd
    rw [hm] at c
    have er := er_of h0 h1
    rw [hr] at er
    have el := el_of h0 h1
    have ecl := lc_of (w := w) h0
    have ecr := rc_of (w := w) h0
    have eon := on_of (w := w) h0
    refine callE_def env (fn := Try.f10) rfl (by decide) rfl ?_
    refine callT_E c rfl ?_
    repeat refine stb ?_
    repeat refine ndD ?_
    conv => whnf
    rw [er, el]
    repeat refine stk ?_
    refine callT_part [0, 2] rfl (table_c (d := d) (x := 10)) ?_
    rintro v H' ⟨rfl, rfl⟩ x G hx hG
    obtain rfl : x = tabA 0 2 := hx
    obtain rfl : G = [.cells (dcells d), .cells (dcells fun _ => 0), .cells [.int .u8 10], .cells (tabL 0 2)] := hG
    repeat refine ndD ?_
    refine callT_E ((congrArg (fun c => callP Try.prog 15 [.int .u8 c] (· = _)) ecl).mpr c1) rfl ?_
    refine callT_E ((congrArg (fun c => callP Try.prog 15 [.int .u8 c] (· = _)) ecr).mpr c2) rfl ?_
    repeat refine ndD ?_
    repeat refine stk ?_
    refine branch_t' (by rw [eon]; exact hon) ?_
    repeat refine stk ?_
    refine draw_tree (picks [0, 1, 2, 4, 5, 6] (.fork 3 7 (picks [7, 8, 9] .done) (picks [3, 8, 9] .done))) (by decide +kernel) ?_
    refine ⟨?_, ?_⟩
    · skip
      repeat refine stk ?_
      refine branch_t' (by rw [eon]; exact hon) ?_
      have hs : sgV d (onB w) 4 = 1 := by unfold sgV; rw [hon]; rfl
      show Eqv (.tuple [_, _]) (.tuple [dispA (newD d 4 (digV (w / 32 % 32)) (digV (w % 32)) (sgV d (onB w) 4)), _])
      rw [hs]
      exact .up (.up (.refl _))
    · skip
      repeat refine stk ?_
      refine branch_t' (by rw [eon]; exact hon) ?_
      have hs : sgV d (onB w) 4 = 1 := by unfold sgV; rw [hon]; rfl
      show Eqv (.tuple [_, _]) (.tuple [dispA (newD d 4 (digV (w / 32 % 32)) (digV (w % 32)) (sgV d (onB w) 4)), _])
      rw [hs]
      exact .up (.up (.refl _))
  · have hon := Bool.eq_false_iff.2 hon
    have c1 : callP Try.prog 15 [.int .u8 (w / 32 % 32)] (· = .tuple [.int .u8 (digV (w / 32 % 32)), .int .i64 0]) := by
      have c := digit_c (w / 32 % 32)
      rw [digE_of, if_pos hl] at c
      exact c
    have c2 : callP Try.prog 15 [.int .u8 (w % 32)] (· = .tuple [.int .u8 (digV (w % 32)), .int .i64 0]) := by
      have c := digit_c (w % 32)
      rw [digE_of, if_pos hq] at c
      exact c
    have c := may_c hd
    rw [hm] at c
    have er := er_of h0 h1
    rw [hr] at er
    have el := el_of h0 h1
    have ecl := lc_of (w := w) h0
    have ecr := rc_of (w := w) h0
    have eon := on_of (w := w) h0
    refine callE_def env (fn := Try.f10) rfl (by decide) rfl ?_
    refine callT_E c rfl ?_
    repeat refine stb ?_
    repeat refine ndD ?_
    conv => whnf
    rw [er, el]
    repeat refine stk ?_
    refine callT_part [0, 2] rfl (table_c (d := d) (x := 10)) ?_
    rintro v H' ⟨rfl, rfl⟩ x G hx hG
    obtain rfl : x = tabA 0 2 := hx
    obtain rfl : G = [.cells (dcells d), .cells (dcells fun _ => 0), .cells [.int .u8 10], .cells (tabL 0 2)] := hG
    repeat refine ndD ?_
    refine callT_E ((congrArg (fun c => callP Try.prog 15 [.int .u8 c] (· = _)) ecl).mpr c1) rfl ?_
    refine callT_E ((congrArg (fun c => callP Try.prog 15 [.int .u8 c] (· = _)) ecr).mpr c2) rfl ?_
    repeat refine ndD ?_
    repeat refine stk ?_
    refine branch_f' (by rw [eon]; exact hon) ?_
    repeat refine stk ?_
    refine draw_tree (picks [0, 1, 2, 4, 5, 6] (.fork 3 7 (picks [7, 8, 9] .done) (picks [3, 8, 9] .done))) (by decide +kernel) ?_
    refine ⟨?_, ?_⟩
    · skip
      repeat refine stk ?_
      refine branch_f' (by rw [eon]; exact hon) ?_
      refine draw_tree (picks [0, 1, 2, 3, 4, 5, 6, 7, 8, 9, 10, 11, 12] .done) (by decide +kernel) ?_
      repeat refine stb ?_
      apply branch_intro <;> intro hb
      · have hb : d 12 = 1 := by simpa using hb
        have hs : sgV d (onB w) 4 = 0 := by unfold sgV; rw [hon]; simp [hb]
        show Eqv (.tuple [_, _]) (.tuple [dispA (newD d 4 (digV (w / 32 % 32)) (digV (w % 32)) (sgV d (onB w) 4)), _])
        rw [hs]
        exact .up (.up (.refl _))
      · have hb : ¬ d 12 = 1 := by simpa using hb
        have hs : sgV d (onB w) 4 = d 12 := by unfold sgV; rw [hon]; simp [hb]
        show Eqv (.tuple [_, _]) (.tuple [dispA (newD d 4 (digV (w / 32 % 32)) (digV (w % 32)) (sgV d (onB w) 4)), _])
        rw [hs]
        exact .up (.up (.refl _))
    · skip
      repeat refine stk ?_
      refine branch_f' (by rw [eon]; exact hon) ?_
      refine draw_tree (picks [0, 1, 2, 3, 4, 5, 6, 7, 8, 9, 10, 11, 12] .done) (by decide +kernel) ?_
      repeat refine stb ?_
      apply branch_intro <;> intro hb
      · have hb : d 12 = 1 := by simpa using hb
        have hs : sgV d (onB w) 4 = 0 := by unfold sgV; rw [hon]; simp [hb]
        show Eqv (.tuple [_, _]) (.tuple [dispA (newD d 4 (digV (w / 32 % 32)) (digV (w % 32)) (sgV d (onB w) 4)), _])
        rw [hs]
        exact .up (.up (.refl _))
      · have hb : ¬ d 12 = 1 := by simpa using hb
        have hs : sgV d (onB w) 4 = d 12 := by unfold sgV; rw [hon]; simp [hb]
        show Eqv (.tuple [_, _]) (.tuple [dispA (newD d 4 (digV (w / 32 % 32)) (digV (w % 32)) (sgV d (onB w) 4)), _])
        rw [hs]
        exact .up (.up (.refl _))
set_option maxHeartbeats 1000000 in
theorem apply_no5 {d : Nat → Int} (hd : WD d) (hm : mayB d = true) {w : Int} (h0 : 0 ≤ w) (h1 : w < 65536) (hr : w / 2048 % 16 = 6) (hf : fitW 5 w = false) : callP Try.prog 10 [dispA d, .int .u16 w] (· = .tuple [dispA (fun _ => 0), .int .i64 5]) := by
  by_cases hl : digN (w / 32 % 32) < 11
  · by_cases hq : digN (w % 32) < 11
    · exfalso
      unfold fitW at hf
      rw [decide_eq_true hl, decide_eq_true hq] at hf
      simp [hasS] at hf
    · skip
      have c1 : callP Try.prog 15 [.int .u8 (w / 32 % 32)] (· = .tuple [.int .u8 (digV (w / 32 % 32)), .int .i64 0]) := by
        have c := digit_c (w / 32 % 32)
        rw [digE_of, if_pos hl] at c
        exact c
      have c2 : callP Try.prog 15 [.int .u8 (w % 32)] (· = .tuple [.int .u8 (digV (w % 32)), .int .i64 2]) := by
        have c := digit_c (w % 32)
        rw [digE_of, if_neg hq] at c
        exact c
      have c := may_c hd
      rw [hm] at c
      have er := er_of h0 h1
      rw [hr] at er
      have el := el_of h0 h1
      have ecl := lc_of (w := w) h0
      have ecr := rc_of (w := w) h0
      have eon := on_of (w := w) h0
      refine callE_def env (fn := Try.f10) rfl (by decide) rfl ?_
      refine callT_E c rfl ?_
      repeat refine stb ?_
      repeat refine ndD ?_
      conv => whnf
      rw [er, el]
      repeat refine stk ?_
      refine callT_part [0, 2] rfl (table_c (d := d) (x := 10)) ?_
      rintro v H' ⟨rfl, rfl⟩ x G hx hG
      obtain rfl : x = tabA 0 2 := hx
      obtain rfl : G = [.cells (dcells d), .cells (dcells fun _ => 0), .cells [.int .u8 10], .cells (tabL 0 2)] := hG
      repeat refine ndD ?_
      refine callT_E ((congrArg (fun c => callP Try.prog 15 [.int .u8 c] (· = _)) ecl).mpr c1) rfl ?_
      refine callT_E ((congrArg (fun c => callP Try.prog 15 [.int .u8 c] (· = _)) ecr).mpr c2) rfl ?_
      repeat refine ndD ?_
      repeat refine stk ?_
      show Eqv _ _
      exact .up (.up (.refl _))
  · by_cases hq : digN (w % 32) < 11
    · skip
      have c1 : callP Try.prog 15 [.int .u8 (w / 32 % 32)] (· = .tuple [.int .u8 (digV (w / 32 % 32)), .int .i64 2]) := by
        have c := digit_c (w / 32 % 32)
        rw [digE_of, if_neg hl] at c
        exact c
      have c2 : callP Try.prog 15 [.int .u8 (w % 32)] (· = .tuple [.int .u8 (digV (w % 32)), .int .i64 0]) := by
        have c := digit_c (w % 32)
        rw [digE_of, if_pos hq] at c
        exact c
      have c := may_c hd
      rw [hm] at c
      have er := er_of h0 h1
      rw [hr] at er
      have el := el_of h0 h1
      have ecl := lc_of (w := w) h0
      have ecr := rc_of (w := w) h0
      have eon := on_of (w := w) h0
      refine callE_def env (fn := Try.f10) rfl (by decide) rfl ?_
      refine callT_E c rfl ?_
      repeat refine stb ?_
      repeat refine ndD ?_
      conv => whnf
      rw [er, el]
      repeat refine stk ?_
      refine callT_part [0, 2] rfl (table_c (d := d) (x := 10)) ?_
      rintro v H' ⟨rfl, rfl⟩ x G hx hG
      obtain rfl : x = tabA 0 2 := hx
      obtain rfl : G = [.cells (dcells d), .cells (dcells fun _ => 0), .cells [.int .u8 10], .cells (tabL 0 2)] := hG
      repeat refine ndD ?_
      refine callT_E ((congrArg (fun c => callP Try.prog 15 [.int .u8 c] (· = _)) ecl).mpr c1) rfl ?_
      refine callT_E ((congrArg (fun c => callP Try.prog 15 [.int .u8 c] (· = _)) ecr).mpr c2) rfl ?_
      repeat refine ndD ?_
      repeat refine stk ?_
      show Eqv _ _
      exact .up (.up (.refl _))
    · skip
      have c1 : callP Try.prog 15 [.int .u8 (w / 32 % 32)] (· = .tuple [.int .u8 (digV (w / 32 % 32)), .int .i64 2]) := by
        have c := digit_c (w / 32 % 32)
        rw [digE_of, if_neg hl] at c
        exact c
      have c2 : callP Try.prog 15 [.int .u8 (w % 32)] (· = .tuple [.int .u8 (digV (w % 32)), .int .i64 2]) := by
        have c := digit_c (w % 32)
        rw [digE_of, if_neg hq] at c
        exact c
      have c := may_c hd
      rw [hm] at c
      have er := er_of h0 h1
      rw [hr] at er
      have el := el_of h0 h1
      have ecl := lc_of (w := w) h0
      have ecr := rc_of (w := w) h0
      have eon := on_of (w := w) h0
      refine callE_def env (fn := Try.f10) rfl (by decide) rfl ?_
      refine callT_E c rfl ?_
      repeat refine stb ?_
      repeat refine ndD ?_
      conv => whnf
      rw [er, el]
      repeat refine stk ?_
      refine callT_part [0, 2] rfl (table_c (d := d) (x := 10)) ?_
      rintro v H' ⟨rfl, rfl⟩ x G hx hG
      obtain rfl : x = tabA 0 2 := hx
      obtain rfl : G = [.cells (dcells d), .cells (dcells fun _ => 0), .cells [.int .u8 10], .cells (tabL 0 2)] := hG
      repeat refine ndD ?_
      refine callT_E ((congrArg (fun c => callP Try.prog 15 [.int .u8 c] (· = _)) ecl).mpr c1) rfl ?_
      refine callT_E ((congrArg (fun c => callP Try.prog 15 [.int .u8 c] (· = _)) ecr).mpr c2) rfl ?_
      repeat refine ndD ?_
      repeat refine stk ?_
      show Eqv _ _
      exact .up (.up (.refl _))
set_option maxHeartbeats 2000000 in
theorem apply_ok5 {d : Nat → Int} (hd : WD d) (hm : mayB d = true) {w : Int} (h0 : 0 ≤ w) (h1 : w < 65536) (hr : w / 2048 % 16 = 6) (hf : fitW 5 w = true) : callP Try.prog 10 [dispA d, .int .u16 w] (· = .tuple [dispA (newD d 5 (digV (w / 32 % 32)) (digV (w % 32)) (sgV d (onB w) 5)), .int .i64 0]) := by
  unfold fitW at hf
  simp only [Bool.and_eq_true, decide_eq_true_eq] at hf
  obtain ⟨⟨⟨hl, hq⟩, hns⟩, h7⟩ := hf
  by_cases hon : onB w = true
  · skip
    have c1 : callP Try.prog 15 [.int .u8 (w / 32 % 32)] (· = .tuple [.int .u8 (digV (w / 32 % 32)), .int .i64 0]) := by
      have c := digit_c (w / 32 % 32)
      rw [digE_of, if_pos hl] at c
      exact c
    have c2 : callP Try.prog 15 [.int .u8 (w % 32)] (· = .tuple [.int .u8 (digV (w % 32)), .int .i64 0]) := by
      have c := digit_c (w % 32)
      rw [digE_of, if_pos hq] at c
      exact c
    have c := may_c hd
    rw [hm] at c
    have er := er_of h0 h1
    rw [hr] at er
    have el := el_of h0 h1
    have ecl := lc_of (w := w) h0
    have ecr := rc_of (w := w) h0
    have eon := on_of (w := w) h0
    refine callE_def env (fn := Try.f10) rfl (by decide) rfl ?_
    refine callT_E c rfl ?_
    repeat refine stb ?_
    repeat refine ndD ?_
    conv => whnf
    rw [er, el]
    repeat refine stk ?_
    refine callT_part [0, 2] rfl (table_c (d := d) (x := 10)) ?_
    rintro v H' ⟨rfl, rfl⟩ x G hx hG
    obtain rfl : x = tabA 0 2 := hx
    obtain rfl : G = [.cells (dcells d), .cells (dcells fun _ => 0), .cells [.int .u8 10], .cells (tabL 0 2)] := hG
    repeat refine ndD ?_
    refine callT_E ((congrArg (fun c => callP Try.prog 15 [.int .u8 c] (· = _)) ecl).mpr c1) rfl ?_
    refine callT_E ((congrArg (fun c => callP Try.prog 15 [.int .u8 c] (· = _)) ecr).mpr c2) rfl ?_
    repeat refine ndD ?_
    repeat refine stk ?_
    refine branch_t' (by rw [eon]; exact hon) ?_
    repeat refine stk ?_
    refine draw_tree (picks [0, 1, 2, 4, 5, 6] (.fork 3 7 (picks [7, 8, 9] .done) (picks [3, 8, 9] .done))) (by decide +kernel) ?_
    refine ⟨?_, ?_⟩
    · skip
      repeat refine stk ?_
      refine branch_t' (by rw [eon]; exact hon) ?_
      have hs : sgV d (onB w) 5 = 2 := by unfold sgV; rw [hon]; rfl
      show Eqv (.tuple [_, _]) (.tuple [dispA (newD d 5 (digV (w / 32 % 32)) (digV (w % 32)) (sgV d (onB w) 5)), _])
      rw [hs]
      exact .up (.up (.refl _))
    · skip
      repeat refine stk ?_
      refine branch_t' (by rw [eon]; exact hon) ?_
      have hs : sgV d (onB w) 5 = 2 := by unfold sgV; rw [hon]; rfl
      show Eqv (.tuple [_, _]) (.tuple [dispA (newD d 5 (digV (w / 32 % 32)) (digV (w % 32)) (sgV d (onB w) 5)), _])
      rw [hs]
      exact .up (.up (.refl _))
  · have hon := Bool.eq_false_iff.2 hon
    have c1 : callP Try.prog 15 [.int .u8 (w / 32 % 32)] (· = .tuple [.int .u8 (digV (w / 32 % 32)), .int .i64 0]) := by
      have c := digit_c (w / 32 % 32)
      rw [digE_of, if_pos hl] at c
      exact c
    have c2 : callP Try.prog 15 [.int .u8 (w % 32)] (· = .tuple [.int .u8 (digV (w % 32)), .int .i64 0]) := by
      have c := digit_c (w % 32)
      rw [digE_of, if_pos hq] at c
      exact c
    have c := may_c hd
    rw [hm] at c
    have er := er_of h0 h1
    rw [hr] at er
    have el := el_of h0 h1
    have ecl := lc_of (w := w) h0
    have ecr := rc_of (w := w) h0
    have eon := on_of (w := w) h0
    refine callE_def env (fn := Try.f10) rfl (by decide) rfl ?_
    refine callT_E c rfl ?_
    repeat refine stb ?_
    repeat refine ndD ?_
    conv => whnf
    rw [er, el]
    repeat refine stk ?_
    refine callT_part [0, 2] rfl (table_c (d := d) (x := 10)) ?_
    rintro v H' ⟨rfl, rfl⟩ x G hx hG
    obtain rfl : x = tabA 0 2 := hx
    obtain rfl : G = [.cells (dcells d), .cells (dcells fun _ => 0), .cells [.int .u8 10], .cells (tabL 0 2)] := hG
    repeat refine ndD ?_
    refine callT_E ((congrArg (fun c => callP Try.prog 15 [.int .u8 c] (· = _)) ecl).mpr c1) rfl ?_
    refine callT_E ((congrArg (fun c => callP Try.prog 15 [.int .u8 c] (· = _)) ecr).mpr c2) rfl ?_
    repeat refine ndD ?_
    repeat refine stk ?_
    refine branch_f' (by rw [eon]; exact hon) ?_
    repeat refine stk ?_
    refine draw_tree (picks [0, 1, 2, 4, 5, 6] (.fork 3 7 (picks [7, 8, 9] .done) (picks [3, 8, 9] .done))) (by decide +kernel) ?_
    refine ⟨?_, ?_⟩
    · skip
      repeat refine stk ?_
      refine branch_f' (by rw [eon]; exact hon) ?_
      refine draw_tree (picks [0, 1, 2, 3, 4, 5, 6, 7, 8, 9, 10, 11, 12] .done) (by decide +kernel) ?_
      repeat refine stb ?_
      apply branch_intro <;> intro hb
      · have hb : d 6 = 2 := by simpa using hb
        have hs : sgV d (onB w) 5 = 0 := by unfold sgV; rw [hon]; simp [hb]
        show Eqv (.tuple [_, _]) (.tuple [dispA (newD d 5 (digV (w / 32 % 32)) (digV (w % 32)) (sgV d (onB w) 5)), _])
        rw [hs]
        exact .up (.up (.refl _))
      · have hb : ¬ d 6 = 2 := by simpa using hb
        have hs : sgV d (onB w) 5 = d 6 := by unfold sgV; rw [hon]; simp [hb]
        show Eqv (.tuple [_, _]) (.tuple [dispA (newD d 5 (digV (w / 32 % 32)) (digV (w % 32)) (sgV d (onB w) 5)), _])
        rw [hs]
        exact .up (.up (.refl _))
    · skip
      repeat refine stk ?_
      refine branch_f' (by rw [eon]; exact hon) ?_
      refine draw_tree (picks [0, 1, 2, 3, 4, 5, 6, 7, 8, 9, 10, 11, 12] .done) (by decide +kernel) ?_
      repeat refine stb ?_
      apply branch_intro <;> intro hb
      · have hb : d 6 = 2 := by simpa using hb
        have hs : sgV d (onB w) 5 = 0 := by unfold sgV; rw [hon]; simp [hb]
        show Eqv (.tuple [_, _]) (.tuple [dispA (newD d 5 (digV (w / 32 % 32)) (digV (w % 32)) (sgV d (onB w) 5)), _])
        rw [hs]
        exact .up (.up (.refl _))
      · have hb : ¬ d 6 = 2 := by simpa using hb
        have hs : sgV d (onB w) 5 = d 6 := by unfold sgV; rw [hon]; simp [hb]
        show Eqv (.tuple [_, _]) (.tuple [dispA (newD d 5 (digV (w / 32 % 32)) (digV (w % 32)) (sgV d (onB w) 5)), _])
        rw [hs]
        exact .up (.up (.refl _))
end Go.Proofs
