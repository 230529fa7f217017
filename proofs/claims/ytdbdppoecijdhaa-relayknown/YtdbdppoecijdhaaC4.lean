/- Chapter 27, part g: Apply, rows. -/
import Derived.Test.YtdbdppoecijdhaaC2
set_option linter.unusedVariables false
set_option linter.unusedSimpArgs false
/-! Ag. -/
namespace Go.Proofs
open Go.E
set_option maxRecDepth 8000

set_option maxHeartbeats 1000000 in
theorem apply_no6 {d : Nat → Int} (hd : WD d) (hm : mayB d = true) {w : Int} (h0 : 0 ≤ w) (h1 : w < 65536) (hr : w / 2048 % 16 = 7) (hf : fitW 6 w = false) : callP Try.prog 10 [dispA d, .int .u16 w] (· = .tuple [dispA (fun _ => 0), .int .i64 5]) := by
  by_cases hl : digN (w / 32 % 32) < 11
  · by_cases hq : digN (w % 32) < 11
    · exfalso
      unfold fitW at hf
      rw [decide_eq_true hl, decide_eq_true hq] at hf
      simp [hasS] at hf
    · skip
      have c1 : callP Try.prog 15 [.int .u8 (w / 32 % 32)] (· = .tuple [.int .u8 (digV (w / 32 % 32)), .int .i64 0]) := by
        have c := digit_c (w / 32 % 32)
        rw [digE_of, if_pos hl] at c
        exact c
      have c2 : callP Try.prog 15 [.int .u8 (w % 32)] (· = .tuple [.int .u8 (digV (w % 32)), .int .i64 2]) := by
        have c := digit_c (w % 32)
        rw [digE_of, if_neg hq] at c
        exact c
      have c := may_c hd
      rw [hm] at c
      have er := er_of h0 h1
      rw [hr] at er
      have el := el_of h0 h1
      have ecl := lc_of (w := w) h0
      have ecr := rc_of (w := w) h0
      have eon := on_of (w := w) h0
      refine callE_def env (fn := Try.f10) rfl (by decide) rfl ?_
      refine callT_E c rfl ?_
      repeat refine stb ?_
      repeat refine ndD ?_
      conv => whnf
      rw [er, el]
      repeat refine stk ?_
      refine callT_part [0, 2] rfl (table_c (d := d) (x := 10)) ?_
      rintro v H' ⟨rfl, rfl⟩ x G hx hG
      obtain rfl : x = tabA 0 2 := hx
      obtain rfl : G = [.cells (dcells d), .cells (dcells fun _ => 0), .cells [.int .u8 10], .cells (tabL 0 2)] := hG
      repeat refine ndD ?_
      refine callT_E ((congrArg (fun c => callP Try.prog 15 [.int .u8 c] (· = _)) ecl).mpr c1) rfl ?_
      refine callT_E ((congrArg (fun c => callP Try.prog 15 [.int .u8 c] (· = _)) ecr).mpr c2) rfl ?_
      repeat refine ndD ?_
      repeat refine stk ?_
      show Eqv _ _
      exact .up (.up (.refl _))
  · by_cases hq : digN (w % 32) < 11
    · skip
      have c1 : callP Try.prog 15 [.int .u8 (w / 32 % 32)] (· = .tuple [.int .u8 (digV (w / 32 % 32)), .int .i64 2]) := by
        have c := digit_c (w / 32 % 32)
        rw [digE_of, if_neg hl] at c
        exact c
      have c2 : callP Try.prog 15 [.int .u8 (w % 32)] (· = .tuple [.int .u8 (digV (w % 32)), .int .i64 0]) := by
        have c := digit_c (w % 32)
        rw [digE_of, if_pos hq] at c
        exact c
      have c := may_c hd
      rw [hm] at c
      have er := er_of h0 h1
      rw [hr] at er
      have el := el_of h0 h1
      have ecl := lc_of (w := w) h0
      have ecr := rc_of (w := w) h0
      have eon := on_of (w := w) h0
      refine callE_def env (fn := Try.f10) rfl (by decide) rfl ?_
      refine callT_E c rfl ?_
      repeat refine stb ?_
      repeat refine ndD ?_
      conv => whnf
      rw [er, el]
      repeat refine stk ?_
      refine callT_part [0, 2] rfl (table_c (d := d) (x := 10)) ?_
      rintro v H' ⟨rfl, rfl⟩ x G hx hG
      obtain rfl : x = tabA 0 2 := hx
      obtain rfl : G = [.cells (dcells d), .cells (dcells fun _ => 0), .cells [.int .u8 10], .cells (tabL 0 2)] := hG
      repeat refine ndD ?_
      refine callT_E ((congrArg (fun c => callP Try.prog 15 [.int .u8 c] (· = _)) ecl).mpr c1) rfl ?_
      refine callT_E ((congrArg (fun c => callP Try.prog 15 [.int .u8 c] (· = _)) ecr).mpr c2) rfl ?_
      repeat refine ndD ?_
      repeat refine stk ?_
      show Eqv _ _
      exact .up (.up (.refl _))
    · skip
      have c1 : callP Try.prog 15 [.int .u8 (w / 32 % 32)] (· = .tuple [.int .u8 (digV (w / 32 % 32)), .int .i64 2]) := by
        have c := digit_c (w / 32 % 32)
        rw [digE_of, if_neg hl] at c
        exact c
      have c2 : callP Try.prog 15 [.int .u8 (w % 32)] (· = .tuple [.int .u8 (digV (w % 32)), .int .i64 2]) := by
        have c := digit_c (w % 32)
        rw [digE_of, if_neg hq] at c
        exact c
      have c := may_c hd
      rw [hm] at c
      have er := er_of h0 h1
      rw [hr] at er
      have el := el_of h0 h1
      have ecl := lc_of (w := w) h0
      have ecr := rc_of (w := w) h0
      have eon := on_of (w := w) h0
      refine callE_def env (fn := Try.f10) rfl (by decide) rfl ?_
      refine callT_E c rfl ?_
      repeat refine stb ?_
      repeat refine ndD ?_
      conv => whnf
      rw [er, el]
      repeat refine stk ?_
      refine callT_part [0, 2] rfl (table_c (d := d) (x := 10)) ?_
      rintro v H' ⟨rfl, rfl⟩ x G hx hG
      obtain rfl : x = tabA 0 2 := hx
      obtain rfl : G = [.cells (dcells d), .cells (dcells fun _ => 0), .cells [.int .u8 10], .cells (tabL 0 2)] := hG
      repeat refine ndD ?_
      refine callT_E ((congrArg (fun c => callP Try.prog 15 [.int .u8 c] (· = _)) ecl).mpr c1) rfl ?_
      refine callT_E ((congrArg (fun c => callP Try.prog 15 [.int .u8 c] (· = _)) ecr).mpr c2) rfl ?_
      repeat refine ndD ?_
      repeat refine stk ?_
      show Eqv _ _
      exact .up (.up (.refl _))
set_option maxHeartbeats 2000000 in
theorem apply_ok6 {d : Nat → Int} (hd : WD d) (hm : mayB d = true) {w : Int} (h0 : 0 ≤ w) (h1 : w < 65536) (hr : w / 2048 % 16 = 7) (hf : fitW 6 w = true) : callP Try.prog 10 [dispA d, .int .u16 w] (· = .tuple [dispA (newD d 6 (digV (w / 32 % 32)) (digV (w % 32)) (sgV d (onB w) 6)), .int .i64 0]) := by
  unfold fitW at hf
  simp only [Bool.and_eq_true, decide_eq_true_eq] at hf
  obtain ⟨⟨⟨hl, hq⟩, hns⟩, h7⟩ := hf
  by_cases hon : onB w = true
  · skip
    have c1 : callP Try.prog 15 [.int .u8 (w / 32 % 32)] (· = .tuple [.int .u8 (digV (w / 32 % 32)), .int .i64 0]) := by
      have c := digit_c (w / 32 % 32)
      rw [digE_of, if_pos hl] at c
      exact c
    have c2 : callP Try.prog 15 [.int .u8 (w % 32)] (· = .tuple [.int .u8 (digV (w % 32)), .int .i64 0]) := by
      have c := digit_c (w % 32)
      rw [digE_of, if_pos hq] at c
      exact c
    have c := may_c hd
    rw [hm] at c
    have er := er_of h0 h1
    rw [hr] at er
    have el := el_of h0 h1
    have ecl := lc_of (w := w) h0
    have ecr := rc_of (w := w) h0
    have eon := on_of (w := w) h0
    refine callE_def env (fn := Try.f10) rfl (by decide) rfl ?_
    refine callT_E c rfl ?_
    repeat refine stb ?_
    repeat refine ndD ?_
    conv => whnf
    rw [er, el]
    repeat refine stk ?_
    refine callT_part [0, 2] rfl (table_c (d := d) (x := 10)) ?_
    rintro v H' ⟨rfl, rfl⟩ x G hx hG
    obtain rfl : x = tabA 0 2 := hx
    obtain rfl : G = [.cells (dcells d), .cells (dcells fun _ => 0), .cells [.int .u8 10], .cells (tabL 0 2)] := hG
    repeat refine ndD ?_
    refine callT_E ((congrArg (fun c => callP Try.prog 15 [.int .u8 c] (· = _)) ecl).mpr c1) rfl ?_
    refine callT_E ((congrArg (fun c => callP Try.prog 15 [.int .u8 c] (· = _)) ecr).mpr c2) rfl ?_
    repeat refine ndD ?_
    repeat refine stk ?_
    refine branch_t' (by rw [eon]; exact hon) ?_
    repeat refine stk ?_
    refine draw_tree (picks [0, 1, 2, 4, 5, 6] (.fork 3 7 (picks [7, 8, 9] .done) (picks [3, 8, 9] .done))) (by decide +kernel) ?_
    refine ⟨?_, ?_⟩
    · skip
      repeat refine stk ?_
      refine branch_t' (by rw [eon]; exact hon) ?_
      have hs : sgV d (onB w) 6 = 1 := by unfold sgV; rw [hon]; rfl
      show Eqv (.tuple [_, _]) (.tuple [dispA (newD d 6 (digV (w / 32 % 32)) (digV (w % 32)) (sgV d (onB w) 6)), _])
      rw [hs]
      exact .up (.up (.refl _))
    · skip
      repeat refine stk ?_
      refine branch_t' (by rw [eon]; exact hon) ?_
      have hs : sgV d (onB w) 6 = 1 := by unfold sgV; rw [hon]; rfl
      show Eqv (.tuple [_, _]) (.tuple [dispA (newD d 6 (digV (w / 32 % 32)) (digV (w % 32)) (sgV d (onB w) 6)), _])
      rw [hs]
      exact .up (.up (.refl _))
  · have hon := Bool.eq_false_iff.2 hon
    have c1 : callP Try.prog 15 [.int .u8 (w / 32 % 32)] (· = .tuple [.int .u8 (digV (w / 32 % 32)), .int .i64 0]) := by
      have c := digit_c (w / 32 % 32)
      rw [digE_of, if_pos hl] at c
      exact c
    have c2 : callP Try.prog 15 [.int .u8 (w % 32)] (· = .tuple [.int .u8 (digV (w % 32)), .int .i64 0]) := by
      have c := digit_c (w % 32)
      rw [digE_of, if_pos hq] at c
      exact c
    have c := may_c hd
    rw [hm] at c
    have er := er_of h0 h1
    rw [hr] at er
    have el := el_of h0 h1
    have ecl := lc_of (w := w) h0
    have ecr := rc_of (w := w) h0
    have eon := on_of (w := w) h0
    refine callE_def env (fn := Try.f10) rfl (by decide) rfl ?_
    refine callT_E c rfl ?_
    repeat refine stb ?_
    repeat refine ndD ?_
    conv => whnf
    rw [er, el]
    repeat refine stk ?_
    refine callT_part [0, 2] rfl (table_c (d := d) (x := 10)) ?_
    rintro v H' ⟨rfl, rfl⟩ x G hx hG
    obtain rfl : x = tabA 0 2 := hx
    obtain rfl : G = [.cells (dcells d), .cells (dcells fun _ => 0), .cells [.int .u8 10], .cells (tabL 0 2)] := hG
    repeat refine ndD ?_
    refine callT_E ((congrArg (fun c => callP Try.prog 15 [.int .u8 c] (· = _)) ecl).mpr c1) rfl ?_
    refine callT_E ((congrArg (fun c => callP Try.prog 15 [.int .u8 c] (· = _)) ecr).mpr c2) rfl ?_
    repeat refine ndD ?_
    repeat refine stk ?_
    refine branch_f' (by rw [eon]; exact hon) ?_
    repeat refine stk ?_
    refine draw_tree (picks [0, 1, 2, 4, 5, 6] (.fork 3 7 (picks [7, 8, 9] .done) (picks [3, 8, 9] .done))) (by decide +kernel) ?_
    refine ⟨?_, ?_⟩
    · skip
      repeat refine stk ?_
      refine branch_f' (by rw [eon]; exact hon) ?_
      refine draw_tree (picks [0, 1, 2, 3, 4, 5, 6, 7, 8, 9, 10, 11, 12] .done) (by decide +kernel) ?_
      repeat refine stb ?_
      apply branch_intro <;> intro hb
      · have hb : d 6 = 1 := by simpa using hb
        have hs : sgV d (onB w) 6 = 0 := by unfold sgV; rw [hon]; simp [hb]
        show Eqv (.tuple [_, _]) (.tuple [dispA (newD d 6 (digV (w / 32 % 32)) (digV (w % 32)) (sgV d (onB w) 6)), _])
        rw [hs]
        exact .up (.up (.refl _))
      · have hb : ¬ d 6 = 1 := by simpa using hb
        have hs : sgV d (onB w) 6 = d 6 := by unfold sgV; rw [hon]; simp [hb]
        show Eqv (.tuple [_, _]) (.tuple [dispA (newD d 6 (digV (w / 32 % 32)) (digV (w % 32)) (sgV d (onB w) 6)), _])
        rw [hs]
        exact .up (.up (.refl _))
    · skip
      repeat refine stk ?_
      refine branch_f' (by rw [eon]; exact hon) ?_
      refine draw_tree (picks [0, 1, 2, 3, 4, 5, 6, 7, 8, 9, 10, 11, 12] .done) (by decide +kernel) ?_
      repeat refine stb ?_
      apply branch_intro <;> intro hb
      · have hb : d 6 = 1 := by simpa using hb
        have hs : sgV d (onB w) 6 = 0 := by unfold sgV; rw [hon]; simp [hb]
        show Eqv (.tuple [_, _]) (.tuple [dispA (newD d 6 (digV (w / 32 % 32)) (digV (w % 32)) (sgV d (onB w) 6)), _])
        rw [hs]
        exact .up (.up (.refl _))
      · have hb : ¬ d 6 = 1 := by simpa using hb
        have hs : sgV d (onB w) 6 = d 6 := by unfold sgV; rw [hon]; simp [hb]
        show Eqv (.tuple [_, _]) (.tuple [dispA (newD d 6 (digV (w / 32 % 32)) (digV (w % 32)) (sgV d (onB w) 6)), _])
        rw [hs]
        exact .up (.up (.refl _))
set_option maxHeartbeats 1000000 in
theorem apply_no7 {d : Nat → Int} (hd : WD d) (hm : mayB d = true) {w : Int} (h0 : 0 ≤ w) (h1 : w < 65536) (hr : w / 2048 % 16 = 8) (hf : fitW 7 w = false) : callP Try.prog 10 [dispA d, .int .u16 w] (· = .tuple [dispA (fun _ => 0), .int .i64 5]) := by
  by_cases hl : digN (w / 32 % 32) < 11
  · by_cases hq : digN (w % 32) < 11
    · by_cases hon : onB w = true
      · skip
        have c1 : callP Try.prog 15 [.int .u8 (w / 32 % 32)] (· = .tuple [.int .u8 (digV (w / 32 % 32)), .int .i64 0]) := by
          have c := digit_c (w / 32 % 32)
          rw [digE_of, if_pos hl] at c
          exact c
        have c2 : callP Try.prog 15 [.int .u8 (w % 32)] (· = .tuple [.int .u8 (digV (w % 32)), .int .i64 0]) := by
          have c := digit_c (w % 32)
          rw [digE_of, if_pos hq] at c
          exact c
        have c := may_c hd
        rw [hm] at c
        have er := er_of h0 h1
        rw [hr] at er
        have el := el_of h0 h1
        have ecl := lc_of (w := w) h0
        have ecr := rc_of (w := w) h0
        have eon := on_of (w := w) h0
        refine callE_def env (fn := Try.f10) rfl (by decide) rfl ?_
        refine callT_E c rfl ?_
        repeat refine stb ?_
        repeat refine ndD ?_
        conv => whnf
        rw [er, el]
        repeat refine stk ?_
        refine callT_part [0, 2] rfl (table_c (d := d) (x := 10)) ?_
        rintro v H' ⟨rfl, rfl⟩ x G hx hG
        obtain rfl : x = tabA 0 2 := hx
        obtain rfl : G = [.cells (dcells d), .cells (dcells fun _ => 0), .cells [.int .u8 10], .cells (tabL 0 2)] := hG
        repeat refine ndD ?_
        refine callT_E ((congrArg (fun c => callP Try.prog 15 [.int .u8 c] (· = _)) ecl).mpr c1) rfl ?_
        refine callT_E ((congrArg (fun c => callP Try.prog 15 [.int .u8 c] (· = _)) ecr).mpr c2) rfl ?_
        repeat refine ndD ?_
        repeat refine stk ?_
        refine branch_t' (by rw [eon]; exact hon) ?_
        repeat refine stk ?_
        show Eqv _ _
        exact .up (.up (.refl _))
      · have hon := Bool.eq_false_iff.2 hon
        have h10 : digN (w / 32 % 32) ≠ 10 := by
          unfold fitW at hf
          rw [decide_eq_true hl, decide_eq_true hq, hon] at hf
          simpa [hasS] using hf
        have hv : (digV (w / 32 % 32) != 10) = true := by
          rw [digV_of hl, bne_iff_ne]
          omega
        have c1 : callP Try.prog 15 [.int .u8 (w / 32 % 32)] (· = .tuple [.int .u8 (digV (w / 32 % 32)), .int .i64 0]) := by
          have c := digit_c (w / 32 % 32)
          rw [digE_of, if_pos hl] at c
          exact c
        have c2 : callP Try.prog 15 [.int .u8 (w % 32)] (· = .tuple [.int .u8 (digV (w % 32)), .int .i64 0]) := by
          have c := digit_c (w % 32)
          rw [digE_of, if_pos hq] at c
          exact c
        have c := may_c hd
        rw [hm] at c
        have er := er_of h0 h1
        rw [hr] at er
        have el := el_of h0 h1
        have ecl := lc_of (w := w) h0
        have ecr := rc_of (w := w) h0
        have eon := on_of (w := w) h0
        refine callE_def env (fn := Try.f10) rfl (by decide) rfl ?_
        refine callT_E c rfl ?_
        repeat refine stb ?_
        repeat refine ndD ?_
        conv => whnf
        rw [er, el]
        repeat refine stk ?_
        refine callT_part [0, 2] rfl (table_c (d := d) (x := 10)) ?_
        rintro v H' ⟨rfl, rfl⟩ x G hx hG
        obtain rfl : x = tabA 0 2 := hx
        obtain rfl : G = [.cells (dcells d), .cells (dcells fun _ => 0), .cells [.int .u8 10], .cells (tabL 0 2)] := hG
        repeat refine ndD ?_
        refine callT_E ((congrArg (fun c => callP Try.prog 15 [.int .u8 c] (· = _)) ecl).mpr c1) rfl ?_
        refine callT_E ((congrArg (fun c => callP Try.prog 15 [.int .u8 c] (· = _)) ecr).mpr c2) rfl ?_
        repeat refine ndD ?_
        repeat refine stk ?_
        refine branch_f' (by rw [eon]; exact hon) ?_
        repeat refine stk ?_
        refine draw_tree (picks [0, 1, 2, 4, 5, 6] (.fork 3 7 (picks [7, 8, 9] .done) (picks [3, 8, 9] .done))) (by decide +kernel) ?_
        refine ⟨?_, ?_⟩
        · refine branch_t' hv ?_
          show Eqv _ _
          exact .up (.up (.refl _))
        · refine branch_t' hv ?_
          show Eqv _ _
          exact .up (.up (.refl _))
    · skip
      have c1 : callP Try.prog 15 [.int .u8 (w / 32 % 32)] (· = .tuple [.int .u8 (digV (w / 32 % 32)), .int .i64 0]) := by
        have c := digit_c (w / 32 % 32)
        rw [digE_of, if_pos hl] at c
        exact c
      have c2 : callP Try.prog 15 [.int .u8 (w % 32)] (· = .tuple [.int .u8 (digV (w % 32)), .int .i64 2]) := by
        have c := digit_c (w % 32)
        rw [digE_of, if_neg hq] at c
        exact c
      have c := may_c hd
      rw [hm] at c
      have er := er_of h0 h1
      rw [hr] at er
      have el := el_of h0 h1
      have ecl := lc_of (w := w) h0
      have ecr := rc_of (w := w) h0
      have eon := on_of (w := w) h0
      refine callE_def env (fn := Try.f10) rfl (by decide) rfl ?_
      refine callT_E c rfl ?_
      repeat refine stb ?_
      repeat refine ndD ?_
      conv => whnf
      rw [er, el]
      repeat refine stk ?_
      refine callT_part [0, 2] rfl (table_c (d := d) (x := 10)) ?_
      rintro v H' ⟨rfl, rfl⟩ x G hx hG
      obtain rfl : x = tabA 0 2 := hx
      obtain rfl : G = [.cells (dcells d), .cells (dcells fun _ => 0), .cells [.int .u8 10], .cells (tabL 0 2)] := hG
      repeat refine ndD ?_
      refine callT_E ((congrArg (fun c => callP Try.prog 15 [.int .u8 c] (· = _)) ecl).mpr c1) rfl ?_
      refine callT_E ((congrArg (fun c => callP Try.prog 15 [.int .u8 c] (· = _)) ecr).mpr c2) rfl ?_
      repeat refine ndD ?_
      repeat refine stk ?_
      show Eqv _ _
      exact .up (.up (.refl _))
  · by_cases hq : digN (w % 32) < 11
    · skip
      have c1 : callP Try.prog 15 [.int .u8 (w / 32 % 32)] (· = .tuple [.int .u8 (digV (w / 32 % 32)), .int .i64 2]) := by
        have c := digit_c (w / 32 % 32)
        rw [digE_of, if_neg hl] at c
        exact c
      have c2 : callP Try.prog 15 [.int .u8 (w % 32)] (· = .tuple [.int .u8 (digV (w % 32)), .int .i64 0]) := by
        have c := digit_c (w % 32)
        rw [digE_of, if_pos hq] at c
        exact c
      have c := may_c hd
      rw [hm] at c
      have er := er_of h0 h1
      rw [hr] at er
      have el := el_of h0 h1
      have ecl := lc_of (w := w) h0
      have ecr := rc_of (w := w) h0
      have eon := on_of (w := w) h0
      refine callE_def env (fn := Try.f10) rfl (by decide) rfl ?_
      refine callT_E c rfl ?_
      repeat refine stb ?_
      repeat refine ndD ?_
      conv => whnf
      rw [er, el]
      repeat refine stk ?_
      refine callT_part [0, 2] rfl (table_c (d := d) (x := 10)) ?_
      rintro v H' ⟨rfl, rfl⟩ x G hx hG
      obtain rfl : x = tabA 0 2 := hx
      obtain rfl : G = [.cells (dcells d), .cells (dcells fun _ => 0), .cells [.int .u8 10], .cells (tabL 0 2)] := hG
      repeat refine ndD ?_
      refine callT_E ((congrArg (fun c => callP Try.prog 15 [.int .u8 c] (· = _)) ecl).mpr c1) rfl ?_
      refine callT_E ((congrArg (fun c => callP Try.prog 15 [.int .u8 c] (· = _)) ecr).mpr c2) rfl ?_
      repeat refine ndD ?_
      repeat refine stk ?_
      show Eqv _ _
      exact .up (.up (.refl _))
    · skip
      have c1 : callP Try.prog 15 [.int .u8 (w / 32 % 32)] (· = .tuple [.int .u8 (digV (w / 32 % 32)), .int .i64 2]) := by
        have c := digit_c (w / 32 % 32)
        rw [digE_of, if_neg hl] at c
        exact c
      have c2 : callP Try.prog 15 [.int .u8 (w % 32)] (· = .tuple [.int .u8 (digV (w % 32)), .int .i64 2]) := by
        have c := digit_c (w % 32)
        rw [digE_of, if_neg hq] at c
        exact c
      have c := may_c hd
      rw [hm] at c
      have er := er_of h0 h1
      rw [hr] at er
      have el := el_of h0 h1
      have ecl := lc_of (w := w) h0
      have ecr := rc_of (w := w) h0
      have eon := on_of (w := w) h0
      refine callE_def env (fn := Try.f10) rfl (by decide) rfl ?_
      refine callT_E c rfl ?_
      repeat refine stb ?_
      repeat refine ndD ?_
      conv => whnf
      rw [er, el]
      repeat refine stk ?_
      refine callT_part [0, 2] rfl (table_c (d := d) (x := 10)) ?_
      rintro v H' ⟨rfl, rfl⟩ x G hx hG
      obtain rfl : x = tabA 0 2 := hx
      obtain rfl : G = [.cells (dcells d), .cells (dcells fun _ => 0), .cells [.int .u8 10], .cells (tabL 0 2)] := hG
      repeat refine ndD ?_
      refine callT_E ((congrArg (fun c => callP Try.prog 15 [.int .u8 c] (· = _)) ecl).mpr c1) rfl ?_
      refine callT_E ((congrArg (fun c => callP Try.prog 15 [.int .u8 c] (· = _)) ecr).mpr c2) rfl ?_
      repeat refine ndD ?_
      repeat refine stk ?_
      show Eqv _ _
      exact .up (.up (.refl _))
set_option maxHeartbeats 2000000 in
theorem apply_ok7 {d : Nat → Int} (hd : WD d) (hm : mayB d = true) {w : Int} (h0 : 0 ≤ w) (h1 : w < 65536) (hr : w / 2048 % 16 = 8) (hf : fitW 7 w = true) : callP Try.prog 10 [dispA d, .int .u16 w] (· = .tuple [dispA (newD d 7 (digV (w / 32 % 32)) (digV (w % 32)) (sgV d (onB w) 7)), .int .i64 0]) := by
  unfold fitW at hf
  simp only [Bool.and_eq_true, decide_eq_true_eq] at hf
  obtain ⟨⟨⟨hl, hq⟩, hns⟩, h7⟩ := hf
  have hv : (digV (w / 32 % 32) != 10) = false := by
    rw [digV_of hl]
    simp at h7
    rw [h7]
    rfl
  have hon : onB w = false := by simpa [hasS] using hns
  have c1 : callP Try.prog 15 [.int .u8 (w / 32 % 32)] (· = .tuple [.int .u8 (digV (w / 32 % 32)), .int .i64 0]) := by
    have c := digit_c (w / 32 % 32)
    rw [digE_of, if_pos hl] at c
    exact c
  have c2 : callP Try.prog 15 [.int .u8 (w % 32)] (· = .tuple [.int .u8 (digV (w % 32)), .int .i64 0]) := by
    have c := digit_c (w % 32)
    rw [digE_of, if_pos hq] at c
    exact c
  have c := may_c hd
  rw [hm] at c
  have er := er_of h0 h1
  rw [hr] at er
  have el := el_of h0 h1
  have ecl := lc_of (w := w) h0
  have ecr := rc_of (w := w) h0
  have eon := on_of (w := w) h0
  refine callE_def env (fn := Try.f10) rfl (by decide) rfl ?_
  refine callT_E c rfl ?_
  repeat refine stb ?_
  repeat refine ndD ?_
  conv => whnf
  rw [er, el]
  repeat refine stk ?_
  refine callT_part [0, 2] rfl (table_c (d := d) (x := 10)) ?_
  rintro v H' ⟨rfl, rfl⟩ x G hx hG
  obtain rfl : x = tabA 0 2 := hx
  obtain rfl : G = [.cells (dcells d), .cells (dcells fun _ => 0), .cells [.int .u8 10], .cells (tabL 0 2)] := hG
  repeat refine ndD ?_
  refine callT_E ((congrArg (fun c => callP Try.prog 15 [.int .u8 c] (· = _)) ecl).mpr c1) rfl ?_
  refine callT_E ((congrArg (fun c => callP Try.prog 15 [.int .u8 c] (· = _)) ecr).mpr c2) rfl ?_
  repeat refine ndD ?_
  repeat refine stk ?_
  refine branch_f' (by rw [eon]; exact hon) ?_
  repeat refine stk ?_
  refine draw_tree (picks [0, 1, 2, 4, 5, 6] (.fork 3 7 (picks [7, 8, 9] .done) (picks [3, 8, 9] .done))) (by decide +kernel) ?_
  refine ⟨?_, ?_⟩
  · skip
    refine branch_f' hv ?_
    repeat refine stk ?_
    refine branch_f' (by rw [eon]; exact hon) ?_
    refine draw_tree (picks [0, 1, 2, 3, 4, 5, 6, 7, 8, 9, 10, 11, 12] .done) (by decide +kernel) ?_
    repeat refine stb ?_
    show Eqv _ _
    exact .up (.up (.refl _))
  · skip
    refine branch_f' hv ?_
    repeat refine stk ?_
    refine branch_f' (by rw [eon]; exact hon) ?_
    refine draw_tree (picks [0, 1, 2, 3, 4, 5, 6, 7, 8, 9, 10, 11, 12] .done) (by decide +kernel) ?_
    repeat refine stb ?_
    show Eqv _ _
    exact .up (.up (.refl _))
end Go.Proofs
/-! Ah. -/
namespace Go.Proofs
open Go.E
set_option maxRecDepth 8000

set_option maxHeartbeats 1000000 in
theorem apply_no8 {d : Nat → Int} (hd : WD d) (hm : mayB d = true) {w : Int} (h0 : 0 ≤ w) (h1 : w < 65536) (hr : w / 2048 % 16 = 9) (hf : fitW 8 w = false) : callP Try.prog 10 [dispA d, .int .u16 w] (· = .tuple [dispA (fun _ => 0), .int .i64 5]) := by
  by_cases hl : digN (w / 32 % 32) < 11
  · by_cases hq : digN (w % 32) < 11
    · have hon : onB w = true := by
        unfold fitW at hf
        rw [decide_eq_true hl, decide_eq_true hq] at hf
        simpa [hasS] using hf
      have c1 : callP Try.prog 15 [.int .u8 (w / 32 % 32)] (· = .tuple [.int .u8 (digV (w / 32 % 32)), .int .i64 0]) := by
        have c := digit_c (w / 32 % 32)
        rw [digE_of, if_pos hl] at c
        exact c
      have c2 : callP Try.prog 15 [.int .u8 (w % 32)] (· = .tuple [.int .u8 (digV (w % 32)), .int .i64 0]) := by
        have c := digit_c (w % 32)
        rw [digE_of, if_pos hq] at c
        exact c
      have c := may_c hd
      rw [hm] at c
      have er := er_of h0 h1
      rw [hr] at er
      have el := el_of h0 h1
      have ecl := lc_of (w := w) h0
      have ecr := rc_of (w := w) h0
      have eon := on_of (w := w) h0
      refine callE_def env (fn := Try.f10) rfl (by decide) rfl ?_
      refine callT_E c rfl ?_
      repeat refine stb ?_
      repeat refine ndD ?_
      conv => whnf
      rw [er, el]
      repeat refine stk ?_
      refine callT_part [0, 2] rfl (table_c (d := d) (x := 10)) ?_
      rintro v H' ⟨rfl, rfl⟩ x G hx hG
      obtain rfl : x = tabA 0 2 := hx
      obtain rfl : G = [.cells (dcells d), .cells (dcells fun _ => 0), .cells [.int .u8 10], .cells (tabL 0 2)] := hG
      repeat refine ndD ?_
      refine callT_E ((congrArg (fun c => callP Try.prog 15 [.int .u8 c] (· = _)) ecl).mpr c1) rfl ?_
      refine callT_E ((congrArg (fun c => callP Try.prog 15 [.int .u8 c] (· = _)) ecr).mpr c2) rfl ?_
      repeat refine ndD ?_
      repeat refine stk ?_
      refine branch_t' (by rw [eon]; exact hon) ?_
      repeat refine stk ?_
      show Eqv _ _
      exact .up (.up (.refl _))
    · skip
      have c1 : callP Try.prog 15 [.int .u8 (w / 32 % 32)] (· = .tuple [.int .u8 (digV (w / 32 % 32)), .int .i64 0]) := by
        have c := digit_c (w / 32 % 32)
        rw [digE_of, if_pos hl] at c
        exact c
      have c2 : callP Try.prog 15 [.int .u8 (w % 32)] (· = .tuple [.int .u8 (digV (w % 32)), .int .i64 2]) := by
        have c := digit_c (w % 32)
        rw [digE_of, if_neg hq] at c
        exact c
      have c := may_c hd
      rw [hm] at c
      have er := er_of h0 h1
      rw [hr] at er
      have el := el_of h0 h1
      have ecl := lc_of (w := w) h0
      have ecr := rc_of (w := w) h0
      have eon := on_of (w := w) h0
      refine callE_def env (fn := Try.f10) rfl (by decide) rfl ?_
      refine callT_E c rfl ?_
      repeat refine stb ?_
      repeat refine ndD ?_
      conv => whnf
      rw [er, el]
      repeat refine stk ?_
      refine callT_part [0, 2] rfl (table_c (d := d) (x := 10)) ?_
      rintro v H' ⟨rfl, rfl⟩ x G hx hG
      obtain rfl : x = tabA 0 2 := hx
      obtain rfl : G = [.cells (dcells d), .cells (dcells fun _ => 0), .cells [.int .u8 10], .cells (tabL 0 2)] := hG
      repeat refine ndD ?_
      refine callT_E ((congrArg (fun c => callP Try.prog 15 [.int .u8 c] (· = _)) ecl).mpr c1) rfl ?_
      refine callT_E ((congrArg (fun c => callP Try.prog 15 [.int .u8 c] (· = _)) ecr).mpr c2) rfl ?_
      repeat refine ndD ?_
      repeat refine stk ?_
      show Eqv _ _
      exact .up (.up (.refl _))
  · by_cases hq : digN (w % 32) < 11
    · skip
      have c1 : callP Try.prog 15 [.int .u8 (w / 32 % 32)] (· = .tuple [.int .u8 (digV (w / 32 % 32)), .int .i64 2]) := by
        have c := digit_c (w / 32 % 32)
        rw [digE_of, if_neg hl] at c
        exact c
      have c2 : callP Try.prog 15 [.int .u8 (w % 32)] (· = .tuple [.int .u8 (digV (w % 32)), .int .i64 0]) := by
        have c := digit_c (w % 32)
        rw [digE_of, if_pos hq] at c
        exact c
      have c := may_c hd
      rw [hm] at c
      have er := er_of h0 h1
      rw [hr] at er
      have el := el_of h0 h1
      have ecl := lc_of (w := w) h0
      have ecr := rc_of (w := w) h0
      have eon := on_of (w := w) h0
      refine callE_def env (fn := Try.f10) rfl (by decide) rfl ?_
      refine callT_E c rfl ?_
      repeat refine stb ?_
      repeat refine ndD ?_
      conv => whnf
      rw [er, el]
      repeat refine stk ?_
      refine callT_part [0, 2] rfl (table_c (d := d) (x := 10)) ?_
      rintro v H' ⟨rfl, rfl⟩ x G hx hG
      obtain rfl : x = tabA 0 2 := hx
      obtain rfl : G = [.cells (dcells d), .cells (dcells fun _ => 0), .cells [.int .u8 10], .cells (tabL 0 2)] := hG
      repeat refine ndD ?_
      refine callT_E ((congrArg (fun c => callP Try.prog 15 [.int .u8 c] (· = _)) ecl).mpr c1) rfl ?_
      refine callT_E ((congrArg (fun c => callP Try.prog 15 [.int .u8 c] (· = _)) ecr).mpr c2) rfl ?_
      repeat refine ndD ?_
      repeat refine stk ?_
      show Eqv _ _
      exact .up (.up (.refl _))
    · skip
      have c1 : callP Try.prog 15 [.int .u8 (w / 32 % 32)] (· = .tuple [.int .u8 (digV (w / 32 % 32)), .int .i64 2]) := by
        have c := digit_c (w / 32 % 32)
        rw [digE_of, if_neg hl] at c
        exact c
      have c2 : callP Try.prog 15 [.int .u8 (w % 32)] (· = .tuple [.int .u8 (digV (w % 32)), .int .i64 2]) := by
        have c := digit_c (w % 32)
        rw [digE_of, if_neg hq] at c
        exact c
      have c := may_c hd
      rw [hm] at c
      have er := er_of h0 h1
      rw [hr] at er
      have el := el_of h0 h1
      have ecl := lc_of (w := w) h0
      have ecr := rc_of (w := w) h0
      have eon := on_of (w := w) h0
      refine callE_def env (fn := Try.f10) rfl (by decide) rfl ?_
      refine callT_E c rfl ?_
      repeat refine stb ?_
      repeat refine ndD ?_
      conv => whnf
      rw [er, el]
      repeat refine stk ?_
      refine callT_part [0, 2] rfl (table_c (d := d) (x := 10)) ?_
      rintro v H' ⟨rfl, rfl⟩ x G hx hG
      obtain rfl : x = tabA 0 2 := hx
      obtain rfl : G = [.cells (dcells d), .cells (dcells fun _ => 0), .cells [.int .u8 10], .cells (tabL 0 2)] := hG
      repeat refine ndD ?_
      refine callT_E ((congrArg (fun c => callP Try.prog 15 [.int .u8 c] (· = _)) ecl).mpr c1) rfl ?_
      refine callT_E ((congrArg (fun c => callP Try.prog 15 [.int .u8 c] (· = _)) ecr).mpr c2) rfl ?_
      repeat refine ndD ?_
      repeat refine stk ?_
      show Eqv _ _
      exact .up (.up (.refl _))
set_option maxHeartbeats 2000000 in
theorem apply_ok8 {d : Nat → Int} (hd : WD d) (hm : mayB d = true) {w : Int} (h0 : 0 ≤ w) (h1 : w < 65536) (hr : w / 2048 % 16 = 9) (hf : fitW 8 w = true) : callP Try.prog 10 [dispA d, .int .u16 w] (· = .tuple [dispA (newD d 8 (digV (w / 32 % 32)) (digV (w % 32)) (sgV d (onB w) 8)), .int .i64 0]) := by
  unfold fitW at hf
  simp only [Bool.and_eq_true, decide_eq_true_eq] at hf
  obtain ⟨⟨⟨hl, hq⟩, hns⟩, h7⟩ := hf
  have hon : onB w = false := by simpa [hasS] using hns
  have c1 : callP Try.prog 15 [.int .u8 (w / 32 % 32)] (· = .tuple [.int .u8 (digV (w / 32 % 32)), .int .i64 0]) := by
    have c := digit_c (w / 32 % 32)
    rw [digE_of, if_pos hl] at c
    exact c
  have c2 : callP Try.prog 15 [.int .u8 (w % 32)] (· = .tuple [.int .u8 (digV (w % 32)), .int .i64 0]) := by
    have c := digit_c (w % 32)
    rw [digE_of, if_pos hq] at c
    exact c
  have c := may_c hd
  rw [hm] at c
  have er := er_of h0 h1
  rw [hr] at er
  have el := el_of h0 h1
  have ecl := lc_of (w := w) h0
  have ecr := rc_of (w := w) h0
  have eon := on_of (w := w) h0
  refine callE_def env (fn := Try.f10) rfl (by decide) rfl ?_
  refine callT_E c rfl ?_
  repeat refine stb ?_
  repeat refine ndD ?_
  conv => whnf
  rw [er, el]
  repeat refine stk ?_
  refine callT_part [0, 2] rfl (table_c (d := d) (x := 10)) ?_
  rintro v H' ⟨rfl, rfl⟩ x G hx hG
  obtain rfl : x = tabA 0 2 := hx
  obtain rfl : G = [.cells (dcells d), .cells (dcells fun _ => 0), .cells [.int .u8 10], .cells (tabL 0 2)] := hG
  repeat refine ndD ?_
  refine callT_E ((congrArg (fun c => callP Try.prog 15 [.int .u8 c] (· = _)) ecl).mpr c1) rfl ?_
  refine callT_E ((congrArg (fun c => callP Try.prog 15 [.int .u8 c] (· = _)) ecr).mpr c2) rfl ?_
  repeat refine ndD ?_
  repeat refine stk ?_
  refine branch_f' (by rw [eon]; exact hon) ?_
  repeat refine stk ?_
  refine draw_tree (picks [0, 1, 2, 4, 5, 6] (.fork 3 7 (picks [7, 8, 9] .done) (picks [3, 8, 9] .done))) (by decide +kernel) ?_
  refine ⟨?_, ?_⟩
  · skip
    repeat refine stk ?_
    refine branch_f' (by rw [eon]; exact hon) ?_
    refine draw_tree (picks [0, 1, 2, 3, 4, 5, 6, 7, 8, 9, 10, 11, 12] .done) (by decide +kernel) ?_
    repeat refine stb ?_
    show Eqv _ _
    exact .up (.up (.refl _))
  · skip
    repeat refine stk ?_
    refine branch_f' (by rw [eon]; exact hon) ?_
    refine draw_tree (picks [0, 1, 2, 3, 4, 5, 6, 7, 8, 9, 10, 11, 12] .done) (by decide +kernel) ?_
    repeat refine stb ?_
    show Eqv _ _
    exact .up (.up (.refl _))
set_option maxHeartbeats 1000000 in
theorem apply_no9 {d : Nat → Int} (hd : WD d) (hm : mayB d = true) {w : Int} (h0 : 0 ≤ w) (h1 : w < 65536) (hr : w / 2048 % 16 = 10) (hf : fitW 9 w = false) : callP Try.prog 10 [dispA d, .int .u16 w] (· = .tuple [dispA (fun _ => 0), .int .i64 5]) := by
  by_cases hl : digN (w / 32 % 32) < 11
  · by_cases hq : digN (w % 32) < 11
    · have hon : onB w = true := by
        unfold fitW at hf
        rw [decide_eq_true hl, decide_eq_true hq] at hf
        simpa [hasS] using hf
      have c1 : callP Try.prog 15 [.int .u8 (w / 32 % 32)] (· = .tuple [.int .u8 (digV (w / 32 % 32)), .int .i64 0]) := by
        have c := digit_c (w / 32 % 32)
        rw [digE_of, if_pos hl] at c
        exact c
      have c2 : callP Try.prog 15 [.int .u8 (w % 32)] (· = .tuple [.int .u8 (digV (w % 32)), .int .i64 0]) := by
        have c := digit_c (w % 32)
        rw [digE_of, if_pos hq] at c
        exact c
      have c := may_c hd
      rw [hm] at c
      have er := er_of h0 h1
      rw [hr] at er
      have el := el_of h0 h1
      have ecl := lc_of (w := w) h0
      have ecr := rc_of (w := w) h0
      have eon := on_of (w := w) h0
      refine callE_def env (fn := Try.f10) rfl (by decide) rfl ?_
      refine callT_E c rfl ?_
      repeat refine stb ?_
      repeat refine ndD ?_
      conv => whnf
      rw [er, el]
      repeat refine stk ?_
      refine callT_part [0, 2] rfl (table_c (d := d) (x := 10)) ?_
      rintro v H' ⟨rfl, rfl⟩ x G hx hG
      obtain rfl : x = tabA 0 2 := hx
      obtain rfl : G = [.cells (dcells d), .cells (dcells fun _ => 0), .cells [.int .u8 10], .cells (tabL 0 2)] := hG
      repeat refine ndD ?_
      refine callT_E ((congrArg (fun c => callP Try.prog 15 [.int .u8 c] (· = _)) ecl).mpr c1) rfl ?_
      refine callT_E ((congrArg (fun c => callP Try.prog 15 [.int .u8 c] (· = _)) ecr).mpr c2) rfl ?_
      repeat refine ndD ?_
      repeat refine stk ?_
      refine branch_t' (by rw [eon]; exact hon) ?_
      repeat refine stk ?_
      show Eqv _ _
      exact .up (.up (.refl _))
    · skip
      have c1 : callP Try.prog 15 [.int .u8 (w / 32 % 32)] (· = .tuple [.int .u8 (digV (w / 32 % 32)), .int .i64 0]) := by
        have c := digit_c (w / 32 % 32)
        rw [digE_of, if_pos hl] at c
        exact c
      have c2 : callP Try.prog 15 [.int .u8 (w % 32)] (· = .tuple [.int .u8 (digV (w % 32)), .int .i64 2]) := by
        have c := digit_c (w % 32)
        rw [digE_of, if_neg hq] at c
        exact c
      have c := may_c hd
      rw [hm] at c
      have er := er_of h0 h1
      rw [hr] at er
      have el := el_of h0 h1
      have ecl := lc_of (w := w) h0
      have ecr := rc_of (w := w) h0
      have eon := on_of (w := w) h0
      refine callE_def env (fn := Try.f10) rfl (by decide) rfl ?_
      refine callT_E c rfl ?_
      repeat refine stb ?_
      repeat refine ndD ?_
      conv => whnf
      rw [er, el]
      repeat refine stk ?_
      refine callT_part [0, 2] rfl (table_c (d := d) (x := 10)) ?_
      rintro v H' ⟨rfl, rfl⟩ x G hx hG
      obtain rfl : x = tabA 0 2 := hx
      obtain rfl : G = [.cells (dcells d), .cells (dcells fun _ => 0), .cells [.int .u8 10], .cells (tabL 0 2)] := hG
      repeat refine ndD ?_
      refine callT_E ((congrArg (fun c => callP Try.prog 15 [.int .u8 c] (· = _)) ecl).mpr c1) rfl ?_
      refine callT_E ((congrArg (fun c => callP Try.prog 15 [.int .u8 c] (· = _)) ecr).mpr c2) rfl ?_
      repeat refine ndD ?_
      repeat refine stk ?_
      show Eqv _ _
      exact .up (.up (.refl _))
  · by_cases hq : digN (w % 32) < 11
    · skip
      have c1 : callP Try.prog 15 [.int .u8 (w / 32 % 32)] (· = .tuple [.int .u8 (digV (w / 32 % 32)), .int .i64 2]) := by
        have c := digit_c (w / 32 % 32)
        rw [digE_of, if_neg hl] at c
        exact c
      have c2 : callP Try.prog 15 [.int .u8 (w % 32)] (· = .tuple [.int .u8 (digV (w % 32)), .int .i64 0]) := by
        have c := digit_c (w % 32)
        rw [digE_of, if_pos hq] at c
        exact c
      have c := may_c hd
      rw [hm] at c
      have er := er_of h0 h1
      rw [hr] at er
      have el := el_of h0 h1
      have ecl := lc_of (w := w) h0
      have ecr := rc_of (w := w) h0
      have eon := on_of (w := w) h0
      refine callE_def env (fn := Try.f10) rfl (by decide) rfl ?_
      refine callT_E c rfl ?_
      repeat refine stb ?_
      repeat refine ndD ?_
      conv => whnf
      rw [er, el]
      repeat refine stk ?_
      refine callT_part [0, 2] rfl (table_c (d := d) (x := 10)) ?_
      rintro v H' ⟨rfl, rfl⟩ x G hx hG
      obtain rfl : x = tabA 0 2 := hx
      obtain rfl : G = [.cells (dcells d), .cells (dcells fun _ => 0), .cells [.int .u8 10], .cells (tabL 0 2)] := hG
      repeat refine ndD ?_
      refine callT_E ((congrArg (fun c => callP Try.prog 15 [.int .u8 c] (· = _)) ecl).mpr c1) rfl ?_
      refine callT_E ((congrArg (fun c => callP Try.prog 15 [.int .u8 c] (· = _)) ecr).mpr c2) rfl ?_
      repeat refine ndD ?_
      repeat refine stk ?_
      show Eqv _ _
      exact .up (.up (.refl _))
    · skip
      have c1 : callP Try.prog 15 [.int .u8 (w / 32 % 32)] (· = .tuple [.int .u8 (digV (w / 32 % 32)), .int .i64 2]) := by
        have c := digit_c (w / 32 % 32)
        rw [digE_of, if_neg hl] at c
        exact c
      have c2 : callP Try.prog 15 [.int .u8 (w % 32)] (· = .tuple [.int .u8 (digV (w % 32)), .int .i64 2]) := by
        have c := digit_c (w % 32)
        rw [digE_of, if_neg hq] at c
        exact c
      have c := may_c hd
      rw [hm] at c
      have er := er_of h0 h1
      rw [hr] at er
      have el := el_of h0 h1
      have ecl := lc_of (w := w) h0
      have ecr := rc_of (w := w) h0
      have eon := on_of (w := w) h0
      refine callE_def env (fn := Try.f10) rfl (by decide) rfl ?_
      refine callT_E c rfl ?_
      repeat refine stb ?_
      repeat refine ndD ?_
      conv => whnf
      rw [er, el]
      repeat refine stk ?_
      refine callT_part [0, 2] rfl (table_c (d := d) (x := 10)) ?_
      rintro v H' ⟨rfl, rfl⟩ x G hx hG
      obtain rfl : x = tabA 0 2 := hx
      obtain rfl : G = [.cells (dcells d), .cells (dcells fun _ => 0), .cells [.int .u8 10], .cells (tabL 0 2)] := hG
      repeat refine ndD ?_
      refine callT_E ((congrArg (fun c => callP Try.prog 15 [.int .u8 c] (· = _)) ecl).mpr c1) rfl ?_
      refine callT_E ((congrArg (fun c => callP Try.prog 15 [.int .u8 c] (· = _)) ecr).mpr c2) rfl ?_
      repeat refine ndD ?_
      repeat refine stk ?_
      show Eqv _ _
      exact .up (.up (.refl _))
set_option maxHeartbeats 2000000 in
theorem apply_ok9 {d : Nat → Int} (hd : WD d) (hm : mayB d = true) {w : Int} (h0 : 0 ≤ w) (h1 : w < 65536) (hr : w / 2048 % 16 = 10) (hf : fitW 9 w = true) : callP Try.prog 10 [dispA d, .int .u16 w] (· = .tuple [dispA (newD d 9 (digV (w / 32 % 32)) (digV (w % 32)) (sgV d (onB w) 9)), .int .i64 0]) := by
  unfold fitW at hf
  simp only [Bool.and_eq_true, decide_eq_true_eq] at hf
  obtain ⟨⟨⟨hl, hq⟩, hns⟩, h7⟩ := hf
  have hon : onB w = false := by simpa [hasS] using hns
  have c1 : callP Try.prog 15 [.int .u8 (w / 32 % 32)] (· = .tuple [.int .u8 (digV (w / 32 % 32)), .int .i64 0]) := by
    have c := digit_c (w / 32 % 32)
    rw [digE_of, if_pos hl] at c
    exact c
  have c2 : callP Try.prog 15 [.int .u8 (w % 32)] (· = .tuple [.int .u8 (digV (w % 32)), .int .i64 0]) := by
    have c := digit_c (w % 32)
    rw [digE_of, if_pos hq] at c
    exact c
  have c := may_c hd
  rw [hm] at c
  have er := er_of h0 h1
  rw [hr] at er
  have el := el_of h0 h1
  have ecl := lc_of (w := w) h0
  have ecr := rc_of (w := w) h0
  have eon := on_of (w := w) h0
  refine callE_def env (fn := Try.f10) rfl (by decide) rfl ?_
  refine callT_E c rfl ?_
  repeat refine stb ?_
  repeat refine ndD ?_
  conv => whnf
  rw [er, el]
  repeat refine stk ?_
  refine callT_part [0, 2] rfl (table_c (d := d) (x := 10)) ?_
  rintro v H' ⟨rfl, rfl⟩ x G hx hG
  obtain rfl : x = tabA 0 2 := hx
  obtain rfl : G = [.cells (dcells d), .cells (dcells fun _ => 0), .cells [.int .u8 10], .cells (tabL 0 2)] := hG
  repeat refine ndD ?_
  refine callT_E ((congrArg (fun c => callP Try.prog 15 [.int .u8 c] (· = _)) ecl).mpr c1) rfl ?_
  refine callT_E ((congrArg (fun c => callP Try.prog 15 [.int .u8 c] (· = _)) ecr).mpr c2) rfl ?_
  repeat refine ndD ?_
  repeat refine stk ?_
  refine branch_f' (by rw [eon]; exact hon) ?_
  repeat refine stk ?_
  refine draw_tree (picks [0, 1, 2, 4, 5, 6] (.fork 3 7 (picks [7, 8, 9] .done) (picks [3, 8, 9] .done))) (by decide +kernel) ?_
  refine ⟨?_, ?_⟩
  · skip
    repeat refine stk ?_
    refine branch_f' (by rw [eon]; exact hon) ?_
    refine draw_tree (picks [0, 1, 2, 3, 4, 5, 6, 7, 8, 9, 10, 11, 12] .done) (by decide +kernel) ?_
    repeat refine stb ?_
    show Eqv _ _
    exact .up (.up (.refl _))
  · skip
    repeat refine stk ?_
    refine branch_f' (by rw [eon]; exact hon) ?_
    refine draw_tree (picks [0, 1, 2, 3, 4, 5, 6, 7, 8, 9, 10, 11, 12] .done) (by decide +kernel) ?_
    repeat refine stb ?_
    show Eqv _ _
    exact .up (.up (.refl _))
set_option maxHeartbeats 1000000 in
theorem apply_no10 {d : Nat → Int} (hd : WD d) (hm : mayB d = true) {w : Int} (h0 : 0 ≤ w) (h1 : w < 65536) (hr : w / 2048 % 16 = 11) (hf : fitW 10 w = false) : callP Try.prog 10 [dispA d, .int .u16 w] (· = .tuple [dispA (fun _ => 0), .int .i64 5]) := by
  by_cases hl : digN (w / 32 % 32) < 11
  · by_cases hq : digN (w % 32) < 11
    · have hon : onB w = true := by
        unfold fitW at hf
        rw [decide_eq_true hl, decide_eq_true hq] at hf
        simpa [hasS] using hf
      have c1 : callP Try.prog 15 [.int .u8 (w / 32 % 32)] (· = .tuple [.int .u8 (digV (w / 32 % 32)), .int .i64 0]) := by
        have c := digit_c (w / 32 % 32)
        rw [digE_of, if_pos hl] at c
        exact c
      have c2 : callP Try.prog 15 [.int .u8 (w % 32)] (· = .tuple [.int .u8 (digV (w % 32)), .int .i64 0]) := by
        have c := digit_c (w % 32)
        rw [digE_of, if_pos hq] at c
        exact c
      have c := may_c hd
      rw [hm] at c
      have er := er_of h0 h1
      rw [hr] at er
      have el := el_of h0 h1
      have ecl := lc_of (w := w) h0
      have ecr := rc_of (w := w) h0
      have eon := on_of (w := w) h0
      refine callE_def env (fn := Try.f10) rfl (by decide) rfl ?_
      refine callT_E c rfl ?_
      repeat refine stb ?_
      repeat refine ndD ?_
      conv => whnf
      rw [er, el]
      repeat refine stk ?_
      refine callT_part [0, 2] rfl (table_c (d := d) (x := 10)) ?_
      rintro v H' ⟨rfl, rfl⟩ x G hx hG
      obtain rfl : x = tabA 0 2 := hx
      obtain rfl : G = [.cells (dcells d), .cells (dcells fun _ => 0), .cells [.int .u8 10], .cells (tabL 0 2)] := hG
      repeat refine ndD ?_
      refine callT_E ((congrArg (fun c => callP Try.prog 15 [.int .u8 c] (· = _)) ecl).mpr c1) rfl ?_
      refine callT_E ((congrArg (fun c => callP Try.prog 15 [.int .u8 c] (· = _)) ecr).mpr c2) rfl ?_
      repeat refine ndD ?_
      repeat refine stk ?_
      refine branch_t' (by rw [eon]; exact hon) ?_
      repeat refine stk ?_
      show Eqv _ _
      exact .up (.up (.refl _))
    · skip
      have c1 : callP Try.prog 15 [.int .u8 (w / 32 % 32)] (· = .tuple [.int .u8 (digV (w / 32 % 32)), .int .i64 0]) := by
        have c := digit_c (w / 32 % 32)
        rw [digE_of, if_pos hl] at c
        exact c
      have c2 : callP Try.prog 15 [.int .u8 (w % 32)] (· = .tuple [.int .u8 (digV (w % 32)), .int .i64 2]) := by
        have c := digit_c (w % 32)
        rw [digE_of, if_neg hq] at c
        exact c
      have c := may_c hd
      rw [hm] at c
      have er := er_of h0 h1
      rw [hr] at er
      have el := el_of h0 h1
      have ecl := lc_of (w := w) h0
      have ecr := rc_of (w := w) h0
      have eon := on_of (w := w) h0
      refine callE_def env (fn := Try.f10) rfl (by decide) rfl ?_
      refine callT_E c rfl ?_
      repeat refine stb ?_
      repeat refine ndD ?_
      conv => whnf
      rw [er, el]
      repeat refine stk ?_
      refine callT_part [0, 2] rfl (table_c (d := d) (x := 10)) ?_
      rintro v H' ⟨rfl, rfl⟩ x G hx hG
      obtain rfl : x = tabA 0 2 := hx
      obtain rfl : G = [.cells (dcells d), .cells (dcells fun _ => 0), .cells [.int .u8 10], .cells (tabL 0 2)] := hG
      repeat refine ndD ?_
      refine callT_E ((congrArg (fun c => callP Try.prog 15 [.int .u8 c] (· = _)) ecl).mpr c1) rfl ?_
      refine callT_E ((congrArg (fun c => callP Try.prog 15 [.int .u8 c] (· = _)) ecr).mpr c2) rfl ?_
      repeat refine ndD ?_
      repeat refine stk ?_
      show Eqv _ _
      exact .up (.up (.refl _))
  · by_cases hq : digN (w % 32) < 11
    · skip
      have c1 : callP Try.prog 15 [.int .u8 (w / 32 % 32)] (· = .tuple [.int .u8 (digV (w / 32 % 32)), .int .i64 2]) := by
        have c := digit_c (w / 32 % 32)
        rw [digE_of, if_neg hl] at c
        exact c
      have c2 : callP Try.prog 15 [.int .u8 (w % 32)] (· = .tuple [.int .u8 (digV (w % 32)), .int .i64 0]) := by
        have c := digit_c (w % 32)
        rw [digE_of, if_pos hq] at c
        exact c
      have c := may_c hd
      rw [hm] at c
      have er := er_of h0 h1
      rw [hr] at er
      have el := el_of h0 h1
      have ecl := lc_of (w := w) h0
      have ecr := rc_of (w := w) h0
      have eon := on_of (w := w) h0
      refine callE_def env (fn := Try.f10) rfl (by decide) rfl ?_
      refine callT_E c rfl ?_
      repeat refine stb ?_
      repeat refine ndD ?_
      conv => whnf
      rw [er, el]
      repeat refine stk ?_
      refine callT_part [0, 2] rfl (table_c (d := d) (x := 10)) ?_
      rintro v H' ⟨rfl, rfl⟩ x G hx hG
      obtain rfl : x = tabA 0 2 := hx
      obtain rfl : G = [.cells (dcells d), .cells (dcells fun _ => 0), .cells [.int .u8 10], .cells (tabL 0 2)] := hG
      repeat refine ndD ?_
      refine callT_E ((congrArg (fun c => callP Try.prog 15 [.int .u8 c] (· = _)) ecl).mpr c1) rfl ?_
      refine callT_E ((congrArg (fun c => callP Try.prog 15 [.int .u8 c] (· = _)) ecr).mpr c2) rfl ?_
      repeat refine ndD ?_
      repeat refine stk ?_
      show Eqv _ _
      exact .up (.up (.refl _))
    · skip
      have c1 : callP Try.prog 15 [.int .u8 (w / 32 % 32)] (· = .tuple [.int .u8 (digV (w / 32 % 32)), .int .i64 2]) := by
        have c := digit_c (w / 32 % 32)
        rw [digE_of, if_neg hl] at c
        exact c
      have c2 : callP Try.prog 15 [.int .u8 (w % 32)] (· = .tuple [.int .u8 (digV (w % 32)), .int .i64 2]) := by
        have c := digit_c (w % 32)
        rw [digE_of, if_neg hq] at c
        exact c
      have c := may_c hd
      rw [hm] at c
      have er := er_of h0 h1
      rw [hr] at er
      have el := el_of h0 h1
      have ecl := lc_of (w := w) h0
      have ecr := rc_of (w := w) h0
      have eon := on_of (w := w) h0
      refine callE_def env (fn := Try.f10) rfl (by decide) rfl ?_
      refine callT_E c rfl ?_
      repeat refine stb ?_
      repeat refine ndD ?_
      conv => whnf
      rw [er, el]
      repeat refine stk ?_
      refine callT_part [0, 2] rfl (table_c (d := d) (x := 10)) ?_
      rintro v H' ⟨rfl, rfl⟩ x G hx hG
      obtain rfl : x = tabA 0 2 := hx
      obtain rfl : G = [.cells (dcells d), .cells (dcells fun _ => 0), .cells [.int .u8 10], .cells (tabL 0 2)] := hG
      repeat refine ndD ?_
      refine callT_E ((congrArg (fun c => callP Try.prog 15 [.int .u8 c] (· = _)) ecl).mpr c1) rfl ?_
      refine callT_E ((congrArg (fun c => callP Try.prog 15 [.int .u8 c] (· = _)) ecr).mpr c2) rfl ?_
      repeat refine ndD ?_
      repeat refine stk ?_
      show Eqv _ _
      exact .up (.up (.refl _))
set_option maxHeartbeats 2000000 in
theorem apply_ok10 {d : Nat → Int} (hd : WD d) (hm : mayB d = true) {w : Int} (h0 : 0 ≤ w) (h1 : w < 65536) (hr : w / 2048 % 16 = 11) (hf : fitW 10 w = true) : callP Try.prog 10 [dispA d, .int .u16 w] (· = .tuple [dispA (newD d 10 (digV (w / 32 % 32)) (digV (w % 32)) (sgV d (onB w) 10)), .int .i64 0]) := by
  unfold fitW at hf
  simp only [Bool.and_eq_true, decide_eq_true_eq] at hf
  obtain ⟨⟨⟨hl, hq⟩, hns⟩, h7⟩ := hf
  have hon : onB w = false := by simpa [hasS] using hns
  have c1 : callP Try.prog 15 [.int .u8 (w / 32 % 32)] (· = .tuple [.int .u8 (digV (w / 32 % 32)), .int .i64 0]) := by
    have c := digit_c (w / 32 % 32)
    rw [digE_of, if_pos hl] at c
    exact c
  have c2 : callP Try.prog 15 [.int .u8 (w % 32)] (· = .tuple [.int .u8 (digV (w % 32)), .int .i64 0]) := by
    have c := digit_c (w % 32)
    rw [digE_of, if_pos hq] at c
    exact c
  have c := may_c hd
  rw [hm] at c
  have er := er_of h0 h1
  rw [hr] at er
  have el := el_of h0 h1
  have ecl := lc_of (w := w) h0
  have ecr := rc_of (w := w) h0
  have eon := on_of (w := w) h0
  refine callE_def env (fn := Try.f10) rfl (by decide) rfl ?_
  refine callT_E c rfl ?_
  repeat refine stb ?_
  repeat refine ndD ?_
  conv => whnf
  rw [er, el]
  repeat refine stk ?_
  refine callT_part [0, 2] rfl (table_c (d := d) (x := 10)) ?_
  rintro v H' ⟨rfl, rfl⟩ x G hx hG
  obtain rfl : x = tabA 0 2 := hx
  obtain rfl : G = [.cells (dcells d), .cells (dcells fun _ => 0), .cells [.int .u8 10], .cells (tabL 0 2)] := hG
  repeat refine ndD ?_
  refine callT_E ((congrArg (fun c => callP Try.prog 15 [.int .u8 c] (· = _)) ecl).mpr c1) rfl ?_
  refine callT_E ((congrArg (fun c => callP Try.prog 15 [.int .u8 c] (· = _)) ecr).mpr c2) rfl ?_
  repeat refine ndD ?_
  repeat refine stk ?_
  refine branch_f' (by rw [eon]; exact hon) ?_
  repeat refine stk ?_
  refine draw_tree (picks [0, 1, 2, 4, 5, 6] (.fork 3 7 (picks [7, 8, 9] .done) (picks [3, 8, 9] .done))) (by decide +kernel) ?_
  refine ⟨?_, ?_⟩
  · skip
    repeat refine stk ?_
    refine branch_f' (by rw [eon]; exact hon) ?_
    refine draw_tree (picks [0, 1, 2, 3, 4, 5, 6, 7, 8, 9, 10, 11, 12] .done) (by decide +kernel) ?_
    repeat refine stb ?_
    show Eqv _ _
    exact .up (.up (.refl _))
  · skip
    repeat refine stk ?_
    refine branch_f' (by rw [eon]; exact hon) ?_
    refine draw_tree (picks [0, 1, 2, 3, 4, 5, 6, 7, 8, 9, 10, 11, 12] .done) (by decide +kernel) ?_
    repeat refine stb ?_
    show Eqv _ _
    exact .up (.up (.refl _))
end Go.Proofs
