/- Chapter 27, part g: Apply, rows. -/
import Derived.Test.YthedobkhfdpdaaaC42
set_option linter.unusedVariables false
set_option linter.unusedSimpArgs false
namespace Go.Proofs.Rl
open Go.E
set_option maxRecDepth 8000
set_option maxHeartbeats 1000000 in
theorem apply_no6 {d : Nat → Int} (hd : WD d) (hm : mayB d = true) {w : Int} (h0 : 0 ≤ w) (h1 : w < 65536) (hr : w / 2048 % 16 = 7) (hf : fitW 6 w = false) : callP Try.prog 23 [dispA d, .int .u16 w] (· = .tuple [dispA (fun _ => 0), .int .i64 5]) := by
  by_cases hl : digN (w / 32 % 32) < 11
  · by_cases hq : digN (w % 32) < 11
    · exfalso
      unfold fitW at hf
      rw [decide_eq_true hl, decide_eq_true hq] at hf
      simp [hasS] at hf
    · skip
      have c1 : callP Try.prog 34 [.int .u8 (w / 32 % 32)] (· = .tuple [.int .u8 (digV (w / 32 % 32)), .int .i64 0]) := by
        have c := digit_c (w / 32 % 32)
        rw [digE_of, if_pos hl] at c
        exact c
      have c2 : callP Try.prog 34 [.int .u8 (w % 32)] (· = .tuple [.int .u8 (digV (w % 32)), .int .i64 2]) := by
        have c := digit_c (w % 32)
        rw [digE_of, if_neg hq] at c
        exact c
      have c := may_c hd
      rw [hm] at c
      have er := er_of h0 h1
      rw [hr] at er
      have el := el_of h0 h1
      have ecl := lc_of (w := w) h0
      have ecr := rc_of (w := w) h0
      have eon := on_of (w := w) h0
      refine callE_def env (fn := Try.f23) rfl (by decide) rfl ?_
      refine callT_E c rfl ?_
      repeat refine stb ?_
      repeat refine ndD ?_
      conv => whnf
      rw [er, el]
      repeat refine stk ?_
      refine callT_part [0, 2] rfl (table_c (d := d) (x := 10)) ?_
      rintro v H' ⟨rfl, rfl⟩ x G hx hG
      obtain rfl : x = tabA 0 2 := hx
      obtain rfl : G = [.cells (dcells d), .cells (dcells fun _ => 0), .cells [.int .u8 10], .cells (tabL 0 2)] := hG
      repeat refine ndD ?_
      refine callT_E (c34 ecl c1) rfl ?_
      refine callT_E (c34 ecr c2) rfl ?_
      repeat refine ndD ?_
      repeat refine stk ?_
      show Eqv _ _
      exact .up (.up (.refl _))
  · by_cases hq : digN (w % 32) < 11
    · skip
      have c1 : callP Try.prog 34 [.int .u8 (w / 32 % 32)] (· = .tuple [.int .u8 (digV (w / 32 % 32)), .int .i64 2]) := by
        have c := digit_c (w / 32 % 32)
        rw [digE_of, if_neg hl] at c
        exact c
      have c2 : callP Try.prog 34 [.int .u8 (w % 32)] (· = .tuple [.int .u8 (digV (w % 32)), .int .i64 0]) := by
        have c := digit_c (w % 32)
        rw [digE_of, if_pos hq] at c
        exact c
      have c := may_c hd
      rw [hm] at c
      have er := er_of h0 h1
      rw [hr] at er
      have el := el_of h0 h1
      have ecl := lc_of (w := w) h0
      have ecr := rc_of (w := w) h0
      have eon := on_of (w := w) h0
      refine callE_def env (fn := Try.f23) rfl (by decide) rfl ?_
      refine callT_E c rfl ?_
      repeat refine stb ?_
      repeat refine ndD ?_
      conv => whnf
      rw [er, el]
      repeat refine stk ?_
      refine callT_part [0, 2] rfl (table_c (d := d) (x := 10)) ?_
      rintro v H' ⟨rfl, rfl⟩ x G hx hG
      obtain rfl : x = tabA 0 2 := hx
      obtain rfl : G = [.cells (dcells d), .cells (dcells fun _ => 0), .cells [.int .u8 10], .cells (tabL 0 2)] := hG
      repeat refine ndD ?_
      refine callT_E (c34 ecl c1) rfl ?_
      refine callT_E (c34 ecr c2) rfl ?_
      repeat refine ndD ?_
      repeat refine stk ?_
      show Eqv _ _
      exact .up (.up (.refl _))
    · skip
      have c1 : callP Try.prog 34 [.int .u8 (w / 32 % 32)] (· = .tuple [.int .u8 (digV (w / 32 % 32)), .int .i64 2]) := by
        have c := digit_c (w / 32 % 32)
        rw [digE_of, if_neg hl] at c
        exact c
      have c2 : callP Try.prog 34 [.int .u8 (w % 32)] (· = .tuple [.int .u8 (digV (w % 32)), .int .i64 2]) := by
        have c := digit_c (w % 32)
        rw [digE_of, if_neg hq] at c
        exact c
      have c := may_c hd
      rw [hm] at c
      have er := er_of h0 h1
      rw [hr] at er
      have el := el_of h0 h1
      have ecl := lc_of (w := w) h0
      have ecr := rc_of (w := w) h0
      have eon := on_of (w := w) h0
      refine callE_def env (fn := Try.f23) rfl (by decide) rfl ?_
      refine callT_E c rfl ?_
      repeat refine stb ?_
      repeat refine ndD ?_
      conv => whnf
      rw [er, el]
      repeat refine stk ?_
      refine callT_part [0, 2] rfl (table_c (d := d) (x := 10)) ?_
      rintro v H' ⟨rfl, rfl⟩ x G hx hG
      obtain rfl : x = tabA 0 2 := hx
      obtain rfl : G = [.cells (dcells d), .cells (dcells fun _ => 0), .cells [.int .u8 10], .cells (tabL 0 2)] := hG
      repeat refine ndD ?_
      refine callT_E (c34 ecl c1) rfl ?_
      refine callT_E (c34 ecr c2) rfl ?_
      repeat refine ndD ?_
      repeat refine stk ?_
      show Eqv _ _
      exact .up (.up (.refl _))
set_option maxHeartbeats 2000000 in
theorem apply_ok6 {d : Nat → Int} (hd : WD d) (hm : mayB d = true) {w : Int} (h0 : 0 ≤ w) (h1 : w < 65536) (hr : w / 2048 % 16 = 7) (hf : fitW 6 w = true) : callP Try.prog 23 [dispA d, .int .u16 w] (· = .tuple [dispA (newD d 6 (digV (w / 32 % 32)) (digV (w % 32)) (sgV d (onB w) 6)), .int .i64 0]) := by
  unfold fitW at hf
  simp only [Bool.and_eq_true, decide_eq_true_eq] at hf
  obtain ⟨⟨⟨hl, hq⟩, hns⟩, h7⟩ := hf
  by_cases hon : onB w = true
  · skip
    have c1 : callP Try.prog 34 [.int .u8 (w / 32 % 32)] (· = .tuple [.int .u8 (digV (w / 32 % 32)), .int .i64 0]) := by
      have c := digit_c (w / 32 % 32)
      rw [digE_of, if_pos hl] at c
      exact c
    have c2 : callP Try.prog 34 [.int .u8 (w % 32)] (· = .tuple [.int .u8 (digV (w % 32)), .int .i64 0]) := by
      have c := digit_c (w % 32)
      rw [digE_of, if_pos hq] at c
      exact c
    have c := may_c hd
    rw [hm] at c
    have er := er_of h0 h1
    rw [hr] at er
    have el := el_of h0 h1
    have ecl := lc_of (w := w) h0
    have ecr := rc_of (w := w) h0
    have eon := on_of (w := w) h0
    refine callE_def env (fn := Try.f23) rfl (by decide) rfl ?_
    refine callT_E c rfl ?_
    repeat refine stb ?_
    repeat refine ndD ?_
    conv => whnf
    rw [er, el]
    repeat refine stk ?_
    refine callT_part [0, 2] rfl (table_c (d := d) (x := 10)) ?_
    rintro v H' ⟨rfl, rfl⟩ x G hx hG
    obtain rfl : x = tabA 0 2 := hx
    obtain rfl : G = [.cells (dcells d), .cells (dcells fun _ => 0), .cells [.int .u8 10], .cells (tabL 0 2)] := hG
    repeat refine ndD ?_
    refine callT_E (c34 ecl c1) rfl ?_
    refine callT_E (c34 ecr c2) rfl ?_
    repeat refine ndD ?_
    repeat refine stk ?_
    refine branch_t' (by rw [eon]; exact hon) ?_
    repeat refine stk ?_
    refine draw_tree (picks [0, 1, 2, 4, 5, 6] (.fork 3 7 (picks [7, 8, 9] .done) (picks [3, 8, 9] .done))) (by decide +kernel) ?_
    refine ⟨?_, ?_⟩
    · skip
      repeat refine stk ?_
      refine branch_t' (by rw [eon]; exact hon) ?_
      have hs : sgV d (onB w) 6 = 1 := by unfold sgV; rw [hon]; rfl
      show Eqv (.tuple [_, _]) (.tuple [dispA (newD d 6 (digV (w / 32 % 32)) (digV (w % 32)) (sgV d (onB w) 6)), _])
      rw [hs]
      exact .up (.up (.refl _))
    · skip
      repeat refine stk ?_
      refine branch_t' (by rw [eon]; exact hon) ?_
      have hs : sgV d (onB w) 6 = 1 := by unfold sgV; rw [hon]; rfl
      show Eqv (.tuple [_, _]) (.tuple [dispA (newD d 6 (digV (w / 32 % 32)) (digV (w % 32)) (sgV d (onB w) 6)), _])
      rw [hs]
      exact .up (.up (.refl _))
  · have hon := Bool.eq_false_iff.2 hon
    have c1 : callP Try.prog 34 [.int .u8 (w / 32 % 32)] (· = .tuple [.int .u8 (digV (w / 32 % 32)), .int .i64 0]) := by
      have c := digit_c (w / 32 % 32)
      rw [digE_of, if_pos hl] at c
      exact c
    have c2 : callP Try.prog 34 [.int .u8 (w % 32)] (· = .tuple [.int .u8 (digV (w % 32)), .int .i64 0]) := by
      have c := digit_c (w % 32)
      rw [digE_of, if_pos hq] at c
      exact c
    have c := may_c hd
    rw [hm] at c
    have er := er_of h0 h1
    rw [hr] at er
    have el := el_of h0 h1
    have ecl := lc_of (w := w) h0
    have ecr := rc_of (w := w) h0
    have eon := on_of (w := w) h0
    refine callE_def env (fn := Try.f23) rfl (by decide) rfl ?_
    refine callT_E c rfl ?_
    repeat refine stb ?_
    repeat refine ndD ?_
    conv => whnf
    rw [er, el]
    repeat refine stk ?_
    refine callT_part [0, 2] rfl (table_c (d := d) (x := 10)) ?_
    rintro v H' ⟨rfl, rfl⟩ x G hx hG
    obtain rfl : x = tabA 0 2 := hx
    obtain rfl : G = [.cells (dcells d), .cells (dcells fun _ => 0), .cells [.int .u8 10], .cells (tabL 0 2)] := hG
    repeat refine ndD ?_
    refine callT_E (c34 ecl c1) rfl ?_
    refine callT_E (c34 ecr c2) rfl ?_
    repeat refine ndD ?_
    repeat refine stk ?_
    refine branch_f' (by rw [eon]; exact hon) ?_
    repeat refine stk ?_
    refine draw_tree (picks [0, 1, 2, 4, 5, 6] (.fork 3 7 (picks [7, 8, 9] .done) (picks [3, 8, 9] .done))) (by decide +kernel) ?_
    refine ⟨?_, ?_⟩
    · skip
      repeat refine stk ?_
      refine branch_f' (by rw [eon]; exact hon) ?_
      refine draw_tree (picks [0, 1, 2, 3, 4, 5, 6, 7, 8, 9, 10, 11, 12] .done) (by decide +kernel) ?_
      repeat refine stb ?_
      apply branch_intro <;> intro hb
      · have hb : d 6 = 1 := by simpa using hb
        have hs : sgV d (onB w) 6 = 0 := by unfold sgV; rw [hon]; simp [hb]
        show Eqv (.tuple [_, _]) (.tuple [dispA (newD d 6 (digV (w / 32 % 32)) (digV (w % 32)) (sgV d (onB w) 6)), _])
        rw [hs]
        exact .up (.up (.refl _))
      · have hb : ¬ d 6 = 1 := by simpa using hb
        have hs : sgV d (onB w) 6 = d 6 := by unfold sgV; rw [hon]; simp [hb]
        show Eqv (.tuple [_, _]) (.tuple [dispA (newD d 6 (digV (w / 32 % 32)) (digV (w % 32)) (sgV d (onB w) 6)), _])
        rw [hs]
        exact .up (.up (.refl _))
    · skip
      repeat refine stk ?_
      refine branch_f' (by rw [eon]; exact hon) ?_
      refine draw_tree (picks [0, 1, 2, 3, 4, 5, 6, 7, 8, 9, 10, 11, 12] .done) (by decide +kernel) ?_
      repeat refine stb ?_
      apply branch_intro <;> intro hb
      · have hb : d 6 = 1 := by simpa using hb
        have hs : sgV d (onB w) 6 = 0 := by unfold sgV; rw [hon]; simp [hb]
        show Eqv (.tuple [_, _]) (.tuple [dispA (newD d 6 (digV (w / 32 % 32)) (digV (w % 32)) (sgV d (onB w) 6)), _])
        rw [hs]
        exact .up (.up (.refl _))
      · have hb : ¬ d 6 = 1 := by simpa using hb
        have hs : sgV d (onB w) 6 = d 6 := by unfold sgV; rw [hon]; simp [hb]
        show Eqv (.tuple [_, _]) (.tuple [dispA (newD d 6 (digV (w / 32 % 32)) (digV (w % 32)) (sgV d (onB w) 6)), _])
        rw [hs]
        exact .up (.up (.refl _))
set_option maxHeartbeats 1000000 in
theorem apply_no7 {d : Nat → Int} (hd : WD d) (hm : mayB d = true) {w : Int} (h0 : 0 ≤ w) (h1 : w < 65536) (hr : w / 2048 % 16 = 8) (hf : fitW 7 w = false) : callP Try.prog 23 [dispA d, .int .u16 w] (· = .tuple [dispA (fun _ => 0), .int .i64 5]) := by
  by_cases hl : digN (w / 32 % 32) < 11
  · by_cases hq : digN (w % 32) < 11
    · by_cases hon : onB w = true
      · skip
        have c1 : callP Try.prog 34 [.int .u8 (w / 32 % 32)] (· = .tuple [.int .u8 (digV (w / 32 % 32)), .int .i64 0]) := by
          have c := digit_c (w / 32 % 32)
          rw [digE_of, if_pos hl] at c
          exact c
        have c2 : callP Try.prog 34 [.int .u8 (w % 32)] (· = .tuple [.int .u8 (digV (w % 32)), .int .i64 0]) := by
          have c := digit_c (w % 32)
          rw [digE_of, if_pos hq] at c
          exact c
        have c := may_c hd
        rw [hm] at c
        have er := er_of h0 h1
        rw [hr] at er
        have el := el_of h0 h1
        have ecl := lc_of (w := w) h0
        have ecr := rc_of (w := w) h0
        have eon := on_of (w := w) h0
        refine callE_def env (fn := Try.f23) rfl (by decide) rfl ?_
        refine callT_E c rfl ?_
        repeat refine stb ?_
        repeat refine ndD ?_
        conv => whnf
        rw [er, el]
        repeat refine stk ?_
        refine callT_part [0, 2] rfl (table_c (d := d) (x := 10)) ?_
        rintro v H' ⟨rfl, rfl⟩ x G hx hG
        obtain rfl : x = tabA 0 2 := hx
        obtain rfl : G = [.cells (dcells d), .cells (dcells fun _ => 0), .cells [.int .u8 10], .cells (tabL 0 2)] := hG
        repeat refine ndD ?_
        refine callT_E (c34 ecl c1) rfl ?_
        refine callT_E (c34 ecr c2) rfl ?_
        repeat refine ndD ?_
        repeat refine stk ?_
        refine branch_t' (by rw [eon]; exact hon) ?_
        repeat refine stk ?_
        show Eqv _ _
        exact .up (.up (.refl _))
      · have hon := Bool.eq_false_iff.2 hon
        have h10 : digN (w / 32 % 32) ≠ 10 := by
          unfold fitW at hf
          rw [decide_eq_true hl, decide_eq_true hq, hon] at hf
          simpa [hasS] using hf
        have hv : (digV (w / 32 % 32) != 10) = true := by
          rw [digV_of hl, bne_iff_ne]
          omega
        have c1 : callP Try.prog 34 [.int .u8 (w / 32 % 32)] (· = .tuple [.int .u8 (digV (w / 32 % 32)), .int .i64 0]) := by
          have c := digit_c (w / 32 % 32)
          rw [digE_of, if_pos hl] at c
          exact c
        have c2 : callP Try.prog 34 [.int .u8 (w % 32)] (· = .tuple [.int .u8 (digV (w % 32)), .int .i64 0]) := by
          have c := digit_c (w % 32)
          rw [digE_of, if_pos hq] at c
          exact c
        have c := may_c hd
        rw [hm] at c
        have er := er_of h0 h1
        rw [hr] at er
        have el := el_of h0 h1
        have ecl := lc_of (w := w) h0
        have ecr := rc_of (w := w) h0
        have eon := on_of (w := w) h0
        refine callE_def env (fn := Try.f23) rfl (by decide) rfl ?_
        refine callT_E c rfl ?_
        repeat refine stb ?_
        repeat refine ndD ?_
        conv => whnf
        rw [er, el]
        repeat refine stk ?_
        refine callT_part [0, 2] rfl (table_c (d := d) (x := 10)) ?_
        rintro v H' ⟨rfl, rfl⟩ x G hx hG
        obtain rfl : x = tabA 0 2 := hx
        obtain rfl : G = [.cells (dcells d), .cells (dcells fun _ => 0), .cells [.int .u8 10], .cells (tabL 0 2)] := hG
        repeat refine ndD ?_
        refine callT_E (c34 ecl c1) rfl ?_
        refine callT_E (c34 ecr c2) rfl ?_
        repeat refine ndD ?_
        repeat refine stk ?_
        refine branch_f' (by rw [eon]; exact hon) ?_
        repeat refine stk ?_
        refine draw_tree (picks [0, 1, 2, 4, 5, 6] (.fork 3 7 (picks [7, 8, 9] .done) (picks [3, 8, 9] .done))) (by decide +kernel) ?_
        refine ⟨?_, ?_⟩
        · refine branch_t' hv ?_
          show Eqv _ _
          exact .up (.up (.refl _))
        · refine branch_t' hv ?_
          show Eqv _ _
          exact .up (.up (.refl _))
    · skip
      have c1 : callP Try.prog 34 [.int .u8 (w / 32 % 32)] (· = .tuple [.int .u8 (digV (w / 32 % 32)), .int .i64 0]) := by
        have c := digit_c (w / 32 % 32)
        rw [digE_of, if_pos hl] at c
        exact c
      have c2 : callP Try.prog 34 [.int .u8 (w % 32)] (· = .tuple [.int .u8 (digV (w % 32)), .int .i64 2]) := by
        have c := digit_c (w % 32)
        rw [digE_of, if_neg hq] at c
        exact c
      have c := may_c hd
      rw [hm] at c
      have er := er_of h0 h1
      rw [hr] at er
      have el := el_of h0 h1
      have ecl := lc_of (w := w) h0
      have ecr := rc_of (w := w) h0
      have eon := on_of (w := w) h0
      refine callE_def env (fn := Try.f23) rfl (by decide) rfl ?_
      refine callT_E c rfl ?_
      repeat refine stb ?_
      repeat refine ndD ?_
      conv => whnf
      rw [er, el]
      repeat refine stk ?_
      refine callT_part [0, 2] rfl (table_c (d := d) (x := 10)) ?_
      rintro v H' ⟨rfl, rfl⟩ x G hx hG
      obtain rfl : x = tabA 0 2 := hx
      obtain rfl : G = [.cells (dcells d), .cells (dcells fun _ => 0), .cells [.int .u8 10], .cells (tabL 0 2)] := hG
      repeat refine ndD ?_
      refine callT_E (c34 ecl c1) rfl ?_
      refine callT_E (c34 ecr c2) rfl ?_
      repeat refine ndD ?_
      repeat refine stk ?_
      show Eqv _ _
      exact .up (.up (.refl _))
  · by_cases hq : digN (w % 32) < 11
    · skip
      have c1 : callP Try.prog 34 [.int .u8 (w / 32 % 32)] (· = .tuple [.int .u8 (digV (w / 32 % 32)), .int .i64 2]) := by
        have c := digit_c (w / 32 % 32)
        rw [digE_of, if_neg hl] at c
        exact c
      have c2 : callP Try.prog 34 [.int .u8 (w % 32)] (· = .tuple [.int .u8 (digV (w % 32)), .int .i64 0]) := by
        have c := digit_c (w % 32)
        rw [digE_of, if_pos hq] at c
        exact c
      have c := may_c hd
      rw [hm] at c
      have er := er_of h0 h1
      rw [hr] at er
      have el := el_of h0 h1
      have ecl := lc_of (w := w) h0
      have ecr := rc_of (w := w) h0
      have eon := on_of (w := w) h0
      refine callE_def env (fn := Try.f23) rfl (by decide) rfl ?_
      refine callT_E c rfl ?_
      repeat refine stb ?_
      repeat refine ndD ?_
      conv => whnf
      rw [er, el]
      repeat refine stk ?_
      refine callT_part [0, 2] rfl (table_c (d := d) (x := 10)) ?_
      rintro v H' ⟨rfl, rfl⟩ x G hx hG
      obtain rfl : x = tabA 0 2 := hx
      obtain rfl : G = [.cells (dcells d), .cells (dcells fun _ => 0), .cells [.int .u8 10], .cells (tabL 0 2)] := hG
      repeat refine ndD ?_
      refine callT_E (c34 ecl c1) rfl ?_
      refine callT_E (c34 ecr c2) rfl ?_
      repeat refine ndD ?_
      repeat refine stk ?_
      show Eqv _ _
      exact .up (.up (.refl _))
    · skip
      have c1 : callP Try.prog 34 [.int .u8 (w / 32 % 32)] (· = .tuple [.int .u8 (digV (w / 32 % 32)), .int .i64 2]) := by
        have c := digit_c (w / 32 % 32)
        rw [digE_of, if_neg hl] at c
        exact c
      have c2 : callP Try.prog 34 [.int .u8 (w % 32)] (· = .tuple [.int .u8 (digV (w % 32)), .int .i64 2]) := by
        have c := digit_c (w % 32)
        rw [digE_of, if_neg hq] at c
        exact c
      have c := may_c hd
      rw [hm] at c
      have er := er_of h0 h1
      rw [hr] at er
      have el := el_of h0 h1
      have ecl := lc_of (w := w) h0
      have ecr := rc_of (w := w) h0
      have eon := on_of (w := w) h0
      refine callE_def env (fn := Try.f23) rfl (by decide) rfl ?_
      refine callT_E c rfl ?_
      repeat refine stb ?_
      repeat refine ndD ?_
      conv => whnf
      rw [er, el]
      repeat refine stk ?_
      refine callT_part [0, 2] rfl (table_c (d := d) (x := 10)) ?_
      rintro v H' ⟨rfl, rfl⟩ x G hx hG
      obtain rfl : x = tabA 0 2 := hx
      obtain rfl : G = [.cells (dcells d), .cells (dcells fun _ => 0), .cells [.int .u8 10], .cells (tabL 0 2)] := hG
      repeat refine ndD ?_
      refine callT_E (c34 ecl c1) rfl ?_
      refine callT_E (c34 ecr c2) rfl ?_
      repeat refine ndD ?_
      repeat refine stk ?_
      show Eqv _ _
      exact .up (.up (.refl _))
set_option maxHeartbeats 2000000 in
theorem apply_ok7 {d : Nat → Int} (hd : WD d) (hm : mayB d = true) {w : Int} (h0 : 0 ≤ w) (h1 : w < 65536) (hr : w / 2048 % 16 = 8) (hf : fitW 7 w = true) : callP Try.prog 23 [dispA d, .int .u16 w] (· = .tuple [dispA (newD d 7 (digV (w / 32 % 32)) (digV (w % 32)) (sgV d (onB w) 7)), .int .i64 0]) := by
  unfold fitW at hf
  simp only [Bool.and_eq_true, decide_eq_true_eq] at hf
  obtain ⟨⟨⟨hl, hq⟩, hns⟩, h7⟩ := hf
  have hv : (digV (w / 32 % 32) != 10) = false := by
    rw [digV_of hl]
    simp at h7
    rw [h7]
    rfl
  have hon : onB w = false := by simpa [hasS] using hns
  have c1 : callP Try.prog 34 [.int .u8 (w / 32 % 32)] (· = .tuple [.int .u8 (digV (w / 32 % 32)), .int .i64 0]) := by
    have c := digit_c (w / 32 % 32)
    rw [digE_of, if_pos hl] at c
    exact c
  have c2 : callP Try.prog 34 [.int .u8 (w % 32)] (· = .tuple [.int .u8 (digV (w % 32)), .int .i64 0]) := by
    have c := digit_c (w % 32)
    rw [digE_of, if_pos hq] at c
    exact c
  have c := may_c hd
  rw [hm] at c
  have er := er_of h0 h1
  rw [hr] at er
  have el := el_of h0 h1
  have ecl := lc_of (w := w) h0
  have ecr := rc_of (w := w) h0
  have eon := on_of (w := w) h0
  refine callE_def env (fn := Try.f23) rfl (by decide) rfl ?_
  refine callT_E c rfl ?_
  repeat refine stb ?_
  repeat refine ndD ?_
  conv => whnf
  rw [er, el]
  repeat refine stk ?_
  refine callT_part [0, 2] rfl (table_c (d := d) (x := 10)) ?_
  rintro v H' ⟨rfl, rfl⟩ x G hx hG
  obtain rfl : x = tabA 0 2 := hx
  obtain rfl : G = [.cells (dcells d), .cells (dcells fun _ => 0), .cells [.int .u8 10], .cells (tabL 0 2)] := hG
  repeat refine ndD ?_
  refine callT_E (c34 ecl c1) rfl ?_
  refine callT_E (c34 ecr c2) rfl ?_
  repeat refine ndD ?_
  repeat refine stk ?_
  refine branch_f' (by rw [eon]; exact hon) ?_
  repeat refine stk ?_
  refine draw_tree (picks [0, 1, 2, 4, 5, 6] (.fork 3 7 (picks [7, 8, 9] .done) (picks [3, 8, 9] .done))) (by decide +kernel) ?_
  refine ⟨?_, ?_⟩
  · skip
    refine branch_f' hv ?_
    repeat refine stk ?_
    refine branch_f' (by rw [eon]; exact hon) ?_
    refine draw_tree (picks [0, 1, 2, 3, 4, 5, 6, 7, 8, 9, 10, 11, 12] .done) (by decide +kernel) ?_
    repeat refine stb ?_
    show Eqv _ _
    exact .up (.up (.refl _))
  · skip
    refine branch_f' hv ?_
    repeat refine stk ?_
    refine branch_f' (by rw [eon]; exact hon) ?_
    refine draw_tree (picks [0, 1, 2, 3, 4, 5, 6, 7, 8, 9, 10, 11, 12] .done) (by decide +kernel) ?_
    repeat refine stb ?_
    show Eqv _ _
    exact .up (.up (.refl _))
end Go.Proofs.Rl
namespace Go.Proofs.Rl
open Go.E
set_option maxRecDepth 8000
set_option maxHeartbeats 1000000 in
theorem apply_no8 {d : Nat → Int} (hd : WD d) (hm : mayB d = true) {w : Int} (h0 : 0 ≤ w) (h1 : w < 65536) (hr : w / 2048 % 16 = 9) (hf : fitW 8 w = false) : callP Try.prog 23 [dispA d, .int .u16 w] (· = .tuple [dispA (fun _ => 0), .int .i64 5]) := by
  by_cases hl : digN (w / 32 % 32) < 11
  · by_cases hq : digN (w % 32) < 11
    · have hon : onB w = true := by
        unfold fitW at hf
        rw [decide_eq_true hl, decide_eq_true hq] at hf
        simpa [hasS] using hf
      have c1 : callP Try.prog 34 [.int .u8 (w / 32 % 32)] (· = .tuple [.int .u8 (digV (w / 32 % 32)), .int .i64 0]) := by
        have c := digit_c (w / 32 % 32)
        rw [digE_of, if_pos hl] at c
        exact c
      have c2 : callP Try.prog 34 [.int .u8 (w % 32)] (· = .tuple [.int .u8 (digV (w % 32)), .int .i64 0]) := by
        have c := digit_c (w % 32)
        rw [digE_of, if_pos hq] at c
        exact c
      have c := may_c hd
      rw [hm] at c
      have er := er_of h0 h1
      rw [hr] at er
      have el := el_of h0 h1
      have ecl := lc_of (w := w) h0
      have ecr := rc_of (w := w) h0
      have eon := on_of (w := w) h0
      refine callE_def env (fn := Try.f23) rfl (by decide) rfl ?_
      refine callT_E c rfl ?_
      repeat refine stb ?_
      repeat refine ndD ?_
      conv => whnf
      rw [er, el]
      repeat refine stk ?_
      refine callT_part [0, 2] rfl (table_c (d := d) (x := 10)) ?_
      rintro v H' ⟨rfl, rfl⟩ x G hx hG
      obtain rfl : x = tabA 0 2 := hx
      obtain rfl : G = [.cells (dcells d), .cells (dcells fun _ => 0), .cells [.int .u8 10], .cells (tabL 0 2)] := hG
      repeat refine ndD ?_
      refine callT_E (c34 ecl c1) rfl ?_
      refine callT_E (c34 ecr c2) rfl ?_
      repeat refine ndD ?_
      repeat refine stk ?_
      refine branch_t' (by rw [eon]; exact hon) ?_
      repeat refine stk ?_
      show Eqv _ _
      exact .up (.up (.refl _))
    · skip
      have c1 : callP Try.prog 34 [.int .u8 (w / 32 % 32)] (· = .tuple [.int .u8 (digV (w / 32 % 32)), .int .i64 0]) := by
        have c := digit_c (w / 32 % 32)
        rw [digE_of, if_pos hl] at c
        exact c
      have c2 : callP Try.prog 34 [.int .u8 (w % 32)] (· = .tuple [.int .u8 (digV (w % 32)), .int .i64 2]) := by
        have c := digit_c (w % 32)
        rw [digE_of, if_neg hq] at c
        exact c
      have c := may_c hd
      rw [hm] at c
      have er := er_of h0 h1
      rw [hr] at er
      have el := el_of h0 h1
      have ecl := lc_of (w := w) h0
      have ecr := rc_of (w := w) h0
      have eon := on_of (w := w) h0
      refine callE_def env (fn := Try.f23) rfl (by decide) rfl ?_
      refine callT_E c rfl ?_
      repeat refine stb ?_
      repeat refine ndD ?_
      conv => whnf
      rw [er, el]
      repeat refine stk ?_
      refine callT_part [0, 2] rfl (table_c (d := d) (x := 10)) ?_
      rintro v H' ⟨rfl, rfl⟩ x G hx hG
      obtain rfl : x = tabA 0 2 := hx
      obtain rfl : G = [.cells (dcells d), .cells (dcells fun _ => 0), .cells [.int .u8 10], .cells (tabL 0 2)] := hG
      repeat refine ndD ?_
      refine callT_E (c34 ecl c1) rfl ?_
      refine callT_E (c34 ecr c2) rfl ?_
      repeat refine ndD ?_
      repeat refine stk ?_
      show Eqv _ _
      exact .up (.up (.refl _))
  · by_cases hq : digN (w % 32) < 11
    · skip
      have c1 : callP Try.prog 34 [.int .u8 (w / 32 % 32)] (· = .tuple [.int .u8 (digV (w / 32 % 32)), .int .i64 2]) := by
        have c := digit_c (w / 32 % 32)
        rw [digE_of, if_neg hl] at c
        exact c
      have c2 : callP Try.prog 34 [.int .u8 (w % 32)] (· = .tuple [.int .u8 (digV (w % 32)), .int .i64 0]) := by
        have c := digit_c (w % 32)
        rw [digE_of, if_pos hq] at c
        exact c
      have c := may_c hd
      rw [hm] at c
      have er := er_of h0 h1
      rw [hr] at er
      have el := el_of h0 h1
      have ecl := lc_of (w := w) h0
      have ecr := rc_of (w := w) h0
      have eon := on_of (w := w) h0
      refine callE_def env (fn := Try.f23) rfl (by decide) rfl ?_
      refine callT_E c rfl ?_
      repeat refine stb ?_
      repeat refine ndD ?_
      conv => whnf
      rw [er, el]
      repeat refine stk ?_
      refine callT_part [0, 2] rfl (table_c (d := d) (x := 10)) ?_
      rintro v H' ⟨rfl, rfl⟩ x G hx hG
      obtain rfl : x = tabA 0 2 := hx
      obtain rfl : G = [.cells (dcells d), .cells (dcells fun _ => 0), .cells [.int .u8 10], .cells (tabL 0 2)] := hG
      repeat refine ndD ?_
      refine callT_E (c34 ecl c1) rfl ?_
      refine callT_E (c34 ecr c2) rfl ?_
      repeat refine ndD ?_
      repeat refine stk ?_
      show Eqv _ _
      exact .up (.up (.refl _))
    · skip
      have c1 : callP Try.prog 34 [.int .u8 (w / 32 % 32)] (· = .tuple [.int .u8 (digV (w / 32 % 32)), .int .i64 2]) := by
        have c := digit_c (w / 32 % 32)
        rw [digE_of, if_neg hl] at c
        exact c
      have c2 : callP Try.prog 34 [.int .u8 (w % 32)] (· = .tuple [.int .u8 (digV (w % 32)), .int .i64 2]) := by
        have c := digit_c (w % 32)
        rw [digE_of, if_neg hq] at c
        exact c
      have c := may_c hd
      rw [hm] at c
      have er := er_of h0 h1
      rw [hr] at er
      have el := el_of h0 h1
      have ecl := lc_of (w := w) h0
      have ecr := rc_of (w := w) h0
      have eon := on_of (w := w) h0
      refine callE_def env (fn := Try.f23) rfl (by decide) rfl ?_
      refine callT_E c rfl ?_
      repeat refine stb ?_
      repeat refine ndD ?_
      conv => whnf
      rw [er, el]
      repeat refine stk ?_
      refine callT_part [0, 2] rfl (table_c (d := d) (x := 10)) ?_
      rintro v H' ⟨rfl, rfl⟩ x G hx hG
      obtain rfl : x = tabA 0 2 := hx
      obtain rfl : G = [.cells (dcells d), .cells (dcells fun _ => 0), .cells [.int .u8 10], .cells (tabL 0 2)] := hG
      repeat refine ndD ?_
      refine callT_E (c34 ecl c1) rfl ?_
      refine callT_E (c34 ecr c2) rfl ?_
      repeat refine ndD ?_
      repeat refine stk ?_
      show Eqv _ _
      exact .up (.up (.refl _))
set_option maxHeartbeats 2000000 in
theorem apply_ok8 {d : Nat → Int} (hd : WD d) (hm : mayB d = true) {w : Int} (h0 : 0 ≤ w) (h1 : w < 65536) (hr : w / 2048 % 16 = 9) (hf : fitW 8 w = true) : callP Try.prog 23 [dispA d, .int .u16 w] (· = .tuple [dispA (newD d 8 (digV (w / 32 % 32)) (digV (w % 32)) (sgV d (onB w) 8)), .int .i64 0]) := by
  unfold fitW at hf
  simp only [Bool.and_eq_true, decide_eq_true_eq] at hf
  obtain ⟨⟨⟨hl, hq⟩, hns⟩, h7⟩ := hf
  have hon : onB w = false := by simpa [hasS] using hns
  have c1 : callP Try.prog 34 [.int .u8 (w / 32 % 32)] (· = .tuple [.int .u8 (digV (w / 32 % 32)), .int .i64 0]) := by
    have c := digit_c (w / 32 % 32)
    rw [digE_of, if_pos hl] at c
    exact c
  have c2 : callP Try.prog 34 [.int .u8 (w % 32)] (· = .tuple [.int .u8 (digV (w % 32)), .int .i64 0]) := by
    have c := digit_c (w % 32)
    rw [digE_of, if_pos hq] at c
    exact c
  have c := may_c hd
  rw [hm] at c
  have er := er_of h0 h1
  rw [hr] at er
  have el := el_of h0 h1
  have ecl := lc_of (w := w) h0
  have ecr := rc_of (w := w) h0
  have eon := on_of (w := w) h0
  refine callE_def env (fn := Try.f23) rfl (by decide) rfl ?_
  refine callT_E c rfl ?_
  repeat refine stb ?_
  repeat refine ndD ?_
  conv => whnf
  rw [er, el]
  repeat refine stk ?_
  refine callT_part [0, 2] rfl (table_c (d := d) (x := 10)) ?_
  rintro v H' ⟨rfl, rfl⟩ x G hx hG
  obtain rfl : x = tabA 0 2 := hx
  obtain rfl : G = [.cells (dcells d), .cells (dcells fun _ => 0), .cells [.int .u8 10], .cells (tabL 0 2)] := hG
  repeat refine ndD ?_
  refine callT_E (c34 ecl c1) rfl ?_
  refine callT_E (c34 ecr c2) rfl ?_
  repeat refine ndD ?_
  repeat refine stk ?_
  refine branch_f' (by rw [eon]; exact hon) ?_
  repeat refine stk ?_
  refine draw_tree (picks [0, 1, 2, 4, 5, 6] (.fork 3 7 (picks [7, 8, 9] .done) (picks [3, 8, 9] .done))) (by decide +kernel) ?_
  refine ⟨?_, ?_⟩
  · skip
    repeat refine stk ?_
    refine branch_f' (by rw [eon]; exact hon) ?_
    refine draw_tree (picks [0, 1, 2, 3, 4, 5, 6, 7, 8, 9, 10, 11, 12] .done) (by decide +kernel) ?_
    repeat refine stb ?_
    show Eqv _ _
    exact .up (.up (.refl _))
  · skip
    repeat refine stk ?_
    refine branch_f' (by rw [eon]; exact hon) ?_
    refine draw_tree (picks [0, 1, 2, 3, 4, 5, 6, 7, 8, 9, 10, 11, 12] .done) (by decide +kernel) ?_
    repeat refine stb ?_
    show Eqv _ _
    exact .up (.up (.refl _))
set_option maxHeartbeats 1000000 in
theorem apply_no9 {d : Nat → Int} (hd : WD d) (hm : mayB d = true) {w : Int} (h0 : 0 ≤ w) (h1 : w < 65536) (hr : w / 2048 % 16 = 10) (hf : fitW 9 w = false) : callP Try.prog 23 [dispA d, .int .u16 w] (· = .tuple [dispA (fun _ => 0), .int .i64 5]) := by
  by_cases hl : digN (w / 32 % 32) < 11
  · by_cases hq : digN (w % 32) < 11
    · have hon : onB w = true := by
        unfold fitW at hf
        rw [decide_eq_true hl, decide_eq_true hq] at hf
        simpa [hasS] using hf
      have c1 : callP Try.prog 34 [.int .u8 (w / 32 % 32)] (· = .tuple [.int .u8 (digV (w / 32 % 32)), .int .i64 0]) := by
        have c := digit_c (w / 32 % 32)
        rw [digE_of, if_pos hl] at c
        exact c
      have c2 : callP Try.prog 34 [.int .u8 (w % 32)] (· = .tuple [.int .u8 (digV (w % 32)), .int .i64 0]) := by
        have c := digit_c (w % 32)
        rw [digE_of, if_pos hq] at c
        exact c
      have c := may_c hd
      rw [hm] at c
      have er := er_of h0 h1
      rw [hr] at er
      have el := el_of h0 h1
      have ecl := lc_of (w := w) h0
      have ecr := rc_of (w := w) h0
      have eon := on_of (w := w) h0
      refine callE_def env (fn := Try.f23) rfl (by decide) rfl ?_
      refine callT_E c rfl ?_
      repeat refine stb ?_
      repeat refine ndD ?_
      conv => whnf
      rw [er, el]
      repeat refine stk ?_
      refine callT_part [0, 2] rfl (table_c (d := d) (x := 10)) ?_
      rintro v H' ⟨rfl, rfl⟩ x G hx hG
      obtain rfl : x = tabA 0 2 := hx
      obtain rfl : G = [.cells (dcells d), .cells (dcells fun _ => 0), .cells [.int .u8 10], .cells (tabL 0 2)] := hG
      repeat refine ndD ?_
      refine callT_E (c34 ecl c1) rfl ?_
      refine callT_E (c34 ecr c2) rfl ?_
      repeat refine ndD ?_
      repeat refine stk ?_
      refine branch_t' (by rw [eon]; exact hon) ?_
      repeat refine stk ?_
      show Eqv _ _
      exact .up (.up (.refl _))
    · skip
      have c1 : callP Try.prog 34 [.int .u8 (w / 32 % 32)] (· = .tuple [.int .u8 (digV (w / 32 % 32)), .int .i64 0]) := by
        have c := digit_c (w / 32 % 32)
        rw [digE_of, if_pos hl] at c
        exact c
      have c2 : callP Try.prog 34 [.int .u8 (w % 32)] (· = .tuple [.int .u8 (digV (w % 32)), .int .i64 2]) := by
        have c := digit_c (w % 32)
        rw [digE_of, if_neg hq] at c
        exact c
      have c := may_c hd
      rw [hm] at c
      have er := er_of h0 h1
      rw [hr] at er
      have el := el_of h0 h1
      have ecl := lc_of (w := w) h0
      have ecr := rc_of (w := w) h0
      have eon := on_of (w := w) h0
      refine callE_def env (fn := Try.f23) rfl (by decide) rfl ?_
      refine callT_E c rfl ?_
      repeat refine stb ?_
      repeat refine ndD ?_
      conv => whnf
      rw [er, el]
      repeat refine stk ?_
      refine callT_part [0, 2] rfl (table_c (d := d) (x := 10)) ?_
      rintro v H' ⟨rfl, rfl⟩ x G hx hG
      obtain rfl : x = tabA 0 2 := hx
      obtain rfl : G = [.cells (dcells d), .cells (dcells fun _ => 0), .cells [.int .u8 10], .cells (tabL 0 2)] := hG
      repeat refine ndD ?_
      refine callT_E (c34 ecl c1) rfl ?_
      refine callT_E (c34 ecr c2) rfl ?_
      repeat refine ndD ?_
      repeat refine stk ?_
      show Eqv _ _
      exact .up (.up (.refl _))
  · by_cases hq : digN (w % 32) < 11
    · skip
      have c1 : callP Try.prog 34 [.int .u8 (w / 32 % 32)] (· = .tuple [.int .u8 (digV (w / 32 % 32)), .int .i64 2]) := by
        have c := digit_c (w / 32 % 32)
        rw [digE_of, if_neg hl] at c
        exact c
      have c2 : callP Try.prog 34 [.int .u8 (w % 32)] (· = .tuple [.int .u8 (digV (w % 32)), .int .i64 0]) := by
        have c := digit_c (w % 32)
        rw [digE_of, if_pos hq] at c
        exact c
      have c := may_c hd
      rw [hm] at c
      have er := er_of h0 h1
      rw [hr] at er
      have el := el_of h0 h1
      have ecl := lc_of (w := w) h0
      have ecr := rc_of (w := w) h0
      have eon := on_of (w := w) h0
      refine callE_def env (fn := Try.f23) rfl (by decide) rfl ?_
      refine callT_E c rfl ?_
      repeat refine stb ?_
      repeat refine ndD ?_
      conv => whnf
      rw [er, el]
      repeat refine stk ?_
      refine callT_part [0, 2] rfl (table_c (d := d) (x := 10)) ?_
      rintro v H' ⟨rfl, rfl⟩ x G hx hG
      obtain rfl : x = tabA 0 2 := hx
      obtain rfl : G = [.cells (dcells d), .cells (dcells fun _ => 0), .cells [.int .u8 10], .cells (tabL 0 2)] := hG
      repeat refine ndD ?_
      refine callT_E (c34 ecl c1) rfl ?_
      refine callT_E (c34 ecr c2) rfl ?_
      repeat refine ndD ?_
      repeat refine stk ?_
      show Eqv _ _
      exact .up (.up (.refl _))
    · skip
      have c1 : callP Try.prog 34 [.int .u8 (w / 32 % 32)] (· = .tuple [.int .u8 (digV (w / 32 % 32)), .int .i64 2]) := by
        have c := digit_c (w / 32 % 32)
        rw [digE_of, if_neg hl] at c
        exact c
      have c2 : callP Try.prog 34 [.int .u8 (w % 32)] (· = .tuple [.int .u8 (digV (w % 32)), .int .i64 2]) := by
        have c := digit_c (w % 32)
        rw [digE_of, if_neg hq] at c
        exact c
      have c := may_c hd
      rw [hm] at c
      have er := er_of h0 h1
      rw [hr] at er
      have el := el_of h0 h1
      have ecl := lc_of (w := w) h0
      have ecr := rc_of (w := w) h0
      have eon := on_of (w := w) h0
      refine callE_def env (fn := Try.f23) rfl (by decide) rfl ?_
      refine callT_E c rfl ?_
      repeat refine stb ?_
      repeat refine ndD ?_
      conv => whnf
      rw [er, el]
      repeat refine stk ?_
      refine callT_part [0, 2] rfl (table_c (d := d) (x := 10)) ?_
      rintro v H' ⟨rfl, rfl⟩ x G hx hG
      obtain rfl : x = tabA 0 2 := hx
      obtain rfl : G = [.cells (dcells d), .cells (dcells fun _ => 0), .cells [.int .u8 10], .cells (tabL 0 2)] := hG
      repeat refine ndD ?_
      refine callT_E (c34 ecl c1) rfl ?_
      refine callT_E (c34 ecr c2) rfl ?_
      repeat refine ndD ?_
      repeat refine stk ?_
      show Eqv _ _
      exact .up (.up (.refl _))
set_option maxHeartbeats 2000000 in
theorem apply_ok9 {d : Nat → Int} (hd : WD d) (hm : mayB d = true) {w : Int} (h0 : 0 ≤ w) (h1 : w < 65536) (hr : w / 2048 % 16 = 10) (hf : fitW 9 w = true) : callP Try.prog 23 [dispA d, .int .u16 w] (· = .tuple [dispA (newD d 9 (digV (w / 32 % 32)) (digV (w % 32)) (sgV d (onB w) 9)), .int .i64 0]) := by
  unfold fitW at hf
  simp only [Bool.and_eq_true, decide_eq_true_eq] at hf
  obtain ⟨⟨⟨hl, hq⟩, hns⟩, h7⟩ := hf
  have hon : onB w = false := by simpa [hasS] using hns
  have c1 : callP Try.prog 34 [.int .u8 (w / 32 % 32)] (· = .tuple [.int .u8 (digV (w / 32 % 32)), .int .i64 0]) := by
    have c := digit_c (w / 32 % 32)
    rw [digE_of, if_pos hl] at c
    exact c
  have c2 : callP Try.prog 34 [.int .u8 (w % 32)] (· = .tuple [.int .u8 (digV (w % 32)), .int .i64 0]) := by
    have c := digit_c (w % 32)
    rw [digE_of, if_pos hq] at c
    exact c
  have c := may_c hd
  rw [hm] at c
  have er := er_of h0 h1
  rw [hr] at er
  have el := el_of h0 h1
  have ecl := lc_of (w := w) h0
  have ecr := rc_of (w := w) h0
  have eon := on_of (w := w) h0
  refine callE_def env (fn := Try.f23) rfl (by decide) rfl ?_
  refine callT_E c rfl ?_
  repeat refine stb ?_
  repeat refine ndD ?_
  conv => whnf
  rw [er, el]
  repeat refine stk ?_
  refine callT_part [0, 2] rfl (table_c (d := d) (x := 10)) ?_
  rintro v H' ⟨rfl, rfl⟩ x G hx hG
  obtain rfl : x = tabA 0 2 := hx
  obtain rfl : G = [.cells (dcells d), .cells (dcells fun _ => 0), .cells [.int .u8 10], .cells (tabL 0 2)] := hG
  repeat refine ndD ?_
  refine callT_E (c34 ecl c1) rfl ?_
  refine callT_E (c34 ecr c2) rfl ?_
  repeat refine ndD ?_
  repeat refine stk ?_
  refine branch_f' (by rw [eon]; exact hon) ?_
  repeat refine stk ?_
  refine draw_tree (picks [0, 1, 2, 4, 5, 6] (.fork 3 7 (picks [7, 8, 9] .done) (picks [3, 8, 9] .done))) (by decide +kernel) ?_
  refine ⟨?_, ?_⟩
  · skip
    repeat refine stk ?_
    refine branch_f' (by rw [eon]; exact hon) ?_
    refine draw_tree (picks [0, 1, 2, 3, 4, 5, 6, 7, 8, 9, 10, 11, 12] .done) (by decide +kernel) ?_
    repeat refine stb ?_
    show Eqv _ _
    exact .up (.up (.refl _))
  · skip
    repeat refine stk ?_
    refine branch_f' (by rw [eon]; exact hon) ?_
    refine draw_tree (picks [0, 1, 2, 3, 4, 5, 6, 7, 8, 9, 10, 11, 12] .done) (by decide +kernel) ?_
    repeat refine stb ?_
    show Eqv _ _
    exact .up (.up (.refl _))
set_option maxHeartbeats 1000000 in
theorem apply_no10 {d : Nat → Int} (hd : WD d) (hm : mayB d = true) {w : Int} (h0 : 0 ≤ w) (h1 : w < 65536) (hr : w / 2048 % 16 = 11) (hf : fitW 10 w = false) : callP Try.prog 23 [dispA d, .int .u16 w] (· = .tuple [dispA (fun _ => 0), .int .i64 5]) := by
  by_cases hl : digN (w / 32 % 32) < 11
  · by_cases hq : digN (w % 32) < 11
    · have hon : onB w = true := by
        unfold fitW at hf
        rw [decide_eq_true hl, decide_eq_true hq] at hf
        simpa [hasS] using hf
      have c1 : callP Try.prog 34 [.int .u8 (w / 32 % 32)] (· = .tuple [.int .u8 (digV (w / 32 % 32)), .int .i64 0]) := by
        have c := digit_c (w / 32 % 32)
        rw [digE_of, if_pos hl] at c
        exact c
      have c2 : callP Try.prog 34 [.int .u8 (w % 32)] (· = .tuple [.int .u8 (digV (w % 32)), .int .i64 0]) := by
        have c := digit_c (w % 32)
        rw [digE_of, if_pos hq] at c
        exact c
      have c := may_c hd
      rw [hm] at c
      have er := er_of h0 h1
      rw [hr] at er
      have el := el_of h0 h1
      have ecl := lc_of (w := w) h0
      have ecr := rc_of (w := w) h0
      have eon := on_of (w := w) h0
      refine callE_def env (fn := Try.f23) rfl (by decide) rfl ?_
      refine callT_E c rfl ?_
      repeat refine stb ?_
      repeat refine ndD ?_
      conv => whnf
      rw [er, el]
      repeat refine stk ?_
      refine callT_part [0, 2] rfl (table_c (d := d) (x := 10)) ?_
      rintro v H' ⟨rfl, rfl⟩ x G hx hG
      obtain rfl : x = tabA 0 2 := hx
      obtain rfl : G = [.cells (dcells d), .cells (dcells fun _ => 0), .cells [.int .u8 10], .cells (tabL 0 2)] := hG
      repeat refine ndD ?_
      refine callT_E (c34 ecl c1) rfl ?_
      refine callT_E (c34 ecr c2) rfl ?_
      repeat refine ndD ?_
      repeat refine stk ?_
      refine branch_t' (by rw [eon]; exact hon) ?_
      repeat refine stk ?_
      show Eqv _ _
      exact .up (.up (.refl _))
    · skip
      have c1 : callP Try.prog 34 [.int .u8 (w / 32 % 32)] (· = .tuple [.int .u8 (digV (w / 32 % 32)), .int .i64 0]) := by
        have c := digit_c (w / 32 % 32)
        rw [digE_of, if_pos hl] at c
        exact c
      have c2 : callP Try.prog 34 [.int .u8 (w % 32)] (· = .tuple [.int .u8 (digV (w % 32)), .int .i64 2]) := by
        have c := digit_c (w % 32)
        rw [digE_of, if_neg hq] at c
        exact c
      have c := may_c hd
      rw [hm] at c
      have er := er_of h0 h1
      rw [hr] at er
      have el := el_of h0 h1
      have ecl := lc_of (w := w) h0
      have ecr := rc_of (w := w) h0
      have eon := on_of (w := w) h0
      refine callE_def env (fn := Try.f23) rfl (by decide) rfl ?_
      refine callT_E c rfl ?_
      repeat refine stb ?_
      repeat refine ndD ?_
      conv => whnf
      rw [er, el]
      repeat refine stk ?_
      refine callT_part [0, 2] rfl (table_c (d := d) (x := 10)) ?_
      rintro v H' ⟨rfl, rfl⟩ x G hx hG
      obtain rfl : x = tabA 0 2 := hx
      obtain rfl : G = [.cells (dcells d), .cells (dcells fun _ => 0), .cells [.int .u8 10], .cells (tabL 0 2)] := hG
      repeat refine ndD ?_
      refine callT_E (c34 ecl c1) rfl ?_
      refine callT_E (c34 ecr c2) rfl ?_
      repeat refine ndD ?_
      repeat refine stk ?_
      show Eqv _ _
      exact .up (.up (.refl _))
  · by_cases hq : digN (w % 32) < 11
    · skip
      have c1 : callP Try.prog 34 [.int .u8 (w / 32 % 32)] (· = .tuple [.int .u8 (digV (w / 32 % 32)), .int .i64 2]) := by
        have c := digit_c (w / 32 % 32)
        rw [digE_of, if_neg hl] at c
        exact c
      have c2 : callP Try.prog 34 [.int .u8 (w % 32)] (· = .tuple [.int .u8 (digV (w % 32)), .int .i64 0]) := by
        have c := digit_c (w % 32)
        rw [digE_of, if_pos hq] at c
        exact c
      have c := may_c hd
      rw [hm] at c
      have er := er_of h0 h1
      rw [hr] at er
      have el := el_of h0 h1
      have ecl := lc_of (w := w) h0
      have ecr := rc_of (w := w) h0
      have eon := on_of (w := w) h0
      refine callE_def env (fn := Try.f23) rfl (by decide) rfl ?_
      refine callT_E c rfl ?_
      repeat refine stb ?_
      repeat refine ndD ?_
      conv => whnf
      rw [er, el]
      repeat refine stk ?_
      refine callT_part [0, 2] rfl (table_c (d := d) (x := 10)) ?_
      rintro v H' ⟨rfl, rfl⟩ x G hx hG
      obtain rfl : x = tabA 0 2 := hx
      obtain rfl : G = [.cells (dcells d), .cells (dcells fun _ => 0), .cells [.int .u8 10], .cells (tabL 0 2)] := hG
      repeat refine ndD ?_
      refine callT_E (c34 ecl c1) rfl ?_
      refine callT_E (c34 ecr c2) rfl ?_
      repeat refine ndD ?_
      repeat refine stk ?_
      show Eqv _ _
      exact .up (.up (.refl _))
    · skip
      have c1 : callP Try.prog 34 [.int .u8 (w / 32 % 32)] (· = .tuple [.int .u8 (digV (w / 32 % 32)), .int .i64 2]) := by
        have c := digit_c (w / 32 % 32)
        rw [digE_of, if_neg hl] at c
        exact c
      have c2 : callP Try.prog 34 [.int .u8 (w % 32)] (· = .tuple [.int .u8 (digV (w % 32)), .int .i64 2]) := by
        have c := digit_c (w % 32)
        rw [digE_of, if_neg hq] at c
        exact c
      have c := may_c hd
      rw [hm] at c
      have er := er_of h0 h1
      rw [hr] at er
      have el := el_of h0 h1
      have ecl := lc_of (w := w) h0
      have ecr := rc_of (w := w) h0
      have eon := on_of (w := w) h0
      refine callE_def env (fn := Try.f23) rfl (by decide) rfl ?_
      refine callT_E c rfl ?_
      repeat refine stb ?_
      repeat refine ndD ?_
      conv => whnf
      rw [er, el]
      repeat refine stk ?_
      refine callT_part [0, 2] rfl (table_c (d := d) (x := 10)) ?_
      rintro v H' ⟨rfl, rfl⟩ x G hx hG
      obtain rfl : x = tabA 0 2 := hx
      obtain rfl : G = [.cells (dcells d), .cells (dcells fun _ => 0), .cells [.int .u8 10], .cells (tabL 0 2)] := hG
      repeat refine ndD ?_
      refine callT_E (c34 ecl c1) rfl ?_
      refine callT_E (c34 ecr c2) rfl ?_
      repeat refine ndD ?_
      repeat refine stk ?_
      show Eqv _ _
      exact .up (.up (.refl _))
set_option maxHeartbeats 2000000 in
theorem apply_ok10 {d : Nat → Int} (hd : WD d) (hm : mayB d = true) {w : Int} (h0 : 0 ≤ w) (h1 : w < 65536) (hr : w / 2048 % 16 = 11) (hf : fitW 10 w = true) : callP Try.prog 23 [dispA d, .int .u16 w] (· = .tuple [dispA (newD d 10 (digV (w / 32 % 32)) (digV (w % 32)) (sgV d (onB w) 10)), .int .i64 0]) := by
  unfold fitW at hf
  simp only [Bool.and_eq_true, decide_eq_true_eq] at hf
  obtain ⟨⟨⟨hl, hq⟩, hns⟩, h7⟩ := hf
  have hon : onB w = false := by simpa [hasS] using hns
  have c1 : callP Try.prog 34 [.int .u8 (w / 32 % 32)] (· = .tuple [.int .u8 (digV (w / 32 % 32)), .int .i64 0]) := by
    have c := digit_c (w / 32 % 32)
    rw [digE_of, if_pos hl] at c
    exact c
  have c2 : callP Try.prog 34 [.int .u8 (w % 32)] (· = .tuple [.int .u8 (digV (w % 32)), .int .i64 0]) := by
    have c := digit_c (w % 32)
    rw [digE_of, if_pos hq] at c
    exact c
  have c := may_c hd
  rw [hm] at c
  have er := er_of h0 h1
  rw [hr] at er
  have el := el_of h0 h1
  have ecl := lc_of (w := w) h0
  have ecr := rc_of (w := w) h0
  have eon := on_of (w := w) h0
  refine callE_def env (fn := Try.f23) rfl (by decide) rfl ?_
  refine callT_E c rfl ?_
  repeat refine stb ?_
  repeat refine ndD ?_
  conv => whnf
  rw [er, el]
  repeat refine stk ?_
  refine callT_part [0, 2] rfl (table_c (d := d) (x := 10)) ?_
  rintro v H' ⟨rfl, rfl⟩ x G hx hG
  obtain rfl : x = tabA 0 2 := hx
  obtain rfl : G = [.cells (dcells d), .cells (dcells fun _ => 0), .cells [.int .u8 10], .cells (tabL 0 2)] := hG
  repeat refine ndD ?_
  refine callT_E (c34 ecl c1) rfl ?_
  refine callT_E (c34 ecr c2) rfl ?_
  repeat refine ndD ?_
  repeat refine stk ?_
  refine branch_f' (by rw [eon]; exact hon) ?_
  repeat refine stk ?_
  refine draw_tree (picks [0, 1, 2, 4, 5, 6] (.fork 3 7 (picks [7, 8, 9] .done) (picks [3, 8, 9] .done))) (by decide +kernel) ?_
  refine ⟨?_, ?_⟩
  · skip
    repeat refine stk ?_
    refine branch_f' (by rw [eon]; exact hon) ?_
    refine draw_tree (picks [0, 1, 2, 3, 4, 5, 6, 7, 8, 9, 10, 11, 12] .done) (by decide +kernel) ?_
    repeat refine stb ?_
    show Eqv _ _
    exact .up (.up (.refl _))
  · skip
    repeat refine stk ?_
    refine branch_f' (by rw [eon]; exact hon) ?_
    refine draw_tree (picks [0, 1, 2, 3, 4, 5, 6, 7, 8, 9, 10, 11, 12] .done) (by decide +kernel) ?_
    repeat refine stb ?_
    show Eqv _ _
    exact .up (.up (.refl _))
end Go.Proofs.Rl
namespace Go.Proofs.Rl
open Go.E
set_option maxRecDepth 8000
def rowN (w : Int) : Nat := (w / 2048 % 16).toNat
def apE (w : Int) : Int := match rowN w with
  | 0 => 3 | 14 => 3 | 15 => 3 | 12 => 0 | 13 => 0
  | r => if fitW (r - 1) w = true then 0 else 5
def apD (d : Nat → Int) (w : Int) : Nat → Int := match rowN w with
  | 0 => fun _ => 0 | 14 => fun _ => 0 | 15 => fun _ => 0 | 12 => upd d 24 (w % 2048) | 13 => upd d 25 (w % 2048)
  | r => if fitW (r - 1) w = true then newD d (r - 1) (digV (w / 32 % 32)) (digV (w % 32)) (sgV d (onB w) (r - 1)) else fun _ => 0
theorem apply_c {d : Nat → Int} (hd : WD d) (hm : mayB d = true) {w : Int} (h0 : 0 ≤ w) (h1 : w < 65536) : callP Try.prog 23 [dispA d, .int .u16 w] (· = .tuple [dispA (apD d w), .int .i64 (apE w)]) := by
  obtain ⟨r, hr⟩ : ∃ r : Nat, rowN w = r := ⟨_, rfl⟩
  have hw : w / 2048 % 16 = r := by unfold rowN at hr; omega
  have hlt : r < 16 := by omega
  unfold apD apE
  rw [hr]
  have h16 : r = 0 ∨ r = 1 ∨ r = 2 ∨ r = 3 ∨ r = 4 ∨ r = 5 ∨ r = 6 ∨ r = 7 ∨ r = 8 ∨ r = 9 ∨ r = 10 ∨ r = 11 ∨ r = 12 ∨ r = 13 ∨ r = 14 ∨ r = 15 := by omega
  rcases h16 with rfl | rfl | rfl | rfl | rfl | rfl | rfl | rfl | rfl | rfl | rfl | rfl | rfl | rfl | rfl | rfl
  · exact apply_r0 hd hm h0 h1 hw
  · simp only [Nat.reduceSub]
    by_cases hf : fitW 0 w = true
    · rw [if_pos hf, if_pos hf]; exact apply_ok0 hd hm h0 h1 hw hf
    · rw [if_neg hf, if_neg hf]; exact apply_no0 hd hm h0 h1 hw (Bool.eq_false_iff.2 hf)
  · simp only [Nat.reduceSub]
    by_cases hf : fitW 1 w = true
    · rw [if_pos hf, if_pos hf]; exact apply_ok1 hd hm h0 h1 hw hf
    · rw [if_neg hf, if_neg hf]; exact apply_no1 hd hm h0 h1 hw (Bool.eq_false_iff.2 hf)
  · simp only [Nat.reduceSub]
    by_cases hf : fitW 2 w = true
    · rw [if_pos hf, if_pos hf]; exact apply_ok2 hd hm h0 h1 hw hf
    · rw [if_neg hf, if_neg hf]; exact apply_no2 hd hm h0 h1 hw (Bool.eq_false_iff.2 hf)
  · simp only [Nat.reduceSub]
    by_cases hf : fitW 3 w = true
    · rw [if_pos hf, if_pos hf]; exact apply_ok3 hd hm h0 h1 hw hf
    · rw [if_neg hf, if_neg hf]; exact apply_no3 hd hm h0 h1 hw (Bool.eq_false_iff.2 hf)
  · simp only [Nat.reduceSub]
    by_cases hf : fitW 4 w = true
    · rw [if_pos hf, if_pos hf]; exact apply_ok4 hd hm h0 h1 hw hf
    · rw [if_neg hf, if_neg hf]; exact apply_no4 hd hm h0 h1 hw (Bool.eq_false_iff.2 hf)
  · simp only [Nat.reduceSub]
    by_cases hf : fitW 5 w = true
    · rw [if_pos hf, if_pos hf]; exact apply_ok5 hd hm h0 h1 hw hf
    · rw [if_neg hf, if_neg hf]; exact apply_no5 hd hm h0 h1 hw (Bool.eq_false_iff.2 hf)
  · simp only [Nat.reduceSub]
    by_cases hf : fitW 6 w = true
    · rw [if_pos hf, if_pos hf]; exact apply_ok6 hd hm h0 h1 hw hf
    · rw [if_neg hf, if_neg hf]; exact apply_no6 hd hm h0 h1 hw (Bool.eq_false_iff.2 hf)
  · simp only [Nat.reduceSub]
    by_cases hf : fitW 7 w = true
    · rw [if_pos hf, if_pos hf]; exact apply_ok7 hd hm h0 h1 hw hf
    · rw [if_neg hf, if_neg hf]; exact apply_no7 hd hm h0 h1 hw (Bool.eq_false_iff.2 hf)
  · simp only [Nat.reduceSub]
    by_cases hf : fitW 8 w = true
    · rw [if_pos hf, if_pos hf]; exact apply_ok8 hd hm h0 h1 hw hf
    · rw [if_neg hf, if_neg hf]; exact apply_no8 hd hm h0 h1 hw (Bool.eq_false_iff.2 hf)
  · simp only [Nat.reduceSub]
    by_cases hf : fitW 9 w = true
    · rw [if_pos hf, if_pos hf]; exact apply_ok9 hd hm h0 h1 hw hf
    · rw [if_neg hf, if_neg hf]; exact apply_no9 hd hm h0 h1 hw (Bool.eq_false_iff.2 hf)
  · simp only [Nat.reduceSub]
    by_cases hf : fitW 10 w = true
    · rw [if_pos hf, if_pos hf]; exact apply_ok10 hd hm h0 h1 hw hf
    · rw [if_neg hf, if_neg hf]; exact apply_no10 hd hm h0 h1 hw (Bool.eq_false_iff.2 hf)
  · exact apply_r12 hd hm h0 h1 hw
  · exact apply_r13 hd hm h0 h1 hw
  · exact apply_r14 hd hm h0 h1 hw
  · exact apply_r15 hd hm h0 h1 hw
end Go.Proofs.Rl
namespace Go.Proofs.Rl
open Go.E
set_option maxRecDepth 8000
def lim (j : Nat) : Int := match j with
  | 6 => 3 | 12 => 3 | 18 => 3 | 24 => 2048 | 25 => 2048 | _ => 11
def Good (d : Nat → Int) : Prop := ∀ j, j < 26 → 0 ≤ d j ∧ d j < lim j
theorem Good.wd {d : Nat → Int} (h : Good d) : WD d := by
  refine ⟨fun j hj => ?_, ?_, ?_⟩
  · have := h j (by omega)
    have hl : lim j ≤ 11 := by
      have : j ≠ 24 := by omega
      have : j ≠ 25 := by omega
      unfold lim
      split <;> first | omega | (exfalso; omega)
    unfold W8; omega
  · have := h 24 (by decide); simp only [lim] at this; omega
  · have := h 25 (by decide); simp only [lim] at this; omega
theorem Good.may {d : Nat → Int} (h : Good d) : mayB d = true := by
  unfold mayB
  have h24 := (h 24 (by decide)).2
  have h25 := (h 25 (by decide)).2
  simp only [lim] at h24 h25
  rw [decide_eq_true h24, decide_eq_true h25, Bool.and_true, Bool.and_true]
  refine allB_of fun k hk => ?_
  have hk' : k = 0 ∨ k = 1 ∨ k = 2 ∨ k = 3 ∨ k = 4 ∨ k = 5 ∨ k = 6 ∨ k = 7 ∨ k = 8 ∨ k = 9 ∨ k = 10 := by omega
  rcases hk' with rfl | rfl | rfl | rfl | rfl | rfl | rfl | rfl | rfl | rfl | rfl
  · have h22 := (h 22 (by decide)).2; have h23 := (h 23 (by decide)).2; have h18 := (h 18 (by decide)).2; simp only [lim] at h22 h23 h18; unfold okB; simp; omega
  · have h20 := (h 20 (by decide)).2; have h21 := (h 21 (by decide)).2; have h18 := (h 18 (by decide)).2; simp only [lim] at h20 h21 h18; unfold okB; simp; omega
  · have h17 := (h 17 (by decide)).2; have h19 := (h 19 (by decide)).2; simp only [lim] at h17 h19; unfold okB; simp; omega
  · have h15 := (h 15 (by decide)).2; have h16 := (h 16 (by decide)).2; have h12 := (h 12 (by decide)).2; simp only [lim] at h15 h16 h12; unfold okB; simp; omega
  · have h13 := (h 13 (by decide)).2; have h14 := (h 14 (by decide)).2; have h12 := (h 12 (by decide)).2; simp only [lim] at h13 h14 h12; unfold okB; simp; omega
  · have h10 := (h 10 (by decide)).2; have h11 := (h 11 (by decide)).2; have h6 := (h 6 (by decide)).2; simp only [lim] at h10 h11 h6; unfold okB; simp; omega
  · have h8 := (h 8 (by decide)).2; have h9 := (h 9 (by decide)).2; have h6 := (h 6 (by decide)).2; simp only [lim] at h8 h9 h6; unfold okB; simp; omega
  · have h7 := (h 7 (by decide)).2; simp only [lim] at h7; unfold okB; simp; omega
  · have h4 := (h 4 (by decide)).2; have h5 := (h 5 (by decide)).2; simp only [lim] at h4 h5; unfold okB; simp; omega
  · have h2 := (h 2 (by decide)).2; have h3 := (h 3 (by decide)).2; simp only [lim] at h2 h3; unfold okB; simp; omega
  · have h0 := (h 0 (by decide)).2; have h1 := (h 1 (by decide)).2; simp only [lim] at h0 h1; unfold okB; simp; omega
theorem upd_at (d : Nat → Int) (i : Nat) (v : Int) (j : Nat) : upd d i v j = if j = i then v else d j := by
  unfold upd
  by_cases h : j = i
  · subst h; rw [Nat.beq_refl, if_pos rfl]
  · have : Nat.beq j i = false := by
      cases hb : Nat.beq j i with
      | false => rfl
      | true => exact absurd (Nat.eq_of_beq_eq_true hb) h
    rw [if_neg h, this]
def loN (r : Nat) : Nat := match r with
  | 1 => 22
  | 2 => 20
  | 3 => 17
  | 4 => 15
  | 5 => 13
  | 6 => 10
  | 7 => 8
  | 8 => 99
  | 9 => 4
  | 10 => 2
  | 11 => 0
  | 12 => 99
  | 13 => 99
  | _ => 99
def roN (r : Nat) : Nat := match r with
  | 1 => 23
  | 2 => 21
  | 3 => 19
  | 4 => 16
  | 5 => 14
  | 6 => 11
  | 7 => 9
  | 8 => 7
  | 9 => 5
  | 10 => 3
  | 11 => 1
  | 12 => 24
  | 13 => 25
  | _ => 97
def soN (r : Nat) : Nat := match r with
  | 1 => 18
  | 2 => 18
  | 3 => 98
  | 4 => 12
  | 5 => 12
  | 6 => 6
  | 7 => 6
  | 8 => 98
  | 9 => 98
  | 10 => 98
  | 11 => 98
  | 12 => 98
  | 13 => 98
  | _ => 98
def sgnV (r : Nat) : Int := match r with
  | 1 => 2
  | 2 => 1
  | 4 => 2
  | 5 => 1
  | 6 => 2
  | 7 => 1
  | _ => 0
def svN (d : Nat → Int) (b : Bool) (r : Nat) : Int := if b = true then sgnV r else if d (soN r) = sgnV r then 0 else d (soN r)
def rvN (w : Int) : Int := if 12 ≤ rowN w then w % 2048 else digV (w % 32)
def lvN (w : Int) : Int := digV (w / 32 % 32)
theorem rowN_b {w : Int} : rowN w < 16 := by unfold rowN; omega
theorem apE_row {w : Int} (h : apE w = 0) : 1 ≤ rowN w ∧ rowN w ≤ 13 ∧ (rowN w ≤ 11 → fitW (rowN w - 1) w = true) := by
  have hb := @rowN_b w
  unfold apE at h
  generalize rowN w = r at h hb ⊢
  have h16 : r = 0 ∨ r = 1 ∨ r = 2 ∨ r = 3 ∨ r = 4 ∨ r = 5 ∨ r = 6 ∨ r = 7 ∨ r = 8 ∨ r = 9 ∨ r = 10 ∨ r = 11 ∨ r = 12 ∨ r = 13 ∨ r = 14 ∨ r = 15 := by omega
  rcases h16 with rfl | rfl | rfl | rfl | rfl | rfl | rfl | rfl | rfl | rfl | rfl | rfl | rfl | rfl | rfl | rfl <;> first
    | (exfalso; simp at h; done)
    | (exfalso; revert h; decide)
    | exact ⟨by decide, by decide, fun h => by omega⟩
    | (refine ⟨by decide, by decide, fun _ => ?_⟩
       simp only [Nat.reduceSub] at h ⊢
       split at h
       · assumption
       · exact absurd h (by decide))
theorem apD_at {d : Nat → Int} {w : Int} (h : apE w = 0) {j : Nat} (hj : j < 26) : apD d w j = if j = soN (rowN w) then svN d (onB w) (rowN w) else if j = roN (rowN w) then rvN w else if j = loN (rowN w) then lvN w else d j := by
  obtain ⟨h1, h13, hf⟩ := apE_row h
  have j99 : j ≠ 99 := by omega
  have j98 : j ≠ 98 := by omega
  unfold apD rvN lvN
  generalize rowN w = r at h1 h13 hf ⊢
  have h16 : r = 1 ∨ r = 2 ∨ r = 3 ∨ r = 4 ∨ r = 5 ∨ r = 6 ∨ r = 7 ∨ r = 8 ∨ r = 9 ∨ r = 10 ∨ r = 11 ∨ r = 12 ∨ r = 13 := by omega
  rcases h16 with rfl | rfl | rfl | rfl | rfl | rfl | rfl | rfl | rfl | rfl | rfl | rfl | rfl
  · have hf := hf (by decide)
    simp only [Nat.reduceSub] at hf ⊢
    rw [if_pos hf]
    simp only [newD, upd_at, soN, roN, loN, j99, j98, if_false, show ¬ 12 ≤ 1 from by decide]
    rfl
  · have hf := hf (by decide)
    simp only [Nat.reduceSub] at hf ⊢
    rw [if_pos hf]
    simp only [newD, upd_at, soN, roN, loN, j99, j98, if_false, show ¬ 12 ≤ 2 from by decide]
    rfl
  · have hf := hf (by decide)
    simp only [Nat.reduceSub] at hf ⊢
    rw [if_pos hf]
    simp only [newD, upd_at, soN, roN, loN, j99, j98, if_false, show ¬ 12 ≤ 3 from by decide]
  · have hf := hf (by decide)
    simp only [Nat.reduceSub] at hf ⊢
    rw [if_pos hf]
    simp only [newD, upd_at, soN, roN, loN, j99, j98, if_false, show ¬ 12 ≤ 4 from by decide]
    rfl
  · have hf := hf (by decide)
    simp only [Nat.reduceSub] at hf ⊢
    rw [if_pos hf]
    simp only [newD, upd_at, soN, roN, loN, j99, j98, if_false, show ¬ 12 ≤ 5 from by decide]
    rfl
  · have hf := hf (by decide)
    simp only [Nat.reduceSub] at hf ⊢
    rw [if_pos hf]
    simp only [newD, upd_at, soN, roN, loN, j99, j98, if_false, show ¬ 12 ≤ 6 from by decide]
    rfl
  · have hf := hf (by decide)
    simp only [Nat.reduceSub] at hf ⊢
    rw [if_pos hf]
    simp only [newD, upd_at, soN, roN, loN, j99, j98, if_false, show ¬ 12 ≤ 7 from by decide]
    rfl
  · have hf := hf (by decide)
    simp only [Nat.reduceSub] at hf ⊢
    rw [if_pos hf]
    simp only [newD, upd_at, soN, roN, loN, j99, j98, if_false, show ¬ 12 ≤ 8 from by decide]
  · have hf := hf (by decide)
    simp only [Nat.reduceSub] at hf ⊢
    rw [if_pos hf]
    simp only [newD, upd_at, soN, roN, loN, j99, j98, if_false, show ¬ 12 ≤ 9 from by decide]
  · have hf := hf (by decide)
    simp only [Nat.reduceSub] at hf ⊢
    rw [if_pos hf]
    simp only [newD, upd_at, soN, roN, loN, j99, j98, if_false, show ¬ 12 ≤ 10 from by decide]
  · have hf := hf (by decide)
    simp only [Nat.reduceSub] at hf ⊢
    rw [if_pos hf]
    simp only [newD, upd_at, soN, roN, loN, j99, j98, if_false, show ¬ 12 ≤ 11 from by decide]
  · simp only [upd_at, soN, roN, loN, j99, j98, if_false, show 12 ≤ 12 from by decide, if_true]
  · simp only [upd_at, soN, roN, loN, j99, j98, if_false, show 12 ≤ 13 from by decide, if_true]
end Go.Proofs.Rl
