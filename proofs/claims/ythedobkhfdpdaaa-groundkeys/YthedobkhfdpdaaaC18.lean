/- Chapter 30: the panel in hand: components, clearing. -/
import Derived.Test.YthedobkhfdpdaaaC17
import Derived.Test.YthedobkhfdpdaaaE5
set_option linter.unusedVariables false
set_option linter.unusedSimpArgs false
namespace Go.Proofs
open Go.E
set_option maxRecDepth 8000
structure Dat (p : Pan) (i : Nat) : Prop where
  f : p.N.find p.nn = some i
  c : 0 ≤ p.cmp ∧ p.cmp ≤ 2
  m : p.cmp < p.N.m i
theorem comp_c (p : Pan) (hN : p.N.Ok) (i : Nat) (hd : Dat p i) : callN Try.prog 61 [.ptr ⟨0, 0, 0⟩] [.cells (desk0 p)] fun v H' => v = cA (compV p) ∧ H' = [.cells (desk0 p)] := by
  have hc := hd.c
  have hm := hd.m
  have hmi := hN.m i (find_lt hd.f).1
  rw [show compV p = p.N.cm i p.cmp.toNat by rw [compV, hd.f]]
  refine callN_end [0] ?_
  refine callN_def env (fn := Try.f61) 1 rfl rfl (by decide) ?_
  refine draw_tree (picks (List.range 17) .done) (by decide +kernel) ?_
  refine ⟨_, ⟨find_some hN hd.f, rfl⟩, ?_⟩
  repeat refine stp ?_
  refine draw_tree (picks (List.range 10) .done) (by decide +kernel) ?_
  repeat refine stp ?_
  exact ⟨rfl, Eqv.same _, EqvH.refl _⟩
theorem clear_no (p : Pan) (h : p.st = 0) (h0 : p.cnt = 0) (k : Int) : callN Try.prog 52 [.ptr ⟨0, 0, 0⟩, .int .u8 k] [.cells (desk0 p)] fun v H' => v = .bool false ∧ H' = [.cells (desk0 { p with cnt := 0 })] := by
  refine callN_end [0] ?_
  refine callN_def env (fn := Try.f52) 1 rfl rfl (by decide) ?_
  repeat refine stp ?_
  exact ⟨rfl, Eqv.same _, EqvH.refl _⟩
theorem clear_v (p : Pan) (h : p.st = 1) (k : Int) : callN Try.prog 52 [.ptr ⟨0, 0, 0⟩, .int .u8 k] [.cells (desk0 p)] fun v H' => v = .bool true ∧ H' = [.cells (desk0 { p with cnt := 0, vb := 0, D := { p.D with v0 := 10, v1 := 10 } })] := by
  refine callN_end [0] ?_
  refine callN_def env (fn := Try.f52) 1 rfl rfl (by decide) ?_
  repeat refine stp ?_
  refine callT_part [0] rfl (number_v { p with cnt := 0 } h) ?_
  rintro v H' ⟨rfl, rfl⟩ x G hx hG
  obtain rfl : x = .tuple [.ptr ⟨0, 0, 2⟩, .ptr ⟨0, 0, 41⟩] := hx
  obtain rfl : G = [.cells (desk0 { p with cnt := 0 })] := hG
  repeat refine stp ?_
  refine callT_E gap_c rfl ?_
  repeat refine stp ?_
  exact ⟨rfl, Eqv.same _, EqvH.refl _⟩
theorem clear_n (p : Pan) (h0 : p.st ≠ 0) (h1 : p.st ≠ 1) (h3 : p.st ≠ 3) (k : Int) : callN Try.prog 52 [.ptr ⟨0, 0, 0⟩, .int .u8 k] [.cells (desk0 p)] fun v H' => v = .bool true ∧ H' = [.cells (desk0 { p with cnt := 0, nn := 0, D := { p.D with n0 := 10, n1 := 10 } })] := by
  refine callN_end [0] ?_
  refine callN_def env (fn := Try.f52) 1 rfl rfl (by decide) ?_
  repeat refine stp ?_
  refine callT_part [0] rfl (number_n { p with cnt := 0 } h1) ?_
  rintro v H' ⟨rfl, rfl⟩ x G hx hG
  obtain rfl : x = .tuple [.ptr ⟨0, 0, 3⟩, .ptr ⟨0, 0, 43⟩] := hx
  obtain rfl : G = [.cells (desk0 { p with cnt := 0 })] := hG
  repeat refine stp ?_
  refine callT_E gap_c rfl ?_
  repeat refine stp ?_
  exact ⟨rfl, Eqv.same _, EqvH.refl _⟩
set_option maxHeartbeats 4000000 in
theorem clear_d3 (p : Pan) (h : p.st = 3) (hc : 0 ≤ p.cmp ∧ p.cmp ≤ 2) (k : Int) : callN Try.prog 52 [.ptr ⟨0, 0, 0⟩, .int .u8 k] [.cells (desk0 p)] fun v H' => v = .bool true ∧ H' = [.cells (desk0 { p with cnt := 0, ty := bl6, D := p.D.setR p.cmp bl6 })] := by
  obtain ⟨N, st, vb, nn, ty, cnt, cmp, l0, l1, l2, act, an, av, aq, asked, D⟩ := p
  dsimp only at h hc
  subst h
  refine callN_end [0] ?_
  refine callN_def env (fn := Try.f52) 1 rfl rfl (by decide) ?_
  rcases (show cmp = 0 ∨ cmp = 1 ∨ cmp = 2 by omega) with rfl | rfl | rfl
  all_goals
    repeat refine stp ?_
    refine callT_E empty_c rfl ?_
    repeat refine stp ?_
    refine draw_tree (picks (List.range 17) .done) (by decide +kernel) ?_
    repeat refine stp ?_
    exact ⟨rfl, Eqv.same _, EqvH.refl _⟩
end Go.Proofs
namespace Go.Proofs
open Go.E
set_option maxRecDepth 8000
abbrev CompIs (p : Pan) (c : Cmp) : Prop := callN Try.prog 61 [.ptr ⟨0, 0, 0⟩] [.cells (desk0 p)] fun v H' => v = cA c ∧ H' = [.cells (desk0 p)]
theorem sign_no (p : Pan) (k : Int) (h : p.st ≠ 3 ∨ p.cnt ≠ 0 ∨ p.ty.s ≠ 0) : callN Try.prog 49 [.ptr ⟨0, 0, 0⟩, .int .u8 k] [.cells (desk0 p)] fun v H' => v = .bool false ∧ H' = [.cells (desk0 p)] := by
  refine callN_end [0] ?_
  refine callN_def env (fn := Try.f49) 1 rfl rfl (by decide) ?_
  by_cases h1 : p.st = 3
  · by_cases h2 : p.cnt = 0
    · have h3 : p.ty.s ≠ 0 := by omega
      repeat refine stp ?_
      exact ⟨rfl, Eqv.same _, EqvH.refl _⟩
    · repeat refine stp ?_
      exact ⟨rfl, Eqv.same _, EqvH.refl _⟩
  · repeat refine stp ?_
    exact ⟨rfl, Eqv.same _, EqvH.refl _⟩
theorem sign_oct (p : Pan) (k : Int) (c : Cmp) (e : CompIs p c) (h1 : p.st = 3) (h2 : p.cnt = 0) (h3 : p.ty.s = 0) (h4 : c.k = 1) : callN Try.prog 49 [.ptr ⟨0, 0, 0⟩, .int .u8 k] [.cells (desk0 p)] fun v H' => v = .bool false ∧ H' = [.cells (desk0 p)] := by
  refine callN_end [0] ?_
  refine callN_def env (fn := Try.f49) 1 rfl rfl (by decide) ?_
  repeat refine stp ?_
  refine callT_part [0] rfl e ?_
  rintro v H' ⟨rfl, rfl⟩ x G hx hG
  obtain rfl : x = cA c := hx
  obtain rfl : G = [.cells (desk0 p)] := hG
  repeat refine stp ?_
  exact ⟨rfl, Eqv.same _, EqvH.refl _⟩
set_option maxHeartbeats 4000000 in
theorem sign_c (p : Pan) (k : Int) (hk : k = 11 ∨ k = 12) (c : Cmp) (e : CompIs p c) (h1 : p.st = 3) (h2 : p.cnt = 0) (h3 : p.ty.s = 0) (h4 : c.k ≠ 1) (hc : 0 ≤ p.cmp ∧ p.cmp ≤ 2) :
    callN Try.prog 49 [.ptr ⟨0, 0, 0⟩, .int .u8 k] [.cells (desk0 p)] fun v H' => v = .bool true ∧ H' = [.cells (desk0 { p with ty := { p.ty with s := k - 10 }, D := p.D.setR p.cmp { p.ty with s := k - 10 } })] := by
  obtain ⟨N, st, vb, nn, ty, cnt, cmp, l0, l1, l2, act, an, av, aq, asked, D⟩ := p
  dsimp only at h1 h2 h3 hc
  subst h1 h2
  refine callN_end [0] ?_
  refine callN_def env (fn := Try.f49) 1 rfl rfl (by decide) ?_
  repeat refine stp ?_
  refine callT_part [0] rfl e ?_
  rintro v H' ⟨rfl, rfl⟩ x G hx hG
  obtain rfl : x = cA c := hx
  obtain rfl : G = [.cells (desk0 ⟨N, 3, vb, nn, ty, 0, cmp, l0, l1, l2, act, an, av, aq, asked, D⟩)] := hG
  rcases (show cmp = 0 ∨ cmp = 1 ∨ cmp = 2 by omega) with rfl | rfl | rfl <;> rcases hk with rfl | rfl
  all_goals
    repeat refine stp ?_
    refine draw_tree (picks (List.range 17) .done) (by decide +kernel) ?_
    repeat refine stp ?_
    exact ⟨rfl, Eqv.same _, EqvH.refl _⟩
theorem digit_no (p : Pan) (k : Int) (h : p.st = 0 ∨ p.st ≠ 3 ∧ p.cnt = 2) : callN Try.prog 48 [.ptr ⟨0, 0, 0⟩, .int .u8 k] [.cells (desk0 p)] fun v H' => v = .bool false ∧ H' = [.cells (desk0 p)] := by
  refine callN_end [0] ?_
  refine callN_def env (fn := Try.f48) 1 rfl rfl (by decide) ?_
  by_cases h0 : p.st = 0
  · repeat refine stp ?_
    exact ⟨rfl, Eqv.same _, EqvH.refl _⟩
  · have h1 : p.st ≠ 3 := by omega
    have h2 : p.cnt = 2 := by omega
    repeat refine stp ?_
    exact ⟨rfl, Eqv.same _, EqvH.refl _⟩
theorem digit_v0 (p : Pan) (k d : Int) (hk : 1 ≤ k ∧ k ≤ 10) (he : d = k - 1) (h : p.st = 1) (hc : p.cnt = 0) (hb : 0 ≤ p.vb ∧ p.vb ≤ 99) :
    callN Try.prog 48 [.ptr ⟨0, 0, 0⟩, .int .u8 k] [.cells (desk0 p)] fun v H' => v = .bool true ∧ H' = [.cells (desk0 { p with vb := 10 * p.vb + d, D := { p.D with v0 := d }, cnt := 1 })] := by
  have ed : IntKind.u8.wrap (k - 1) = d := by rw [he, wu8 (by omega) (by omega)]
  have e10 : IntKind.i64.wrap (IntKind.i64.wrap (10 * p.vb) + IntKind.i64.wrap (IntKind.u8.wrap (k - 1))) = 10 * p.vb + d := by
    rw [ed, wi (x := 10 * p.vb) (by omega) (by omega), wi (x := d) (by omega) (by omega), wi (by omega) (by omega)]
  rw [← e10, ← ed]
  clear e10
  obtain ⟨N, st, vb, nn, ty, cnt, cmp, l0, l1, l2, act, an, av, aq, asked, D⟩ := p
  dsimp only at h hc
  subst hc
  refine callN_end [0] ?_
  refine callN_def env (fn := Try.f48) 1 rfl rfl (by decide) ?_
  repeat refine stp ?_
  refine callT_part [0] rfl (number_v ⟨N, st, vb, nn, ty, 0, cmp, l0, l1, l2, act, an, av, aq, asked, D⟩ h) ?_
  rintro v H' ⟨rfl, rfl⟩ x G hx hG
  obtain rfl : x = .tuple [.ptr ⟨0, 0, 2⟩, .ptr ⟨0, 0, 41⟩] := hx
  obtain rfl : G = [.cells (desk0 ⟨N, st, vb, nn, ty, 0, cmp, l0, l1, l2, act, an, av, aq, asked, D⟩)] := hG
  repeat refine stp ?_
  refine draw_tree (picks (List.range 10) .done) (by decide +kernel) ?_
  repeat refine stp ?_
  exact ⟨rfl, Eqv.same _, EqvH.refl _⟩
theorem digit_v1 (p : Pan) (k d : Int) (hk : 1 ≤ k ∧ k ≤ 10) (he : d = k - 1) (h : p.st = 1) (hc : p.cnt = 1) (hb : 0 ≤ p.vb ∧ p.vb ≤ 99) :
    callN Try.prog 48 [.ptr ⟨0, 0, 0⟩, .int .u8 k] [.cells (desk0 p)] fun v H' => v = .bool true ∧ H' = [.cells (desk0 { p with vb := 10 * p.vb + d, D := { p.D with v1 := d }, cnt := 2 })] := by
  have ed : IntKind.u8.wrap (k - 1) = d := by rw [he, wu8 (by omega) (by omega)]
  have e10 : IntKind.i64.wrap (IntKind.i64.wrap (10 * p.vb) + IntKind.i64.wrap (IntKind.u8.wrap (k - 1))) = 10 * p.vb + d := by
    rw [ed, wi (x := 10 * p.vb) (by omega) (by omega), wi (x := d) (by omega) (by omega), wi (by omega) (by omega)]
  rw [← e10, ← ed]
  clear e10
  obtain ⟨N, st, vb, nn, ty, cnt, cmp, l0, l1, l2, act, an, av, aq, asked, D⟩ := p
  dsimp only at h hc
  subst hc
  refine callN_end [0] ?_
  refine callN_def env (fn := Try.f48) 1 rfl rfl (by decide) ?_
  repeat refine stp ?_
  refine callT_part [0] rfl (number_v ⟨N, st, vb, nn, ty, 1, cmp, l0, l1, l2, act, an, av, aq, asked, D⟩ h) ?_
  rintro v H' ⟨rfl, rfl⟩ x G hx hG
  obtain rfl : x = .tuple [.ptr ⟨0, 0, 2⟩, .ptr ⟨0, 0, 41⟩] := hx
  obtain rfl : G = [.cells (desk0 ⟨N, st, vb, nn, ty, 1, cmp, l0, l1, l2, act, an, av, aq, asked, D⟩)] := hG
  repeat refine stp ?_
  refine draw_tree (picks (List.range 10) .done) (by decide +kernel) ?_
  repeat refine stp ?_
  exact ⟨rfl, Eqv.same _, EqvH.refl _⟩
theorem digit_n0 (p : Pan) (k d : Int) (hk : 1 ≤ k ∧ k ≤ 10) (he : d = k - 1) (h : p.st ≠ 0 ∧ p.st ≠ 1 ∧ p.st ≠ 3) (hc : p.cnt = 0) (hb : 0 ≤ p.nn ∧ p.nn ≤ 99) :
    callN Try.prog 48 [.ptr ⟨0, 0, 0⟩, .int .u8 k] [.cells (desk0 p)] fun v H' => v = .bool true ∧ H' = [.cells (desk0 { p with nn := 10 * p.nn + d, D := { p.D with n0 := d }, cnt := 1 })] := by
  have ed : IntKind.u8.wrap (k - 1) = d := by rw [he, wu8 (by omega) (by omega)]
  have e10 : IntKind.i64.wrap (IntKind.i64.wrap (10 * p.nn) + IntKind.i64.wrap (IntKind.u8.wrap (k - 1))) = 10 * p.nn + d := by
    rw [ed, wi (x := 10 * p.nn) (by omega) (by omega), wi (x := d) (by omega) (by omega), wi (by omega) (by omega)]
  rw [← e10, ← ed]
  clear e10
  obtain ⟨N, st, vb, nn, ty, cnt, cmp, l0, l1, l2, act, an, av, aq, asked, D⟩ := p
  dsimp only at h hc
  subst hc
  refine callN_end [0] ?_
  refine callN_def env (fn := Try.f48) 1 rfl rfl (by decide) ?_
  repeat refine stp ?_
  refine callT_part [0] rfl (number_n ⟨N, st, vb, nn, ty, 0, cmp, l0, l1, l2, act, an, av, aq, asked, D⟩ h.2.1) ?_
  rintro v H' ⟨rfl, rfl⟩ x G hx hG
  obtain rfl : x = .tuple [.ptr ⟨0, 0, 3⟩, .ptr ⟨0, 0, 43⟩] := hx
  obtain rfl : G = [.cells (desk0 ⟨N, st, vb, nn, ty, 0, cmp, l0, l1, l2, act, an, av, aq, asked, D⟩)] := hG
  repeat refine stp ?_
  refine draw_tree (picks (List.range 10) .done) (by decide +kernel) ?_
  repeat refine stp ?_
  exact ⟨rfl, Eqv.same _, EqvH.refl _⟩
theorem digit_n1 (p : Pan) (k d : Int) (hk : 1 ≤ k ∧ k ≤ 10) (he : d = k - 1) (h : p.st ≠ 0 ∧ p.st ≠ 1 ∧ p.st ≠ 3) (hc : p.cnt = 1) (hb : 0 ≤ p.nn ∧ p.nn ≤ 99) :
    callN Try.prog 48 [.ptr ⟨0, 0, 0⟩, .int .u8 k] [.cells (desk0 p)] fun v H' => v = .bool true ∧ H' = [.cells (desk0 { p with nn := 10 * p.nn + d, D := { p.D with n1 := d }, cnt := 2 })] := by
  have ed : IntKind.u8.wrap (k - 1) = d := by rw [he, wu8 (by omega) (by omega)]
  have e10 : IntKind.i64.wrap (IntKind.i64.wrap (10 * p.nn) + IntKind.i64.wrap (IntKind.u8.wrap (k - 1))) = 10 * p.nn + d := by
    rw [ed, wi (x := 10 * p.nn) (by omega) (by omega), wi (x := d) (by omega) (by omega), wi (by omega) (by omega)]
  rw [← e10, ← ed]
  clear e10
  obtain ⟨N, st, vb, nn, ty, cnt, cmp, l0, l1, l2, act, an, av, aq, asked, D⟩ := p
  dsimp only at h hc
  subst hc
  refine callN_end [0] ?_
  refine callN_def env (fn := Try.f48) 1 rfl rfl (by decide) ?_
  repeat refine stp ?_
  refine callT_part [0] rfl (number_n ⟨N, st, vb, nn, ty, 1, cmp, l0, l1, l2, act, an, av, aq, asked, D⟩ h.2.1) ?_
  rintro v H' ⟨rfl, rfl⟩ x G hx hG
  obtain rfl : x = .tuple [.ptr ⟨0, 0, 3⟩, .ptr ⟨0, 0, 43⟩] := hx
  obtain rfl : G = [.cells (desk0 ⟨N, st, vb, nn, ty, 1, cmp, l0, l1, l2, act, an, av, aq, asked, D⟩)] := hG
  repeat refine stp ?_
  refine draw_tree (picks (List.range 10) .done) (by decide +kernel) ?_
  repeat refine stp ?_
  exact ⟨rfl, Eqv.same _, EqvH.refl _⟩
theorem digit_bad (p : Pan) (k : Int) (c : Cmp) (e : CompIs p c) (h1 : p.st = 3) (h : p.cnt = 5 ∨ c.k = 1 ∧ (p.ty.s ≠ 0 ∨ IntKind.u8.wrap (k - 1) > 7) ∨ c.k ≠ 1 ∧ p.ty.s = 0) :
    callN Try.prog 48 [.ptr ⟨0, 0, 0⟩, .int .u8 k] [.cells (desk0 p)] fun v H' => v = .bool false ∧ H' = [.cells (desk0 p)] := by
  refine callN_end [0] ?_
  refine callN_def env (fn := Try.f48) 1 rfl rfl (by decide) ?_
  repeat refine stp ?_
  refine callT_part [0] rfl e ?_
  rintro v H' ⟨rfl, rfl⟩ x G hx hG
  obtain rfl : x = cA c := hx
  obtain rfl : G = [.cells (desk0 p)] := hG
  by_cases h5 : p.cnt = 5
  · repeat refine stp ?_
    exact ⟨rfl, Eqv.same _, EqvH.refl _⟩
  by_cases hk : c.k = 1
  · by_cases hs : p.ty.s = 0
    · have h7 : IntKind.u8.wrap (k - 1) > 7 := by omega
      have bb : ((c.k == 1) == (p.ty.s != 0)) = false := by simp [hk, hs]
      repeat refine stp ?_
      exact ⟨rfl, Eqv.same _, EqvH.refl _⟩
    · have bb : ((c.k == 1) == (p.ty.s != 0)) = true := by simp [hk, hs]
      repeat refine stp ?_
      exact ⟨rfl, Eqv.same _, EqvH.refl _⟩
  · have hs : p.ty.s = 0 := by omega
    have bb : ((c.k == 1) == (p.ty.s != 0)) = true := by simp [hk, hs]
    repeat refine stp ?_
    exact ⟨rfl, Eqv.same _, EqvH.refl _⟩
end Go.Proofs
