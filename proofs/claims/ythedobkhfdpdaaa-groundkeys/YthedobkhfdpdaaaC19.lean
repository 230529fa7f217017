/- Chapter 30: the panel in hand: a digit of a component. -/
import Derived.Test.YthedobkhfdpdaaaC18
set_option linter.unusedVariables false
set_option linter.unusedSimpArgs false
namespace Go.Proofs
open Go.E
set_option maxRecDepth 8000
set_option maxHeartbeats 8000000 in
theorem digit_d0 (p : Pan) (k d : Int) (hk : 1 ≤ k ∧ k ≤ 10) (he : d = k - 1) (c : Cmp) (e : CompIs p c) (h1 : p.st = 3) (hn : p.cnt = 0) (hc : 0 ≤ p.cmp ∧ p.cmp ≤ 2) (h : ¬(c.k = 1 ∧ (p.ty.s ≠ 0 ∨ d > 7) ∨ c.k ≠ 1 ∧ p.ty.s = 0)) :
    callN Try.prog 48 [.ptr ⟨0, 0, 0⟩, .int .u8 k] [.cells (desk0 p)] fun v H' => v = .bool true ∧ H' = [.cells (desk0 { p with ty := { p.ty with a := d }, D := p.D.setR p.cmp { p.ty with a := d }, cnt := 1 })] := by
  have ed : IntKind.u8.wrap (k - 1) = d := by rw [he, wu8 (by omega) (by omega)]
  rw [← ed] at h ⊢
  clear ed
  obtain ⟨N, st, vb, nn, ty, cnt, cmp, l0, l1, l2, act, an, av, aq, asked, D⟩ := p
  dsimp only at h1 hn hc h
  subst h1 hn
  refine callN_end [0] ?_
  refine callN_def env (fn := Try.f48) 1 rfl rfl (by decide) ?_
  repeat refine stp ?_
  refine callT_part [0] rfl e ?_
  rintro v H' ⟨rfl, rfl⟩ x G hx hG
  obtain rfl : x = cA c := hx
  obtain rfl : G = [.cells (desk0 ⟨N, 3, vb, nn, ty, 0, cmp, l0, l1, l2, act, an, av, aq, asked, D⟩)] := hG
  have hA : c.k = 1 ∧ ty.s = 0 ∧ ¬ IntKind.u8.wrap (k - 1) > 7 ∨ c.k ≠ 1 ∧ ty.s ≠ 0 := by omega
  rcases (show cmp = 0 ∨ cmp = 1 ∨ cmp = 2 by omega) with rfl | rfl | rfl <;> rcases hA with ⟨a1, a2, a3⟩ | ⟨a1, a2⟩
  all_goals
    have bb : ((c.k == 1) == (ty.s != 0)) = false := by first | (simp [a1, a2]; done) | (rw [beq_eq_false_iff_ne.2 a1, show (ty.s != 0) = true from bne_iff_ne.2 a2]; rfl)
    repeat refine stp ?_
    refine draw_tree (picks (List.range 13) .done) (by decide +kernel) ?_
    repeat refine stp ?_
    refine draw_tree (picks (List.range 17) .done) (by decide +kernel) ?_
    repeat refine stp ?_
    exact ⟨rfl, Eqv.same _, EqvH.refl _⟩
end Go.Proofs
namespace Go.Proofs
open Go.E
set_option maxRecDepth 8000
set_option maxHeartbeats 8000000 in
theorem digit_d1 (p : Pan) (k d : Int) (hk : 1 ≤ k ∧ k ≤ 10) (he : d = k - 1) (c : Cmp) (e : CompIs p c) (h1 : p.st = 3) (hn : p.cnt = 1) (hc : 0 ≤ p.cmp ∧ p.cmp ≤ 2) (h : ¬(c.k = 1 ∧ (p.ty.s ≠ 0 ∨ d > 7) ∨ c.k ≠ 1 ∧ p.ty.s = 0)) :
    callN Try.prog 48 [.ptr ⟨0, 0, 0⟩, .int .u8 k] [.cells (desk0 p)] fun v H' => v = .bool true ∧ H' = [.cells (desk0 { p with ty := { p.ty with b := d }, D := p.D.setR p.cmp { p.ty with b := d }, cnt := 2 })] := by
  have ed : IntKind.u8.wrap (k - 1) = d := by rw [he, wu8 (by omega) (by omega)]
  rw [← ed] at h ⊢
  clear ed
  obtain ⟨N, st, vb, nn, ty, cnt, cmp, l0, l1, l2, act, an, av, aq, asked, D⟩ := p
  dsimp only at h1 hn hc h
  subst h1 hn
  refine callN_end [0] ?_
  refine callN_def env (fn := Try.f48) 1 rfl rfl (by decide) ?_
  repeat refine stp ?_
  refine callT_part [0] rfl e ?_
  rintro v H' ⟨rfl, rfl⟩ x G hx hG
  obtain rfl : x = cA c := hx
  obtain rfl : G = [.cells (desk0 ⟨N, 3, vb, nn, ty, 1, cmp, l0, l1, l2, act, an, av, aq, asked, D⟩)] := hG
  have hA : c.k = 1 ∧ ty.s = 0 ∧ ¬ IntKind.u8.wrap (k - 1) > 7 ∨ c.k ≠ 1 ∧ ty.s ≠ 0 := by omega
  rcases (show cmp = 0 ∨ cmp = 1 ∨ cmp = 2 by omega) with rfl | rfl | rfl <;> rcases hA with ⟨a1, a2, a3⟩ | ⟨a1, a2⟩
  all_goals
    have bb : ((c.k == 1) == (ty.s != 0)) = false := by first | (simp [a1, a2]; done) | (rw [beq_eq_false_iff_ne.2 a1, show (ty.s != 0) = true from bne_iff_ne.2 a2]; rfl)
    repeat refine stp ?_
    refine draw_tree (picks (List.range 13) .done) (by decide +kernel) ?_
    repeat refine stp ?_
    refine draw_tree (picks (List.range 17) .done) (by decide +kernel) ?_
    repeat refine stp ?_
    exact ⟨rfl, Eqv.same _, EqvH.refl _⟩
end Go.Proofs
