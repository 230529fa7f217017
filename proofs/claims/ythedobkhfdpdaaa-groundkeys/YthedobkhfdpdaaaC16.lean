/- Chapter 30: entries, in all. -/
import Derived.Test.YthedobkhfdpdaaaC13
import Derived.Test.YthedobkhfdpdaaaC14
import Derived.Test.YthedobkhfdpdaaaC15
set_option linter.unusedVariables false
set_option linter.unusedSimpArgs false
namespace Go.Proofs
open Go.E
set_option maxRecDepth 8000
set_option maxHeartbeats 16000000 in
theorem cons_no (N : Nns) (vb nn : Int) (ty : Shw) (cnt cmp : Int) (l0 l1 l2 : Shw) (act : Vrb) (an av aq : Int) (asked : Bool) (D : Dsp) (i : Nat) (w : Vrb) (b : Bool)
    (e : callP Try.prog 40 [N.A, .int .i64 vb, .int .i64 nn] (· = .tuple [w.A, nounA N nn i, .bool b]))
    (h : ¬(b = true ∧ w.k = 3 ∧ (0 ≤ cmp ∧ cmp ≤ 2) ∧ w.c cmp = true ∧ (0 ≤ cnt ∧ cnt ≤ 5) ∧ ty.s ≤ 2)) :
    callP Try.prog 39 [Pan.A ⟨N, 3, vb, nn, ty, cnt, cmp, l0, l1, l2, act, an, av, aq, asked, D⟩] (· = .bool false) := by
  refine callE_def env (fn := Try.f39) rfl (by decide) rfl ?_
  repeat refine stp ?_
  refine callT_E e rfl ?_
  cases b with
  | false =>
    repeat refine stp ?_
    show Eqv _ _
    exact .up (.up (.refl _))
  | true =>
  by_cases hk : w.k = 3
  rotate_left
  · repeat refine stp ?_
    show Eqv _ _
    exact .up (.up (.refl _))
  by_cases hc0 : cmp < 0
  · repeat refine stp ?_
    show Eqv _ _
    exact .up (.up (.refl _))
  by_cases hc1 : cmp > 2
  · repeat refine stp ?_
    show Eqv _ _
    exact .up (.up (.refl _))
  obtain ⟨k, o, c0, c1, c2⟩ := w
  dsimp only at hk h
  subst hk
  by_cases hm0 : cmp = 0
  · subst hm0
    cases c0 with
    | false =>
      repeat refine stp ?_
      show Eqv _ _
      exact .up (.up (.refl _))
    | true =>
    by_cases hn0 : cnt < 0
    · repeat refine stp ?_
      show Eqv _ _
      exact .up (.up (.refl _))
    by_cases hn1 : cnt > 5
    · repeat refine stp ?_
      show Eqv _ _
      exact .up (.up (.refl _))
    by_cases hs : ty.s > 2
    · repeat refine stp ?_
      show Eqv _ _
      exact .up (.up (.refl _))
    exact absurd ⟨rfl, rfl, ⟨by decide, by decide⟩, rfl, ⟨by omega, by omega⟩, by omega⟩ h
  by_cases hm1 : cmp = 1
  · subst hm1
    cases c1 with
    | false =>
      repeat refine stp ?_
      show Eqv _ _
      exact .up (.up (.refl _))
    | true =>
    by_cases hn0 : cnt < 0
    · repeat refine stp ?_
      show Eqv _ _
      exact .up (.up (.refl _))
    by_cases hn1 : cnt > 5
    · repeat refine stp ?_
      show Eqv _ _
      exact .up (.up (.refl _))
    by_cases hs : ty.s > 2
    · repeat refine stp ?_
      show Eqv _ _
      exact .up (.up (.refl _))
    exact absurd ⟨rfl, rfl, ⟨by decide, by decide⟩, rfl, ⟨by omega, by omega⟩, by omega⟩ h
  by_cases hm2 : cmp = 2
  · subst hm2
    cases c2 with
    | false =>
      repeat refine stp ?_
      show Eqv _ _
      exact .up (.up (.refl _))
    | true =>
    by_cases hn0 : cnt < 0
    · repeat refine stp ?_
      show Eqv _ _
      exact .up (.up (.refl _))
    by_cases hn1 : cnt > 5
    · repeat refine stp ?_
      show Eqv _ _
      exact .up (.up (.refl _))
    by_cases hs : ty.s > 2
    · repeat refine stp ?_
      show Eqv _ _
      exact .up (.up (.refl _))
    exact absurd ⟨rfl, rfl, ⟨by decide, by decide⟩, rfl, ⟨by omega, by omega⟩, by omega⟩ h
  omega
theorem cons_none (N : Nns) (vb nn : Int) (ty : Shw) (cnt cmp : Int) (l0 l1 l2 : Shw) (act : Vrb) (an av aq : Int) (asked : Bool) (D : Dsp) (h : N.Ok) (hf : N.find nn = none) :
    callP Try.prog 39 [Pan.A ⟨N, 3, vb, nn, ty, cnt, cmp, l0, l1, l2, act, an, av, aq, asked, D⟩] (· = .bool false) := by
  refine callE_def env (fn := Try.f39) rfl (by decide) rfl ?_
  repeat refine stp ?_
  refine callT_E (suits_none h hf) rfl ?_
  repeat refine stp ?_
  show Eqv _ _
  exact .up (.up (.refl _))
theorem cons_data (p : Pan) (hN : p.N.Ok) (h3 : p.st = 3) : callP Try.prog 39 [p.A] (· = .bool (entryV p)) := by
  rw [entry3 h3]
  obtain ⟨N, st, vb, nn, ty, cnt, cmp, l0, l1, l2, act, an, av, aq, asked, D⟩ := p
  dsimp only at hN h3
  subst h3
  cases hf : N.find nn with
  | none =>
    rw [show data ⟨N, 3, vb, nn, ty, cnt, cmp, l0, l1, l2, act, an, av, aq, asked, D⟩ = false by simp [data, suit_none hf]]
    exact cons_none _ _ _ _ _ _ _ _ _ _ _ _ _ _ _ hN hf
  | some i =>
    have e := suits_some hN (v := vb) hf
    by_cases h : fits (vrb vb) (N.m i) = true ∧ (vrb vb).k = 3 ∧ (0 ≤ cmp ∧ cmp ≤ 2) ∧ (vrb vb).c cmp = true ∧ (0 ≤ cnt ∧ cnt ≤ 5) ∧ ty.s ≤ 2
    · obtain ⟨a1, a2, a3, a4, a5, a6⟩ := h
      rw [show data ⟨N, 3, vb, nn, ty, cnt, cmp, l0, l1, l2, act, an, av, aq, asked, D⟩ = true by
        simp only [data, suit_some hf, a1, decide_eq_true a2, decide_eq_true a3, a4, decide_eq_true a5, decide_eq_true a6, Bool.and_self], Bool.true_and]
      rw [a1] at e
      generalize vrb vb = w at *
      obtain ⟨k, o, c0, c1, c2⟩ := w
      dsimp only at a2
      subst a2
      rcases (show cmp = 0 ∨ cmp = 1 ∨ cmp = 2 by omega) with rfl | rfl | rfl
      · obtain rfl : c0 = true := a4
        exact cons_ok0 _ _ _ _ _ _ _ _ _ _ _ _ _ _ _ _ _ i e a5 a6
      · obtain rfl : c1 = true := a4
        exact cons_ok1 _ _ _ _ _ _ _ _ _ _ _ _ _ _ _ _ _ i e a5 a6
      · obtain rfl : c2 = true := a4
        exact cons_ok2 _ _ _ _ _ _ _ _ _ _ _ _ _ _ _ _ _ i e a5 a6
    · rw [show data ⟨N, 3, vb, nn, ty, cnt, cmp, l0, l1, l2, act, an, av, aq, asked, D⟩ = false by
        cases hd : data ⟨N, 3, vb, nn, ty, cnt, cmp, l0, l1, l2, act, an, av, aq, asked, D⟩ with
        | false => rfl
        | true =>
          simp only [data, suit_some hf, Bool.and_eq_true, decide_eq_true_eq] at hd
          exact absurd ⟨hd.1.1.1.1.1, hd.1.1.1.1.2, hd.1.1.1.2, hd.1.1.2, hd.1.2, hd.2⟩ h]
      exact cons_no _ _ _ _ _ _ _ _ _ _ _ _ _ _ _ i (vrb vb) _ e h
theorem cons_c (p : Pan) (hp : p.Ok) : callP Try.prog 39 [p.A] (· = .bool (entryV p)) := by
  by_cases h : p.st = 3
  · exact cons_data p hp.N.toOk h
  · exact cons_low p h
end Go.Proofs
namespace Go.Proofs
open Go.E
set_option maxRecDepth 8000
theorem and5 : ∀ n : Nat, n < 2048 → IntKind.u16.wrap ((BitVec.ofInt IntKind.u16.bits (n : Int) &&& BitVec.ofInt IntKind.u16.bits 5).toNat : Int) = ((n % 2 + 4 * (n / 4 % 2) : Nat) : Int) := by decide +kernel
theorem and5i {x : Int} (h : 0 ≤ x ∧ x < 2048) : IntKind.u16.wrap ((BitVec.ofInt IntKind.u16.bits x &&& BitVec.ofInt IntKind.u16.bits 5).toNat : Int) = x % 2 + 4 * (x / 4 % 2) := by
  obtain ⟨n, rfl⟩ : ∃ n : Nat, x = n := ⟨x.toNat, by omega⟩
  rw [and5 n (by omega)]
  omega
theorem disp_st {d : Nat → Int} (h : Rl.mayB d = true) : d 24 < 2048 ∧ d 25 < 2048 := by
  unfold Rl.mayB at h
  simp only [Bool.and_eq_true, decide_eq_true_eq] at h
  exact ⟨h.1.2, h.2⟩
theorem lamp {p : Pan} : (p.D.st % 2 + 4 * (p.D.st / 4 % 2) == lights p) = decide (p.D.st % 2 = (if flash p = true then 1 else 0) ∧ p.D.st / 4 % 2 = if waits p = true then 1 else 0) := by
  rw [Bool.eq_iff_iff, beq_iff_eq, decide_eq_true_eq]
  unfold lights
  cases flash p <;> cases waits p <;> simp <;> omega
theorem nmay (N : Nns) (hN : N.OkP) : callP Try.prog 13 [N.A] (· = .bool N.may) :=
  may_c N.n N.num N.m (fun i j => cmpL (N.cm i j)) N.cm hN.n (fun i h => by have := hN.m i h; omega) (fun _ _ _ _ => rfl) hN.c
set_option maxHeartbeats 16000000 in
theorem pmay_c (p : Pan) (hp : p.Ok) : callP Try.prog 28 [p.A] (· = .bool (mayV p)) := by
  refine callE_def env (fn := Try.f28) rfl (by decide) rfl ?_
  have e1 := nmay p.N hp.N
  have e2 : callP Try.prog 33 [p.D.A] (· = .bool (Rl.mayB p.D.f)) := Rl.may_c hp.D
  have e3 := within5_c p.vb p.nn p.an p.av p.aq
  have e4 := cons_c p hp
  cases h1 : p.N.may with
  | false =>
    rw [h1] at e1
    rw [show mayV p = false by simp [mayV, h1]]
    repeat refine stp ?_
    refine callT_E e1 rfl ?_
    repeat refine stp ?_
    show Eqv _ _
    exact .up (.up (.refl _))
  | true =>
  rw [h1] at e1
  cases h2 : Rl.mayB p.D.f with
  | false =>
    rw [h2] at e2
    rw [show mayV p = false by simp [mayV, h2]]
    repeat refine stp ?_
    refine callT_E e1 rfl ?_
    repeat refine stp ?_
    refine callT_E e2 rfl ?_
    repeat refine stp ?_
    show Eqv _ _
    exact .up (.up (.refl _))
  | true =>
  rw [h2] at e2
  cases h3 : (small p.vb && small p.nn && small p.an && small p.av && small p.aq) with
  | false =>
    rw [h3] at e3
    rw [show mayV p = false by simp only [mayV, h3, Bool.and_false, Bool.false_and]]
    repeat refine stp ?_
    refine callT_E e1 rfl ?_
    repeat refine stp ?_
    refine callT_E e2 rfl ?_
    repeat refine stp ?_
    apply choice_l
    refine callT_E e3 rfl ?_
    repeat refine stp ?_
    show Eqv _ _
    exact .up (.up (.refl _))
  | true =>
  rw [h3] at e3
  cases h4 : entryV p with
  | false =>
    rw [h4] at e4
    rw [show mayV p = false by simp [mayV, h4]]
    repeat refine stp ?_
    refine callT_E e1 rfl ?_
    repeat refine stp ?_
    refine callT_E e2 rfl ?_
    repeat refine stp ?_
    apply choice_l
    refine callT_E e3 rfl ?_
    repeat refine stp ?_
    refine callT_E e4 rfl ?_
    repeat refine stp ?_
    show Eqv _ _
    exact .up (.up (.refl _))
  | true =>
  rw [h4] at e4
  repeat refine stp ?_
  refine callT_E e1 rfl ?_
  repeat refine stp ?_
  refine callT_E e2 rfl ?_
  repeat refine stp ?_
  apply choice_l
  refine callT_E e3 rfl ?_
  repeat refine stp ?_
  refine callT_E e4 rfl ?_
  by_cases h5 : p.act.k ≤ 2
  rotate_left
  · rw [show mayV p = false by simp only [mayV, decide_eq_false h5, Bool.and_false, Bool.false_and]]
    repeat refine stp ?_
    show Eqv _ _
    exact .up (.up (.refl _))
  have st : 0 ≤ p.D.st ∧ p.D.st < 2048 := ⟨hp.D.2.2.1, (disp_st h2).2⟩
  by_cases h6 : p.av = 0
  · cases h7 : p.asked with
    | true =>
      rw [show mayV p = false by simp [mayV, h6, h7]]
      repeat refine stp ?_
      show Eqv _ _
      exact .up (.up (.refl _))
    | false =>
      rw [show mayV p = decide (p.D.st % 2 = (if flash p = true then 1 else 0) ∧ p.D.st / 4 % 2 = if waits p = true then 1 else 0) by rw [mayV, h1, h2, h3, h4, decide_eq_true h5, show (p.av == 0) = true from beq_iff_eq.2 h6, h7]; rfl]
      repeat refine stp ?_
      refine draw_tree (picks (List.range 8) .done) (by decide +kernel) ?_
      refine ⟨_, ⟨lights_c p, rfl⟩, ?_⟩
      repeat refine stp ?_
      show Eqv (.bool (IntKind.u16.wrap ((BitVec.ofInt IntKind.u16.bits p.D.st &&& BitVec.ofInt IntKind.u16.bits 5).toNat : Int) == lights p)) _
      rw [and5i st, lamp]
      exact .up (.up (.refl _))
  · cases hf : p.N.find p.aq with
    | none =>
      rw [show mayV p = false by simp [mayV, h6, suit_none hf]]
      repeat refine stp ?_
      refine callT_E (suits_none hp.N.toOk hf) rfl ?_
      repeat refine stp ?_
      show Eqv _ _
      exact .up (.up (.refl _))
    | some i =>
      have e := suits_some hp.N.toOk (v := p.av) hf
      cases h8 : fits (vrb p.av) (p.N.m i) with
      | false =>
        rw [h8] at e
        rw [show mayV p = false by simp [mayV, h6, suit_some hf, h8]]
        repeat refine stp ?_
        refine callT_E e rfl ?_
        repeat refine stp ?_
        show Eqv _ _
        exact .up (.up (.refl _))
      | true =>
        rw [h8] at e
        rw [show mayV p = decide (p.D.st % 2 = (if flash p = true then 1 else 0) ∧ p.D.st / 4 % 2 = if waits p = true then 1 else 0) by
          simp only [mayV, h1, h2, h3, h4, decide_eq_true h5, suit_some hf, h8, show (p.av == 0) = false from beq_eq_false_iff_ne.2 h6]; rfl]
        repeat refine stp ?_
        refine callT_E e rfl ?_
        repeat refine stp ?_
        refine draw_tree (picks (List.range 8) .done) (by decide +kernel) ?_
        refine ⟨_, ⟨lights_c p, rfl⟩, ?_⟩
        repeat refine stp ?_
        show Eqv (.bool (IntKind.u16.wrap ((BitVec.ofInt IntKind.u16.bits p.D.st &&& BitVec.ofInt IntKind.u16.bits 5).toNat : Int) == lights p)) _
        rw [and5i st, lamp]
        exact .up (.up (.refl _))
end Go.Proofs
