/- Chapter 30, plain: what keys do keeps panels valid. -/
import Derived.Test.YthedobkhfdpdaaaC39
set_option linter.unusedVariables false
set_option linter.unusedSimpArgs false
namespace Go.Proofs
open Go.E
set_option maxRecDepth 8000
structure Shw.G (x : Shw) : Prop where
  s : 0 ≤ x.s ∧ x.s ≤ 2
  a : 0 ≤ x.a ∧ x.a ≤ 10
  b : 0 ≤ x.b ∧ x.b ≤ 10
  c : 0 ≤ x.c ∧ x.c ≤ 10
  d : 0 ≤ x.d ∧ x.d ≤ 10
  e : 0 ≤ x.e ∧ x.e ≤ 10
structure Dsp.G (d : Dsp) : Prop where
  p0 : 0 ≤ d.p0 ∧ d.p0 ≤ 10
  p1 : 0 ≤ d.p1 ∧ d.p1 ≤ 10
  v0 : 0 ≤ d.v0 ∧ d.v0 ≤ 10
  v1 : 0 ≤ d.v1 ∧ d.v1 ≤ 10
  n0 : 0 ≤ d.n0 ∧ d.n0 ≤ 10
  n1 : 0 ≤ d.n1 ∧ d.n1 ≤ 10
  r0 : d.r0.G
  r1 : d.r1.G
  r2 : d.r2.G
  li : 0 ≤ d.li ∧ d.li < 2048
  st : 0 ≤ d.st ∧ d.st < 2048
theorem Dsp.G.of {d : Dsp} (hw : Rl.WD d.f) (hm : Rl.mayB d.f = true) : d.G := by
  have h24 := disp_st hm
  unfold Rl.mayB at hm
  simp only [Bool.and_eq_true] at hm
  have a := fun j hj => Rl.allB_at hm.1.1 j hj
  have a0 := a 0 (by decide)
  have a1 := a 1 (by decide)
  have a2 := a 2 (by decide)
  have a3 := a 3 (by decide)
  have a4 := a 4 (by decide)
  have a5 := a 5 (by decide)
  have a6 := a 6 (by decide)
  have a7 := a 7 (by decide)
  have a8 := a 8 (by decide)
  have a9 := a 9 (by decide)
  have a10 := a 10 (by decide)
  simp only [Rl.okB, Bool.and_eq_true, decide_eq_true_eq, Dsp.f] at a0 a1 a2 a3 a4 a5 a6 a7 a8 a9 a10
  have w := fun j hj => (hw.1 j hj).1
  have w0 := w 0 (by decide); have w1 := w 1 (by decide); have w2 := w 2 (by decide); have w3 := w 3 (by decide); have w4 := w 4 (by decide); have w5 := w 5 (by decide)
  have w6 := w 6 (by decide); have w7 := w 7 (by decide); have w8 := w 8 (by decide); have w9 := w 9 (by decide); have w10 := w 10 (by decide); have w11 := w 11 (by decide)
  have w12 := w 12 (by decide); have w13 := w 13 (by decide); have w14 := w 14 (by decide); have w15 := w 15 (by decide); have w16 := w 16 (by decide); have w17 := w 17 (by decide)
  have w18 := w 18 (by decide); have w19 := w 19 (by decide); have w20 := w 20 (by decide); have w21 := w 21 (by decide); have w22 := w 22 (by decide); have w23 := w 23 (by decide)
  simp only [Dsp.f] at w0 w1 w2 w3 w4 w5 w6 w7 w8 w9 w10 w11 w12 w13 w14 w15 w16 w17 w18 w19 w20 w21 w22 w23
  refine ⟨?_, ?_, ?_, ?_, ?_, ?_, ⟨?_, ?_, ?_, ?_, ?_, ?_⟩, ⟨?_, ?_, ?_, ?_, ?_, ?_⟩, ⟨?_, ?_, ?_, ?_, ?_, ?_⟩, ⟨hw.2.1.1, h24.1⟩, ⟨hw.2.2.1, h24.2⟩⟩ <;> omega
theorem Dsp.G.wd {d : Dsp} (h : d.G) : Rl.WD d.f := by
  obtain ⟨p0, p1, v0, v1, n0, n1, ⟨s0, a0, b0, c0, d0, e0⟩, ⟨s1, a1, b1, c1, d1, e1⟩, ⟨s2, a2, b2, c2, d2, e2⟩, li, st⟩ := h
  refine ⟨fun j hj => ?_, ⟨li.1, by show d.li < 65536; omega⟩, ⟨st.1, by show d.st < 65536; omega⟩⟩
  unfold Rl.W8
  match j, hj with
  | 0, _ => simp only [Dsp.f]; omega
  | 1, _ => simp only [Dsp.f]; omega
  | 2, _ => simp only [Dsp.f]; omega
  | 3, _ => simp only [Dsp.f]; omega
  | 4, _ => simp only [Dsp.f]; omega
  | 5, _ => simp only [Dsp.f]; omega
  | 6, _ => simp only [Dsp.f]; omega
  | 7, _ => simp only [Dsp.f]; omega
  | 8, _ => simp only [Dsp.f]; omega
  | 9, _ => simp only [Dsp.f]; omega
  | 10, _ => simp only [Dsp.f]; omega
  | 11, _ => simp only [Dsp.f]; omega
  | 12, _ => simp only [Dsp.f]; omega
  | 13, _ => simp only [Dsp.f]; omega
  | 14, _ => simp only [Dsp.f]; omega
  | 15, _ => simp only [Dsp.f]; omega
  | 16, _ => simp only [Dsp.f]; omega
  | 17, _ => simp only [Dsp.f]; omega
  | 18, _ => simp only [Dsp.f]; omega
  | 19, _ => simp only [Dsp.f]; omega
  | 20, _ => simp only [Dsp.f]; omega
  | 21, _ => simp only [Dsp.f]; omega
  | 22, _ => simp only [Dsp.f]; omega
  | 23, _ => simp only [Dsp.f]; omega
  | n + 24, hj => omega
theorem Dsp.G.may {d : Dsp} (h : d.G) : Rl.mayB d.f = true := by
  obtain ⟨p0, p1, v0, v1, n0, n1, ⟨s0, a0, b0, c0, d0, e0⟩, ⟨s1, a1, b1, c1, d1, e1⟩, ⟨s2, a2, b2, c2, d2, e2⟩, li, st⟩ := h
  unfold Rl.mayB
  rw [Rl.allB_of (n := 11) fun j hj => by
    match j, hj with
    | 0, _ => simp only [Rl.okB, Dsp.f, Bool.and_eq_true, decide_eq_true_eq]; omega
    | 1, _ => simp only [Rl.okB, Dsp.f, Bool.and_eq_true, decide_eq_true_eq]; omega
    | 2, _ => simp only [Rl.okB, Dsp.f, Bool.and_eq_true, decide_eq_true_eq]; omega
    | 3, _ => simp only [Rl.okB, Dsp.f, Bool.and_eq_true, decide_eq_true_eq]; omega
    | 4, _ => simp only [Rl.okB, Dsp.f, Bool.and_eq_true, decide_eq_true_eq]; omega
    | 5, _ => simp only [Rl.okB, Dsp.f, Bool.and_eq_true, decide_eq_true_eq]; omega
    | 6, _ => simp only [Rl.okB, Dsp.f, Bool.and_eq_true, decide_eq_true_eq]; omega
    | 7, _ => simp only [Rl.okB, Dsp.f, Bool.and_eq_true, decide_eq_true_eq]; omega
    | 8, _ => simp only [Rl.okB, Dsp.f, Bool.and_eq_true, decide_eq_true_eq]; omega
    | 9, _ => simp only [Rl.okB, Dsp.f, Bool.and_eq_true, decide_eq_true_eq]; omega
    | 10, _ => simp only [Rl.okB, Dsp.f, Bool.and_eq_true, decide_eq_true_eq]; omega
    | n + 11, hj => omega]
  simp only [Bool.true_and, Bool.and_eq_true, decide_eq_true_eq]
  exact ⟨li.2, st.2⟩
theorem Shw.G.ok {x : Shw} (h : x.G) : x.Ok := by
  obtain ⟨s, a, b, c, d, e⟩ := h
  refine ⟨by omega, fun j hj => ?_⟩
  rcases (show j = 0 ∨ j = 1 ∨ j = 2 ∨ j = 3 ∨ j = 4 by omega) with rfl | rfl | rfl | rfl | rfl <;> (simp only [Shw.f]; omega)
theorem z6_ok : z6.Ok := ⟨by decide, by decide⟩
theorem bl6_g : bl6.G := ⟨by decide, by decide, by decide, by decide, by decide, by decide⟩
theorem ei6_g : ei6.G := ⟨by decide, by decide, by decide, by decide, by decide, by decide⟩
theorem setR_g {D : Dsp} (h : D.G) {x : Shw} (hx : x.G) (i : Int) : (D.setR i x).G := by
  unfold Dsp.setR
  split
  · exact { h with r0 := hx }
  · split
    · exact { h with r1 := hx }
    · exact { h with r2 := hx }
structure Pre (p : Pan) : Prop where
  N : p.N.OkP
  M : p.N.may = true
  D : p.D.G
  vb : 0 ≤ p.vb ∧ p.vb ≤ 99
  nn : 0 ≤ p.nn ∧ p.nn ≤ 99
  an : 0 ≤ p.an ∧ p.an ≤ 99
  av : 0 ≤ p.av ∧ p.av ≤ 99
  aq : 0 ≤ p.aq ∧ p.aq ≤ 99
  st : 0 ≤ p.st ∧ p.st < 256
  ty : p.ty.Ok
  l0 : p.l0.Ok
  l1 : p.l1.Ok
  l2 : p.l2.Ok
  cnt : I64 p.cnt
  cmp : I64 p.cmp
  entry : entryV p = true
  act : 0 ≤ p.act.k ∧ p.act.k ≤ 2
  ask : p.asked = true → p.av ≠ 0
  suit : p.av ≠ 0 → suit p.N p.av p.aq = true
theorem Good.pre {p : Pan} (h : Good p) : Pre p :=
  ⟨h.ok.N, h.may.N, .of h.ok.D h.may.D, h.may.vb, h.may.nn, h.may.an, h.may.av, h.may.aq, h.ok.st, h.ok.ty, h.ok.l0, h.ok.l1, h.ok.l2, h.ok.cnt, h.ok.cmp, h.may.entry, ⟨h.ok.act.1, h.may.act⟩, h.may.ask, h.may.suit⟩
theorem i64_small {n : Int} (h : 0 ≤ n ∧ n ≤ 99) : I64 n := by unfold I64; omega
theorem lights_v (p : Pan) : lights p = (if flash p = true then 1 else 0) + if waits p = true then 4 else 0 := rfl
theorem lit_good {p : Pan} (h : Pre p) : Good (litV p) := by
  have hl : (lights p = 0 ∨ lights p = 1 ∨ lights p = 4 ∨ lights p = 5) := by
    unfold lights
    cases flash p <;> cases waits p <;> decide
  have hst := h.D.st
  have hD : (litV p).D.G := { h.D with st := (by omega : 0 ≤ p.D.st - p.D.st % 2 - 4 * (p.D.st / 4 % 2) + lights p ∧ p.D.st - p.D.st % 2 - 4 * (p.D.st / 4 % 2) + lights p < 2048) }
  refine ⟨⟨h.N, h.st, i64_small h.vb, i64_small h.nn, h.ty, h.cnt, h.cmp, h.l0, h.l1, h.l2, ⟨h.act.1, by have := h.act.2; show p.act.k < 256; omega⟩, i64_small h.an, i64_small h.av, i64_small h.aq, hD.wd⟩,
    ⟨h.M, hD.may, h.vb, h.nn, h.an, h.av, h.aq, h.entry, h.act.2, h.ask, h.suit, ?_, ?_⟩⟩
  · show (p.D.st - p.D.st % 2 - 4 * (p.D.st / 4 % 2) + lights p) % 2 = if flash p = true then 1 else 0
    have e := lights_v p
    cases hf : flash p <;> cases hw : waits p <;> rw [hf, hw] at e <;> simp at e ⊢ <;> omega
  · show (p.D.st - p.D.st % 2 - 4 * (p.D.st / 4 % 2) + lights p) / 4 % 2 = if waits p = true then 1 else 0
    have e := lights_v p
    cases hf : flash p <;> cases hw : waits p <;> rw [hf, hw] at e <;> simp at e ⊢ <;> omega
theorem entry_0 {p : Pan} (h : p.st = 0) : entryV p = decide (p.cnt = 0) := by rw [entryV, if_pos h]
theorem entry_1 {p : Pan} (h : p.st = 1) : entryV p = cntd p.cnt p.vb := by rw [entryV, if_neg (by omega), if_pos h]
theorem entry_2 {p : Pan} (h : p.st = 2 ∨ p.st = 4) : entryV p = cntd p.cnt p.nn := by rw [entryV, if_neg (by omega), if_neg (by omega), if_pos h]
theorem Pre.st5 {p : Pan} (h : Pre p) : p.st = 0 ∨ p.st = 1 ∨ p.st = 2 ∨ p.st = 3 ∨ p.st = 4 := by
  have := h.entry
  unfold entryV at this
  by_cases h0 : p.st = 0
  · exact .inl h0
  by_cases h1 : p.st = 1
  · exact .inr (.inl h1)
  by_cases h2 : p.st = 2
  · exact .inr (.inr (.inl h2))
  by_cases h3 : p.st = 3
  · exact .inr (.inr (.inr (.inl h3)))
  by_cases h4 : p.st = 4
  · exact .inr (.inr (.inr (.inr h4)))
  rw [if_neg h0, if_neg h1, if_neg (by omega), if_neg h3] at this
  cases this
theorem z_b : 0 ≤ (0 : Int) ∧ (0 : Int) < 256 := by decide
theorem z_i : I64 0 := ⟨by decide, by decide⟩
theorem Pre.ended {p : Pan} (h : Pre p) : Pre (endV p) :=
  { N := h.N, M := h.M, D := h.D, vb := h.vb, nn := h.nn, an := h.an, av := h.av, aq := h.aq, st := z_b, ty := z6_ok, l0 := z6_ok, l1 := z6_ok, l2 := z6_ok, cnt := z_i, cmp := z_i, entry := by rw [entry_0 rfl]; rfl, act := h.act, ask := h.ask, suit := h.suit }
end Go.Proofs
namespace Go.Proofs
open Go.E
set_option maxRecDepth 8000
theorem find_num {N : Nns} (hm : N.may = true) {n : Int} {i : Nat} (h : N.find n = some i) : 1 ≤ n ∧ n ≤ 99 := by
  have := find_lt h
  have := (may_good hm this.1).1
  omega
theorem fit_num {v : Int} {m : Nat} (h : fits (vrb v) m = true) : (1 ≤ v ∧ v ≤ 99) ∧ ((vrb v).k = 1 ∨ (vrb v).k = 2 ∨ (vrb v).k = 3) := by
  have hk : (vrb v).k = 1 ∨ (vrb v).k = 2 ∨ (vrb v).k = 3 := by
    have := of_decide_eq_true h
    omega
  refine ⟨?_, hk⟩
  by_cases hn : v ∈ ([1, 2, 3, 4, 5, 6, 11, 12, 13, 14, 15, 16, 21, 22, 23, 24, 25, 32, 33, 34, 35, 37] : List Int)
  · simp only [List.mem_cons, List.not_mem_nil, or_false] at hn
    omega
  · rw [show vrb v = .z by
      simp only [List.mem_cons, not_or] at hn
      simp [vrb, hn]] at hk
    simp [Vrb.z] at hk
theorem suit_num {N : Nns} (hm : N.may = true) {v n : Int} (h : suit N v n = true) : (1 ≤ v ∧ v ≤ 99) ∧ (1 ≤ n ∧ n ≤ 99) ∧ ((vrb v).k = 1 ∨ (vrb v).k = 2 ∨ (vrb v).k = 3) := by
  obtain ⟨i, hf, hfit⟩ := suit_find h
  exact ⟨(fit_num hfit).1, find_num hm hf, (fit_num hfit).2⟩
theorem entry_1t {p : Pan} (h : p.st = 1) (hc : cntd p.cnt p.vb = true) : entryV p = true := by rw [entry_1 h, hc]
theorem entry_2t {p : Pan} (h : p.st = 2 ∨ p.st = 4) (hc : cntd p.cnt p.nn = true) : entryV p = true := by rw [entry_2 h, hc]
theorem b99 : 0 ≤ (0 : Int) ∧ (0 : Int) ≤ 99 := by decide
theorem b10 : 0 ≤ (10 : Int) ∧ (10 : Int) ≤ 10 := by decide
theorem act0 : 0 ≤ (0 : Int) ∧ (0 : Int) ≤ 2 := by decide
theorem b2048 : 0 ≤ (0 : Int) ∧ (0 : Int) < 2048 := by decide
theorem b2047 : 0 ≤ (2047 : Int) ∧ (2047 : Int) < 2048 := by decide
theorem s1b : 0 ≤ (1 : Int) ∧ (1 : Int) < 256 := by decide
theorem s3b : 0 ≤ (3 : Int) ∧ (3 : Int) < 256 := by decide
theorem c05 : 0 ≤ (0 : Int) ∧ (0 : Int) ≤ 5 := by decide
theorem tz0 : typz bl6 0 = true := by decide
theorem bl6s : bl6.s ≤ 2 := by decide
theorem req_nil (k n : Int) : (Req.mk k n []).Ok := ⟨by simp, by simp⟩
theorem entry3_of {p : Pan} (h3 : p.st = 3) (hs : suit p.N p.vb p.nn = true) (hk : (vrb p.vb).k = 3) (hc : 0 ≤ p.cmp ∧ p.cmp ≤ 2) (hcc : (vrb p.vb).c p.cmp = true) (hn : 0 ≤ p.cnt ∧ p.cnt ≤ 5) (h2 : p.ty.s ≤ 2) (ht : typz p.ty p.cnt = true) : entryV p = true := by
  rw [entry3 h3, ht, data, hs, hcc, decide_eq_true hk, decide_eq_true hc, decide_eq_true hn, decide_eq_true h2]
  rfl
theorem entry3_d {p : Pan} (h3 : p.st = 3) (h : entryV p = true) : suit p.N p.vb p.nn = true ∧ (vrb p.vb).k = 3 ∧ (0 ≤ p.cmp ∧ p.cmp ≤ 2) ∧ (vrb p.vb).c p.cmp = true ∧ (0 ≤ p.cnt ∧ p.cnt ≤ 5) ∧ p.ty.s ≤ 2 ∧ typz p.ty p.cnt = true := by
  rw [entry3 h3] at h
  simp only [data, Bool.and_eq_true, decide_eq_true_eq] at h
  obtain ⟨⟨⟨⟨⟨⟨a, b⟩, c⟩, d⟩, e⟩, f⟩, g⟩ := h
  exact ⟨a, b, c, d, e, f, g⟩
theorem typz_iff (x : Shw) (c : Int) : typz x c = true ↔ (if 0 < c then x.a ≤ 9 else x.a = 10) ∧ (if 1 < c then x.b ≤ 9 else x.b = 10) ∧ (if 2 < c then x.c ≤ 9 else x.c = 10) ∧ (if 3 < c then x.d ≤ 9 else x.d = 10) ∧ (if 4 < c then x.e ≤ 9 else x.e = 10) := by
  have h : ∀ j : Nat, typed x c j = true ↔ if (j : Int) < c then x.f j ≤ 9 else x.f j = 10 := fun j => by
    unfold typed
    split <;> simp
  unfold typz
  simp only [Bool.and_eq_true, h]
  simp only [Shw.f]
  constructor
  · rintro h; exact ⟨h.1.1.1.1, h.1.1.1.2, h.1.1.2, h.1.2, h.2⟩
  · rintro ⟨a, b, c, d, e⟩; exact ⟨⟨⟨⟨a, b⟩, c⟩, d⟩, e⟩
theorem typz_g {x : Shw} {c : Int} (h : x.Ok) (h2 : x.s ≤ 2) (ht : typz x c = true) : x.G := by
  obtain ⟨a, b, c, d, e⟩ := (typz_iff x _).1 ht
  have f0 := h.f 0 (by decide)
  have f1 := h.f 1 (by decide)
  have f2 := h.f 2 (by decide)
  have f3 := h.f 3 (by decide)
  have f4 := h.f 4 (by decide)
  simp only [Shw.f] at f0 f1 f2 f3 f4
  have hs := h.s
  refine ⟨by omega, ?_, ?_, ?_, ?_, ?_⟩
  · revert a; split <;> omega
  · revert b; split <;> omega
  · revert c; split <;> omega
  · revert d; split <;> omega
  · revert e; split <;> omega
theorem nxt_c (w : Vrb) (i : Int) : 0 ≤ w.next i ∧ w.next i ≤ 3 ∧ (w.next i < 3 → w.c (w.next i) = true) := by
  unfold Vrb.next
  split
  · rename_i h; exact ⟨by decide, by decide, fun _ => h.2⟩
  split
  · rename_i h; exact ⟨by decide, by decide, fun _ => h.2⟩
  split
  · rename_i h; exact ⟨by decide, by decide, fun _ => h.2⟩
  · exact ⟨by decide, by decide, fun h => absurd h (by decide)⟩
theorem next_3 (n : Int) : (vrb n).k = 3 → (vrb n).next (-1) < 3 := vrb_all (fun w => w.k = 3 → w.next (-1) < 3) (by decide) (by decide) n
theorem i64_0_5 {n : Int} (h : 0 ≤ n ∧ n ≤ 5) : I64 n := by unfold I64; omega
structure Pre0 (p : Pan) : Prop where
  N : p.N.OkP
  M : p.N.may = true
  D : p.D.G
  vb : 0 ≤ p.vb ∧ p.vb ≤ 99
  nn : 0 ≤ p.nn ∧ p.nn ≤ 99
  an : 0 ≤ p.an ∧ p.an ≤ 99
  av : 0 ≤ p.av ∧ p.av ≤ 99
  aq : 0 ≤ p.aq ∧ p.aq ≤ 99
  act : 0 ≤ p.act.k ∧ p.act.k ≤ 2
  ask : p.asked = true → p.av ≠ 0
  suit : p.av ≠ 0 → suit p.N p.av p.aq = true
theorem Pre0.ended {p : Pan} (h : Pre0 p) : Pre (endV p) :=
  { N := h.N, M := h.M, D := h.D, vb := h.vb, nn := h.nn, an := h.an, av := h.av, aq := h.aq, st := z_b, ty := z6_ok, l0 := z6_ok, l1 := z6_ok, l2 := z6_ok, cnt := z_i, cmp := z_i, entry := by rw [entry_0 rfl]; rfl, act := h.act, ask := h.ask, suit := h.suit }
theorem exec_pre {p : Pan} (h : Pre0 p) (hs : suit p.N p.vb p.nn = true) : Pre (execV p p.vb p.nn).1 ∧ (execV p p.vb p.nn).2.Ok := by
  obtain ⟨hv, hn, hk⟩ := suit_num h.M hs
  unfold execV
  split
  · rename_i h3
    have hx := nxt_c (vrb p.vb) (-1)
    have hx3 := next_3 p.vb h3
    refine ⟨{ h.ended with D := ?_, act := act0, an := b99, st := s3b, cmp := i64_0_5 (show 0 ≤ (vrb p.vb).next (-1) ∧ (vrb p.vb).next (-1) ≤ 5 by omega), ty := bl6_g.ok, entry := ?_ }, req_nil _ _⟩
    · refine { h.D with r0 := ?_, r1 := ?_, r2 := ?_ }
      · show (if (vrb p.vb).c0 = true then bl6 else p.D.r0).G
        split
        · exact bl6_g
        · exact h.D.r0
      · show (if (vrb p.vb).c1 = true then bl6 else p.D.r1).G
        split
        · exact bl6_g
        · exact h.D.r1
      · show (if (vrb p.vb).c2 = true then bl6 else p.D.r2).G
        split
        · exact bl6_g
        · exact h.D.r2
    · exact entry3_of rfl hs h3 ⟨hx.1, by show (vrb p.vb).next (-1) ≤ 2; omega⟩ (hx.2.2 hx3) c05 bl6s tz0
  · rename_i h3
    exact ⟨{ h.ended with D := { h.D with r0 := bl6_g, r1 := bl6_g, r2 := bl6_g }, act := (by omega : 0 ≤ (vrb p.vb).k ∧ (vrb p.vb).k ≤ 2), an := h.nn, entry := by rw [entry_0 rfl]; rfl }, req_nil _ _⟩
theorem answ_pre {p : Pan} (h : Pre p) (k : Int) : Pre (answV p k).1 ∧ (answV p k).2.Ok :=
  ⟨{ h.ended with av := b99, aq := b99, ask := fun h => (by cases h), suit := fun h => absurd rfl h, entry := by rw [entry_0 rfl]; rfl }, req_nil _ _⟩
def asV (p : Pan) : Pan := { p with vb := p.av, nn := p.aq, asked := true, D := { p.D with v0 := p.av / 10, v1 := p.av % 10, n0 := p.aq / 10, n1 := p.aq % 10 } }
theorem ask_pre {p : Pan} (h : Pre p) (h0 : p.av ≠ 0) : Pre (askV p).1 ∧ (askV p).2.Ok := by
  have ha := h.av
  have hq := h.aq
  refine exec_pre (p := asV p) ⟨h.N, h.M, { h.D with v0 := ?_, v1 := ?_, n0 := ?_, n1 := ?_ }, h.av, h.aq, h.an, h.av, h.aq, h.act, fun _ => h0, h.suit⟩ (h.suit h0)
  · show 0 ≤ p.av / 10 ∧ p.av / 10 ≤ 10; omega
  · show 0 ≤ p.av % 10 ∧ p.av % 10 ≤ 10; omega
  · show 0 ≤ p.aq / 10 ∧ p.aq / 10 ≤ 10; omega
  · show 0 ≤ p.aq % 10 ∧ p.aq % 10 ≤ 10; omega
theorem begin_pre {p : Pan} (h : Pre p) (s : Int) (hs : s = 1 ∨ s = 2 ∨ s = 4) : Pre (beginV p s) := by
  unfold beginV
  split
  · exact { h.ended with st := s1b, vb := b99, ask := fun h => (by cases h), D := { h.D with v0 := b10, v1 := b10 }, entry := by rw [entry_1 rfl]; rfl }
  · exact { h.ended with st := (by omega : 0 ≤ s ∧ s < 256), nn := b99, ask := fun h => (by cases h), D := { h.D with n0 := b10, n1 := b10 }, entry := by rw [entry_2 (show s = 2 ∨ s = 4 by omega)]; rfl }
theorem reset_pre {p : Pan} (h : Pre p) : Pre { p with D := { p.D with st := resetV p.D.st, li := 0 } } :=
  { h with D := { h.D with st := resetV_b h.D.st, li := b2048 } }
theorem cntd_iff (c n : Int) : cntd c n = true ↔ c = 0 ∧ n = 0 ∨ c = 1 ∧ n < 10 ∨ c = 2 := decide_eq_true_iff
theorem clear_pre {p q : Pan} (h : Pre p) (hq : clearV p = some q) : Pre q := by
  unfold clearV at hq
  split at hq
  · cases hq
  rename_i h0
  split at hq
  · rename_i h3
    cases hq
    obtain ⟨a, b, c, d, e, f, g⟩ := entry3_d h3 h.entry
    exact { h with cnt := z_i, ty := bl6_g.ok, D := setR_g h.D bl6_g _, entry := entry3_of h3 a b c d c05 bl6s tz0 }
  rename_i h3
  split at hq
  · rename_i h1
    cases hq
    exact { h with cnt := z_i, vb := b99, D := { h.D with v0 := b10, v1 := b10 }, entry := entry_1t h1 rfl }
  · rename_i h1
    cases hq
    have := h.st5
    exact { h with cnt := z_i, nn := b99, D := { h.D with n0 := b10, n1 := b10 }, entry := entry_2t (show p.st = 2 ∨ p.st = 4 by omega) rfl }
theorem sign_pre {p q : Pan} (h : Pre p) (s : Int) (hs : 0 ≤ s ∧ s ≤ 2) (hq : signV p s = some q) : Pre q := by
  unfold signV at hq
  split at hq
  · cases hq
  rename_i hc
  cases hq
  have h3 : p.st = 3 := by
    by_cases h3 : p.st = 3
    · exact h3
    · exact absurd (.inl h3) hc
  obtain ⟨a, b, c, d, e, f, g⟩ := entry3_d h3 h.entry
  have hg := typz_g h.ty f g
  have hg' : Shw.G { p.ty with s := s } := { hg with s := hs }
  exact { h with ty := hg'.ok, D := setR_g h.D hg' _, entry := entry3_of h3 a b c d e hs.2 g }
theorem set_typ {x : Shw} {c d : Int} (hc : 0 ≤ c ∧ c < 5) (hd : 0 ≤ d ∧ d ≤ 9) (h : typz x c = true) : typz (x.set c d) (c + 1) = true := by
  rw [typz_iff] at h ⊢
  rcases (show c = 0 ∨ c = 1 ∨ c = 2 ∨ c = 3 ∨ c = 4 by omega) with rfl | rfl | rfl | rfl | rfl <;> simp [Shw.set] at h ⊢ <;> omega
theorem set_g {x : Shw} (h : x.G) {c d : Int} (hd : 0 ≤ d ∧ d ≤ 9) : (x.set c d).G := by
  obtain ⟨s, a, b, e, f, g⟩ := h
  have hd' : 0 ≤ d ∧ d ≤ 10 := by omega
  unfold Shw.set
  split
  · exact ⟨s, hd', b, e, f, g⟩
  split
  · exact ⟨s, a, hd', e, f, g⟩
  split
  · exact ⟨s, a, b, hd', f, g⟩
  split
  · exact ⟨s, a, b, e, hd', g⟩
  · exact ⟨s, a, b, e, f, hd'⟩
theorem set_s (x : Shw) (c d : Int) : (x.set c d).s = x.s := by
  unfold Shw.set
  split
  · rfl
  split
  · rfl
  split
  · rfl
  split <;> rfl
theorem digit_pre {p q : Pan} (h : Pre p) (d : Int) (hd : 0 ≤ d ∧ d ≤ 9) (hq : digitV p d = some q) : Pre q := by
  have hd' : 0 ≤ d ∧ d ≤ 10 := by omega
  unfold digitV at hq
  split at hq
  · cases hq
  rename_i h0
  split at hq
  · rename_i h3
    split at hq
    · cases hq
    rename_i hb
    cases hq
    obtain ⟨a, b, c, e, f, g, ht⟩ := entry3_d h3 h.entry
    have hc : 0 ≤ p.cnt ∧ p.cnt < 5 := by omega
    have hg := set_g (typz_g h.ty g ht) (c := p.cnt) hd
    exact { h with ty := hg.ok, cnt := i64_0_5 (show 0 ≤ p.cnt + 1 ∧ p.cnt + 1 ≤ 5 by omega), D := setR_g h.D hg _, entry := entry3_of h3 a b c e (show 0 ≤ p.cnt + 1 ∧ p.cnt + 1 ≤ 5 by omega) (show (p.ty.set p.cnt d).s ≤ 2 by rw [set_s]; exact g) (set_typ hc hd ht) }
  rename_i h3
  split at hq
  · cases hq
  rename_i h2
  split at hq
  · rename_i h1
    cases hq
    have he := h.entry
    rw [entry_1 h1, cntd_iff] at he
    have hvb := h.vb
    have hx : (p.cnt = 0 ∧ p.vb = 0) ∨ (p.cnt = 1 ∧ p.vb < 10) := by omega
    refine { h with cnt := i64_0_5 (show 0 ≤ p.cnt + 1 ∧ p.cnt + 1 ≤ 5 by omega), vb := (by omega : 0 ≤ 10 * p.vb + d ∧ 10 * p.vb + d ≤ 99), D := ?_, entry := entry_1t h1 ((cntd_iff _ _).2 (show p.cnt + 1 = 0 ∧ 10 * p.vb + d = 0 ∨ p.cnt + 1 = 1 ∧ 10 * p.vb + d < 10 ∨ p.cnt + 1 = 2 by omega)) }
    show (if p.cnt = 0 then { p.D with v0 := d } else { p.D with v1 := d } : Dsp).G
    split
    · exact { h.D with v0 := hd' }
    · exact { h.D with v1 := hd' }
  · rename_i h1
    cases hq
    have h24 : p.st = 2 ∨ p.st = 4 := by have := h.st5; omega
    have he := h.entry
    rw [entry_2 h24, cntd_iff] at he
    have hvb := h.nn
    have hx : (p.cnt = 0 ∧ p.nn = 0) ∨ (p.cnt = 1 ∧ p.nn < 10) := by omega
    refine { h with cnt := i64_0_5 (show 0 ≤ p.cnt + 1 ∧ p.cnt + 1 ≤ 5 by omega), nn := (by omega : 0 ≤ 10 * p.nn + d ∧ 10 * p.nn + d ≤ 99), D := ?_, entry := entry_2t h24 ((cntd_iff _ _).2 (show p.cnt + 1 = 0 ∧ 10 * p.nn + d = 0 ∨ p.cnt + 1 = 1 ∧ 10 * p.nn + d < 10 ∨ p.cnt + 1 = 2 by omega)) }
    show (if p.cnt = 0 then { p.D with n0 := d } else { p.D with n1 := d } : Dsp).G
    split
    · exact { h.D with n0 := hd' }
    · exact { h.D with n1 := hd' }
theorem fit_of {v k : Int} (h : inV v k = true) (hk : k = 2 ∨ k = 3) : Fit v ∧ (k = 2 → -16383 ≤ v ∧ v ≤ 16383) := by
  have := of_decide_eq_true h
  unfold loV hiV at this
  unfold Fit
  rcases hk with rfl | rfl <;> simp at this ⊢ <;> omega
theorem wu16_b (x : Int) : 0 ≤ IntKind.u16.wrap x ∧ IntKind.u16.wrap x < 65536 := by
  rw [IntKind.wrap_u16]; omega
theorem cells_b {c : Cmp} (hv : validC c = true) {v : Int} (hf : c.k = 1 ∨ inV v c.k = true) : ∀ x ∈ cellsV c v, 0 ≤ x.1 ∧ 0 ≤ x.2 ∧ x.2 < 65536 := by
  have hc := of_decide_eq_true hv
  unfold cellsV
  split
  · intro x hx
    obtain rfl := List.mem_singleton.1 hx
    exact ⟨hc.1, wu16_b _⟩
  rename_i h1
  have hk : c.k = 2 ∨ c.k = 3 := by omega
  have hfit := fit_of (hf.resolve_left h1) hk
  split
  · rename_i h2
    have := hfit.2 h2
    intro x hx
    obtain rfl := List.mem_singleton.1 hx
    refine ⟨hc.1, ?_⟩
    show 0 ≤ wOf v ∧ wOf v < 65536
    unfold wOf
    split <;> omega
  · intro x hx
    rcases List.mem_cons.1 hx with rfl | hx
    · exact ⟨hc.1, hi_w hfit.1⟩
    · obtain rfl := List.mem_singleton.1 hx
      exact ⟨by show 0 ≤ c.a + 1; omega, lo_w hfit.1⟩
theorem entv_in {x : Shw} {n : Int} {c : Cmp} {v : Int} (h : entV x n c = some v) : c.k = 1 ∨ inV v c.k = true := by
  by_cases h1 : c.k = 1
  · exact .inl h1
  refine .inr ?_
  unfold entV at h
  rw [if_neg h1] at h
  split at h
  · rename_i hx
    cases h
    have hx := hx.1
    unfold fdV at hx ⊢
    split at hx
    · cases hx
    rename_i a
    rw [if_neg a]
    split at hx
    · cases hx
    rename_i a
    rw [if_neg a]
    split at hx
    · cases hx
    rename_i a
    rw [if_neg a]
    split at hx
    · cases hx
    rename_i a
    rw [if_neg a]
    simpa using a
  · cases h
theorem one_b {b : Bool} {x : Shw} {c : Cmp} (hv : b = true → validC c = true) {l : List (Int × Int)} (h : oneV b x c = some l) : l.length ≤ 2 ∧ ∀ y ∈ l, 0 ≤ y.1 ∧ 0 ≤ y.2 ∧ y.2 < 65536 := by
  unfold oneV at h
  split at h
  · rename_i hb
    split at h
    · rename_i v hv2
      cases h
      refine ⟨?_, cells_b (hv hb) (entv_in hv2)⟩
      unfold cellsV
      split
      · simp
      split <;> simp
    · cases h
  · cases h
    exact ⟨by decide, by simp⟩
end Go.Proofs
namespace Go.Proofs
open Go.E
set_option maxRecDepth 8000
theorem setL_pre {p : Pan} (h : Pre p) {x : Shw} (hx : x.Ok) (i : Int) : Pre (p.setL i x) := by
  unfold Pan.setL
  split
  · exact { h with l0 := hx, entry := h.entry }
  split
  · exact { h with l1 := hx, entry := h.entry }
  · exact { h with l2 := hx, entry := h.entry }
theorem setL_eq (p : Pan) (i : Int) (x : Shw) : ∃ a b c, p.setL i x = { p with l0 := a, l1 := b, l2 := c } := by
  unfold Pan.setL
  split
  · exact ⟨_, _, _, rfl⟩
  split
  · exact ⟨_, _, _, rfl⟩
  · exact ⟨_, _, _, rfl⟩
theorem load_pre {p q : Pan} {r : Req} (h : Pre p) (h3 : p.st = 3) (hq : loadV p = some (q, r)) : Pre q ∧ r.Ok := by
  obtain ⟨hs, hk, hc, hcc, hn, h2, ht⟩ := entry3_d h3 h.entry
  obtain ⟨i0, hf, hfit⟩ := suit_find hs
  have hva := (may_good h.M (find_lt hf).1).2
  have hm : ((vrb p.vb).c0 = true → 0 < p.N.m i0) ∧ ((vrb p.vb).c1 = true → 1 < p.N.m i0) ∧ ((vrb p.vb).c2 = true → 2 < p.N.m i0) := by
    rcases of_decide_eq_true hfit with ⟨a, _⟩ | ⟨_, b⟩
    · omega
    · exact b
  unfold loadV at hq
  rw [hf] at hq
  split at hq
  rotate_left
  · cases hq
  rename_i v i hv hi
  cases hi
  have hx : Shw.Ok (if (compV p).k = 1 then octS v else p.ty) := by
    split
    · exact octS_ok v
    · exact h.ty
  generalize (if (compV p).k = 1 then octS v else p.ty) = X at hq hx
  have hP := setL_pre h hx p.cmp
  obtain ⟨A, B, C, e⟩ := setL_eq p p.cmp X
  rw [e] at hq hP
  dsimp only at hq
  have hx := nxt_c (vrb p.vb) p.cmp
  split at hq
  · rename_i hlt
    cases hq
    exact ⟨{ hP with cmp := i64_0_5 (show 0 ≤ (vrb p.vb).next p.cmp ∧ (vrb p.vb).next p.cmp ≤ 5 by omega), cnt := z_i, ty := bl6_g.ok, entry := entry3_of h3 hs hk ⟨hx.1, (by omega : (vrb p.vb).next p.cmp ≤ 2)⟩ (hx.2.2 hlt) c05 bl6s tz0 }, req_nil _ _⟩
  · split at hq
    rotate_left
    · cases hq
    rename_i a b c ha hb hcx
    cases hq
    have h0 := one_b (fun x => hva 0 (hm.1 x)) ha
    have h1 := one_b (fun x => hva 1 (hm.2.1 x)) hb
    have h2 := one_b (fun x => hva 2 (hm.2.2 x)) hcx
    refine ⟨{ hP.ended with av := ?_, aq := ?_, ask := fun h => (by cases h), suit := ?_, entry := by rw [entry_0 rfl]; rfl }, ?_, ?_⟩
    · show 0 ≤ (if p.asked = true then 0 else p.av) ∧ (if p.asked = true then 0 else p.av) ≤ 99
      have := h.av
      split <;> omega
    · show 0 ≤ (if p.asked = true then 0 else p.aq) ∧ (if p.asked = true then 0 else p.aq) ≤ 99
      have := h.aq
      split <;> omega
    · intro hne
      have hne : (if p.asked = true then 0 else p.av) ≠ 0 := hne
      show suit p.N (if p.asked = true then 0 else p.av) (if p.asked = true then 0 else p.aq) = true
      by_cases ha : p.asked = true
      · rw [if_pos ha] at hne; exact absurd rfl hne
      · rw [if_neg ha] at hne ⊢
        rw [if_neg ha]
        exact h.suit hne
    · show (a ++ b ++ c).length ≤ 1000
      rw [List.length_append, List.length_append]
      omega
    · intro x hx
      rcases List.mem_append.1 hx with hx | hx
      · rcases List.mem_append.1 hx with hx | hx
        · exact h0.2 x hx
        · exact h1.2 x hx
      · exact h2.2 x hx
theorem enter_pre {p q : Pan} {r : Req} (h : Pre p) (hq : enterV p = some (q, r)) : Pre q ∧ r.Ok := by
  unfold enterV at hq
  split at hq
  · rename_i h3; exact load_pre h h3 hq
  split at hq
  · cases hq
  split at hq
  · cases hq
    exact ⟨{ h.ended with nn := b99, D := { h.D with n0 := b10, n1 := b10 }, entry := by rw [entry_0 rfl]; rfl }, req_nil _ _⟩
  simp only at hq
  split at hq
  · split at hq
    · rename_i hs
      simp only [Option.some.injEq] at hq
      have := exec_pre (p := { p with asked := false }) ⟨h.N, h.M, h.D, h.vb, h.nn, h.an, h.av, h.aq, h.act, fun h => (by cases h), h.suit⟩ hs
      rw [hq] at this
      exact this
    · cases hq
  split at hq
  · split at hq
    · cases hq
    · simp only [Option.some.injEq] at hq
      have := answ_pre h 6
      rw [hq] at this; exact this
  split at hq
  · split at hq
    · cases hq
    · simp only [Option.some.injEq] at hq
      have := answ_pre h 4
      rw [hq] at this; exact this
  split at hq
  · split at hq
    · cases hq
    · simp only [Option.some.injEq] at hq
      have := answ_pre h 5
      rw [hq] at this; exact this
  split at hq
  · cases hq
    exact ⟨{ h.ended with act := act0, an := b99, D := { h.D with r0 := ei6_g, r1 := ei6_g, r2 := ei6_g, li := b2047 }, entry := by rw [entry_0 rfl]; rfl }, req_nil _ _⟩
  split at hq
  · cases hq
    exact ⟨begin_pre h 4 (by omega), req_nil _ _⟩
  · cases hq
theorem key_pre {p q : Pan} {r : Req} (h : Pre p) {k : Int} (hk : 1 ≤ k ∧ k ≤ 19) (hq : keyV p k = some (q, r)) : Pre q ∧ r.Ok := by
  unfold keyV at hq
  split at hq
  · obtain ⟨x, hx, e⟩ := Option.map_eq_some_iff.1 hq
    cases e
    exact ⟨digit_pre h (k - 1) (by omega) hx, req_nil _ _⟩
  split at hq
  · obtain ⟨x, hx, e⟩ := Option.map_eq_some_iff.1 hq
    cases e
    exact ⟨sign_pre h (k - 10) (by omega) hx, req_nil _ _⟩
  split at hq
  · split at hq
    · cases hq
    · cases hq
      exact ⟨begin_pre h (k - 12) (by omega), req_nil _ _⟩
  split at hq
  · exact enter_pre h hq
  split at hq
  · obtain ⟨x, hx, e⟩ := Option.map_eq_some_iff.1 hq
    cases e
    exact ⟨clear_pre h hx, req_nil _ _⟩
  split at hq
  · split at hq
    · cases hq
    · rename_i hc
      simp only [Option.some.injEq] at hq
      have := ask_pre h (fun e => hc (.inl e))
      rw [hq] at this; exact this
  split at hq
  · cases hq
    exact ⟨reset_pre h, req_nil _ _⟩
  · split at hq
    · simp only [Option.some.injEq] at hq
      have := answ_pre h 4
      rw [hq] at this; exact this
    · cases hq
theorem wrong_pre {p : Pan} (h : Pre p) : Pre (wrongV p) := by
  have := h.D.st
  exact { h with D := { h.D with st := (by omega : 0 ≤ p.D.st - 2 * (p.D.st / 2 % 2) + 2 ∧ p.D.st - 2 * (p.D.st / 2 % 2) + 2 < 2048) } }
theorem press_good (p : Pan) (k : Int) (h : Good p) (hk : isK k = true) : Good (pressV p k).1 ∧ (pressV p k).2.Ok := by
  have hb := of_decide_eq_true hk
  unfold pressV
  cases hv : keyV p k with
  | none => exact ⟨lit_good (wrong_pre h.pre), req_nil _ _⟩
  | some z =>
    obtain ⟨q, r⟩ := z
    have := key_pre h.pre hb hv
    exact ⟨lit_good this.1, this.2⟩
end Go.Proofs
namespace Go.Proofs
open Go.E
set_option maxRecDepth 8000
theorem good_of {p q : Pan} (h : Good p) (hq : Pre q) (h1 : flash q = flash p) (h2 : waits q = waits p) (h3 : q.D.st % 2 = p.D.st % 2) (h4 : q.D.st / 4 % 2 = p.D.st / 4 % 2) : Good q :=
  ⟨⟨hq.N, hq.st, i64_small hq.vb, i64_small hq.nn, hq.ty, hq.cnt, hq.cmp, hq.l0, hq.l1, hq.l2, ⟨hq.act.1, by have := hq.act.2; omega⟩, i64_small hq.an, i64_small hq.av, i64_small hq.aq, hq.D.wd⟩,
    ⟨hq.M, hq.D.may, hq.vb, hq.nn, hq.an, hq.av, hq.aq, hq.entry, hq.act.2, hq.ask, hq.suit, by rw [h1, h3]; exact h.may.fl, by rw [h2, h4]; exact h.may.wt⟩⟩
theorem digF_g {b : Int} (hb : b = 8 ∨ b = 10) (n : Int) (i : Nat) : 0 ≤ digF b n i ∧ digF b n i ≤ 10 := by
  rcases hb with rfl | rfl
  · have := digF_bound (b := 8) (n := n) ⟨by decide, by decide⟩ i
    omega
  · have := digF_bound (b := 10) (n := n) ⟨by decide, by decide⟩ i
    omega
theorem show_g (c : Cmp) (l : List Int) (o : Bool) : (0 ≤ (showV c l o).1 ∧ (showV c l o).1 ≤ 2) ∧ ∀ i, 0 ≤ (showV c l o).2.1 i ∧ (showV c l o).2.1 i ≤ 10 := by
  unfold showV
  split
  · exact ⟨by simp, fun i => by simp⟩
  split
  · exact ⟨by simp, fun i => digF_g (.inl rfl) _ i⟩
  unfold decV
  split
  · exact ⟨by simp, fun i => by simp⟩
  split
  · exact ⟨by simp, fun i => by simp⟩
  split
  · exact ⟨by simp, fun i => by simp⟩
  · refine ⟨?_, fun i => digF_g (.inr rfl) _ i⟩
    dsimp only
    split <;> simp
theorem regS_g (p : Pan) (l : List Int) (j : Nat) : (regS p l j).G := by
  unfold regS
  split
  · exact bl6_g
  split
  · rename_i i _ _
    obtain ⟨hs, hd⟩ := show_g (p.N.cm i j) l p.act.o
    exact ⟨hs, hd 0, hd 1, hd 2, hd 3, hd 4⟩
  · exact bl6_g
theorem fillS_pre {p : Pan} (h : Pre p) (l : List Int) : Pre (fillS p l 3) :=
  { h with D := { h.D with r0 := regS_g p l 0, r1 := regS_g p l 1, r2 := regS_g p l 2 }, entry := h.entry }
theorem fill_good (p : Pan) (l : List Int) (h : Good p) : Good (fillV p l) := by
  have hp := fillS_pre h.pre l
  unfold fillV
  split
  · exact h
  split
  · exact good_of h { hp with act := act0, an := b99, entry := hp.entry } rfl rfl rfl rfl
  · exact good_of h hp rfl rfl rfl rfl
theorem Dsp.clear_g : Dsp.clear.G := ⟨by decide, by decide, by decide, by decide, by decide, by decide, bl6_g, bl6_g, bl6_g, by decide, by decide⟩
theorem new_good (N : Nns) (hN : N.OkP) (hm : N.may = true) : Good (newP N) :=
  ⟨⟨hN, z_b, z_i, z_i, z6_ok, z_i, z_i, z6_ok, z6_ok, z6_ok, z_b, z_i, z_i, z_i, Dsp.clear_g.wd⟩,
    ⟨hm, Dsp.clear_g.may, b99, b99, b99, b99, b99, by rw [entry_0 rfl]; rfl, act0.2, fun h => (by cases h), fun h => absurd rfl h, rfl, rfl⟩⟩
theorem play_c (p : Pan) (hp : Good p) (ks l : List Int) (hk : ∀ k ∈ ks, isK k = true) (hks : ks.length ≤ 1000) (hl : Words l) (hll : l.length ≤ 100000) :
    callP Try.prog 10 [p.A, ints .u8 ks, ints .u16 l] (· = .tuple [(playV ⟨p, l, []⟩ ks).p.A, reqsA (playV ⟨p, l, []⟩ ks).rs, ints .u16 (playV ⟨p, l, []⟩ ks).l, .int .i64 0]) :=
  play_ok press_good (fun p l h _ => fill_good p l h) p hp ks l hk hks hl hll
theorem step_ok {s : PlS} (h : s.Ok) {k : Int} (hk : isK k = true) : (stepV s k).Ok := by
  have := press_good s.p k h.p hk
  unfold stepV
  dsimp only
  split
  · exact ⟨this.1, h.l⟩
  · refine ⟨?_, putV_words h.l fun x hx => (this.2.2 x hx).2⟩
    dsimp only
    split
    · exact fill_good _ _ this.1
    · exact this.1
theorem play_inv {ks : List Int} : ∀ {s : PlS}, s.Ok → (∀ k ∈ ks, isK k = true) → (playV s ks).Ok := by
  induction ks with
  | nil => intro s h _; exact h
  | cons k ks ih =>
    intro s h hk
    rw [playV, List.foldl_cons]
    exact ih (step_ok h (hk k List.mem_cons_self)) fun x hx => hk x (List.mem_cons_of_mem _ hx)
end Go.Proofs
