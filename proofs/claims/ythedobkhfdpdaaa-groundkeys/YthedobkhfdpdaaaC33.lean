/- Chapter 30: the key ENTER. -/
import Derived.Test.YthedobkhfdpdaaaC32
import Derived.Test.YthedobkhfdpdaaaC16
set_option linter.unusedVariables false
set_option linter.unusedSimpArgs false
namespace Go.Proofs
open Go.E
set_option maxRecDepth 8000
def KeyOut (m : Option (Pan × Req)) (v : AVal) (H : Heap) : Prop := match m with
  | some (q, r) => v = .bool true ∧ H = [.cells (deskR q r)]
  | none => NoK v H
theorem key_some {f : FuncId} {args : List AVal} {p q : Pan} {r : Req} {m : Option (Pan × Req)} (e : m = some (q, r)) (hc : r.c = [])
    (h : callN Try.prog f args [.cells (desk0 p)] fun v H' => v = .bool true ∧ H' = [.cells (deskL q r.k r.n .nilslice)]) : callN Try.prog f args [.cells (desk0 p)] (KeyOut m) := by
  subst e
  obtain ⟨k, n, c⟩ := r
  dsimp only at hc h
  subst hc
  exact callN_mono (callN_nil h) fun v H' h => h
theorem key_none {f : FuncId} {args : List AVal} {p q : Pan} {m : Option (Pan × Req)} (e : m = none)
    (h : callN Try.prog f args [.cells (desk0 p)] fun v H' => v = .bool false ∧ H' = [.cells (desk0 q)]) : callN Try.prog f args [.cells (desk0 p)] (KeyOut m) := by
  subst e
  exact callN_mono h fun v H' ⟨a, b⟩ => ⟨a, q, b⟩
theorem enter_load (p : Pan) (k : Int) (h3 : p.st = 3) (hl : callN Try.prog 64 [.ptr ⟨0, 0, 0⟩] [.cells (desk0 p)] (LoadOut p)) : callN Try.prog 51 [.ptr ⟨0, 0, 0⟩, .int .u8 k] [.cells (desk0 p)] (KeyOut (enterV p)) := by
  rw [show enterV p = loadV p by rw [enterV, if_pos h3]]
  cases hm : loadV p with
  | none =>
    refine callN_mono (k := fun v H' => NoK v H') ?_ fun v H' h => h
    refine callN_def env (fn := Try.f51) 1 rfl rfl (by decide) ?_
    repeat refine stp ?_
    refine callT_part [0] rfl hl ?_
    rintro v H' hR x G hx hG
    rw [LoadOut, hm] at hR
    obtain ⟨rfl, q, rfl⟩ := hR
    obtain rfl : x = .bool false := hx
    obtain rfl : G = [.cells (desk0 q)] := hG
    repeat refine stp ?_
    exact ⟨rfl, q, rfl⟩
  | some z =>
    obtain ⟨q, r⟩ := z
    refine callN_mono (k := fun v H' => v = .bool true ∧ H' = [.cells (deskR q r)]) ?_ fun v H' h => h
    refine callN_def env (fn := Try.f51) 1 rfl rfl (by decide) ?_
    repeat refine stp ?_
    refine callT_part [0] rfl hl ?_
    rintro v H' hR x G hx hG
    rw [LoadOut, hm] at hR
    obtain ⟨rfl, rfl⟩ := hR
    obtain rfl : x = .bool true := hx
    obtain rfl : G = [.cells (deskR q r)] := hG
    repeat refine stp ?_
    exact ⟨rfl, rfl⟩
theorem enter_no (p : Pan) (k : Int) (h3 : p.st ≠ 3) (h : p.st ≠ 0 ∧ p.cnt ≠ 2) : callN Try.prog 51 [.ptr ⟨0, 0, 0⟩, .int .u8 k] [.cells (desk0 p)] (KeyOut (enterV p)) := by
  refine key_none (q := p) (by rw [enterV, if_neg h3, if_pos h]) ?_
  obtain ⟨h0, h2⟩ := h
  refine callN_end [0] ?_
  refine callN_def env (fn := Try.f51) 1 rfl rfl (by decide) ?_
  repeat refine stp ?_
  exact ⟨rfl, Eqv.same _, EqvH.refl _⟩
theorem enter_prog (p : Pan) (k : Int) (h4 : p.st = 4) (h2 : p.cnt = 2) : callN Try.prog 51 [.ptr ⟨0, 0, 0⟩, .int .u8 k] [.cells (desk0 p)] (KeyOut (enterV p)) := by
  refine key_some (r := ⟨3, p.nn, []⟩) (q := { endV p with nn := 0, D := { p.D with n0 := 10, n1 := 10 } }) (by rw [enterV, if_neg (by omega), if_neg (by omega), if_pos h4]) rfl ?_
  refine callN_end [0] ?_
  refine callN_def env (fn := Try.f51) 1 rfl rfl (by decide) ?_
  repeat refine stp ?_
  refine callT_part [0] rfl (end_c p) ?_
  rintro v H' ⟨rfl, rfl⟩ x G hx hG
  obtain rfl : x = .tuple [] := hx
  obtain rfl : G = [.cells (desk0 (endV p))] := hG
  repeat refine stp ?_
  refine callT_E gap_c rfl ?_
  repeat refine stp ?_
  exact ⟨rfl, Eqv.same _, EqvH.refl _⟩
structure Rdy (p : Pan) : Prop where
  h3 : p.st ≠ 3
  h4 : p.st ≠ 4
  h : ¬(p.st ≠ 0 ∧ p.cnt ≠ 2)
theorem rdy_eq {p : Pan} (h : Rdy p) : enterV p = (let k := (vrb p.vb).k
    if k = 1 ∨ k = 2 ∨ k = 3 then (if suit p.N p.vb p.nn = true then some (execV { p with asked := false } p.vb p.nn) else none)
    else if k = 4 then (if p.av = 0 then none else some (answV p 6))
    else if k = 5 then (if p.av = 0 then none else some (answV p 4))
    else if k = 6 then (if p.av = 0 then none else some (answV p 5))
    else if k = 7 then some ({ endV p with act := .z, an := 0, D := { p.D with r0 := ei6, r1 := ei6, r2 := ei6, li := 2047 } }, .z)
    else if k = 8 then some (beginV p 4, .z)
    else none) := by
  rw [enterV, if_neg h.h3, if_neg h.h, if_neg h.h4]
theorem enter_none (p : Pan) (k : Int) (hr : Rdy p) (hk : (vrb p.vb).k = 0 ∨ 8 < (vrb p.vb).k) : callN Try.prog 51 [.ptr ⟨0, 0, 0⟩, .int .u8 k] [.cells (desk0 p)] (KeyOut (enterV p)) := by
  refine key_none (q := p) ?_ ?_
  · rw [rdy_eq hr]
    simp only
    rw [if_neg (by omega), if_neg (by omega), if_neg (by omega), if_neg (by omega), if_neg (by omega), if_neg (by omega)]
  have h3 := hr.h3
  have h4 := hr.h4
  have h5 : p.st = 0 ∨ p.st ≠ 0 ∧ p.cnt = 2 := by have := hr.h; omega
  refine callN_end [0] ?_
  refine callN_def env (fn := Try.f51) 1 rfl rfl (by decide) ?_
  rcases h5 with h0 | ⟨h0, h2⟩
  all_goals
    repeat refine stp ?_
    refine callT_E (va2 p.vb) rfl ?_
    generalize vrb p.vb = w at *
    have k1 : w.k ≠ 1 := by omega
    have k2 : w.k ≠ 2 := by omega
    have k3 : w.k ≠ 3 := by omega
    have k4 : w.k ≠ 4 := by omega
    have k5 : w.k ≠ 5 := by omega
    have k6 : w.k ≠ 6 := by omega
    have k7 : w.k ≠ 7 := by omega
    have k8 : w.k ≠ 8 := by omega
    repeat refine stp ?_
    exact ⟨rfl, Eqv.same _, EqvH.refl _⟩
end Go.Proofs
namespace Go.Proofs
open Go.E
set_option maxRecDepth 8000
set_option maxHeartbeats 4000000 in
theorem enter_a4 (p : Pan) (k : Int) (hr : Rdy p) (hk : (vrb p.vb).k = 4) : callN Try.prog 51 [.ptr ⟨0, 0, 0⟩, .int .u8 k] [.cells (desk0 p)] (KeyOut (enterV p)) := by
  by_cases ha : p.av = 0
  · refine key_none (q := p) (by rw [rdy_eq hr, hk]; dsimp only; rw [if_neg (by decide), if_pos rfl, if_pos ha]) ?_
    have h3 := hr.h3
    have h4 := hr.h4
    have h5 : p.st = 0 ∨ p.st ≠ 0 ∧ p.cnt = 2 := by have := hr.h; omega
    refine callN_end [0] ?_
    refine callN_def env (fn := Try.f51) 1 rfl rfl (by decide) ?_
    rcases h5 with h0 | ⟨h0, h2⟩
    all_goals
      repeat refine stp ?_
      refine callT_E (va2 p.vb) rfl ?_
      generalize vrb p.vb = w at *
      repeat refine stp ?_
      refine callT_part [0] rfl (answer_no p 6 ha) ?_
      rintro v H' ⟨rfl, rfl⟩ x G hx hG
      obtain rfl : x = .bool false := hx
      obtain rfl : G = [.cells (desk0 p), .cells w.L] := hG
      repeat refine stp ?_
      exact ⟨rfl, Eqv.same _, EqvH.refl _⟩
  · refine key_some (r := ⟨6, 0, []⟩) (q := (answV p 6).1) (by rw [rdy_eq hr, hk]; dsimp only; rw [if_neg (by decide), if_pos rfl, if_neg ha]; rfl) rfl ?_
    have h3 := hr.h3
    have h4 := hr.h4
    have h5 : p.st = 0 ∨ p.st ≠ 0 ∧ p.cnt = 2 := by have := hr.h; omega
    refine callN_end [0] ?_
    refine callN_def env (fn := Try.f51) 1 rfl rfl (by decide) ?_
    rcases h5 with h0 | ⟨h0, h2⟩
    all_goals
      repeat refine stp ?_
      refine callT_E (va2 p.vb) rfl ?_
      generalize vrb p.vb = w at *
      repeat refine stp ?_
      refine callT_part [0] rfl (answer_c p 6 ha) ?_
      rintro v H' ⟨rfl, rfl⟩ x G hx hG
      obtain rfl : x = .bool true := hx
      obtain rfl : G = [.cells (deskL (answV p 6).1 6 0 .nilslice), .cells w.L] := hG
      repeat refine stp ?_
      exact ⟨rfl, Eqv.same _, EqvH.refl _⟩
set_option maxHeartbeats 4000000 in
theorem enter_a5 (p : Pan) (k : Int) (hr : Rdy p) (hk : (vrb p.vb).k = 5) : callN Try.prog 51 [.ptr ⟨0, 0, 0⟩, .int .u8 k] [.cells (desk0 p)] (KeyOut (enterV p)) := by
  by_cases ha : p.av = 0
  · refine key_none (q := p) (by rw [rdy_eq hr, hk]; dsimp only; rw [if_neg (by decide), if_neg (by decide), if_pos rfl, if_pos ha]) ?_
    have h3 := hr.h3
    have h4 := hr.h4
    have h5 : p.st = 0 ∨ p.st ≠ 0 ∧ p.cnt = 2 := by have := hr.h; omega
    refine callN_end [0] ?_
    refine callN_def env (fn := Try.f51) 1 rfl rfl (by decide) ?_
    rcases h5 with h0 | ⟨h0, h2⟩
    all_goals
      repeat refine stp ?_
      refine callT_E (va2 p.vb) rfl ?_
      generalize vrb p.vb = w at *
      repeat refine stp ?_
      refine callT_part [0] rfl (answer_no p 4 ha) ?_
      rintro v H' ⟨rfl, rfl⟩ x G hx hG
      obtain rfl : x = .bool false := hx
      obtain rfl : G = [.cells (desk0 p), .cells w.L] := hG
      repeat refine stp ?_
      exact ⟨rfl, Eqv.same _, EqvH.refl _⟩
  · refine key_some (r := ⟨4, 0, []⟩) (q := (answV p 4).1) (by rw [rdy_eq hr, hk]; dsimp only; rw [if_neg (by decide), if_neg (by decide), if_pos rfl, if_neg ha]; rfl) rfl ?_
    have h3 := hr.h3
    have h4 := hr.h4
    have h5 : p.st = 0 ∨ p.st ≠ 0 ∧ p.cnt = 2 := by have := hr.h; omega
    refine callN_end [0] ?_
    refine callN_def env (fn := Try.f51) 1 rfl rfl (by decide) ?_
    rcases h5 with h0 | ⟨h0, h2⟩
    all_goals
      repeat refine stp ?_
      refine callT_E (va2 p.vb) rfl ?_
      generalize vrb p.vb = w at *
      repeat refine stp ?_
      refine callT_part [0] rfl (answer_c p 4 ha) ?_
      rintro v H' ⟨rfl, rfl⟩ x G hx hG
      obtain rfl : x = .bool true := hx
      obtain rfl : G = [.cells (deskL (answV p 4).1 4 0 .nilslice), .cells w.L] := hG
      repeat refine stp ?_
      exact ⟨rfl, Eqv.same _, EqvH.refl _⟩
set_option maxHeartbeats 4000000 in
theorem enter_a6 (p : Pan) (k : Int) (hr : Rdy p) (hk : (vrb p.vb).k = 6) : callN Try.prog 51 [.ptr ⟨0, 0, 0⟩, .int .u8 k] [.cells (desk0 p)] (KeyOut (enterV p)) := by
  by_cases ha : p.av = 0
  · refine key_none (q := p) (by rw [rdy_eq hr, hk]; dsimp only; rw [if_neg (by decide), if_neg (by decide), if_neg (by decide), if_pos rfl, if_pos ha]) ?_
    have h3 := hr.h3
    have h4 := hr.h4
    have h5 : p.st = 0 ∨ p.st ≠ 0 ∧ p.cnt = 2 := by have := hr.h; omega
    refine callN_end [0] ?_
    refine callN_def env (fn := Try.f51) 1 rfl rfl (by decide) ?_
    rcases h5 with h0 | ⟨h0, h2⟩
    all_goals
      repeat refine stp ?_
      refine callT_E (va2 p.vb) rfl ?_
      generalize vrb p.vb = w at *
      repeat refine stp ?_
      refine callT_part [0] rfl (answer_no p 5 ha) ?_
      rintro v H' ⟨rfl, rfl⟩ x G hx hG
      obtain rfl : x = .bool false := hx
      obtain rfl : G = [.cells (desk0 p), .cells w.L] := hG
      repeat refine stp ?_
      exact ⟨rfl, Eqv.same _, EqvH.refl _⟩
  · refine key_some (r := ⟨5, 0, []⟩) (q := (answV p 5).1) (by rw [rdy_eq hr, hk]; dsimp only; rw [if_neg (by decide), if_neg (by decide), if_neg (by decide), if_pos rfl, if_neg ha]; rfl) rfl ?_
    have h3 := hr.h3
    have h4 := hr.h4
    have h5 : p.st = 0 ∨ p.st ≠ 0 ∧ p.cnt = 2 := by have := hr.h; omega
    refine callN_end [0] ?_
    refine callN_def env (fn := Try.f51) 1 rfl rfl (by decide) ?_
    rcases h5 with h0 | ⟨h0, h2⟩
    all_goals
      repeat refine stp ?_
      refine callT_E (va2 p.vb) rfl ?_
      generalize vrb p.vb = w at *
      repeat refine stp ?_
      refine callT_part [0] rfl (answer_c p 5 ha) ?_
      rintro v H' ⟨rfl, rfl⟩ x G hx hG
      obtain rfl : x = .bool true := hx
      obtain rfl : G = [.cells (deskL (answV p 5).1 5 0 .nilslice), .cells w.L] := hG
      repeat refine stp ?_
      exact ⟨rfl, Eqv.same _, EqvH.refl _⟩
set_option maxHeartbeats 4000000 in
theorem enter_lamps (p : Pan) (k : Int) (hr : Rdy p) (hk : (vrb p.vb).k = 7) : callN Try.prog 51 [.ptr ⟨0, 0, 0⟩, .int .u8 k] [.cells (desk0 p)] (KeyOut (enterV p)) := by
  refine key_some (r := .z) (q := { endV p with act := .z, an := 0, D := { p.D with r0 := ei6, r1 := ei6, r2 := ei6, li := 2047 } }) (by rw [rdy_eq hr, hk]; dsimp only; rw [if_neg (by decide), if_neg (by decide), if_neg (by decide), if_neg (by decide), if_pos rfl]) rfl ?_
  have h3 := hr.h3
  have h4 := hr.h4
  have h5 : p.st = 0 ∨ p.st ≠ 0 ∧ p.cnt = 2 := by have := hr.h; omega
  refine callN_end [0] ?_
  refine callN_def env (fn := Try.f51) 1 rfl rfl (by decide) ?_
  rcases h5 with h0 | ⟨h0, h2⟩
  all_goals
    repeat refine stp ?_
    refine callT_E (va2 p.vb) rfl ?_
    generalize vrb p.vb = w at *
    repeat refine stp ?_
    refine callT_part [0] rfl (end_c p) ?_
    rintro v H' ⟨rfl, rfl⟩ x G hx hG
    obtain rfl : x = .tuple [] := hx
    obtain rfl : G = [.cells (desk0 (endV p)), .cells w.L] := hG
    repeat' (first | refine stp ?_ | refine loop_unr 4 ?_)
    exact ⟨rfl, Eqv.same _, EqvH.refl _⟩
set_option maxHeartbeats 4000000 in
theorem enter_open (p : Pan) (k : Int) (hr : Rdy p) (hk : (vrb p.vb).k = 8) : callN Try.prog 51 [.ptr ⟨0, 0, 0⟩, .int .u8 k] [.cells (desk0 p)] (KeyOut (enterV p)) := by
  refine key_some (r := .z) (q := beginV p 4) (by rw [rdy_eq hr, hk]; dsimp only; rw [if_neg (by decide), if_neg (by decide), if_neg (by decide), if_neg (by decide), if_neg (by decide), if_pos rfl]) rfl ?_
  have h3 := hr.h3
  have h4 := hr.h4
  have h5 : p.st = 0 ∨ p.st ≠ 0 ∧ p.cnt = 2 := by have := hr.h; omega
  refine callN_end [0] ?_
  refine callN_def env (fn := Try.f51) 1 rfl rfl (by decide) ?_
  rcases h5 with h0 | ⟨h0, h2⟩
  all_goals
    repeat refine stp ?_
    refine callT_E (va2 p.vb) rfl ?_
    generalize vrb p.vb = w at *
    repeat refine stp ?_
    refine callT_part [0] rfl (open_n p 4 (by decide)) ?_
    rintro v H' ⟨rfl, rfl⟩ x G hx hG
    obtain rfl : x = .tuple [] := hx
    obtain rfl : G = [.cells (desk0 (beginV p 4)), .cells w.L] := hG
    repeat refine stp ?_
    exact ⟨rfl, Eqv.same _, EqvH.refl _⟩
set_option maxHeartbeats 4000000 in
theorem enter_unfit (p : Pan) (k : Int) (hN : p.N.Ok) (hr : Rdy p) (hk : (vrb p.vb).k = 1 ∨ (vrb p.vb).k = 2 ∨ (vrb p.vb).k = 3) (hs : suit p.N p.vb p.nn = false) : callN Try.prog 51 [.ptr ⟨0, 0, 0⟩, .int .u8 k] [.cells (desk0 p)] (KeyOut (enterV p)) := by
  refine key_none (q := p) (by rw [rdy_eq hr]; dsimp only; rw [if_pos hk, if_neg (by rw [hs]; decide)]) ?_
  have h3 := hr.h3
  have h4 := hr.h4
  have h5 : p.st = 0 ∨ p.st ≠ 0 ∧ p.cnt = 2 := by have := hr.h; omega
  refine callN_end [0] ?_
  refine callN_def env (fn := Try.f51) 1 rfl rfl (by decide) ?_
  cases hf : p.N.find p.nn with
  | none =>
    have e := suits_none hN (v := p.vb) hf
    rcases h5 with h0 | ⟨h0, h2⟩ <;> rcases hk with hk | hk | hk
    all_goals
      repeat refine stp ?_
      refine callT_E (va2 p.vb) rfl ?_
      generalize vrb p.vb = w at *
      repeat refine stp ?_
      refine draw_tree (picks (List.range 20) (.fork 20 21 (picks [21, 22, 23, 24] .done) (picks [20, 22, 23, 24] .done))) (by decide +kernel) ?_
      refine ⟨_, ⟨e, rfl⟩, ?_⟩
      repeat refine stp ?_
      constructor
      all_goals
        repeat refine stp ?_
        exact ⟨rfl, Eqv.same _, EqvH.refl _⟩
  | some i =>
    have e := suits_some hN (v := p.vb) hf
    rw [suit_some hf] at hs
    rw [hs] at e
    rcases h5 with h0 | ⟨h0, h2⟩ <;> rcases hk with hk | hk | hk
    all_goals
      repeat refine stp ?_
      refine callT_E (va2 p.vb) rfl ?_
      generalize vrb p.vb = w at *
      repeat refine stp ?_
      refine draw_tree (picks (List.range 20) (.fork 20 21 (picks [21, 22, 23, 24] .done) (picks [20, 22, 23, 24] .done))) (by decide +kernel) ?_
      refine ⟨_, ⟨e, rfl⟩, ?_⟩
      repeat refine stp ?_
      constructor
      all_goals
        repeat refine stp ?_
        exact ⟨rfl, Eqv.same _, EqvH.refl _⟩
set_option maxHeartbeats 4000000 in
theorem enter_show (p : Pan) (k : Int) (hN : p.N.Ok) (hr : Rdy p) (hk : (vrb p.vb).k = 1 ∨ (vrb p.vb).k = 2) (i : Nat) (hf : p.N.find p.nn = some i) (hs : fits (vrb p.vb) (p.N.m i) = true) : callN Try.prog 51 [.ptr ⟨0, 0, 0⟩, .int .u8 k] [.cells (desk0 p)] (KeyOut (enterV p)) := by
  have k3 : (vrb p.vb).k ≠ 3 := by omega
  refine key_some (r := ⟨1, 0, []⟩) (q := (execV { p with asked := false } p.vb p.nn).1) (by rw [rdy_eq hr]; dsimp only; rw [if_pos (by omega), if_pos (by rw [suit_some hf, hs]), execV, if_neg k3]) rfl ?_
  have h3 := hr.h3
  have h4 := hr.h4
  have h5 : p.st = 0 ∨ p.st ≠ 0 ∧ p.cnt = 2 := by have := hr.h; omega
  refine callN_end [0] ?_
  refine callN_def env (fn := Try.f51) 1 rfl rfl (by decide) ?_
  have e := suits_some hN (v := p.vb) hf
  rw [hs] at e
  have ex := exec_show { p with asked := false } p.vb p.nn k3
  rcases h5 with h0 | ⟨h0, h2⟩ <;> rcases hk with hk | hk
  all_goals
    repeat refine stp ?_
    refine callT_E (va2 p.vb) rfl ?_
    generalize hwe : (vrb p.vb) = w at hk e hs k3
    repeat refine stp ?_
    refine draw_tree (picks (List.range 20) (.fork 20 21 (picks [21, 22, 23, 24] .done) (picks [20, 22, 23, 24] .done))) (by decide +kernel) ?_
    refine ⟨_, ⟨e, rfl⟩, ?_⟩
    repeat refine stp ?_
    refine (fun key => ⟨branch_true (draw_weak (weak_keep (tm' := slots 162 [(0, .ptr ⟨0, 0, 0⟩), (4, .bool false), (10, .bool true)]) (H' := [.cells (desk0 { p with asked := false })]) (keep 162 [0, 4, 10]) [0] rfl rfl rfl) key), branch_true (draw_weak (weak_keep (tm' := slots 162 [(0, .ptr ⟨0, 0, 0⟩), (4, .bool false), (10, .bool true)]) (H' := [.cells (desk0 { p with asked := false })]) (keep 162 [0, 4, 10]) [0] rfl rfl rfl) key)⟩) ?_
    refine draw_last 11 (List.range 11) (by decide +kernel) ?_
    refine callT_part [0] rfl ex ?_
    rintro v H' ⟨rfl, rfl⟩ x G hx hG
    obtain rfl : x = .tuple [] := hx
    obtain rfl : G = [.cells (deskL (execV { p with asked := false } p.vb p.nn).1 1 0 .nilslice)] := hG
    repeat refine stp ?_
    exact ⟨rfl, Eqv.same _, EqvH.refl _⟩
set_option maxHeartbeats 4000000 in
theorem enter_ld (p : Pan) (k : Int) (hN : p.N.Ok) (hr : Rdy p) (hk : (vrb p.vb).k = 3) (i : Nat) (hf : p.N.find p.nn = some i) (hs : fits (vrb p.vb) (p.N.m i) = true) : callN Try.prog 51 [.ptr ⟨0, 0, 0⟩, .int .u8 k] [.cells (desk0 p)] (KeyOut (enterV p)) := by
  have k3 : (vrb p.vb).k = 3 := by omega
  refine key_some (r := .z) (q := (execV { p with asked := false } p.vb p.nn).1) (by rw [rdy_eq hr]; dsimp only; rw [if_pos (by omega), if_pos (by rw [suit_some hf, hs]), execV, if_pos k3]) rfl ?_
  have h3 := hr.h3
  have h4 := hr.h4
  have h5 : p.st = 0 ∨ p.st ≠ 0 ∧ p.cnt = 2 := by have := hr.h; omega
  refine callN_end [0] ?_
  refine callN_def env (fn := Try.f51) 1 rfl rfl (by decide) ?_
  have e := suits_some hN (v := p.vb) hf
  rw [hs] at e
  have ex := exec_load { p with asked := false } p.vb p.nn k3
  rcases h5 with h0 | ⟨h0, h2⟩
  all_goals
    repeat refine stp ?_
    refine callT_E (va2 p.vb) rfl ?_
    generalize hwe : (vrb p.vb) = w at hk e hs k3
    repeat refine stp ?_
    refine draw_tree (picks (List.range 20) (.fork 20 21 (picks [21, 22, 23, 24] .done) (picks [20, 22, 23, 24] .done))) (by decide +kernel) ?_
    refine ⟨_, ⟨e, rfl⟩, ?_⟩
    repeat refine stp ?_
    refine (fun key => ⟨branch_true (draw_weak (weak_keep (tm' := slots 162 [(0, .ptr ⟨0, 0, 0⟩), (4, .bool false), (10, .bool true)]) (H' := [.cells (desk0 { p with asked := false })]) (keep 162 [0, 4, 10]) [0] rfl rfl rfl) key), branch_true (draw_weak (weak_keep (tm' := slots 162 [(0, .ptr ⟨0, 0, 0⟩), (4, .bool false), (10, .bool true)]) (H' := [.cells (desk0 { p with asked := false })]) (keep 162 [0, 4, 10]) [0] rfl rfl rfl) key)⟩) ?_
    refine draw_last 11 (List.range 11) (by decide +kernel) ?_
    refine callT_part [0] rfl ex ?_
    rintro v H' ⟨rfl, rfl⟩ x G hx hG
    obtain rfl : x = .tuple [] := hx
    obtain rfl : G = [.cells (desk0 (execV { p with asked := false } p.vb p.nn).1)] := hG
    repeat refine stp ?_
    exact ⟨rfl, Eqv.same _, EqvH.refl _⟩
end Go.Proofs
