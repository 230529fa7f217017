/- Chapter 30: the panel in hand: small methods. -/
import Derived.Test.YthedobkhfdpdaaaC12
import Derived.Test.YthedobkhfdpdaaaE5
set_option linter.unusedVariables false
set_option linter.unusedSimpArgs false
namespace Go.Proofs
open Go.E
set_option maxRecDepth 8000
abbrev deskL (p : Pan) (k n : Int) (x : AVal) : List AVal := [p.N.A, .int .u8 p.st, .int .i64 p.vb, .int .i64 p.nn, .int .u8 p.ty.s, .int .u8 p.ty.a, .int .u8 p.ty.b, .int .u8 p.ty.c, .int .u8 p.ty.d, .int .u8 p.ty.e, .int .i64 p.cnt, .int .i64 p.cmp, .int .u8 p.l0.s, .int .u8 p.l0.a, .int .u8 p.l0.b, .int .u8 p.l0.c, .int .u8 p.l0.d, .int .u8 p.l0.e, .int .u8 p.l1.s, .int .u8 p.l1.a, .int .u8 p.l1.b, .int .u8 p.l1.c, .int .u8 p.l1.d, .int .u8 p.l1.e, .int .u8 p.l2.s, .int .u8 p.l2.a, .int .u8 p.l2.b, .int .u8 p.l2.c, .int .u8 p.l2.d, .int .u8 p.l2.e, .int .u8 p.act.k, .bool p.act.o, .bool p.act.c0, .bool p.act.c1, .bool p.act.c2, .int .i64 p.an, .int .i64 p.av, .int .i64 p.aq, .bool p.asked, .int .u8 p.D.p0, .int .u8 p.D.p1, .int .u8 p.D.v0, .int .u8 p.D.v1, .int .u8 p.D.n0, .int .u8 p.D.n1, .int .u8 p.D.r0.s, .int .u8 p.D.r0.a, .int .u8 p.D.r0.b, .int .u8 p.D.r0.c, .int .u8 p.D.r0.d, .int .u8 p.D.r0.e, .int .u8 p.D.r1.s, .int .u8 p.D.r1.a, .int .u8 p.D.r1.b, .int .u8 p.D.r1.c, .int .u8 p.D.r1.d, .int .u8 p.D.r1.e, .int .u8 p.D.r2.s, .int .u8 p.D.r2.a, .int .u8 p.D.r2.b, .int .u8 p.D.r2.c, .int .u8 p.D.r2.d, .int .u8 p.D.r2.e, .int .u16 p.D.li, .int .u16 p.D.st, .int .u8 k, .int .i64 n, x]
abbrev desk0 (p : Pan) : List AVal := deskL p 0 0 .nilslice
theorem end_c (p : Pan) : callN Try.prog 65 [.ptr ⟨0, 0, 0⟩] [.cells (desk0 p)] fun v H' => v = .tuple [] ∧ H' = [.cells (desk0 (endV p))] := by
  refine callN_end [0] ?_
  refine callN_def env (fn := Try.f65) 1 rfl rfl (by decide) ?_
  repeat refine stp ?_
  exact ⟨rfl, Eqv.same _, EqvH.refl _⟩
theorem number_v (p : Pan) (h : p.st = 1) : callN Try.prog 62 [.ptr ⟨0, 0, 0⟩] [.cells (desk0 p)] fun v H' => v = .tuple [.ptr ⟨0, 0, 2⟩, .ptr ⟨0, 0, 41⟩] ∧ H' = [.cells (desk0 p)] := by
  refine callN_def env (fn := Try.f62) 1 rfl rfl (by decide) ?_
  repeat refine stp ?_
  refine draw_tree (picks (List.range 11) .done) (by decide +kernel) ?_
  exact ⟨rfl, rfl⟩
theorem number_n (p : Pan) (h : p.st ≠ 1) : callN Try.prog 62 [.ptr ⟨0, 0, 0⟩] [.cells (desk0 p)] fun v H' => v = .tuple [.ptr ⟨0, 0, 3⟩, .ptr ⟨0, 0, 43⟩] ∧ H' = [.cells (desk0 p)] := by
  refine callN_def env (fn := Try.f62) 1 rfl rfl (by decide) ?_
  repeat refine stp ?_
  refine draw_tree (picks (List.range 11) .done) (by decide +kernel) ?_
  exact ⟨rfl, rfl⟩
theorem answer_no (p : Pan) (k : Int) (h : p.av = 0) : callN Try.prog 68 [.ptr ⟨0, 0, 0⟩, .int .u8 k] [.cells (desk0 p)] fun v H' => v = .bool false ∧ H' = [.cells (desk0 p)] := by
  refine callN_end [0] ?_
  refine callN_def env (fn := Try.f68) 1 rfl rfl (by decide) ?_
  repeat refine stp ?_
  exact ⟨rfl, Eqv.same _, EqvH.refl _⟩
theorem answer_c (p : Pan) (k : Int) (h : p.av ≠ 0) : callN Try.prog 68 [.ptr ⟨0, 0, 0⟩, .int .u8 k] [.cells (desk0 p)] fun v H' => v = .bool true ∧ H' = [.cells (deskL (answV p k).1 k 0 .nilslice)] := by
  refine callN_end [0] ?_
  refine callN_def env (fn := Try.f68) 1 rfl rfl (by decide) ?_
  repeat refine stp ?_
  refine callT_part [0] rfl (end_c { p with av := 0, aq := 0, asked := false }) ?_
  rintro v H' ⟨rfl, rfl⟩ x G hx hG
  obtain rfl : x = .tuple [] := hx
  obtain rfl : G = [.cells (desk0 (endV { p with av := 0, aq := 0, asked := false }))] := hG
  repeat refine stp ?_
  exact ⟨rfl, Eqv.same _, EqvH.refl _⟩
theorem proceed_no (p : Pan) (h : ¬(p.asked = true ∧ p.av ≠ 0)) (k : Int) : callN Try.prog 55 [.ptr ⟨0, 0, 0⟩, .int .u8 k] [.cells (desk0 p)] fun v H' => v = .bool false ∧ H' = [.cells (desk0 p)] := by
  refine callN_end [0] ?_
  refine callN_def env (fn := Try.f55) 1 rfl rfl (by decide) ?_
  by_cases ha : p.asked = true
  · repeat refine stp ?_
    refine callT_part [0] rfl (answer_no p 4 (by by_cases h0 : p.av = 0; exact h0; exact absurd ⟨ha, h0⟩ h)) ?_
    rintro v H' ⟨rfl, rfl⟩ x G hx hG
    obtain rfl : x = .bool false := hx
    obtain rfl : G = [.cells (desk0 p)] := hG
    repeat refine stp ?_
    exact ⟨rfl, Eqv.same _, EqvH.refl _⟩
  · have ha : p.asked = false := by simpa using ha
    repeat refine stp ?_
    exact ⟨rfl, Eqv.same _, EqvH.refl _⟩
theorem proceed_c (p : Pan) (h1 : p.asked = true) (h2 : p.av ≠ 0) (k : Int) : callN Try.prog 55 [.ptr ⟨0, 0, 0⟩, .int .u8 k] [.cells (desk0 p)] fun v H' => v = .bool true ∧ H' = [.cells (deskL (answV p 4).1 4 0 .nilslice)] := by
  refine callN_end [0] ?_
  refine callN_def env (fn := Try.f55) 1 rfl rfl (by decide) ?_
  repeat refine stp ?_
  refine callT_part [0] rfl (answer_c p 4 h2) ?_
  rintro v H' ⟨rfl, rfl⟩ x G hx hG
  obtain rfl : x = .bool true := hx
  obtain rfl : G = [.cells (deskL (answV p 4).1 4 0 .nilslice)] := hG
  repeat refine stp ?_
  exact ⟨rfl, Eqv.same _, EqvH.refl _⟩
theorem andNot98 : ∀ n : Nat, n < 2048 → IntKind.u16.wrap ((BitVec.ofInt IntKind.u16.bits (n : Int) &&& ~~~ BitVec.ofInt IntKind.u16.bits 98).toNat : Int) = ((n - 2 * (n / 2 % 2) - 32 * (n / 32 % 2) - 64 * (n / 64 % 2) : Nat) : Int) := by decide +kernel
theorem andNot98i {x : Int} (h : 0 ≤ x ∧ x < 2048) : IntKind.u16.wrap ((BitVec.ofInt IntKind.u16.bits x &&& ~~~ BitVec.ofInt IntKind.u16.bits 98).toNat : Int) = resetV x := by
  obtain ⟨n, rfl⟩ : ∃ n : Nat, x = n := ⟨x.toNat, by omega⟩
  rw [andNot98 n (by omega), resetV]
  omega
theorem reset_c (p : Pan) (h : 0 ≤ p.D.st ∧ p.D.st < 2048) (k : Int) : callN Try.prog 54 [.ptr ⟨0, 0, 0⟩, .int .u8 k] [.cells (desk0 p)] fun v H' => v = .bool true ∧ H' = [.cells (desk0 { p with D := { p.D with st := resetV p.D.st, li := 0 } })] := by
  rw [← andNot98i h]
  refine callN_end [0] ?_
  refine callN_def env (fn := Try.f54) 1 rfl rfl (by decide) ?_
  repeat refine stp ?_
  exact ⟨rfl, Eqv.same _, EqvH.refl _⟩
end Go.Proofs
namespace Go.Proofs
open Go.E
set_option maxRecDepth 8000
theorem open_v (p : Pan) : callN Try.prog 63 [.ptr ⟨0, 0, 0⟩, .int .u8 1] [.cells (desk0 p)] fun v H' => v = .tuple [] ∧ H' = [.cells (desk0 (beginV p 1))] := by
  refine callN_end [0] ?_
  refine callN_def env (fn := Try.f63) 1 rfl rfl (by decide) ?_
  repeat refine stp ?_
  refine callT_part [0] rfl (end_c p) ?_
  rintro v H' ⟨rfl, rfl⟩ x G hx hG
  obtain rfl : x = .tuple [] := hx
  obtain rfl : G = [.cells (desk0 (endV p))] := hG
  repeat refine stp ?_
  refine callT_part [0] rfl (number_v { endV p with st := 1, asked := false } rfl) ?_
  rintro v H' ⟨rfl, rfl⟩ x G hx hG
  obtain rfl : x = .tuple [.ptr ⟨0, 0, 2⟩, .ptr ⟨0, 0, 41⟩] := hx
  obtain rfl : G = [.cells (desk0 { endV p with st := 1, asked := false })] := hG
  repeat refine stp ?_
  refine callT_E gap_c rfl ?_
  repeat refine stp ?_
  exact ⟨rfl, Eqv.same _, EqvH.refl _⟩
theorem open_n (p : Pan) (s : Int) (hs : s ≠ 1) : callN Try.prog 63 [.ptr ⟨0, 0, 0⟩, .int .u8 s] [.cells (desk0 p)] fun v H' => v = .tuple [] ∧ H' = [.cells (desk0 (beginV p s))] := by
  rw [beginV, if_neg hs]
  refine callN_end [0] ?_
  refine callN_def env (fn := Try.f63) 1 rfl rfl (by decide) ?_
  repeat refine stp ?_
  refine callT_part [0] rfl (end_c p) ?_
  rintro v H' ⟨rfl, rfl⟩ x G hx hG
  obtain rfl : x = .tuple [] := hx
  obtain rfl : G = [.cells (desk0 (endV p))] := hG
  repeat refine stp ?_
  refine callT_part [0] rfl (number_n { endV p with st := s, asked := false } hs) ?_
  rintro v H' ⟨rfl, rfl⟩ x G hx hG
  obtain rfl : x = .tuple [.ptr ⟨0, 0, 3⟩, .ptr ⟨0, 0, 43⟩] := hx
  obtain rfl : G = [.cells (desk0 { endV p with st := s, asked := false })] := hG
  repeat refine stp ?_
  refine callT_E gap_c rfl ?_
  repeat refine stp ?_
  exact ⟨rfl, Eqv.same _, EqvH.refl _⟩
theorem begin_no (p : Pan) (k : Int) (h : p.cnt = 1 ∧ (p.st = 1 ∨ p.st = 2)) : callN Try.prog 50 [.ptr ⟨0, 0, 0⟩, .int .u8 k] [.cells (desk0 p)] fun v H' => v = .bool false ∧ H' = [.cells (desk0 p)] := by
  refine callN_end [0] ?_
  refine callN_def env (fn := Try.f50) 1 rfl rfl (by decide) ?_
  obtain ⟨h1, h2 | h2⟩ := h
  · repeat refine stp ?_
    exact ⟨rfl, Eqv.same _, EqvH.refl _⟩
  · repeat refine stp ?_
    exact ⟨rfl, Eqv.same _, EqvH.refl _⟩
theorem begin_c (p : Pan) (k : Int) (hk : k = 13 ∨ k = 14) (h : ¬(p.cnt = 1 ∧ (p.st = 1 ∨ p.st = 2))) : callN Try.prog 50 [.ptr ⟨0, 0, 0⟩, .int .u8 k] [.cells (desk0 p)] fun v H' => v = .bool true ∧ H' = [.cells (desk0 (beginV p (k - 12)))] := by
  refine callN_end [0] ?_
  refine callN_def env (fn := Try.f50) 1 rfl rfl (by decide) ?_
  rcases hk with rfl | rfl
  · by_cases h1 : p.cnt = 1
    · have h2 : p.st ≠ 1 := fun e => h ⟨h1, .inl e⟩
      have h3 : p.st ≠ 2 := fun e => h ⟨h1, .inr e⟩
      repeat refine stp ?_
      refine callT_part [0] rfl (open_v p) ?_
      rintro v H' ⟨rfl, rfl⟩ x G hx hG
      obtain rfl : x = .tuple [] := hx
      obtain rfl : G = [.cells (desk0 (beginV p 1))] := hG
      repeat refine stp ?_
      exact ⟨rfl, Eqv.same _, EqvH.refl _⟩
    · repeat refine stp ?_
      refine callT_part [0] rfl (open_v p) ?_
      rintro v H' ⟨rfl, rfl⟩ x G hx hG
      obtain rfl : x = .tuple [] := hx
      obtain rfl : G = [.cells (desk0 (beginV p 1))] := hG
      repeat refine stp ?_
      exact ⟨rfl, Eqv.same _, EqvH.refl _⟩
  · by_cases h1 : p.cnt = 1
    · have h2 : p.st ≠ 1 := fun e => h ⟨h1, .inl e⟩
      have h3 : p.st ≠ 2 := fun e => h ⟨h1, .inr e⟩
      repeat refine stp ?_
      refine callT_part [0] rfl (open_n p 2 (by decide)) ?_
      rintro v H' ⟨rfl, rfl⟩ x G hx hG
      obtain rfl : x = .tuple [] := hx
      obtain rfl : G = [.cells (desk0 (beginV p 2))] := hG
      repeat refine stp ?_
      exact ⟨rfl, Eqv.same _, EqvH.refl _⟩
    · repeat refine stp ?_
      refine callT_part [0] rfl (open_n p 2 (by decide)) ?_
      rintro v H' ⟨rfl, rfl⟩ x G hx hG
      obtain rfl : x = .tuple [] := hx
      obtain rfl : G = [.cells (desk0 (beginV p 2))] := hG
      repeat refine stp ?_
      exact ⟨rfl, Eqv.same _, EqvH.refl _⟩
theorem vrb_all (Q : Vrb → Prop) (h : ∀ v : Int, v ∈ ([1, 2, 3, 4, 5, 6, 11, 12, 13, 14, 15, 16, 21, 22, 23, 24, 25, 32, 33, 34, 35, 37] : List Int) → Q (vrb v)) (hz : Q .z) (n : Int) : Q (vrb n) := by
  by_cases hn : n ∈ ([1, 2, 3, 4, 5, 6, 11, 12, 13, 14, 15, 16, 21, 22, 23, 24, 25, 32, 33, 34, 35, 37] : List Int)
  · exact h n hn
  · rw [show vrb n = .z by
      simp only [List.mem_cons, not_or] at hn
      simp [vrb, hn]]
    exact hz
theorem vrb_load (n : Int) : (vrb n).k = 3 → (vrb n).c0 = true ∨ (vrb n).c1 = true ∨ (vrb n).c2 = true :=
  vrb_all (fun w => w.k = 3 → w.c0 = true ∨ w.c1 = true ∨ w.c2 = true) (by decide) (by decide) n
theorem exec_show (p : Pan) (v n : Int) (h : (vrb v).k ≠ 3) : callN Try.prog 67 [.ptr ⟨0, 0, 0⟩, .int .i64 v, .int .i64 n] [.cells (desk0 p)] fun x H' => x = .tuple [] ∧ H' = [.cells (deskL (execV p v n).1 1 0 .nilslice)] := by
  rw [execV, if_neg h]
  refine callN_end [0] ?_
  refine callN_def env (fn := Try.f67) 1 rfl rfl (by decide) ?_
  refine callT_E (va2 v) rfl ?_
  generalize vrb v = w at *
  repeat refine stp ?_
  refine callT_part [0] rfl (end_c p) ?_
  rintro v H' ⟨rfl, rfl⟩ x G hx hG
  obtain rfl : x = .tuple [] := hx
  obtain rfl : G = [.cells (desk0 (endV p)), .cells w.L] := hG
  repeat refine stp ?_
  refine callT_E clear_d rfl ?_
  repeat refine stp ?_
  exact ⟨rfl, Eqv.same _, EqvH.refl _⟩
set_option maxHeartbeats 8000000 in
theorem exec_load (p : Pan) (v n : Int) (h : (vrb v).k = 3) : callN Try.prog 67 [.ptr ⟨0, 0, 0⟩, .int .i64 v, .int .i64 n] [.cells (desk0 p)] fun x H' => x = .tuple [] ∧ H' = [.cells (desk0 (execV p v n).1)] := by
  rw [execV, if_pos h]
  have hl := vrb_load v h
  refine callN_end [0] ?_
  refine callN_def env (fn := Try.f67) 1 rfl rfl (by decide) ?_
  refine callT_E (va2 v) rfl ?_
  generalize vrb v = w at *
  obtain ⟨k, o, c0, c1, c2⟩ := w
  dsimp only at h hl
  subst h
  repeat refine stp ?_
  refine callT_part [0] rfl (end_c p) ?_
  rintro v H' ⟨rfl, rfl⟩ x G hx hG
  obtain rfl : x = .tuple [] := hx
  obtain rfl : G = [.cells (desk0 (endV p)), .cells (Vrb.L ⟨3, o, c0, c1, c2⟩)] := hG
  cases c0 <;> cases c1 <;> cases c2
  · simp at hl
  all_goals
    repeat' (first | refine stp ?_ | refine loop_unr 4 ?_ | refine draw_tree (picks (List.range 9) .done) (by decide +kernel) ?_ | refine ⟨_, ⟨empty_c, rfl⟩, ?_⟩ | refine callT_E empty_c rfl ?_)
    exact ⟨rfl, Eqv.same _, EqvH.refl _⟩
theorem ask_eq (p : Pan) : askV p = execV { p with vb := p.av, nn := p.aq, asked := true, D := { p.D with v0 := p.av / 10, v1 := p.av % 10, n0 := p.aq / 10, n1 := p.aq % 10 } } p.av p.aq := rfl
theorem show_s (p : Pan) (h1 : 0 ≤ p.av ∧ p.av ≤ 99) (h2 : 0 ≤ p.aq ∧ p.aq ≤ 99) (h : (vrb p.av).k ≠ 3) : callN Try.prog 70 [.ptr ⟨0, 0, 0⟩] [.cells (desk0 p)] fun x H' => x = .tuple [] ∧ H' = [.cells (deskL (askV p).1 1 0 .nilslice)] := by
  rw [ask_eq]
  refine callN_end [0] ?_
  refine callN_def env (fn := Try.f70) 1 rfl rfl (by decide) ?_
  refine draw_tree (picks (List.range 25) .done) (by decide +kernel) ?_
  repeat refine stp ?_
  refine draw_tree (picks (List.range 24) .done) (by decide +kernel) ?_
  refine ⟨_, ⟨two_c h1, rfl⟩, ?_⟩
  repeat refine stp ?_
  refine ⟨_, ⟨two_c h2, rfl⟩, ?_⟩
  repeat refine stp ?_
  refine draw_last 11 (List.range 11) (by decide +kernel) ?_
  refine callT_part [0] rfl (exec_show { p with vb := p.av, nn := p.aq, asked := true, D := { p.D with v0 := p.av / 10, v1 := p.av % 10, n0 := p.aq / 10, n1 := p.aq % 10 } } p.av p.aq h) ?_
  rintro v H' ⟨rfl, rfl⟩ x G hx hG
  obtain rfl : x = .tuple [] := hx
  obtain rfl : G = [.cells (deskL (execV { p with vb := p.av, nn := p.aq, asked := true, D := { p.D with v0 := p.av / 10, v1 := p.av % 10, n0 := p.aq / 10, n1 := p.aq % 10 } } p.av p.aq).1 1 0 .nilslice)] := hG
  repeat refine stp ?_
  exact ⟨rfl, Eqv.same _, EqvH.refl _⟩
theorem show_l (p : Pan) (h1 : 0 ≤ p.av ∧ p.av ≤ 99) (h2 : 0 ≤ p.aq ∧ p.aq ≤ 99) (h : (vrb p.av).k = 3) : callN Try.prog 70 [.ptr ⟨0, 0, 0⟩] [.cells (desk0 p)] fun x H' => x = .tuple [] ∧ H' = [.cells (desk0 (askV p).1)] := by
  rw [ask_eq]
  refine callN_end [0] ?_
  refine callN_def env (fn := Try.f70) 1 rfl rfl (by decide) ?_
  refine draw_tree (picks (List.range 25) .done) (by decide +kernel) ?_
  repeat refine stp ?_
  refine draw_tree (picks (List.range 24) .done) (by decide +kernel) ?_
  refine ⟨_, ⟨two_c h1, rfl⟩, ?_⟩
  repeat refine stp ?_
  refine ⟨_, ⟨two_c h2, rfl⟩, ?_⟩
  repeat refine stp ?_
  refine draw_last 11 (List.range 11) (by decide +kernel) ?_
  refine callT_part [0] rfl (exec_load { p with vb := p.av, nn := p.aq, asked := true, D := { p.D with v0 := p.av / 10, v1 := p.av % 10, n0 := p.aq / 10, n1 := p.aq % 10 } } p.av p.aq h) ?_
  rintro v H' ⟨rfl, rfl⟩ x G hx hG
  obtain rfl : x = .tuple [] := hx
  obtain rfl : G = [.cells (desk0 (execV { p with vb := p.av, nn := p.aq, asked := true, D := { p.D with v0 := p.av / 10, v1 := p.av % 10, n0 := p.aq / 10, n1 := p.aq % 10 } } p.av p.aq).1)] := hG
  repeat refine stp ?_
  exact ⟨rfl, Eqv.same _, EqvH.refl _⟩
theorem release_no (p : Pan) (h : p.av = 0 ∨ p.asked = true) (k : Int) : callN Try.prog 53 [.ptr ⟨0, 0, 0⟩, .int .u8 k] [.cells (desk0 p)] fun v H' => v = .bool false ∧ H' = [.cells (desk0 p)] := by
  refine callN_end [0] ?_
  refine callN_def env (fn := Try.f53) 1 rfl rfl (by decide) ?_
  by_cases h0 : p.av = 0
  · repeat refine stp ?_
    exact ⟨rfl, Eqv.same _, EqvH.refl _⟩
  · have ha : p.asked = true := by rcases h with h | h; exact absurd h h0; exact h
    repeat refine stp ?_
    exact ⟨rfl, Eqv.same _, EqvH.refl _⟩
theorem release_s (p : Pan) (h1 : 0 ≤ p.av ∧ p.av ≤ 99) (h2 : 0 ≤ p.aq ∧ p.aq ≤ 99) (h : (vrb p.av).k ≠ 3) (h0 : p.av ≠ 0) (ha : p.asked = false) (k : Int) : callN Try.prog 53 [.ptr ⟨0, 0, 0⟩, .int .u8 k] [.cells (desk0 p)] fun x H' => x = .bool true ∧ H' = [.cells (deskL (askV p).1 1 0 .nilslice)] := by
  refine callN_end [0] ?_
  refine callN_def env (fn := Try.f53) 1 rfl rfl (by decide) ?_
  repeat refine stp ?_
  refine callT_part [0] rfl (show_s p h1 h2 h) ?_
  rintro v H' ⟨rfl, rfl⟩ x G hx hG
  obtain rfl : x = .tuple [] := hx
  obtain rfl : G = [.cells (deskL (askV p).1 1 0 .nilslice)] := hG
  repeat refine stp ?_
  exact ⟨rfl, Eqv.same _, EqvH.refl _⟩
theorem release_l (p : Pan) (h1 : 0 ≤ p.av ∧ p.av ≤ 99) (h2 : 0 ≤ p.aq ∧ p.aq ≤ 99) (h : (vrb p.av).k = 3) (h0 : p.av ≠ 0) (ha : p.asked = false) (k : Int) : callN Try.prog 53 [.ptr ⟨0, 0, 0⟩, .int .u8 k] [.cells (desk0 p)] fun x H' => x = .bool true ∧ H' = [.cells (desk0 (askV p).1)] := by
  refine callN_end [0] ?_
  refine callN_def env (fn := Try.f53) 1 rfl rfl (by decide) ?_
  repeat refine stp ?_
  refine callT_part [0] rfl (show_l p h1 h2 h) ?_
  rintro v H' ⟨rfl, rfl⟩ x G hx hG
  obtain rfl : x = .tuple [] := hx
  obtain rfl : G = [.cells (desk0 (askV p).1)] := hG
  repeat refine stp ?_
  exact ⟨rfl, Eqv.same _, EqvH.refl _⟩
end Go.Proofs
