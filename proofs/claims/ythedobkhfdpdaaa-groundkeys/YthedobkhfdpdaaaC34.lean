/- Chapter 30: the keys' effects. -/
import Derived.Test.YthedobkhfdpdaaaC33
set_option linter.unusedVariables false
set_option linter.unusedSimpArgs false
namespace Go.Proofs
open Go.E
set_option maxRecDepth 8000
theorem callN_endS {P : Program} (sel : List Nat) {f : FuncId} {args : List AVal} {H : Heap} {v0 : AVal} {S : Heap → Prop}
    (h : callN P f args H fun v H' => ∃ H0, S H0 ∧ selOK H.length H'.length sel = true ∧ Eqv (renS sel v) v0 ∧ EqvH (selH sel H') H0) : callN P f args H fun v H' => v = v0 ∧ S H' := by
  rw [callN_iff] at h ⊢
  refine ⟨h.1, ?_⟩
  rintro c us rfl hg hh ha
  refine (h.2 c us rfl hg hh ha).mono ?_
  rintro e w' ⟨u, v, c', rfl, rfl, ⟨H0, hS, hs, he, hH⟩, hf, hh', hv⟩
  simp only [selOK, Bool.and_eq_true, List.all_eq_true, decide_eq_true_eq, List.mem_range, beq_iff_eq] at hs
  obtain ⟨⟨h1, h2⟩, h3⟩ := hs
  have h1 : ∀ b ∈ sel, b < c'.H.length := fun b hb => by have := h1 b hb; simpa using this
  have hsel := sel_heap h1 h2 hh'
  exact ⟨u, v0, (c'.sel sel).as H0, rfl, rfl, ⟨rfl, hS⟩, as_fr hH (sel_fr h1 h2 h3 hf), as_heap hH hsel, as_rel hH hsel (eqv_rel he (renS_rel h1 hv))⟩
abbrev effL : List AVal := [.int .u8 1, .int .u8 10, .fn (.func 48) [.ptr ⟨0, 0, 0⟩] [], .int .u8 11, .int .u8 12, .fn (.func 49) [.ptr ⟨0, 0, 0⟩] [], .int .u8 13, .int .u8 14, .fn (.func 50) [.ptr ⟨0, 0, 0⟩] [], .int .u8 15, .int .u8 15, .fn (.func 51) [.ptr ⟨0, 0, 0⟩] [], .int .u8 16, .int .u8 16, .fn (.func 52) [.ptr ⟨0, 0, 0⟩] [], .int .u8 17, .int .u8 17, .fn (.func 53) [.ptr ⟨0, 0, 0⟩] [], .int .u8 18, .int .u8 18, .fn (.func 54) [.ptr ⟨0, 0, 0⟩] [], .int .u8 19, .int .u8 19, .fn (.func 55) [.ptr ⟨0, 0, 0⟩] []]
theorem effects_c (L : List AVal) : callN Try.prog 42 [.ptr ⟨0, 0, 0⟩] [.cells L] fun v H' => v = .slice ⟨1, 0, 0⟩ 8 ∧ H' = [.cells L, .cells effL] := by
  refine callN_def env (fn := Try.f42) 1 rfl rfl (by decide) ?_
  repeat refine stp ?_
  exact ⟨rfl, rfl⟩
set_option maxHeartbeats 8000000 in
theorem press_0 (p : Pan) (k : Int) (hk : 1 ≤ k ∧ k ≤ 10) (m : Option (Pan × Req)) (h : callN Try.prog 48 [.ptr ⟨0, 0, 0⟩, .int .u8 k] [.cells (desk0 p)] (KeyOut m)) : callN Try.prog 29 [.ptr ⟨0, 0, 0⟩, .int .u8 k] [.cells (desk0 p)] (KeyOut m) := by
  have ef := effects_c (desk0 p)
  cases m with
  | none =>
    refine callN_mono (callN_endS (v0 := .bool false) (S := fun H => ∃ q, H = [.cells (desk0 q)]) [0] ?_) fun v H' h => h
    refine callN_def env (fn := Try.f29) 1 rfl rfl (by decide) ?_
    refine callT_part [0] rfl ef ?_
    rintro v H' ⟨rfl, rfl⟩ x G hx hG
    obtain rfl : x = .slice ⟨1, 0, 0⟩ 8 := hx
    obtain rfl : G = [.cells (desk0 p), .cells effL] := hG
    repeat' (first | refine stp ?_ | refine loop_unr 9 ?_)
    refine callT_part [0] rfl h ?_
    rintro v H' ⟨rfl, q, rfl⟩ x G rfl rfl
    repeat refine stp ?_
    exact ⟨_, ⟨q, rfl⟩, rfl, Eqv.same _, EqvH.refl _⟩
  | some z =>
    obtain ⟨q, r⟩ := z
    refine callN_mono (k := fun v H' => v = .bool true ∧ H' = [.cells (deskR q r)]) ?_ fun v H' h => h
    refine callN_end [0] ?_
    refine callN_def env (fn := Try.f29) 1 rfl rfl (by decide) ?_
    refine callT_part [0] rfl ef ?_
    rintro v H' ⟨rfl, rfl⟩ x G hx hG
    obtain rfl : x = .slice ⟨1, 0, 0⟩ 8 := hx
    obtain rfl : G = [.cells (desk0 p), .cells effL] := hG
    repeat' (first | refine stp ?_ | refine loop_unr 9 ?_)
    refine callT_part [0] rfl h ?_
    rintro v H' ⟨rfl, rfl⟩ x G rfl rfl
    repeat refine stp ?_
    exact ⟨rfl, Eqv.same _, EqvH.refl _⟩
set_option maxHeartbeats 8000000 in
theorem press_1 (p : Pan) (k : Int) (hk : 11 ≤ k ∧ k ≤ 12) (m : Option (Pan × Req)) (h : callN Try.prog 49 [.ptr ⟨0, 0, 0⟩, .int .u8 k] [.cells (desk0 p)] (KeyOut m)) : callN Try.prog 29 [.ptr ⟨0, 0, 0⟩, .int .u8 k] [.cells (desk0 p)] (KeyOut m) := by
  have ef := effects_c (desk0 p)
  cases m with
  | none =>
    refine callN_mono (callN_endS (v0 := .bool false) (S := fun H => ∃ q, H = [.cells (desk0 q)]) [0] ?_) fun v H' h => h
    refine callN_def env (fn := Try.f29) 1 rfl rfl (by decide) ?_
    refine callT_part [0] rfl ef ?_
    rintro v H' ⟨rfl, rfl⟩ x G hx hG
    obtain rfl : x = .slice ⟨1, 0, 0⟩ 8 := hx
    obtain rfl : G = [.cells (desk0 p), .cells effL] := hG
    repeat' (first | refine stp ?_ | refine loop_unr 9 ?_)
    refine callT_part [0] rfl h ?_
    rintro v H' ⟨rfl, q, rfl⟩ x G rfl rfl
    repeat refine stp ?_
    exact ⟨_, ⟨q, rfl⟩, rfl, Eqv.same _, EqvH.refl _⟩
  | some z =>
    obtain ⟨q, r⟩ := z
    refine callN_mono (k := fun v H' => v = .bool true ∧ H' = [.cells (deskR q r)]) ?_ fun v H' h => h
    refine callN_end [0] ?_
    refine callN_def env (fn := Try.f29) 1 rfl rfl (by decide) ?_
    refine callT_part [0] rfl ef ?_
    rintro v H' ⟨rfl, rfl⟩ x G hx hG
    obtain rfl : x = .slice ⟨1, 0, 0⟩ 8 := hx
    obtain rfl : G = [.cells (desk0 p), .cells effL] := hG
    repeat' (first | refine stp ?_ | refine loop_unr 9 ?_)
    refine callT_part [0] rfl h ?_
    rintro v H' ⟨rfl, rfl⟩ x G rfl rfl
    repeat refine stp ?_
    exact ⟨rfl, Eqv.same _, EqvH.refl _⟩
set_option maxHeartbeats 8000000 in
theorem press_2 (p : Pan) (k : Int) (hk : 13 ≤ k ∧ k ≤ 14) (m : Option (Pan × Req)) (h : callN Try.prog 50 [.ptr ⟨0, 0, 0⟩, .int .u8 k] [.cells (desk0 p)] (KeyOut m)) : callN Try.prog 29 [.ptr ⟨0, 0, 0⟩, .int .u8 k] [.cells (desk0 p)] (KeyOut m) := by
  have ef := effects_c (desk0 p)
  cases m with
  | none =>
    refine callN_mono (callN_endS (v0 := .bool false) (S := fun H => ∃ q, H = [.cells (desk0 q)]) [0] ?_) fun v H' h => h
    refine callN_def env (fn := Try.f29) 1 rfl rfl (by decide) ?_
    refine callT_part [0] rfl ef ?_
    rintro v H' ⟨rfl, rfl⟩ x G hx hG
    obtain rfl : x = .slice ⟨1, 0, 0⟩ 8 := hx
    obtain rfl : G = [.cells (desk0 p), .cells effL] := hG
    repeat' (first | refine stp ?_ | refine loop_unr 9 ?_)
    refine callT_part [0] rfl h ?_
    rintro v H' ⟨rfl, q, rfl⟩ x G rfl rfl
    repeat refine stp ?_
    exact ⟨_, ⟨q, rfl⟩, rfl, Eqv.same _, EqvH.refl _⟩
  | some z =>
    obtain ⟨q, r⟩ := z
    refine callN_mono (k := fun v H' => v = .bool true ∧ H' = [.cells (deskR q r)]) ?_ fun v H' h => h
    refine callN_end [0] ?_
    refine callN_def env (fn := Try.f29) 1 rfl rfl (by decide) ?_
    refine callT_part [0] rfl ef ?_
    rintro v H' ⟨rfl, rfl⟩ x G hx hG
    obtain rfl : x = .slice ⟨1, 0, 0⟩ 8 := hx
    obtain rfl : G = [.cells (desk0 p), .cells effL] := hG
    repeat' (first | refine stp ?_ | refine loop_unr 9 ?_)
    refine callT_part [0] rfl h ?_
    rintro v H' ⟨rfl, rfl⟩ x G rfl rfl
    repeat refine stp ?_
    exact ⟨rfl, Eqv.same _, EqvH.refl _⟩
set_option maxHeartbeats 8000000 in
theorem press_3 (p : Pan) (k : Int) (hk : 15 ≤ k ∧ k ≤ 15) (m : Option (Pan × Req)) (h : callN Try.prog 51 [.ptr ⟨0, 0, 0⟩, .int .u8 k] [.cells (desk0 p)] (KeyOut m)) : callN Try.prog 29 [.ptr ⟨0, 0, 0⟩, .int .u8 k] [.cells (desk0 p)] (KeyOut m) := by
  have ef := effects_c (desk0 p)
  cases m with
  | none =>
    refine callN_mono (callN_endS (v0 := .bool false) (S := fun H => ∃ q, H = [.cells (desk0 q)]) [0] ?_) fun v H' h => h
    refine callN_def env (fn := Try.f29) 1 rfl rfl (by decide) ?_
    refine callT_part [0] rfl ef ?_
    rintro v H' ⟨rfl, rfl⟩ x G hx hG
    obtain rfl : x = .slice ⟨1, 0, 0⟩ 8 := hx
    obtain rfl : G = [.cells (desk0 p), .cells effL] := hG
    repeat' (first | refine stp ?_ | refine loop_unr 9 ?_)
    refine callT_part [0] rfl h ?_
    rintro v H' ⟨rfl, q, rfl⟩ x G rfl rfl
    repeat refine stp ?_
    exact ⟨_, ⟨q, rfl⟩, rfl, Eqv.same _, EqvH.refl _⟩
  | some z =>
    obtain ⟨q, r⟩ := z
    refine callN_mono (k := fun v H' => v = .bool true ∧ H' = [.cells (deskR q r)]) ?_ fun v H' h => h
    refine callN_end [0] ?_
    refine callN_def env (fn := Try.f29) 1 rfl rfl (by decide) ?_
    refine callT_part [0] rfl ef ?_
    rintro v H' ⟨rfl, rfl⟩ x G hx hG
    obtain rfl : x = .slice ⟨1, 0, 0⟩ 8 := hx
    obtain rfl : G = [.cells (desk0 p), .cells effL] := hG
    repeat' (first | refine stp ?_ | refine loop_unr 9 ?_)
    refine callT_part [0] rfl h ?_
    rintro v H' ⟨rfl, rfl⟩ x G rfl rfl
    repeat refine stp ?_
    exact ⟨rfl, Eqv.same _, EqvH.refl _⟩
set_option maxHeartbeats 8000000 in
theorem press_4 (p : Pan) (k : Int) (hk : 16 ≤ k ∧ k ≤ 16) (m : Option (Pan × Req)) (h : callN Try.prog 52 [.ptr ⟨0, 0, 0⟩, .int .u8 k] [.cells (desk0 p)] (KeyOut m)) : callN Try.prog 29 [.ptr ⟨0, 0, 0⟩, .int .u8 k] [.cells (desk0 p)] (KeyOut m) := by
  have ef := effects_c (desk0 p)
  cases m with
  | none =>
    refine callN_mono (callN_endS (v0 := .bool false) (S := fun H => ∃ q, H = [.cells (desk0 q)]) [0] ?_) fun v H' h => h
    refine callN_def env (fn := Try.f29) 1 rfl rfl (by decide) ?_
    refine callT_part [0] rfl ef ?_
    rintro v H' ⟨rfl, rfl⟩ x G hx hG
    obtain rfl : x = .slice ⟨1, 0, 0⟩ 8 := hx
    obtain rfl : G = [.cells (desk0 p), .cells effL] := hG
    repeat' (first | refine stp ?_ | refine loop_unr 9 ?_)
    refine callT_part [0] rfl h ?_
    rintro v H' ⟨rfl, q, rfl⟩ x G rfl rfl
    repeat refine stp ?_
    exact ⟨_, ⟨q, rfl⟩, rfl, Eqv.same _, EqvH.refl _⟩
  | some z =>
    obtain ⟨q, r⟩ := z
    refine callN_mono (k := fun v H' => v = .bool true ∧ H' = [.cells (deskR q r)]) ?_ fun v H' h => h
    refine callN_end [0] ?_
    refine callN_def env (fn := Try.f29) 1 rfl rfl (by decide) ?_
    refine callT_part [0] rfl ef ?_
    rintro v H' ⟨rfl, rfl⟩ x G hx hG
    obtain rfl : x = .slice ⟨1, 0, 0⟩ 8 := hx
    obtain rfl : G = [.cells (desk0 p), .cells effL] := hG
    repeat' (first | refine stp ?_ | refine loop_unr 9 ?_)
    refine callT_part [0] rfl h ?_
    rintro v H' ⟨rfl, rfl⟩ x G rfl rfl
    repeat refine stp ?_
    exact ⟨rfl, Eqv.same _, EqvH.refl _⟩
set_option maxHeartbeats 8000000 in
theorem press_5 (p : Pan) (k : Int) (hk : 17 ≤ k ∧ k ≤ 17) (m : Option (Pan × Req)) (h : callN Try.prog 53 [.ptr ⟨0, 0, 0⟩, .int .u8 k] [.cells (desk0 p)] (KeyOut m)) : callN Try.prog 29 [.ptr ⟨0, 0, 0⟩, .int .u8 k] [.cells (desk0 p)] (KeyOut m) := by
  have ef := effects_c (desk0 p)
  cases m with
  | none =>
    refine callN_mono (callN_endS (v0 := .bool false) (S := fun H => ∃ q, H = [.cells (desk0 q)]) [0] ?_) fun v H' h => h
    refine callN_def env (fn := Try.f29) 1 rfl rfl (by decide) ?_
    refine callT_part [0] rfl ef ?_
    rintro v H' ⟨rfl, rfl⟩ x G hx hG
    obtain rfl : x = .slice ⟨1, 0, 0⟩ 8 := hx
    obtain rfl : G = [.cells (desk0 p), .cells effL] := hG
    repeat' (first | refine stp ?_ | refine loop_unr 9 ?_)
    refine callT_part [0] rfl h ?_
    rintro v H' ⟨rfl, q, rfl⟩ x G rfl rfl
    repeat refine stp ?_
    exact ⟨_, ⟨q, rfl⟩, rfl, Eqv.same _, EqvH.refl _⟩
  | some z =>
    obtain ⟨q, r⟩ := z
    refine callN_mono (k := fun v H' => v = .bool true ∧ H' = [.cells (deskR q r)]) ?_ fun v H' h => h
    refine callN_end [0] ?_
    refine callN_def env (fn := Try.f29) 1 rfl rfl (by decide) ?_
    refine callT_part [0] rfl ef ?_
    rintro v H' ⟨rfl, rfl⟩ x G hx hG
    obtain rfl : x = .slice ⟨1, 0, 0⟩ 8 := hx
    obtain rfl : G = [.cells (desk0 p), .cells effL] := hG
    repeat' (first | refine stp ?_ | refine loop_unr 9 ?_)
    refine callT_part [0] rfl h ?_
    rintro v H' ⟨rfl, rfl⟩ x G rfl rfl
    repeat refine stp ?_
    exact ⟨rfl, Eqv.same _, EqvH.refl _⟩
set_option maxHeartbeats 8000000 in
theorem press_6 (p : Pan) (k : Int) (hk : 18 ≤ k ∧ k ≤ 18) (m : Option (Pan × Req)) (h : callN Try.prog 54 [.ptr ⟨0, 0, 0⟩, .int .u8 k] [.cells (desk0 p)] (KeyOut m)) : callN Try.prog 29 [.ptr ⟨0, 0, 0⟩, .int .u8 k] [.cells (desk0 p)] (KeyOut m) := by
  have ef := effects_c (desk0 p)
  cases m with
  | none =>
    refine callN_mono (callN_endS (v0 := .bool false) (S := fun H => ∃ q, H = [.cells (desk0 q)]) [0] ?_) fun v H' h => h
    refine callN_def env (fn := Try.f29) 1 rfl rfl (by decide) ?_
    refine callT_part [0] rfl ef ?_
    rintro v H' ⟨rfl, rfl⟩ x G hx hG
    obtain rfl : x = .slice ⟨1, 0, 0⟩ 8 := hx
    obtain rfl : G = [.cells (desk0 p), .cells effL] := hG
    repeat' (first | refine stp ?_ | refine loop_unr 9 ?_)
    refine callT_part [0] rfl h ?_
    rintro v H' ⟨rfl, q, rfl⟩ x G rfl rfl
    repeat refine stp ?_
    exact ⟨_, ⟨q, rfl⟩, rfl, Eqv.same _, EqvH.refl _⟩
  | some z =>
    obtain ⟨q, r⟩ := z
    refine callN_mono (k := fun v H' => v = .bool true ∧ H' = [.cells (deskR q r)]) ?_ fun v H' h => h
    refine callN_end [0] ?_
    refine callN_def env (fn := Try.f29) 1 rfl rfl (by decide) ?_
    refine callT_part [0] rfl ef ?_
    rintro v H' ⟨rfl, rfl⟩ x G hx hG
    obtain rfl : x = .slice ⟨1, 0, 0⟩ 8 := hx
    obtain rfl : G = [.cells (desk0 p), .cells effL] := hG
    repeat' (first | refine stp ?_ | refine loop_unr 9 ?_)
    refine callT_part [0] rfl h ?_
    rintro v H' ⟨rfl, rfl⟩ x G rfl rfl
    repeat refine stp ?_
    exact ⟨rfl, Eqv.same _, EqvH.refl _⟩
set_option maxHeartbeats 8000000 in
theorem press_7 (p : Pan) (k : Int) (hk : 19 ≤ k ∧ k ≤ 19) (m : Option (Pan × Req)) (h : callN Try.prog 55 [.ptr ⟨0, 0, 0⟩, .int .u8 k] [.cells (desk0 p)] (KeyOut m)) : callN Try.prog 29 [.ptr ⟨0, 0, 0⟩, .int .u8 k] [.cells (desk0 p)] (KeyOut m) := by
  have ef := effects_c (desk0 p)
  cases m with
  | none =>
    refine callN_mono (callN_endS (v0 := .bool false) (S := fun H => ∃ q, H = [.cells (desk0 q)]) [0] ?_) fun v H' h => h
    refine callN_def env (fn := Try.f29) 1 rfl rfl (by decide) ?_
    refine callT_part [0] rfl ef ?_
    rintro v H' ⟨rfl, rfl⟩ x G hx hG
    obtain rfl : x = .slice ⟨1, 0, 0⟩ 8 := hx
    obtain rfl : G = [.cells (desk0 p), .cells effL] := hG
    repeat' (first | refine stp ?_ | refine loop_unr 9 ?_)
    refine callT_part [0] rfl h ?_
    rintro v H' ⟨rfl, q, rfl⟩ x G rfl rfl
    repeat refine stp ?_
    exact ⟨_, ⟨q, rfl⟩, rfl, Eqv.same _, EqvH.refl _⟩
  | some z =>
    obtain ⟨q, r⟩ := z
    refine callN_mono (k := fun v H' => v = .bool true ∧ H' = [.cells (deskR q r)]) ?_ fun v H' h => h
    refine callN_end [0] ?_
    refine callN_def env (fn := Try.f29) 1 rfl rfl (by decide) ?_
    refine callT_part [0] rfl ef ?_
    rintro v H' ⟨rfl, rfl⟩ x G hx hG
    obtain rfl : x = .slice ⟨1, 0, 0⟩ 8 := hx
    obtain rfl : G = [.cells (desk0 p), .cells effL] := hG
    repeat' (first | refine stp ?_ | refine loop_unr 9 ?_)
    refine callT_part [0] rfl h ?_
    rintro v H' ⟨rfl, rfl⟩ x G rfl rfl
    repeat refine stp ?_
    exact ⟨rfl, Eqv.same _, EqvH.refl _⟩
end Go.Proofs
