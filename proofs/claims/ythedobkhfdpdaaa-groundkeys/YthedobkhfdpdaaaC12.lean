/- Chapter 30: small functions of the panel. -/
import Derived.Test.YthedobkhfdpdaaaC11
import Derived.Test.YthedobkhfdpdaaaE5
import Derived.Test.YthedobkhfdpdaaaC10
set_option linter.unusedVariables false
set_option linter.unusedSimpArgs false
namespace Go.Proofs
open Go.E
set_option maxRecDepth 8000
structure Nns.OkP (N : Nns) : Prop extends N.Ok where
  few : N.n ≤ 1000
theorem va2 (n : Int) : callP Try.prog 47 [.int .i64 n] (· = .tuple [(vrb n).A, .bool (decide ((vrb n).k ≠ 0))]) := by
  have h := vaV n
  rw [verbV_vrb] at h
  exact h
abbrev nounA (N : Nns) (x : Int) (i : Nat) : AVal := .agg [.int .i64 x, .ro 4 (N.m i) (fun j => cmpL (N.cm i j))]
abbrev nounZ : AVal := .agg [.int .i64 0, .nilslice]
theorem find_some {N : Nns} (hN : N.Ok) {x : Int} {i : Nat} (h : N.find x = some i) : callP Try.prog 31 [N.A, .int .i64 x] (· = .tuple [nounA N x i, .int .i64 0]) := by
  have e := find_c N.n N.num N.m (fun i j => cmpL (N.cm i j)) x hN.n hN.m
  rw [show findV N.n N.num N.m (fun i j => cmpL (N.cm i j)) x = .tuple [nounA N x i, .int .i64 0] by
    unfold findV
    rw [show (List.range N.n).find? (fun i => N.num i == x) = some i from h]] at e
  exact e
theorem find_none {N : Nns} (hN : N.Ok) {x : Int} (h : N.find x = none) : callP Try.prog 31 [N.A, .int .i64 x] (· = .tuple [nounZ, .int .i64 7]) := by
  have e := find_c N.n N.num N.m (fun i j => cmpL (N.cm i j)) x hN.n hN.m
  rw [show findV N.n N.num N.m (fun i j => cmpL (N.cm i j)) x = .tuple [nounZ, .int .i64 7] by
    unfold findV
    rw [show (List.range N.n).find? (fun i => N.num i == x) = none from h]] at e
  exact e
theorem find_lt {N : Nns} {x : Int} {i : Nat} (h : N.find x = some i) : i < N.n ∧ N.num i = x := by
  have h1 := List.mem_range.1 (List.mem_of_find?_eq_some h)
  have h2 := List.find?_some h
  exact ⟨h1, by simpa using h2⟩
theorem fits_t {v : Vrb} {m : Nat} (h : (v.k = 1 ∨ v.k = 2) ∧ v.o = false ∨ (v.k = 1 ∨ v.k = 2 ∨ v.k = 3) ∧ (v.c0 = true → 0 < m) ∧ (v.c1 = true → 1 < m) ∧ (v.c2 = true → 2 < m)) : fits v m = true := decide_eq_true h
theorem fits_f {v : Vrb} {m : Nat} (h : ¬((v.k = 1 ∨ v.k = 2) ∧ v.o = false ∨ (v.k = 1 ∨ v.k = 2 ∨ v.k = 3) ∧ (v.c0 = true → 0 < m) ∧ (v.c1 = true → 1 < m) ∧ (v.c2 = true → 2 < m))) : fits v m = false := decide_eq_false h
set_option maxHeartbeats 8000000 in
theorem suits_none {N : Nns} (hN : N.Ok) {v n : Int} (h : N.find n = none) : callP Try.prog 40 [N.A, .int .i64 v, .int .i64 n] (· = .tuple [(vrb v).A, nounZ, .bool false]) := by
  refine callE_def env (fn := Try.f40) rfl (by decide) rfl ?_
  refine callT_E (va2 v) rfl ?_
  refine callT_E (find_none hN h) rfl ?_
  generalize vrb v = w
  by_cases hk : w.k = 0
  · repeat refine stp ?_
    refine draw_tree (picks (List.range 1) (.fork 1 2 (picks [2, 3, 4] .done) (picks [1, 3, 4] .done))) (by decide +kernel) ?_
    constructor <;>
    · show Eqv _ _
      exact .up (.up (.refl _))
  · repeat refine stp ?_
    refine draw_tree (picks (List.range 1) (.fork 1 2 (picks [2, 3, 4] .done) (picks [1, 3, 4] .done))) (by decide +kernel) ?_
    constructor <;>
    · show Eqv _ _
      exact .up (.up (.refl _))
set_option maxHeartbeats 8000000 in
theorem suits_some {N : Nns} (hN : N.Ok) {v n : Int} {i : Nat} (h : N.find n = some i) : callP Try.prog 40 [N.A, .int .i64 v, .int .i64 n] (· = .tuple [(vrb v).A, nounA N n i, .bool (fits (vrb v) (N.m i))]) := by
  refine callE_def env (fn := Try.f40) rfl (by decide) rfl ?_
  refine callT_E (va2 v) rfl ?_
  refine callT_E (find_some hN h) rfl ?_
  generalize vrb v = w
  obtain ⟨k, o, c0, c1, c2⟩ := w
  dsimp only
  by_cases hk : k = 0
  · rw [fits_f (by dsimp only; omega)]
    repeat refine stp ?_
    refine draw_tree (picks (List.range 1) (.fork 1 2 (picks [2, 3, 4] .done) (picks [1, 3, 4] .done))) (by decide +kernel) ?_
    constructor <;>
    · show Eqv _ _
      exact .up (.up (.refl _))
  by_cases hk4 : k ≠ 1 ∧ k ≠ 2 ∧ k ≠ 3
  · rw [fits_f (by dsimp only; omega)]
    repeat refine stp ?_
    refine draw_tree (picks (List.range 1) (.fork 1 2 (picks [2, 3, 4] .done) (picks [1, 3, 4] .done))) (by decide +kernel) ?_
    constructor <;>
    · show Eqv _ _
      exact .up (.up (.refl _))
  by_cases ho : (k = 1 ∨ k = 2) ∧ o = false
  · rw [fits_t (.inl ho)]
    obtain ⟨ho1, rfl⟩ := ho
    by_cases hk1 : k = 1
    · repeat refine stp ?_
      refine draw_tree (picks (List.range 1) (.fork 1 2 (picks [2, 3, 4] .done) (picks [1, 3, 4] .done))) (by decide +kernel) ?_
      constructor <;>
      · show Eqv _ _
        exact .up (.up (.refl _))
    · repeat refine stp ?_
      refine draw_tree (picks (List.range 1) (.fork 1 2 (picks [2, 3, 4] .done) (picks [1, 3, 4] .done))) (by decide +kernel) ?_
      constructor <;>
      · show Eqv _ _
        exact .up (.up (.refl _))
  · have w1 : IntKind.i64.wrap 1 = 1 := by decide
    have w2 : IntKind.i64.wrap (1 + 1) = 2 := by decide
    repeat' (first | refine stp ?_ | refine loop_unr 4 ?_ | (apply branch_intro <;> intro hb <;> try simp at hb))
    all_goals try (exfalso; simp_all; done)
    all_goals
      refine draw_tree (picks (List.range 1) (.fork 1 2 (picks [2, 3, 4] .done) (picks [1, 3, 4] .done))) (by decide +kernel) ?_
      constructor <;>
      · first
          | (rw [fits_t (by simp_all <;> omega)]; show Eqv _ _; exact .up (.up (.refl _)))
          | (rw [fits_f (by simp_all <;> omega)]; show Eqv _ _; exact .up (.up (.refl _)))
end Go.Proofs
namespace Go.Proofs
open Go.E
set_option maxRecDepth 8000
structure Shw.Ok (x : Shw) : Prop where
  s : 0 ≤ x.s ∧ x.s < 256
  f : ∀ j, j < 5 → 0 ≤ x.f j ∧ x.f j < 256
def I64 (n : Int) : Prop := -9223372036854775808 ≤ n ∧ n ≤ 9223372036854775807
structure Pan.Ok (p : Pan) : Prop where
  N : p.N.OkP
  st : 0 ≤ p.st ∧ p.st < 256
  vb : I64 p.vb
  nn : I64 p.nn
  ty : p.ty.Ok
  cnt : I64 p.cnt
  cmp : I64 p.cmp
  l0 : p.l0.Ok
  l1 : p.l1.Ok
  l2 : p.l2.Ok
  act : 0 ≤ p.act.k ∧ p.act.k < 256
  an : I64 p.an
  av : I64 p.av
  aq : I64 p.aq
  D : Rl.WD p.D.f
def mayV (p : Pan) : Bool :=
  p.N.may && Rl.mayB p.D.f && (small p.vb && small p.nn && small p.an && small p.av && small p.aq) && entryV p && decide (p.act.k ≤ 2) && !(p.av == 0 && p.asked) && (p.av == 0 || suit p.N p.av p.aq) &&
    decide (p.D.st % 2 = (if flash p = true then 1 else 0) ∧ p.D.st / 4 % 2 = if waits p = true then 1 else 0)
theorem counted_c (c n : Int) : callP Try.prog 46 [.int .i64 c, .int .i64 n] (· = .bool (cntd c n)) := by
  refine callE_def env (fn := Try.f46) rfl (by decide) rfl ?_
  unfold cntd
  by_cases h0 : c = 0
  · by_cases hn : n = 0
    · rw [decide_eq_true (by omega)]
      repeat refine stp ?_
      show Eqv _ _
      exact .up (.up (.refl _))
    · rw [decide_eq_false (by omega)]
      repeat refine stp ?_
      show Eqv (.bool (c == 2)) _
      rw [show (c == 2) = false from beq_eq_false_iff_ne.2 (by omega)]
      exact .up (.up (.refl _))
  · by_cases h1 : c = 1
    · by_cases hn : n < 10
      · rw [decide_eq_true (by omega)]
        repeat refine stp ?_
        show Eqv _ _
        exact .up (.up (.refl _))
      · rw [decide_eq_false (by omega)]
        repeat refine stp ?_
        show Eqv (.bool (c == 2)) _
        rw [show (c == 2) = false from beq_eq_false_iff_ne.2 (by omega)]
        exact .up (.up (.refl _))
    · repeat refine stp ?_
      show Eqv (.bool (c == 2)) _
      rw [show (c == 2) = decide (c = 0 ∧ n = 0 ∨ c = 1 ∧ n < 10 ∨ c = 2) by rw [Bool.eq_iff_iff, beq_iff_eq, decide_eq_true_eq]; omega]
      exact .up (.up (.refl _))
theorem lights_c (p : Pan) : callP Try.prog 41 [p.A] (· = .int .u16 (lights p)) := by
  refine callE_def env (fn := Try.f41) rfl (by decide) rfl ?_
  have e1 : IntKind.u16.wrap (BitVec.ofInt IntKind.u16.bits 0 ||| BitVec.ofInt IntKind.u16.bits 1).toNat = 1 := by decide
  have e4 : IntKind.u16.wrap (BitVec.ofInt IntKind.u16.bits 0 ||| BitVec.ofInt IntKind.u16.bits 4).toNat = 4 := by decide
  have e5 : IntKind.u16.wrap (BitVec.ofInt IntKind.u16.bits (IntKind.u16.wrap (BitVec.ofInt IntKind.u16.bits 0 ||| BitVec.ofInt IntKind.u16.bits 1).toNat) ||| BitVec.ofInt IntKind.u16.bits 4).toNat = 5 := by decide
  have fin : ∀ {f w : Bool} {x : Int}, flash p = f → waits p = w → (if f = true then 1 else 0) + (if w = true then 4 else 0) = x → lights p = x := fun {f w x} h1 h2 h3 => by rw [lights, h1, h2, h3]
  unfold flash waits at fin
  repeat' (first | refine stp ?_ | (apply branch_intro <;> intro hb <;> try simp at hb))
  all_goals
    first
      | (rw [fin (f := true) (w := true) (by simp_all) (by simp_all) rfl]; show Eqv (.int .u16 _) _; rw [e5]; exact .up (.up (.refl _)))
      | (rw [fin (f := true) (w := false) (by simp_all) (by simp_all) rfl]; show Eqv (.int .u16 _) _; rw [e1]; exact .up (.up (.refl _)))
      | (rw [fin (f := false) (w := true) (by simp_all) (by simp_all) rfl]; show Eqv (.int .u16 _) _; rw [e4]; exact .up (.up (.refl _)))
      | (rw [fin (f := false) (w := false) (by simp_all) (by simp_all) rfl]; show Eqv (.int .u16 _) _; exact .up (.up (.refl _)))
theorem two_c {n : Int} (h : 0 ≤ n ∧ n ≤ 99) : callP Try.prog 75 [.int .i64 n] (· = .agg [.int .u8 (n / 10), .int .u8 (n % 10)]) := by
  refine callE_def env (fn := Try.f75) rfl (by decide) rfl ?_
  have e1 : IntKind.u8.wrap (IntKind.i64.wrap (n.tdiv 10)) = n / 10 := by
    rw [Int.tdiv_eq_ediv_of_nonneg h.1, wi (by omega) (by omega), wu8 (by omega) (by omega)]
  have e2 : IntKind.u8.wrap (n.tmod 10) = n % 10 := by
    rw [Int.tmod_eq_emod_of_nonneg h.1, wu8 (by omega) (by omega)]
  repeat refine stp ?_
  show Eqv (.agg [.int .u8 (IntKind.u8.wrap (IntKind.i64.wrap (n.tdiv 10))), .int .u8 (IntKind.u8.wrap (n.tmod 10))]) _
  rw [e1, e2]
  exact .up (.up (.refl _))
theorem clear_d : callP Try.prog 15 [] (· = Dsp.clear.A) := Rl.clear_c
theorem empty_c : callP Try.prog 69 [] (· = .agg bl6.L) := by
  refine callE_def env (fn := Try.f69) rfl (by decide) rfl ?_
  refine callT_E clear_d rfl ?_
  repeat refine stp ?_
  show Eqv _ _
  exact .up (.up (.refl _))
theorem gap_c : callP Try.prog 66 [] (· = .agg [.int .u8 10, .int .u8 10]) := by
  refine callE_def env (fn := Try.f66) rfl (by decide) rfl ?_
  refine callT_E clear_d rfl ?_
  repeat refine stp ?_
  show Eqv _ _
  exact .up (.up (.refl _))
theorem all_small {l : List Int} (h : ∀ j, j < l.length → small (l.getD j 0) = true) : l.all small = true := by
  rw [List.all_eq_true]
  intro x hx
  obtain ⟨j, hj, rfl⟩ := List.getElem_of_mem hx
  have := h j hj
  rwa [List.getD_eq_getElem?_getD, List.getElem?_eq_getElem hj] at this
theorem not_small {l : List Int} {j : Nat} (hj : j < l.length) (h : small (l.getD j 0) = false) : l.all small = false := by
  rw [List.all_eq_false]
  refine ⟨l[j], List.getElem_mem hj, ?_⟩
  rw [List.getD_eq_getElem?_getD, List.getElem?_eq_getElem hj] at h
  simpa using h
theorem withinL_c (l : List Int) (hl : l.length ≤ 1000) : callP Try.prog 38 [ints .i64 l] (· = .bool (l.all small)) := by
  refine callE_def env (fn := Try.f38) rfl (by decide) rfl ?_
  refine loop_weak (fun i : Nat => slots 18 [(5, ints .i64 l), (6, .int .i64 l.length), (7, .int .i64 i)]) (fun _ => []) (fun i => i ≤ l.length ∧ ∀ j, j < i → small (l.getD j 0) = true)
    (fun i => l.length - i) 0 ⟨Nat.zero_le _, fun j hj => absurd hj (by omega)⟩ (weak_keep (keep 18 [5, 6, 7]) [] rfl rfl rfl) ?_
  rintro i ⟨hi, hs⟩
  by_cases hin : i = l.length
  · rw [all_small fun j hj => hs j (by omega)]
    repeat refine stp ?_
    show Eqv _ _
    exact .up (.up (.refl _))
  have hlt : i < l.length := by omega
  by_cases hg : 0 ≤ l.getD i 0 ∧ l.getD i 0 ≤ 99
  · repeat refine stp ?_
    conv => whnf
    simp only [Int.toNat_natCast]
    repeat refine stp ?_
    refine ⟨i + 1, ⟨by omega, fun j hj => ?_⟩, by omega, weak_keep (keep 18 [5, 6, 7]) [] rfl ?_ rfl⟩
    · rcases Nat.lt_or_ge j i with h | h
      · exact hs j h
      · obtain rfl : j = i := by omega
        exact decide_eq_true hg
    · show [_, _, _, _, _, _, _, _, _, _, _, _, _, _, _, _, _, _] = _
      have e3 : IntKind.i64.wrap ((i : Int) + 1) = ((i + 1 : Nat) : Int) := by rw [wi (by omega) (by omega)]; rfl
      rw [e3]
      rfl
  · rw [not_small hlt (decide_eq_false hg)]
    by_cases h0 : l.getD i 0 < 0
    · repeat refine stp ?_
      conv => whnf
      simp only [Int.toNat_natCast]
      repeat refine stp ?_
      show Eqv _ _
      exact .up (.up (.refl _))
    · repeat refine stp ?_
      conv => whnf
      simp only [Int.toNat_natCast]
      repeat refine stp ?_
      show Eqv _ _
      exact .up (.up (.refl _))
theorem within5_c (a b c d e : Int) : callP Try.prog 38 [ints .i64 [a, b, c, d, e]] (· = .bool (small a && small b && small c && small d && small e)) := by
  have h := withinL_c [a, b, c, d, e] (by simp)
  rwa [show [a, b, c, d, e].all small = (small a && small b && small c && small d && small e) by simp [Bool.and_assoc]] at h
end Go.Proofs
