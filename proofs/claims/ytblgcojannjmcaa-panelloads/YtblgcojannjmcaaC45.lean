/- Chapter 30: the law Loads, plain: what is typed, stored and shown. -/
import Derived.Test.YtblgcojannjmcaaC44
set_option linter.unusedVariables false
set_option linter.unusedSimpArgs false
/-! Wa. -/
namespace Go.Proofs
open Go.E
set_option maxRecDepth 8000

def z30 : List Int := List.replicate 30 0
/-- A component as the law makes it. -/
structure Cmp.Ld (c : Cmp) : Prop where
  k : c.k = 2 ∨ c.k = 3
  a : 8 ≤ c.a ∧ c.a ≤ 27
  n : 1 ≤ c.n ∧ c.n ≤ 100000
  s : 0 ≤ c.s ∧ c.s ≤ 40
def ldN (c : Cmp) : Nns := ⟨1, fun _ => 5, fun _ => 1, fun _ _ => c⟩
structure Dig (x : Shw) : Prop where
  s : x.s = 1 ∨ x.s = 2
  a : 0 ≤ x.a ∧ x.a ≤ 9
  b : 0 ≤ x.b ∧ x.b ≤ 9
  c : 0 ≤ x.c ∧ x.c ≤ 9
  d : 0 ≤ x.d ∧ x.d ≤ 9
  e : 0 ≤ x.e ∧ x.e ≤ 9
/-- The data entry. -/
def ldP (c : Cmp) (t : Shw) (n st : Int) : Pan := ⟨ldN c, 3, 21, 5, t, n, 0, z6, z6, z6, .z, 0, 0, 0, false, ⟨10, 10, 2, 1, 0, 5, t, bl6, bl6, 0, st⟩⟩
theorem ld_begin (c : Cmp) : pressV (pressV (pressV (pressV (pressV (pressV (pressV (newP (ldN c)) 13).1 3).1 2).1 14).1 1).1 6).1 15 = (ldP c bl6 0 1, .z) := by kernel_rfl
theorem ld_comp (c : Cmp) (t : Shw) (n st : Int) : compV (ldP c t n st) = c := by kernel_rfl
theorem ld_seven (c : Cmp) (l : List Int) : playV ⟨newP (ldN c), l, []⟩ [13, 3, 2, 14, 1, 6, 15] = ⟨ldP c bl6 0 1, l, []⟩ := by kernel_rfl
theorem ld_sign {c : Cmp} (hc : c.Ld) {s : Int} (hs : s = 1 ∨ s = 2) : pressV (ldP c bl6 0 1) (10 + s) = (ldP c { bl6 with s := s } 0 1, .z) := by
  have h1 : signV (ldP c bl6 0 1) s = some (ldP c { bl6 with s := s } 0 1) := by
    unfold signV
    rw [if_neg]
    · rfl
    · rw [ld_comp]
      have := hc.k
      show ¬((3 : Int) ≠ 3 ∨ (0 : Int) ≠ 0 ∨ (0 : Int) ≠ 0 ∨ c.k = 1)
      omega
  rw [pressV, keyV, if_neg (by omega), if_pos (by omega), show 10 + s - 10 = s by omega, h1]
  rfl
theorem ld_digit {c : Cmp} (hc : c.Ld) {t : Shw} (hs : t.s = 1 ∨ t.s = 2) {n : Int} (hn : n < 5) {d : Int} (hd : 0 ≤ d ∧ d ≤ 9) : pressV (ldP c t n 1) (d + 1) = (ldP c (t.set n d) (n + 1) 1, .z) := by
  have h1 : digitV (ldP c t n 1) d = some (ldP c (t.set n d) (n + 1) 1) := by
    unfold digitV
    rw [if_neg (show ¬(ldP c t n 1).st = 0 from (by decide : ¬(3 : Int) = 0)), if_pos (show (ldP c t n 1).st = 3 from rfl), if_neg]
    · rfl
    · rw [ld_comp]
      have := hc.k
      show ¬(n = 5 ∨ c.k = 1 ∧ (t.s ≠ 0 ∨ d > 7) ∨ c.k ≠ 1 ∧ t.s = 0)
      omega
  rw [pressV, keyV, if_pos (by omega), Int.add_sub_cancel, h1]
  rfl
theorem ld_find (c : Cmp) (t : Shw) (n st : Int) : (ldP c t n st).N.find (ldP c t n st).nn = some 0 := by kernel_rfl
theorem ld_ent {c : Cmp} (hc : c.Ld) (x : Shw) : entV x 5 c = if (fdV x.f x.s c).2 = 0 then some (fdV x.f x.s c).1 else none := by
  have := hc.k
  unfold entV
  rw [if_neg (by omega)]
  simp only [and_true]
theorem ld_no {c : Cmp} (hc : c.Ld) {x : Shw} (h : (fdV x.f x.s c).2 ≠ 0) : pressV (ldP c x 5 1) 15 = (ldP c x 5 3, .z) := by
  have h1 : loadV (ldP c x 5 1) = none := by
    have h2 : entV (ldP c x 5 1).ty (ldP c x 5 1).cnt (compV (ldP c x 5 1)) = none := by
      rw [ld_comp]
      exact (ld_ent hc x).trans (if_neg h)
    unfold loadV
    rw [h2]
  rw [pressV, show keyV (ldP c x 5 1) 15 = loadV (ldP c x 5 1) by kernel_rfl, h1]
  rfl
def ldQ (c : Cmp) (x : Shw) : Pan := ⟨ldN c, 0, 21, 5, z6, 0, 0, z6, z6, z6, .z, 0, 0, 0, false, ⟨10, 10, 2, 1, 0, 5, x, bl6, bl6, 0, 0⟩⟩
theorem ld_yes {c : Cmp} (hc : c.Ld) {x : Shw} (h : (fdV x.f x.s c).2 = 0) : pressV (ldP c x 5 1) 15 = (ldQ c x, ⟨2, 0, cellsV c (fdV x.f x.s c).1⟩) := by
  have hk := hc.k
  have he := (ld_ent hc x).trans (if_pos h)
  have h1 : loadV (ldP c x 5 1) = some (⟨ldN c, 0, 21, 5, z6, 0, 0, z6, z6, z6, .z, 0, 0, 0, false, ⟨10, 10, 2, 1, 0, 5, x, bl6, bl6, 0, 1⟩⟩, ⟨2, 0, cellsV c (fdV x.f x.s c).1⟩) := by
    have h2 : entV (ldP c x 5 1).ty (ldP c x 5 1).cnt (compV (ldP c x 5 1)) = some (fdV x.f x.s c).1 := by
      rw [ld_comp]
      exact he
    unfold loadV
    rw [h2, ld_find, ld_comp]
    simp only [if_neg (show ¬c.k = 1 by omega)]
    show (match oneV true x c, oneV false z6 c, oneV false z6 c with
      | some a, some b, some d => some ((⟨ldN c, 0, 21, 5, z6, 0, 0, z6, z6, z6, .z, 0, 0, 0, false, ⟨10, 10, 2, 1, 0, 5, x, bl6, bl6, 0, 1⟩⟩ : Pan), (⟨2, 0, a ++ b ++ d⟩ : Req))
      | _, _, _ => none) = _
    rw [show oneV true x c = some (cellsV c (fdV x.f x.s c).1) by rw [oneV, if_pos rfl, he]]
    show some _ = some _
    rw [List.append_nil, List.append_nil]
  rw [pressV, show keyV (ldP c x 5 1) 15 = loadV (ldP c x 5 1) by kernel_rfl, h1]
  rfl
theorem step_0 {s : PlS} {k : Int} {q : Pan} {r : Req} (h : pressV s.p k = (q, r)) (hr : r.k = 0) : stepV s k = ⟨q, s.l, s.rs⟩ := by
  unfold stepV
  rw [h]
  show (if r.k = 0 then _ else _) = _
  rw [if_pos hr]
theorem step_2 {s : PlS} {k : Int} {q : Pan} {r : Req} (h : pressV s.p k = (q, r)) (hr : r.k = 2) : stepV s k = ⟨q, putV s.l r.c, s.rs ++ [r]⟩ := by
  unfold stepV
  rw [h]
  show (if r.k = 0 then _ else _) = _
  rw [if_neg (by omega)]
  show PlS.mk (if r.k = 1 then _ else _) _ _ = _
  rw [if_neg (by omega)]
def ldK (x : Shw) : List Int := [13, 3, 2, 14, 1, 6, 15] ++ [10 + x.s, x.a + 1, x.b + 1, x.c + 1, x.d + 1, x.e + 1, 15]
theorem ld_head {c : Cmp} (hc : c.Ld) {x : Shw} (hx : Dig x) (l : List Int) : playV ⟨newP (ldN c), l, []⟩ (ldK x) = stepV ⟨ldP c x 5 1, l, []⟩ 15 := by
  obtain ⟨s, a, b, c', d, e⟩ := x
  have hs := hx.s
  rw [ldK, playV, List.foldl_append]
  rw [show List.foldl stepV ⟨newP (ldN c), l, []⟩ [13, 3, 2, 14, 1, 6, 15] = ⟨ldP c bl6 0 1, l, []⟩ from ld_seven c l]
  simp only [List.foldl_cons, List.foldl_nil]
  have f0 := step_0 (s := ⟨ldP c bl6 0 1, l, []⟩) (ld_sign (s := s) hc hx.s) rfl
  have f1 := step_0 (s := ⟨ldP c ⟨s, 10, 10, 10, 10, 10⟩ 0 1, l, []⟩) (ld_digit (t := ⟨s, 10, 10, 10, 10, 10⟩) (n := 0) (d := a) hc hx.s (by decide) hx.a) rfl
  have f2 := step_0 (s := ⟨ldP c ⟨s, a, 10, 10, 10, 10⟩ 1 1, l, []⟩) (ld_digit (t := ⟨s, a, 10, 10, 10, 10⟩) (n := 1) (d := b) hc hx.s (by decide) hx.b) rfl
  have f3 := step_0 (s := ⟨ldP c ⟨s, a, b, 10, 10, 10⟩ 2 1, l, []⟩) (ld_digit (t := ⟨s, a, b, 10, 10, 10⟩) (n := 2) (d := c') hc hx.s (by decide) hx.c) rfl
  have f4 := step_0 (s := ⟨ldP c ⟨s, a, b, c', 10, 10⟩ 3 1, l, []⟩) (ld_digit (t := ⟨s, a, b, c', 10, 10⟩) (n := 3) (d := d) hc hx.s (by decide) hx.d) rfl
  have f5 := step_0 (s := ⟨ldP c ⟨s, a, b, c', d, 10⟩ 4 1, l, []⟩) (ld_digit (t := ⟨s, a, b, c', d, 10⟩) (n := 4) (d := e) hc hx.s (by decide) hx.e) rfl
  have f0 : stepV ⟨ldP c bl6 0 1, l, []⟩ (10 + s) = ⟨ldP c ⟨s, 10, 10, 10, 10, 10⟩ 0 1, l, []⟩ := f0
  have f1 : stepV ⟨ldP c ⟨s, 10, 10, 10, 10, 10⟩ 0 1, l, []⟩ (a + 1) = ⟨ldP c ⟨s, a, 10, 10, 10, 10⟩ 1 1, l, []⟩ := f1
  have f2 : stepV ⟨ldP c ⟨s, a, 10, 10, 10, 10⟩ 1 1, l, []⟩ (b + 1) = ⟨ldP c ⟨s, a, b, 10, 10, 10⟩ 2 1, l, []⟩ := f2
  have f3 : stepV ⟨ldP c ⟨s, a, b, 10, 10, 10⟩ 2 1, l, []⟩ (c' + 1) = ⟨ldP c ⟨s, a, b, c', 10, 10⟩ 3 1, l, []⟩ := f3
  have f4 : stepV ⟨ldP c ⟨s, a, b, c', 10, 10⟩ 3 1, l, []⟩ (d + 1) = ⟨ldP c ⟨s, a, b, c', d, 10⟩ 4 1, l, []⟩ := f4
  have f5 : stepV ⟨ldP c ⟨s, a, b, c', d, 10⟩ 4 1, l, []⟩ (e + 1) = ⟨ldP c ⟨s, a, b, c', d, e⟩ 5 1, l, []⟩ := f5
  rw [f0, f1, f2, f3, f4, f5]
theorem ld_play_no {c : Cmp} (hc : c.Ld) {x : Shw} (hx : Dig x) (l : List Int) (h : (fdV x.f x.s c).2 ≠ 0) : playV ⟨newP (ldN c), l, []⟩ (ldK x) = ⟨ldP c x 5 3, l, []⟩ := by
  rw [ld_head hc hx, step_0 (s := ⟨ldP c x 5 1, l, []⟩) (ld_no hc h) rfl]
theorem ld_play {c : Cmp} (hc : c.Ld) {x : Shw} (hx : Dig x) (l : List Int) (h : (fdV x.f x.s c).2 = 0) : playV ⟨newP (ldN c), l, []⟩ (ldK x) = ⟨ldQ c x, putV l (cellsV c (fdV x.f x.s c).1), [⟨2, 0, cellsV c (fdV x.f x.s c).1⟩]⟩ := by
  rw [ld_head hc hx, step_2 (s := ⟨ldP c x 5 1, l, []⟩) (ld_yes hc h) rfl]
  rfl
def ldR (c : Cmp) : Pan := ⟨ldN c, 0, 6, 5, z6, 0, 0, z6, z6, z6, ⟨1, false, true, true, true⟩, 5, 0, 0, false, ⟨10, 10, 0, 6, 0, 5, bl6, bl6, bl6, 0, 0⟩⟩
theorem ld_again (c : Cmp) (l : List Int) : playV ⟨newP (ldN c), l, []⟩ [13, 1, 7, 14, 1, 6, 15] = ⟨fillV (ldR c) l, l, [⟨1, 0, []⟩]⟩ := by kernel_rfl
def shwD (v : Int × (Nat → Int) × Int) : Shw := if v.2.2 = 0 then ⟨v.1, v.2.1 0, v.2.1 1, v.2.1 2, v.2.1 3, v.2.1 4⟩ else bl6
theorem ld_r0 (c : Cmp) (l : List Int) : (fillV (ldR c) l).D.r0 = shwD (showV c l false) := by
  have hf : (ldR c).N.find (ldR c).an = some 0 := by kernel_rfl
  have e : (fillV (ldR c) l).D.r0 = regS (ldR c) l 0 := rfl
  rw [e, regS, hf]
  generalize hS : showV c l false = S
  have hS : showV ((ldR c).N.cm 0 0) l (ldR c).act.o = S := hS
  simp only
  rw [hS]
  unfold shwD
  by_cases h : S.2.2 = 0
  · rw [if_pos ⟨show 0 < 1 by decide, rfl, h⟩, if_pos h]
  · rw [if_neg (fun a => h a.2.2), if_neg h]
theorem ld_valid {c : Cmp} (hc : c.Ld) : validC c = true := by
  obtain ⟨h1, h2, h3, h4⟩ := hc
  refine decide_eq_true ?_
  have hs : sizeV c.k = 1 ∨ sizeV c.k = 2 := by unfold sizeV; split <;> simp
  omega
theorem getD_set_self {l : List Int} {i : Nat} {x : Int} (h : i < l.length) : (l.set i x).getD i 0 = x := by
  rw [List.getD_eq_getElem?_getD, List.getElem?_set_self h, Option.getD_some]
theorem getD_set_ne {l : List Int} {i j : Nat} {x : Int} (h : i ≠ j) : (l.set i x).getD j 0 = l.getD j 0 := by
  rw [List.getD_eq_getElem?_getD, List.getElem?_set_ne h, ← List.getD_eq_getElem?_getD]
theorem ld_value {c : Cmp} (hc : c.Ld) {v : Int} (hv : inV v c.k = true) : valV c (putV z30 (cellsV c v)) = (v, 0) := by
  have hV := ld_valid hc
  obtain ⟨hk, ha, hn, hs⟩ := hc
  have hin := of_decide_eq_true hv
  obtain ⟨a, haa⟩ : ∃ a : Nat, c.a = a := ⟨c.a.toNat, by omega⟩
  have hz : sizeV c.k ≤ 2 := by unfold sizeV; split <;> simp
  unfold valV
  rw [if_neg (by rw [hV]; decide), if_neg (by rw [putV_len]; show ¬c.a > ((30 : Nat) : Int) - _; omega)]
  rcases hk with h2 | h3
  · have hb : -16383 ≤ v ∧ v ≤ 16383 := by
      rw [h2] at hin
      exact hin
    rw [if_neg (by omega), if_pos h2]
    have e : putV z30 (cellsV c v) = z30.set a (wOf v) := by
      rw [cellsV, if_neg (by omega), if_pos h2]
      show put1 z30 (c.a, wOf v) = _
      unfold put1
      rw [if_pos (by show c.a < ((30 : Nat) : Int); omega)]
      show z30.set c.a.toNat (wOf v) = _
      rw [haa]
      rfl
    rw [e, haa, Int.toNat_natCast, getD_set_self (by show a < 30; omega)]
    have : wordV (wOf v) = v := by unfold wordV wOf; split <;> split <;> omega
    rw [this]
  · have hb : Fit v := by
      rw [h3] at hin
      exact hin
    rw [if_neg (by omega), if_neg (by omega)]
    have e : putV z30 (cellsV c v) = (z30.set a (hiD v)).set (a + 1) (loD v) := by
      rw [cellsV, if_neg (by omega), if_neg (by omega)]
      show put1 (put1 z30 (c.a, hiD v)) (c.a + 1, loD v) = _
      have e1 : put1 z30 (c.a, hiD v) = z30.set a (hiD v) := by
        unfold put1
        rw [if_pos (by show c.a < ((30 : Nat) : Int); omega)]
        show z30.set c.a.toNat (hiD v) = _
        rw [haa]
        rfl
      rw [e1]
      unfold put1
      rw [if_pos (by rw [List.length_set]; show c.a + 1 < ((30 : Nat) : Int); omega)]
      show (z30.set a (hiD v)).set (c.a + 1).toNat (loD v) = _
      rw [haa]
      rfl
    rw [e, haa, Int.toNat_natCast, getD_set_self (by rw [List.length_set]; show a + 1 < 30; omega), getD_set_ne (by omega), getD_set_self (by show a < 30; omega), val_dbl hb]
theorem ld_in {x : Shw} {c : Cmp} (h : (fdV x.f x.s c).2 = 0) : inV (fdV x.f x.s c).1 c.k = true := by
  unfold fdV at h ⊢
  split at h
  · exact absurd h (by decide)
  split at h
  · exact absurd h (by decide)
  split at h
  · exact absurd h (by decide)
  split at h
  · exact absurd h (by decide)
  · rename_i h1 h2 h3 h4
    rw [if_neg h1, if_neg h2, if_neg h3, if_neg h4]
    simpa using h4
theorem ld_show {c : Cmp} (hc : c.Ld) {v : Int} (hv : inV v c.k = true) : showV c (putV z30 (cellsV c v)) false = decV v c := by
  have hk := hc.k
  unfold showV
  rw [ld_value hc hv, if_neg (show ¬(0 : Int) ≠ 0 by decide), if_neg (by simp; omega)]
end Go.Proofs
/-! Wb. -/
namespace Go.Proofs
open Go.E
set_option maxRecDepth 8000

def ldC (k a n s : Int) : Cmp := ⟨IntKind.u8.wrap (2 + k.tmod 2), IntKind.i64.wrap (8 + IntKind.i64.wrap ((IntKind.u64.wrap a).tmod 20)), IntKind.i64.wrap (1 + IntKind.i64.wrap ((IntKind.u64.wrap n).tmod 100000)), IntKind.i64.wrap ((IntKind.u64.wrap s).tmod 41)⟩
theorem callP_head {P : Program} {f : FuncId} {v v' : AVal} {r : List AVal} {R : AVal → Prop} (hd : ∀ (c : Cx) (u : Value), VRel c v u → VRel c v' u) (h : callP P f (v' :: r) R) : callP P f (v :: r) R := by
  unfold callP at h ⊢
  rw [callN_iff] at h ⊢
  refine ⟨h.1, fun c us h1 hg h2 h3 => h.2 c us h1 hg h2 ⟨h3.1, fun i x u a b => ?_⟩⟩
  cases i with
  | zero =>
    obtain rfl : v' = x := by simpa using a
    exact hd c u (h3.2 0 v u rfl b)
  | succ i => exact h3.2 (i + 1) x u a b
abbrev ldA (c : Cmp) : AVal := .ro 2 1 (chunk 2 [.int .i64 5, .ro 4 1 (chunk 4 (cmpL c))])
theorem ld_head_arg {f : FuncId} {c : Cmp} {r : List AVal} {R : AVal → Prop} (h : callP Try.prog f ((ldN c).A :: r) R) : callP Try.prog f (ldA c :: r) R := by
  refine callP_head (v' := .ro 2 1 (fun _ => [.int .i64 5, .ro 4 1 (chunk 4 (cmpL c))])) (fun x u hv => eqv_rel (.up (.up (.ro fun i hi => ?_))) hv) (callP_head (fun x u hv => ?_) h)
  · obtain rfl : i = 0 := by omega
    rfl
  · exact ro_deep (a := fun _ => .int .i64 5) (m := fun _ => 1) (row := fun _ => chunk 4 (cmpL c)) (fun i _ j hj => by
      obtain rfl : j = 0 := by omega
      rfl) hv
def dgT (x : Int) : ByteArray := bytesI (rowsInts .u8 1 (chunk 1 [.int .u8 (IntKind.u8.wrap (48 + x))]))
def ldB (s : Int) : ByteArray := if s = 1 then ⟨#[86, 50, 49, 78, 48, 53, 69, 43]⟩ else ⟨#[86, 50, 49, 78, 48, 53, 69, 45]⟩
def ldT (x : Shw) : Nat → ByteArray
  | 0 => ldB x.s
  | 1 => ldB x.s ++ dgT x.a
  | 2 => ldB x.s ++ dgT x.a ++ dgT x.b
  | 3 => ldB x.s ++ dgT x.a ++ dgT x.b ++ dgT x.c
  | 4 => ldB x.s ++ dgT x.a ++ dgT x.b ++ dgT x.c ++ dgT x.d
  | _ => ldB x.s ++ dgT x.a ++ dgT x.b ++ dgT x.c ++ dgT x.d ++ dgT x.e
def ldX (x : Shw) : Nat → List AVal
  | 0 => [.int .u8 x.s, .int .u8 0, .int .u8 0, .int .u8 0, .int .u8 0, .int .u8 0]
  | 1 => [.int .u8 x.s, .int .u8 x.a, .int .u8 0, .int .u8 0, .int .u8 0, .int .u8 0]
  | 2 => [.int .u8 x.s, .int .u8 x.a, .int .u8 x.b, .int .u8 0, .int .u8 0, .int .u8 0]
  | 3 => [.int .u8 x.s, .int .u8 x.a, .int .u8 x.b, .int .u8 x.c, .int .u8 0, .int .u8 0]
  | 4 => [.int .u8 x.s, .int .u8 x.a, .int .u8 x.b, .int .u8 x.c, .int .u8 x.d, .int .u8 0]
  | _ => x.L
theorem ldB_size (s : Int) : (ldB s).size = 8 := by unfold ldB; split <;> rfl
theorem dgT_size (x : Int) : (dgT x).size = 1 := rfl
theorem ldT_size (x : Shw) (i : Nat) (h : i ≤ 5) : (ldT x i).size = 8 + i := by
  rcases (show i = 0 ∨ i = 1 ∨ i = 2 ∨ i = 3 ∨ i = 4 ∨ i = 5 by omega) with rfl | rfl | rfl | rfl | rfl | rfl <;> simp only [ldT, ByteArray.size_append, ldB_size, dgT_size]
/-- The text is read as the keys. -/
theorem dg_list {x : Int} (h : 0 ≤ x ∧ x ≤ 9) : (dgT x).data.toList = [UInt8.ofNat (48 + x.toNat)] := by
  obtain ⟨n, rfl⟩ : ∃ n : Nat, x = n := ⟨x.toNat, by omega⟩
  rcases (show n = 0 ∨ n = 1 ∨ n = 2 ∨ n = 3 ∨ n = 4 ∨ n = 5 ∨ n = 6 ∨ n = 7 ∨ n = 8 ∨ n = 9 by omega) with rfl | rfl | rfl | rfl | rfl | rfl | rfl | rfl | rfl | rfl <;> decide +kernel
theorem parse_dig {x : Int} (h : 0 ≤ x ∧ x ≤ 9) (r : List UInt8) (i : Nat) (acc : List Int) : parseL (UInt8.ofNat (48 + x.toNat) :: r) i acc = parseL r (i + 1) (acc ++ [x + 1]) := by
  obtain ⟨n, rfl⟩ : ∃ n : Nat, x = n := ⟨x.toNat, by omega⟩
  rcases (show n = 0 ∨ n = 1 ∨ n = 2 ∨ n = 3 ∨ n = 4 ∨ n = 5 ∨ n = 6 ∨ n = 7 ∨ n = 8 ∨ n = 9 by omega) with rfl | rfl | rfl | rfl | rfl | rfl | rfl | rfl | rfl | rfl <;> kernel_rfl
theorem parse_ld {x : Shw} (hx : Dig x) : parse (ldT x 5 ++ ⟨#[69]⟩) = (ldK x, 0, 0) := by
  have hsz : ¬256 < (ldT x 5 ++ ⟨#[69]⟩ : ByteArray).size := by
    rw [ByteArray.size_append, ldT_size x 5 (by decide)]
    decide
  unfold parse
  rw [if_neg hsz]
  have e : (ldT x 5 ++ ⟨#[69]⟩ : ByteArray).data.toList = (ldB x.s).data.toList ++ UInt8.ofNat (48 + x.a.toNat) :: UInt8.ofNat (48 + x.b.toNat) :: UInt8.ofNat (48 + x.c.toNat) :: UInt8.ofNat (48 + x.d.toNat) :: UInt8.ofNat (48 + x.e.toNat) :: [69] := by
    show (ldB x.s ++ dgT x.a ++ dgT x.b ++ dgT x.c ++ dgT x.d ++ dgT x.e ++ ⟨#[69]⟩ : ByteArray).data.toList = _
    simp only [ByteArray.data_append, Array.toList_append, dg_list hx.a, dg_list hx.b, dg_list hx.c, dg_list hx.d, dg_list hx.e, List.append_assoc, List.cons_append, List.nil_append]
  rw [e]
  have fin : ∀ acc, parseL (UInt8.ofNat (48 + x.a.toNat) :: UInt8.ofNat (48 + x.b.toNat) :: UInt8.ofNat (48 + x.c.toNat) :: UInt8.ofNat (48 + x.d.toNat) :: UInt8.ofNat (48 + x.e.toNat) :: [69]) 8 acc = (acc ++ [x.a + 1, x.b + 1, x.c + 1, x.d + 1, x.e + 1, 15], 0, 0) := fun acc => by
    rw [parse_dig hx.a, parse_dig hx.b, parse_dig hx.c, parse_dig hx.d, parse_dig hx.e]
    simp only [List.append_assoc, List.cons_append, List.nil_append]
    show parseL [69] 13 _ = _
    rw [show ∀ L, parseL [69] 13 L = (L ++ [15], 0, 0) from fun L => by kernel_rfl]
    simp only [List.append_assoc, List.cons_append, List.nil_append]
  rcases hx.s with h | h
  · have h8 : ∀ r : List UInt8, parseL ((ldB 1).data.toList ++ r) 0 [] = parseL r 8 [13, 3, 2, 14, 1, 6, 15, 11] := fun r => by kernel_rfl
    rw [h, h8, fin, ldK, h]
    rfl
  · have h8 : ∀ r : List UInt8, parseL ((ldB 2).data.toList ++ r) 0 [] = parseL r 8 [13, 3, 2, 14, 1, 6, 15, 12] := fun r => by kernel_rfl
    rw [h, h8, fin, ldK, h]
    rfl
theorem ldC_ld (k a n s : Int) (hk : 0 ≤ k ∧ k < 256) : (ldC k a n s).Ld := by
  have u : ∀ x : Int, 0 ≤ IntKind.u64.wrap x := fun x => by rw [IntKind.wrap_u64]; omega
  have ha := u a
  have hn := u n
  have hs := u s
  have e0 : k.tmod 2 = k % 2 := Int.tmod_eq_emod_of_nonneg hk.1
  have e1 : (IntKind.u64.wrap a).tmod 20 = IntKind.u64.wrap a % 20 := Int.tmod_eq_emod_of_nonneg ha
  have e2 : (IntKind.u64.wrap n).tmod 100000 = IntKind.u64.wrap n % 100000 := Int.tmod_eq_emod_of_nonneg hn
  have e3 : (IntKind.u64.wrap s).tmod 41 = IntKind.u64.wrap s % 41 := Int.tmod_eq_emod_of_nonneg hs
  unfold ldC
  generalize IntKind.u64.wrap a = A at *
  generalize IntKind.u64.wrap n = M at *
  generalize IntKind.u64.wrap s = S at *
  rw [e0, e1, e2, e3, wi (x := A % 20) (by omega) (by omega), wi (x := 8 + A % 20) (by omega) (by omega), wi (x := M % 100000) (by omega) (by omega), wi (x := 1 + M % 100000) (by omega) (by omega), wi (x := S % 41) (by omega) (by omega), IntKind.wrap_u8]
  exact ⟨(by omega : (2 + k % 2) % 256 = 2 ∨ (2 + k % 2) % 256 = 3), (by omega : 8 ≤ 8 + A % 20 ∧ 8 + A % 20 ≤ 27), (by omega : 1 ≤ 1 + M % 100000 ∧ 1 + M % 100000 ≤ 100000), (by omega : 0 ≤ S % 41 ∧ S % 41 ≤ 40)⟩
theorem Cmp.Ld.ok {c : Cmp} (h : c.Ld) : c.Ok := by
  obtain ⟨h1, h2, h3, h4⟩ := h
  exact ⟨by omega, by omega, by omega, by omega⟩
theorem ldN_ok {c : Cmp} (h : c.Ld) : (ldN c).OkP := ⟨⟨by show 1 ≤ _; decide, fun i _ => by show 1 * 32 ≤ 140737488355328; decide, fun i _ j _ => h.ok⟩, by show 1 ≤ 1000; decide⟩
theorem ldN_may {c : Cmp} (h : c.Ld) : (ldN c).may = true := by
  have hv := ld_valid h
  have e : (ldN c).may = validC c := by
    obtain ⟨k, a, n, s⟩ := c
    show ((List.range 1).all fun i => goodI _ _ _ i) = _
    simp [goodI, ldN]
  rw [e, hv]
end Go.Proofs
/-! Wc. -/
namespace Go.Proofs
open Go.E
set_option maxRecDepth 8000

abbrev s06 : ByteArray := ⟨#[86, 48, 54, 78, 48, 53, 69]⟩
theorem parse_06 : parse s06 = ([13, 1, 7, 14, 1, 6, 15], 0, 0) := by decide +kernel
theorem ld_mem {f : FuncId} {a b : AVal} {R : AVal → Prop} (h : callP Try.prog f [a, b, ints .u16 z30] R) : callP Try.prog f [a, b, .ro 1 30 fun _ => [.int .u16 0]] R := by
  refine callP_arg (.cons (Eqv.same _) (.cons (Eqv.same _) (.cons (.up (.up (.ro fun i hi => ?_))) .nil))) h
  show _ = [AVal.int _ ((List.replicate 30 0).getD i 0)]
  rw [List.getD_eq_getElem?_getD, List.getElem?_replicate, if_pos hi]
  rfl
theorem Dig.u8 {x : Shw} (h : Dig x) : (0 ≤ x.s ∧ x.s < 256) ∧ ∀ j, j < 5 → 0 ≤ x.f j ∧ x.f j < 256 := by
  obtain ⟨hs, ha, hb, hc, hd, he⟩ := h
  refine ⟨by omega, fun j hj => ?_⟩
  rcases (show j = 0 ∨ j = 1 ∨ j = 2 ∨ j = 3 ∨ j = 4 by omega) with rfl | rfl | rfl | rfl | rfl
  · exact (by omega : 0 ≤ x.a ∧ x.a < 256)
  · exact (by omega : 0 ≤ x.b ∧ x.b < 256)
  · exact (by omega : 0 ≤ x.c ∧ x.c < 256)
  · exact (by omega : 0 ≤ x.d ∧ x.d < 256)
  · exact (by omega : 0 ≤ x.e ∧ x.e < 256)
theorem ld_from {x : Shw} {c : Cmp} (hx : Dig x) (hc : c.Ld) : callP Try.prog 14 [.agg x.L, cA c] (· = .tuple [.int .i64 (fdV x.f x.s c).1, .int .i64 (fdV x.f x.s c).2]) := fromDec_c x.s x.f c hx.u8.1 hx.u8.2 hc.ok
theorem ld_t {c : Cmp} (hc : c.Ld) {x : Shw} (hx : Dig x) : callP Try.prog 13 [ldA c, .str (ldT x 5 ++ ⟨#[69]⟩), .ro 1 30 fun _ => [.int .u16 0]] (· = .tuple [(playV ⟨newP (ldN c), z30, []⟩ (ldK x)).p.A, reqsA (playV ⟨newP (ldN c), z30, []⟩ (ldK x)).rs, ints .u16 (playV ⟨newP (ldN c), z30, []⟩ (ldK x)).l, .bool true]) := by
  have e := typed_ok (ldN c) (ldN_ok hc) (ldN_may hc) (ldT x 5 ++ ⟨#[69]⟩) (by rw [parse_ld hx]) z30 (words_rep 30) (by decide)
  unfold typS at e
  rw [parse_ld hx] at e
  exact ld_mem (ld_head_arg e)
theorem ld_typed_no {c : Cmp} (hc : c.Ld) {x : Shw} (hx : Dig x) (h : (fdV x.f x.s c).2 ≠ 0) : callP Try.prog 13 [ldA c, .str (ldT x 5 ++ ⟨#[69]⟩), .ro 1 30 fun _ => [.int .u16 0]] (· = .tuple [(ldP c x 5 3).A, reqsA [], ints .u16 z30, .bool true]) := by
  have e := ld_t hc hx
  rw [ld_play_no hc hx z30 h] at e
  exact e
def ldW (c : Cmp) (v : Int) : List Int := putV z30 (cellsV c v)
theorem ld_typed {c : Cmp} (hc : c.Ld) {x : Shw} (hx : Dig x) (h : (fdV x.f x.s c).2 = 0) : callP Try.prog 13 [ldA c, .str (ldT x 5 ++ ⟨#[69]⟩), .ro 1 30 fun _ => [.int .u16 0]] (· = .tuple [(ldQ c x).A, reqsA [⟨2, 0, cellsV c (fdV x.f x.s c).1⟩], ints .u16 (ldW c (fdV x.f x.s c).1), .bool true]) := by
  have e := ld_t hc hx
  rw [ld_play hc hx z30 h] at e
  exact e
theorem ld_spec {c : Cmp} (hc : c.Ld) {x : Shw} (h : (fdV x.f x.s c).2 = 0) : ∃ q : Pan, q.D.r0 = shwD (decV (fdV x.f x.s c).1 c) ∧ (ldW c (fdV x.f x.s c).1).length = 30 ∧
    callP Try.prog 15 [cA c, ints .u16 (ldW c (fdV x.f x.s c).1)] (· = .tuple [.int .i64 (fdV x.f x.s c).1, .int .i64 0]) ∧
    callP Try.prog 13 [ldA c, .str s06, ints .u16 (ldW c (fdV x.f x.s c).1)] (· = .tuple [q.A, reqsA [⟨1, 0, []⟩], ints .u16 (ldW c (fdV x.f x.s c).1), .bool true]) := by
  have hin := ld_in h
  generalize (fdV x.f x.s c).1 = v at hin ⊢
  have hl : (ldW c v).length = 30 := (putV_len _ _).trans rfl
  have hw : Words (ldW c v) := putV_words (words_rep 30) fun y hy => by
    have hk := hc.k
    have hb := of_decide_eq_true hin
    unfold cellsV at hy
    rw [if_neg (by omega)] at hy
    split at hy
    · rename_i h2
      obtain rfl := List.mem_singleton.1 hy
      rw [h2] at hb
      have hb : -16383 ≤ v ∧ v ≤ 16383 := hb
      show 0 ≤ wOf v ∧ wOf v < 65536
      unfold wOf; split <;> omega
    · rename_i h2
      have h3 : c.k = 3 := by omega
      rw [h3] at hb
      have hb : Fit v := hb
      rcases List.mem_cons.1 hy with rfl | hy
      · exact hi_w hb
      · obtain rfl := List.mem_singleton.1 hy
        exact lo_w hb
  have e := typed_ok (ldN c) (ldN_ok hc) (ldN_may hc) s06 (by rw [parse_06]) (ldW c v) hw (by rw [hl]; decide)
  unfold typS at e
  rw [parse_06] at e
  dsimp only at e
  rw [ld_again] at e
  have ev := valC_c c hc.ok (ldW c v) (by rw [hl]; decide) hw
  rw [show valV c (ldW c v) = (v, 0) from ld_value hc hin] at ev
  exact ⟨fillV (ldR c) (ldW c v), (ld_r0 c _).trans (by rw [ldW, ld_show hc hin]), hl, ev, ld_head_arg e⟩
theorem eX (x : Shw) : (x.s == x.s && ((x.a == x.a && (x.b == x.b && (x.c == x.c && (x.d == x.d && (x.e == x.e && true))))) && true)) = true := by simp
def ldS (s d0 d1 d2 d3 d4 : Int) : Shw := ⟨s, d0.tmod 10, d1.tmod 10, d2.tmod 10, d3.tmod 10, d4.tmod 10⟩
theorem ldS_dig {s d0 d1 d2 d3 d4 : Int} (hs : s = 1 ∨ s = 2) (h0 : 0 ≤ d0 ∧ d0 < 256) (h1 : 0 ≤ d1 ∧ d1 < 256) (h2 : 0 ≤ d2 ∧ d2 < 256) (h3 : 0 ≤ d3 ∧ d3 < 256) (h4 : 0 ≤ d4 ∧ d4 < 256) : Dig (ldS s d0 d1 d2 d3 d4) := by
  have f : ∀ d : Int, 0 ≤ d → 0 ≤ d.tmod 10 ∧ d.tmod 10 ≤ 9 := fun d h => by rw [Int.tmod_eq_emod_of_nonneg h]; omega
  exact ⟨hs, f d0 h0.1, f d1 h1.1, f d2 h2.1, f d3 h3.1, f d4 h4.1⟩
set_option maxHeartbeats 16000000 in
theorem loads_go (k a n s : Int) (hk : 0 ≤ k ∧ k < 256) (d0 d1 d2 d3 d4 : Int) (h0 : 0 ≤ d0 ∧ d0 < 256) (h1 : 0 ≤ d1 ∧ d1 < 256) (h2 : 0 ≤ d2 ∧ d2 < 256) (h3 : 0 ≤ d3 ∧ d3 < 256) (h4 : 0 ≤ d4 ∧ d4 < 256) (b : Bool) :
    callP Try.prog 4 [.agg [.int .u8 k, .int .i64 a, .int .i64 n, .int .i64 s], .agg [.int .u8 d0, .int .u8 d1, .int .u8 d2, .int .u8 d3, .int .u8 d4], .bool b] (· = .bool true) := by
  have hC := ldC_ld k a n s hk
  refine callE_def env (fn := Try.f4) rfl (by decide) rfl ?_
  repeat refine stp ?_
  cases b with
  | true =>
    repeat refine stp ?_
    refine loop_weak (fun i : Nat => slots 186 [(3, .ptr ⟨0, 0, 0⟩), (4, .ptr ⟨1, 0, 0⟩), (7, .ptr ⟨2, 0, 0⟩), (8, .str (ldT (ldS 2 d0 d1 d2 d3 d4) i)), (9, .int .i64 i)])
      (fun i => [.cells (cmpL (ldC k a n s)), .cells [.int .u8 d0, .int .u8 d1, .int .u8 d2, .int .u8 d3, .int .u8 d4], .cells (ldX (ldS 2 d0 d1 d2 d3 d4) i)])
      (fun i => i ≤ 5) (fun i => 5 - i) 0 (by decide) (weak_keep (keep 186 [3, 4, 7, 8, 9]) [0, 1, 2] rfl rfl rfl) ?_
    intro i hi
    have hsz := ldT_size (ldS 2 d0 d1 d2 d3 d4) i hi
    rcases (show i = 0 ∨ i = 1 ∨ i = 2 ∨ i = 3 ∨ i = 4 ∨ i = 5 by omega) with rfl | rfl | rfl | rfl | rfl | rfl
    · repeat refine stp ?_
      apply choice_l
      refine need_intro (fun _ _ => ⟨_, rfl⟩) ?_
      apply need_intro
      · show (((ldT (ldS 2 d0 d1 d2 d3 d4) 0).size + 1 : Nat) : Int) ≤ 9223372036854775807
        omega
      repeat refine stp ?_
      exact ⟨1, (by decide : 1 ≤ 5), (by decide : 5 - 1 < 5 - 0), weak_keep (keep 186 [3, 4, 7, 8, 9]) [0, 1, 2] rfl rfl rfl⟩
    · repeat refine stp ?_
      apply choice_l
      refine need_intro (fun _ _ => ⟨_, rfl⟩) ?_
      apply need_intro
      · show (((ldT (ldS 2 d0 d1 d2 d3 d4) 1).size + 1 : Nat) : Int) ≤ 9223372036854775807
        omega
      repeat refine stp ?_
      exact ⟨2, (by decide : 2 ≤ 5), (by decide : 5 - 2 < 5 - 1), weak_keep (keep 186 [3, 4, 7, 8, 9]) [0, 1, 2] rfl rfl rfl⟩
    · repeat refine stp ?_
      apply choice_l
      refine need_intro (fun _ _ => ⟨_, rfl⟩) ?_
      apply need_intro
      · show (((ldT (ldS 2 d0 d1 d2 d3 d4) 2).size + 1 : Nat) : Int) ≤ 9223372036854775807
        omega
      repeat refine stp ?_
      exact ⟨3, (by decide : 3 ≤ 5), (by decide : 5 - 3 < 5 - 2), weak_keep (keep 186 [3, 4, 7, 8, 9]) [0, 1, 2] rfl rfl rfl⟩
    · repeat refine stp ?_
      apply choice_l
      refine need_intro (fun _ _ => ⟨_, rfl⟩) ?_
      apply need_intro
      · show (((ldT (ldS 2 d0 d1 d2 d3 d4) 3).size + 1 : Nat) : Int) ≤ 9223372036854775807
        omega
      repeat refine stp ?_
      exact ⟨4, (by decide : 4 ≤ 5), (by decide : 5 - 4 < 5 - 3), weak_keep (keep 186 [3, 4, 7, 8, 9]) [0, 1, 2] rfl rfl rfl⟩
    · repeat refine stp ?_
      apply choice_l
      refine need_intro (fun _ _ => ⟨_, rfl⟩) ?_
      apply need_intro
      · show (((ldT (ldS 2 d0 d1 d2 d3 d4) 4).size + 1 : Nat) : Int) ≤ 9223372036854775807
        omega
      repeat refine stp ?_
      exact ⟨5, (by decide : 5 ≤ 5), (by decide : 5 - 5 < 5 - 4), weak_keep (keep 186 [3, 4, 7, 8, 9]) [0, 1, 2] rfl rfl rfl⟩
    repeat refine stp ?_
    apply choice_l
    repeat refine stp ?_
    apply choice_l
    apply need_intro
    · show (((ldT (ldS 2 d0 d1 d2 d3 d4) 5).size + 1 : Nat) : Int) ≤ 9223372036854775807
      omega
    repeat refine stp ?_
    apply choice_l
    have hX := ldS_dig (s := 2) (by decide) h0 h1 h2 h3 h4
    generalize ldC k a n s = c at hC
    have fc : callP Try.prog 14 [.agg (ldS 2 d0 d1 d2 d3 d4).L, cA c] (· = .tuple [.int .i64 (fdV (ldS 2 d0 d1 d2 d3 d4).f (ldS 2 d0 d1 d2 d3 d4).s c).1, .int .i64 (fdV (ldS 2 d0 d1 d2 d3 d4).f (ldS 2 d0 d1 d2 d3 d4).s c).2]) := ld_from hX hC
    have tn := ld_typed_no (c := c) (x := ldS 2 d0 d1 d2 d3 d4) hC hX
    have ty := ld_typed (c := c) (x := ldS 2 d0 d1 d2 d3 d4) hC hX
    have sp := ld_spec (c := c) (x := ldS 2 d0 d1 d2 d3 d4) hC
    generalize ldS 2 d0 d1 d2 d3 d4 = x at *
    generalize fdV x.f x.s c = F at *
    by_cases hF : F.2 = 0
    rotate_left
    · refine callT_E (tn hF) rfl ?_
      repeat refine stp ?_
      refine callT_E fc rfl ?_
      repeat refine stp ?_
      refine callT_E (show callP Try.prog 12 [(ldP c x 5 3).A] (· = .bool true) from wrong_c (ldP c x 5 3) (show (0 : Int) ≤ 3 ∧ (3 : Int) < 2048 by decide)) rfl ?_
      repeat refine stp ?_
      refine branch_t' (eX x) ?_
      repeat refine stp ?_
      refine callT_E works_c rfl ?_
      repeat refine stp ?_
      show Eqv _ _
      exact .up (.up (.refl _))
    obtain ⟨q, q1, q2, ev, et⟩ := sp hF
    have ed := decimal_c F.1 c hC.ok
    generalize decV F.1 c = V at q1 ed
    refine callT_E (ty hF) rfl ?_
    repeat refine stp ?_
    refine callT_E fc rfl ?_
    repeat refine stp ?_
    refine callT_E ev rfl ?_
    repeat refine stp ?_
    refine callT_E (show callP Try.prog 12 [(ldQ c x).A] (· = .bool false) from wrong_c (ldQ c x) (show (0 : Int) ≤ 0 ∧ (0 : Int) < 2048 by decide)) rfl ?_
    repeat refine stp ?_
    refine callT_E et rfl ?_
    repeat refine stp ?_
    refine callT_E ed rfl ?_
    by_cases hV : V.2.2 = 0
    · rw [shwD, if_pos hV] at q1
      obtain ⟨qN, qst, qvb, qnn, qty, qcnt, qcmp, ql0, ql1, ql2, qact, qan, qav, qaq, qasked, ⟨qp0, qp1, qv0, qv1, qn0, qn1, qr0, qr1, qr2, qli, qs⟩⟩ := q
      obtain rfl : qr0 = _ := q1
      repeat refine stp ?_
      refine callT_E works_c rfl ?_
      repeat refine stp ?_
      show Eqv _ _
      exact .up (.up (.refl _))
    · rw [shwD, if_neg hV] at q1
      obtain ⟨qN, qst, qvb, qnn, qty, qcnt, qcmp, ql0, ql1, ql2, qact, qan, qav, qaq, qasked, ⟨qp0, qp1, qv0, qv1, qn0, qn1, qr0, qr1, qr2, qli, qs⟩⟩ := q
      obtain rfl : qr0 = _ := q1
      repeat refine stp ?_
      refine callT_E clear_d rfl ?_
      repeat refine stp ?_
      refine callT_E works_c rfl ?_
      repeat refine stp ?_
      show Eqv _ _
      exact .up (.up (.refl _))
  | false =>
    repeat refine stp ?_
    refine loop_weak (fun i : Nat => slots 186 [(3, .ptr ⟨0, 0, 0⟩), (4, .ptr ⟨1, 0, 0⟩), (7, .ptr ⟨2, 0, 0⟩), (8, .str (ldT (ldS 1 d0 d1 d2 d3 d4) i)), (9, .int .i64 i)])
      (fun i => [.cells (cmpL (ldC k a n s)), .cells [.int .u8 d0, .int .u8 d1, .int .u8 d2, .int .u8 d3, .int .u8 d4], .cells (ldX (ldS 1 d0 d1 d2 d3 d4) i)])
      (fun i => i ≤ 5) (fun i => 5 - i) 0 (by decide) (weak_keep (keep 186 [3, 4, 7, 8, 9]) [0, 1, 2] rfl rfl rfl) ?_
    intro i hi
    have hsz := ldT_size (ldS 1 d0 d1 d2 d3 d4) i hi
    rcases (show i = 0 ∨ i = 1 ∨ i = 2 ∨ i = 3 ∨ i = 4 ∨ i = 5 by omega) with rfl | rfl | rfl | rfl | rfl | rfl
    · repeat refine stp ?_
      apply choice_l
      refine need_intro (fun _ _ => ⟨_, rfl⟩) ?_
      apply need_intro
      · show (((ldT (ldS 1 d0 d1 d2 d3 d4) 0).size + 1 : Nat) : Int) ≤ 9223372036854775807
        omega
      repeat refine stp ?_
      exact ⟨1, (by decide : 1 ≤ 5), (by decide : 5 - 1 < 5 - 0), weak_keep (keep 186 [3, 4, 7, 8, 9]) [0, 1, 2] rfl rfl rfl⟩
    · repeat refine stp ?_
      apply choice_l
      refine need_intro (fun _ _ => ⟨_, rfl⟩) ?_
      apply need_intro
      · show (((ldT (ldS 1 d0 d1 d2 d3 d4) 1).size + 1 : Nat) : Int) ≤ 9223372036854775807
        omega
      repeat refine stp ?_
      exact ⟨2, (by decide : 2 ≤ 5), (by decide : 5 - 2 < 5 - 1), weak_keep (keep 186 [3, 4, 7, 8, 9]) [0, 1, 2] rfl rfl rfl⟩
    · repeat refine stp ?_
      apply choice_l
      refine need_intro (fun _ _ => ⟨_, rfl⟩) ?_
      apply need_intro
      · show (((ldT (ldS 1 d0 d1 d2 d3 d4) 2).size + 1 : Nat) : Int) ≤ 9223372036854775807
        omega
      repeat refine stp ?_
      exact ⟨3, (by decide : 3 ≤ 5), (by decide : 5 - 3 < 5 - 2), weak_keep (keep 186 [3, 4, 7, 8, 9]) [0, 1, 2] rfl rfl rfl⟩
    · repeat refine stp ?_
      apply choice_l
      refine need_intro (fun _ _ => ⟨_, rfl⟩) ?_
      apply need_intro
      · show (((ldT (ldS 1 d0 d1 d2 d3 d4) 3).size + 1 : Nat) : Int) ≤ 9223372036854775807
        omega
      repeat refine stp ?_
      exact ⟨4, (by decide : 4 ≤ 5), (by decide : 5 - 4 < 5 - 3), weak_keep (keep 186 [3, 4, 7, 8, 9]) [0, 1, 2] rfl rfl rfl⟩
    · repeat refine stp ?_
      apply choice_l
      refine need_intro (fun _ _ => ⟨_, rfl⟩) ?_
      apply need_intro
      · show (((ldT (ldS 1 d0 d1 d2 d3 d4) 4).size + 1 : Nat) : Int) ≤ 9223372036854775807
        omega
      repeat refine stp ?_
      exact ⟨5, (by decide : 5 ≤ 5), (by decide : 5 - 5 < 5 - 4), weak_keep (keep 186 [3, 4, 7, 8, 9]) [0, 1, 2] rfl rfl rfl⟩
    repeat refine stp ?_
    apply choice_l
    repeat refine stp ?_
    apply choice_l
    apply need_intro
    · show (((ldT (ldS 1 d0 d1 d2 d3 d4) 5).size + 1 : Nat) : Int) ≤ 9223372036854775807
      omega
    repeat refine stp ?_
    apply choice_l
    have hX := ldS_dig (s := 1) (by decide) h0 h1 h2 h3 h4
    generalize ldC k a n s = c at hC
    have fc : callP Try.prog 14 [.agg (ldS 1 d0 d1 d2 d3 d4).L, cA c] (· = .tuple [.int .i64 (fdV (ldS 1 d0 d1 d2 d3 d4).f (ldS 1 d0 d1 d2 d3 d4).s c).1, .int .i64 (fdV (ldS 1 d0 d1 d2 d3 d4).f (ldS 1 d0 d1 d2 d3 d4).s c).2]) := ld_from hX hC
    have tn := ld_typed_no (c := c) (x := ldS 1 d0 d1 d2 d3 d4) hC hX
    have ty := ld_typed (c := c) (x := ldS 1 d0 d1 d2 d3 d4) hC hX
    have sp := ld_spec (c := c) (x := ldS 1 d0 d1 d2 d3 d4) hC
    generalize ldS 1 d0 d1 d2 d3 d4 = x at *
    generalize fdV x.f x.s c = F at *
    by_cases hF : F.2 = 0
    rotate_left
    · refine callT_E (tn hF) rfl ?_
      repeat refine stp ?_
      refine callT_E fc rfl ?_
      repeat refine stp ?_
      refine callT_E (show callP Try.prog 12 [(ldP c x 5 3).A] (· = .bool true) from wrong_c (ldP c x 5 3) (show (0 : Int) ≤ 3 ∧ (3 : Int) < 2048 by decide)) rfl ?_
      repeat refine stp ?_
      refine branch_t' (eX x) ?_
      repeat refine stp ?_
      refine callT_E works_c rfl ?_
      repeat refine stp ?_
      show Eqv _ _
      exact .up (.up (.refl _))
    obtain ⟨q, q1, q2, ev, et⟩ := sp hF
    have ed := decimal_c F.1 c hC.ok
    generalize decV F.1 c = V at q1 ed
    refine callT_E (ty hF) rfl ?_
    repeat refine stp ?_
    refine callT_E fc rfl ?_
    repeat refine stp ?_
    refine callT_E ev rfl ?_
    repeat refine stp ?_
    refine callT_E (show callP Try.prog 12 [(ldQ c x).A] (· = .bool false) from wrong_c (ldQ c x) (show (0 : Int) ≤ 0 ∧ (0 : Int) < 2048 by decide)) rfl ?_
    repeat refine stp ?_
    refine callT_E et rfl ?_
    repeat refine stp ?_
    refine callT_E ed rfl ?_
    by_cases hV : V.2.2 = 0
    · rw [shwD, if_pos hV] at q1
      obtain ⟨qN, qst, qvb, qnn, qty, qcnt, qcmp, ql0, ql1, ql2, qact, qan, qav, qaq, qasked, ⟨qp0, qp1, qv0, qv1, qn0, qn1, qr0, qr1, qr2, qli, qs⟩⟩ := q
      obtain rfl : qr0 = _ := q1
      repeat refine stp ?_
      refine callT_E works_c rfl ?_
      repeat refine stp ?_
      show Eqv _ _
      exact .up (.up (.refl _))
    · rw [shwD, if_neg hV] at q1
      obtain ⟨qN, qst, qvb, qnn, qty, qcnt, qcmp, ql0, ql1, ql2, qact, qan, qav, qaq, qasked, ⟨qp0, qp1, qv0, qv1, qn0, qn1, qr0, qr1, qr2, qli, qs⟩⟩ := q
      obtain rfl : qr0 = _ := q1
      repeat refine stp ?_
      refine callT_E clear_d rfl ?_
      repeat refine stp ?_
      refine callT_E works_c rfl ?_
      repeat refine stp ?_
      show Eqv _ _
      exact .up (.up (.refl _))
theorem loads_law (f : Nat → Int) (hf : HasL [.u8, .i64, .i64, .i64] f) (g : Nat → Int) (hg : HasL [.u8, .u8, .u8, .u8, .u8] g) (b : Bool) :
    callP Try.prog 4 [.agg (aggL f [.u8, .i64, .i64, .i64] 0), .agg (aggL g [.u8, .u8, .u8, .u8, .u8] 0), .bool b] (· = .bool true) :=
  loads_go (f 0) (f 1) (f 2) (f 3) (has_u8 (hf 0 (by decide))) (g 0) (g 1) (g 2) (g 3) (g 4) (has_u8 (hg 0 (by decide))) (has_u8 (hg 1 (by decide))) (has_u8 (hg 2 (by decide))) (has_u8 (hg 3 (by decide))) (has_u8 (hg 4 (by decide))) b
end Go.Proofs
