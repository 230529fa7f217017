/- Chapter 30: panels, and what keys do to them, in plain Lean. -/
import Derived.Test.YthedobkhfdpdaaaC9
import Derived.Test.YthedobkhfdpdaaaC8
set_option linter.unusedVariables false
set_option linter.unusedSimpArgs false
namespace Go.Proofs
open Go.E
set_option maxRecDepth 8000
theorem ndS {p K : Prop} (k : K) (h : p := by first | omega | (simp only [List.length_cons, List.length_nil]; decide) | (simp <;> omega)) : need p K := need_intro h k
theorem brD {b : Bool} {T E : Prop} (k : T) (h : b = true := by decide) : branch b T E := by subst h; exact branch_true k
theorem brE {b : Bool} {T E : Prop} (k : E) (h : b = false := by decide) : branch b T E := by subst h; exact branch_false k
structure Shw where
  s : Int
  a : Int
  b : Int
  c : Int
  d : Int
  e : Int
abbrev Shw.L (x : Shw) : List AVal := [.int .u8 x.s, .int .u8 x.a, .int .u8 x.b, .int .u8 x.c, .int .u8 x.d, .int .u8 x.e]
def Shw.f (x : Shw) : Nat → Int
  | 0 => x.a
  | 1 => x.b
  | 2 => x.c
  | 3 => x.d
  | _ => x.e
def z6 : Shw := ⟨0, 0, 0, 0, 0, 0⟩
def bl6 : Shw := ⟨0, 10, 10, 10, 10, 10⟩
def ei6 : Shw := ⟨1, 8, 8, 8, 8, 8⟩
def Shw.set (x : Shw) (i d : Int) : Shw :=
  if i = 0 then { x with a := d } else if i = 1 then { x with b := d } else if i = 2 then { x with c := d } else if i = 3 then { x with d := d } else { x with e := d }
structure Vrb where
  k : Int
  o : Bool
  c0 : Bool
  c1 : Bool
  c2 : Bool
abbrev Vrb.L (v : Vrb) : List AVal := [.int .u8 v.k, .bool v.o, .bool v.c0, .bool v.c1, .bool v.c2]
abbrev Vrb.A (v : Vrb) : AVal := .agg v.L
def Vrb.z : Vrb := ⟨0, false, false, false, false⟩
def Vrb.c (v : Vrb) (i : Int) : Bool := if i = 0 then v.c0 else if i = 1 then v.c1 else v.c2
def Vrb.next (v : Vrb) (i : Int) : Int :=
  if i < 0 ∧ v.c0 = true then 0 else if i < 1 ∧ v.c1 = true then 1 else if i < 2 ∧ v.c2 = true then 2 else 3
def vrb (n : Int) : Vrb :=
  if n = 1 then ⟨1, true, true, false, false⟩ else
  if n = 2 then ⟨1, true, false, true, false⟩ else
  if n = 3 then ⟨1, true, false, false, true⟩ else
  if n = 4 then ⟨1, true, true, true, false⟩ else
  if n = 5 then ⟨1, true, true, true, true⟩ else
  if n = 6 then ⟨1, false, true, true, true⟩ else
  if n = 11 then ⟨2, true, true, false, false⟩ else
  if n = 12 then ⟨2, true, false, true, false⟩ else
  if n = 13 then ⟨2, true, false, false, true⟩ else
  if n = 14 then ⟨2, true, true, true, false⟩ else
  if n = 15 then ⟨2, true, true, true, true⟩ else
  if n = 16 then ⟨2, false, true, true, true⟩ else
  if n = 21 then ⟨3, false, true, false, false⟩ else
  if n = 22 then ⟨3, false, false, true, false⟩ else
  if n = 23 then ⟨3, false, false, false, true⟩ else
  if n = 24 then ⟨3, false, true, true, false⟩ else
  if n = 25 then ⟨3, false, true, true, true⟩ else
  if n = 32 then ⟨4, false, false, false, false⟩ else
  if n = 33 then ⟨5, false, false, false, false⟩ else
  if n = 34 then ⟨6, false, false, false, false⟩ else
  if n = 35 then ⟨7, false, false, false, false⟩ else
  if n = 37 then ⟨8, false, false, false, false⟩ else .z
theorem verbV_vrb (n : Int) : verbV n = ((vrb n).A, decide ((vrb n).k ≠ 0)) := by
  by_cases h1 : n = 1
  · subst h1; rfl
  by_cases h2 : n = 2
  · subst h2; rfl
  by_cases h3 : n = 3
  · subst h3; rfl
  by_cases h4 : n = 4
  · subst h4; rfl
  by_cases h5 : n = 5
  · subst h5; rfl
  by_cases h6 : n = 6
  · subst h6; rfl
  by_cases h11 : n = 11
  · subst h11; rfl
  by_cases h12 : n = 12
  · subst h12; rfl
  by_cases h13 : n = 13
  · subst h13; rfl
  by_cases h14 : n = 14
  · subst h14; rfl
  by_cases h15 : n = 15
  · subst h15; rfl
  by_cases h16 : n = 16
  · subst h16; rfl
  by_cases h21 : n = 21
  · subst h21; rfl
  by_cases h22 : n = 22
  · subst h22; rfl
  by_cases h23 : n = 23
  · subst h23; rfl
  by_cases h24 : n = 24
  · subst h24; rfl
  by_cases h25 : n = 25
  · subst h25; rfl
  by_cases h32 : n = 32
  · subst h32; rfl
  by_cases h33 : n = 33
  · subst h33; rfl
  by_cases h34 : n = 34
  · subst h34; rfl
  by_cases h35 : n = 35
  · subst h35; rfl
  by_cases h37 : n = 37
  · subst h37; rfl
  simp only [verbV, vrb, if_neg h1, if_neg h2, if_neg h3, if_neg h4, if_neg h5, if_neg h6, if_neg h11, if_neg h12, if_neg h13, if_neg h14, if_neg h15, if_neg h16, if_neg h21, if_neg h22, if_neg h23, if_neg h24, if_neg h25, if_neg h32, if_neg h33, if_neg h34, if_neg h35, if_neg h37]
  rfl
structure Dsp where
  p0 : Int
  p1 : Int
  v0 : Int
  v1 : Int
  n0 : Int
  n1 : Int
  r0 : Shw
  r1 : Shw
  r2 : Shw
  li : Int
  st : Int
abbrev Dsp.L (d : Dsp) : List AVal := [.int .u8 d.p0, .int .u8 d.p1, .int .u8 d.v0, .int .u8 d.v1, .int .u8 d.n0, .int .u8 d.n1,
  .int .u8 d.r0.s, .int .u8 d.r0.a, .int .u8 d.r0.b, .int .u8 d.r0.c, .int .u8 d.r0.d, .int .u8 d.r0.e,
  .int .u8 d.r1.s, .int .u8 d.r1.a, .int .u8 d.r1.b, .int .u8 d.r1.c, .int .u8 d.r1.d, .int .u8 d.r1.e,
  .int .u8 d.r2.s, .int .u8 d.r2.a, .int .u8 d.r2.b, .int .u8 d.r2.c, .int .u8 d.r2.d, .int .u8 d.r2.e, .int .u16 d.li, .int .u16 d.st]
abbrev Dsp.A (d : Dsp) : AVal := .agg d.L
def Dsp.f (d : Dsp) : Nat → Int
  | 0 => d.p0 | 1 => d.p1 | 2 => d.v0 | 3 => d.v1 | 4 => d.n0 | 5 => d.n1
  | 6 => d.r0.s | 7 => d.r0.a | 8 => d.r0.b | 9 => d.r0.c | 10 => d.r0.d | 11 => d.r0.e
  | 12 => d.r1.s | 13 => d.r1.a | 14 => d.r1.b | 15 => d.r1.c | 16 => d.r1.d | 17 => d.r1.e
  | 18 => d.r2.s | 19 => d.r2.a | 20 => d.r2.b | 21 => d.r2.c | 22 => d.r2.d | 23 => d.r2.e
  | 24 => d.li | _ => d.st
def Dsp.r (d : Dsp) (i : Int) : Shw := if i = 0 then d.r0 else if i = 1 then d.r1 else d.r2
def Dsp.setR (d : Dsp) (i : Int) (x : Shw) : Dsp := if i = 0 then { d with r0 := x } else if i = 1 then { d with r1 := x } else { d with r2 := x }
def Dsp.clear : Dsp := ⟨10, 10, 10, 10, 10, 10, bl6, bl6, bl6, 0, 0⟩
structure Nns where
  n : Nat
  num : Nat → Int
  m : Nat → Nat
  cm : Nat → Nat → Cmp
abbrev Nns.A (N : Nns) : AVal := .ro 2 N.n (nrow N.num N.m fun i j => cmpL (N.cm i j))
structure Nns.Ok (N : Nns) : Prop where
  n : N.n ≤ 9223372036854775807
  m : ∀ i, i < N.n → N.m i * 32 ≤ 140737488355328
  c : ∀ i, i < N.n → ∀ j, j < N.m i → (N.cm i j).Ok
def Nns.may (N : Nns) : Bool := mayB N.n N.num N.m N.cm
def Nns.find (N : Nns) (x : Int) : Option Nat := (List.range N.n).find? fun i => N.num i == x
structure Pan where
  N : Nns
  st : Int
  vb : Int
  nn : Int
  ty : Shw
  cnt : Int
  cmp : Int
  l0 : Shw
  l1 : Shw
  l2 : Shw
  act : Vrb
  an : Int
  av : Int
  aq : Int
  asked : Bool
  D : Dsp
abbrev Pan.L (p : Pan) : List AVal := [p.N.A, .int .u8 p.st, .int .i64 p.vb, .int .i64 p.nn,
  .int .u8 p.ty.s, .int .u8 p.ty.a, .int .u8 p.ty.b, .int .u8 p.ty.c, .int .u8 p.ty.d, .int .u8 p.ty.e, .int .i64 p.cnt, .int .i64 p.cmp,
  .int .u8 p.l0.s, .int .u8 p.l0.a, .int .u8 p.l0.b, .int .u8 p.l0.c, .int .u8 p.l0.d, .int .u8 p.l0.e,
  .int .u8 p.l1.s, .int .u8 p.l1.a, .int .u8 p.l1.b, .int .u8 p.l1.c, .int .u8 p.l1.d, .int .u8 p.l1.e,
  .int .u8 p.l2.s, .int .u8 p.l2.a, .int .u8 p.l2.b, .int .u8 p.l2.c, .int .u8 p.l2.d, .int .u8 p.l2.e,
  .int .u8 p.act.k, .bool p.act.o, .bool p.act.c0, .bool p.act.c1, .bool p.act.c2, .int .i64 p.an, .int .i64 p.av, .int .i64 p.aq, .bool p.asked,
  .int .u8 p.D.p0, .int .u8 p.D.p1, .int .u8 p.D.v0, .int .u8 p.D.v1, .int .u8 p.D.n0, .int .u8 p.D.n1,
  .int .u8 p.D.r0.s, .int .u8 p.D.r0.a, .int .u8 p.D.r0.b, .int .u8 p.D.r0.c, .int .u8 p.D.r0.d, .int .u8 p.D.r0.e,
  .int .u8 p.D.r1.s, .int .u8 p.D.r1.a, .int .u8 p.D.r1.b, .int .u8 p.D.r1.c, .int .u8 p.D.r1.d, .int .u8 p.D.r1.e,
  .int .u8 p.D.r2.s, .int .u8 p.D.r2.a, .int .u8 p.D.r2.b, .int .u8 p.D.r2.c, .int .u8 p.D.r2.d, .int .u8 p.D.r2.e, .int .u16 p.D.li, .int .u16 p.D.st]
abbrev Pan.A (p : Pan) : AVal := .agg p.L
def Pan.l (p : Pan) (i : Int) : Shw := if i = 0 then p.l0 else if i = 1 then p.l1 else p.l2
def Pan.setL (p : Pan) (i : Int) (x : Shw) : Pan := if i = 0 then { p with l0 := x } else if i = 1 then { p with l1 := x } else { p with l2 := x }
structure Req where
  k : Int
  n : Int
  c : List (Int × Int)
def Req.z : Req := ⟨0, 0, []⟩
def Req.row (c : List (Int × Int)) (i : Nat) : List AVal := [.int .i64 (c.getD i (0, 0)).1, .int .u16 (c.getD i (0, 0)).2]
abbrev Req.L (r : Req) : List AVal := [.int .u8 r.k, .int .i64 r.n, .ro 2 r.c.length (Req.row r.c)]
abbrev Req.A (r : Req) : AVal := .agg r.L
def fits (v : Vrb) (m : Nat) : Bool :=
  decide ((v.k = 1 ∨ v.k = 2) ∧ v.o = false ∨ (v.k = 1 ∨ v.k = 2 ∨ v.k = 3) ∧ (v.c0 = true → 0 < m) ∧ (v.c1 = true → 1 < m) ∧ (v.c2 = true → 2 < m))
def suit (N : Nns) (v n : Int) : Bool := match N.find n with
  | none => false
  | some i => fits (vrb v) (N.m i)
def flash (p : Pan) : Bool := p.asked || p.st == 3 || p.st == 4
def waits (p : Pan) : Bool := p.av != 0 && !p.asked
def lights (p : Pan) : Int := (if flash p = true then 1 else 0) + (if waits p = true then 4 else 0)
def small (n : Int) : Bool := decide (0 ≤ n ∧ n ≤ 99)
def cntd (c n : Int) : Bool := decide (c = 0 ∧ n = 0 ∨ c = 1 ∧ n < 10 ∨ c = 2)
def typed (x : Shw) (c : Int) (i : Nat) : Bool := if (i : Int) < c then decide (x.f i ≤ 9) else decide (x.f i = 10)
def entryV (p : Pan) : Bool :=
  if p.st = 0 then decide (p.cnt = 0)
  else if p.st = 1 then cntd p.cnt p.vb
  else if p.st = 2 ∨ p.st = 4 then cntd p.cnt p.nn
  else if p.st = 3 then suit p.N p.vb p.nn && decide ((vrb p.vb).k = 3) && decide (0 ≤ p.cmp ∧ p.cmp ≤ 2) && (vrb p.vb).c p.cmp && decide (0 ≤ p.cnt ∧ p.cnt ≤ 5) && decide (p.ty.s ≤ 2) &&
    typed p.ty p.cnt 0 && typed p.ty p.cnt 1 && typed p.ty p.cnt 2 && typed p.ty p.cnt 3 && typed p.ty p.cnt 4
  else false
def endV (p : Pan) : Pan := { p with st := 0, cnt := 0, cmp := 0, ty := z6, l0 := z6, l1 := z6, l2 := z6 }
def litV (p : Pan) : Pan := { p with D := { p.D with st := p.D.st - p.D.st % 2 - 4 * (p.D.st / 4 % 2) + lights p } }
def execV (p : Pan) (v n : Int) : Pan × Req :=
  if (vrb v).k = 3 then
    ({ endV p with act := .z, an := 0, st := 3, cmp := (vrb v).next (-1), ty := bl6, D := { p.D with
      r0 := if (vrb v).c0 = true then bl6 else p.D.r0, r1 := if (vrb v).c1 = true then bl6 else p.D.r1, r2 := if (vrb v).c2 = true then bl6 else p.D.r2 } }, .z)
  else ({ endV p with act := vrb v, an := n, D := { p.D with r0 := bl6, r1 := bl6, r2 := bl6 } }, ⟨1, 0, []⟩)
def askV (p : Pan) : Pan × Req :=
  execV { p with vb := p.av, nn := p.aq, asked := true, D := { p.D with v0 := p.av / 10, v1 := p.av % 10, n0 := p.aq / 10, n1 := p.aq % 10 } } p.av p.aq
def answV (p : Pan) (k : Int) : Pan × Req := (endV { p with av := 0, aq := 0, asked := false }, ⟨k, 0, []⟩)
def compV (p : Pan) : Cmp := match p.N.find p.nn with
  | some i => p.N.cm i p.cmp.toNat
  | none => ⟨0, 0, 0, 0⟩
def beginV (p : Pan) (s : Int) : Pan :=
  if s = 1 then { endV p with st := 1, asked := false, vb := 0, D := { p.D with v0 := 10, v1 := 10 } }
  else { endV p with st := s, asked := false, nn := 0, D := { p.D with n0 := 10, n1 := 10 } }
def digitV (p : Pan) (d : Int) : Option Pan :=
  if p.st = 0 then none
  else if p.st = 3 then
    if p.cnt = 5 ∨ (compV p).k = 1 ∧ (p.ty.s ≠ 0 ∨ d > 7) ∨ (compV p).k ≠ 1 ∧ p.ty.s = 0 then none
    else some { p with ty := p.ty.set p.cnt d, D := p.D.setR p.cmp (p.ty.set p.cnt d), cnt := p.cnt + 1 }
  else if p.cnt = 2 then none
  else if p.st = 1 then some { p with vb := 10 * p.vb + d, D := if p.cnt = 0 then { p.D with v0 := d } else { p.D with v1 := d }, cnt := p.cnt + 1 }
  else some { p with nn := 10 * p.nn + d, D := if p.cnt = 0 then { p.D with n0 := d } else { p.D with n1 := d }, cnt := p.cnt + 1 }
def signV (p : Pan) (s : Int) : Option Pan :=
  if p.st ≠ 3 ∨ p.cnt ≠ 0 ∨ p.ty.s ≠ 0 ∨ (compV p).k = 1 then none
  else some { p with ty := { p.ty with s := s }, D := p.D.setR p.cmp { p.ty with s := s } }
def clearV (p : Pan) : Option Pan :=
  if p.st = 0 then none
  else if p.st = 3 then some { p with cnt := 0, ty := bl6, D := p.D.setR p.cmp bl6 }
  else if p.st = 1 then some { p with cnt := 0, vb := 0, D := { p.D with v0 := 10, v1 := 10 } }
  else some { p with cnt := 0, nn := 0, D := { p.D with n0 := 10, n1 := 10 } }
def entV (x : Shw) (c : Int) (k : Cmp) : Option Int :=
  if k.k = 1 then (if (foV x.f x.s c).2 = 0 then some (foV x.f x.s c).1 else none)
  else if (fdV x.f x.s k).2 = 0 ∧ c = 5 then some (fdV x.f x.s k).1 else none
def octS (v : Int) : Shw := ⟨0, digF 8 (v % 32768) 0, digF 8 (v % 32768) 1, digF 8 (v % 32768) 2, digF 8 (v % 32768) 3, digF 8 (v % 32768) 4⟩
def cellsV (c : Cmp) (v : Int) : List (Int × Int) :=
  if c.k = 1 then [(c.a, IntKind.u16.wrap v)] else if c.k = 2 then [(c.a, wOf v)] else [(c.a, hiD v), (c.a + 1, loD v)]
def oneV (b : Bool) (x : Shw) (c : Cmp) : Option (List (Int × Int)) :=
  if b = true then (match entV x 5 c with
    | some v => some (cellsV c v)
    | none => none) else some []
def loadV (p : Pan) : Option (Pan × Req) :=
  match entV p.ty p.cnt (compV p), p.N.find p.nn with
  | some v, some i =>
    let q := p.setL p.cmp (if (compV p).k = 1 then octS v else p.ty)
    let w := vrb p.vb
    if w.next p.cmp < 3 then some ({ q with cmp := w.next p.cmp, cnt := 0, ty := bl6 }, .z)
    else match oneV w.c0 q.l0 (p.N.cm i 0), oneV w.c1 q.l1 (p.N.cm i 1), oneV w.c2 q.l2 (p.N.cm i 2) with
      | some a, some b, some c => some ({ endV p with av := if p.asked = true then 0 else p.av, aq := if p.asked = true then 0 else p.aq, asked := false }, ⟨2, 0, a ++ b ++ c⟩)
      | _, _, _ => none
  | _, _ => none
def enterV (p : Pan) : Option (Pan × Req) :=
  if p.st = 3 then loadV p
  else if p.st ≠ 0 ∧ p.cnt ≠ 2 then none
  else if p.st = 4 then some ({ endV p with nn := 0, D := { p.D with n0 := 10, n1 := 10 } }, ⟨3, p.nn, []⟩)
  else
    let k := (vrb p.vb).k
    if k = 1 ∨ k = 2 ∨ k = 3 then (if suit p.N p.vb p.nn = true then some (execV { p with asked := false } p.vb p.nn) else none)
    else if k = 4 then (if p.av = 0 then none else some (answV p 6))
    else if k = 5 then (if p.av = 0 then none else some (answV p 4))
    else if k = 6 then (if p.av = 0 then none else some (answV p 5))
    else if k = 7 then some ({ endV p with act := .z, an := 0, D := { p.D with r0 := ei6, r1 := ei6, r2 := ei6, li := 2047 } }, .z)
    else if k = 8 then some (beginV p 4, .z)
    else none
def resetV (s : Int) : Int := s - 2 * (s / 2 % 2) - 32 * (s / 32 % 2) - 64 * (s / 64 % 2)
def keyV (p : Pan) (k : Int) : Option (Pan × Req) :=
  if k ≤ 10 then (digitV p (k - 1)).map fun q => (q, .z)
  else if k ≤ 12 then (signV p (k - 10)).map fun q => (q, .z)
  else if k ≤ 14 then (if p.cnt = 1 ∧ (p.st = 1 ∨ p.st = 2) then none else some (beginV p (k - 12), .z))
  else if k = 15 then enterV p
  else if k = 16 then (clearV p).map fun q => (q, .z)
  else if k = 17 then (if p.av = 0 ∨ p.asked = true then none else some (askV p))
  else if k = 18 then some ({ p with D := { p.D with st := resetV p.D.st, li := 0 } }, .z)
  else if p.asked = true ∧ p.av ≠ 0 then some (answV p 4) else none
def wrongV (p : Pan) : Pan := { p with D := { p.D with st := p.D.st - 2 * (p.D.st / 2 % 2) + 2 } }
def pressV (p : Pan) (k : Int) : Pan × Req := match keyV p k with
  | some (q, r) => (litV q, r)
  | none => (litV (wrongV p), .z)
end Go.Proofs
