/- Chapter 30: the law Asks. -/
import Derived.Test.YtblgcojannjmcaaC44
set_option linter.unusedVariables false
set_option linter.unusedSimpArgs false
/-! Xa. -/
namespace Go.Proofs
open Go.E
set_option maxRecDepth 8000

theorem tmod4 {a : Int} (h : 0 ≤ a) : a.tmod 4 = 0 ∨ a.tmod 4 = 1 ∨ a.tmod 4 = 2 ∨ a.tmod 4 = 3 := by
  rw [Int.tmod_eq_emod_of_nonneg h]
  omega
def A0 : Pan := newP tabN
def A1 : Pan := (pressV A0 13).1
def A2 (v : Int) : Pan := (askP A1 v 20).1
def A3 (v : Int) : Pan := (pressV (A2 v) 17).1
def aV (i : Int) : Int := if i = 0 then 6 else if i = 1 then 16 else if i = 2 then 21 else 1
theorem A_f : ∀ i : Fin 4, let v := aV i; suit A1.N v 20 = true ∧ (askP A1 v 20).2.k = 0 ∧ (askP A1 v 20).2.c = [] ∧ (A2 v).D.st / 4 % 2 = 1 ∧ (A2 v).D.st % 2 = 0 ∧ (A2 v).st = 1 ∧ (A2 v).D.st < 2048 ∧ 0 ≤ (A2 v).D.st ∧
    (A3 v).D.st / 4 % 2 = 0 ∧ (A3 v).D.st % 2 = 1 ∧ (A3 v).asked = true ∧ (A3 v).vb = v ∧ (A3 v).nn = 20 ∧ (pressV (A2 v) 17).2.k = (if v = 21 then 0 else 1) ∧ (A3 v).D.st < 2048 ∧ 0 ≤ (A3 v).D.st := by decide +kernel
def bT (j : Int) : ByteArray := if j = 0 then ⟨#[80]⟩ else if j = 1 then ⟨#[86, 51, 52, 69]⟩ else if j = 2 then ⟨#[86, 51, 50, 69]⟩ else ⟨#[86, 51, 51, 69]⟩
def bK (j : Int) : Int := if j = 0 then 4 else if j = 1 then 5 else if j = 2 then 6 else 4
def B1 (v j : Int) : PlS := playV ⟨A3 v, [], []⟩ (parse (bT j)).1
def B2 (v j : Int) : PlS := playV ⟨(B1 v j).p, [], []⟩ (parse (bT j)).1
theorem B_p : ∀ j : Fin 4, (parse (bT j)).2 = (0, 0) := by decide +kernel
theorem B_f : ∀ i j : Fin 4, let v := aV i; rsL (B1 v j).rs = [(bK j, 0, [])] ∧ (B1 v j).p.av = 0 ∧ (B1 v j).p.asked = false ∧ (B1 v j).p.D.st % 2 = 0 ∧ (B1 v j).p.D.st / 4 % 2 = 0 ∧ 0 ≤ (B1 v j).p.D.st ∧ (B1 v j).p.D.st < 2048 ∧
    rsL (B2 v j).rs = [] ∧ (B2 v j).p.D.st / 2 % 2 = 1 ∧ 0 ≤ (B2 v j).p.D.st ∧ (B2 v j).p.D.st < 2048 := by decide +kernel
def cT : ByteArray := ⟨#[43, 48, 48, 49, 48, 48, 69]⟩
def C1 : PlS := playV ⟨A3 21, [], []⟩ (parse cT).1
theorem C_f : (parse cT).2 = (0, 0) ∧ C1.rs.length = 1 ∧ (C1.rs.getD 0 .z).k = 2 ∧ C1.p.av = 0 ∧ C1.p.D.st % 2 = 0 ∧ 0 ≤ C1.p.D.st ∧ C1.p.D.st < 2048 := by decide +kernel
end Go.Proofs
/-! Xb. -/
namespace Go.Proofs
open Go.E
set_option maxRecDepth 8000

structure AF (v : Int) : Prop where
  s : suit A1.N v 20 = true
  k : (askP A1 v 20).2.k = 0
  a1 : (A2 v).D.st / 4 % 2 = 1
  a2 : (A2 v).D.st % 2 = 0
  a3 : (A2 v).st = 1
  a4 : 0 ≤ (A2 v).D.st ∧ (A2 v).D.st < 2048
  b1 : (A3 v).D.st / 4 % 2 = 0
  b2 : (A3 v).D.st % 2 = 1
  b3 : (A3 v).asked = true
  b4 : (A3 v).vb = v
  b5 : (A3 v).nn = 20
  b6 : (pressV (A2 v) 17).2.k = if v = 21 then 0 else 1
  b7 : 0 ≤ (A3 v).D.st ∧ (A3 v).D.st < 2048
structure BF (v j : Int) : Prop where
  r : rsL (B1 v j).rs = [(bK j, 0, [])]
  a : (B1 v j).p.av = 0
  k : (B1 v j).p.asked = false
  f : (B1 v j).p.D.st % 2 = 0
  w : (B1 v j).p.D.st / 4 % 2 = 0
  b : 0 ≤ (B1 v j).p.D.st ∧ (B1 v j).p.D.st < 2048
  r2 : rsL (B2 v j).rs = []
  w2 : (B2 v j).p.D.st / 2 % 2 = 1
  b2 : 0 ≤ (B2 v j).p.D.st ∧ (B2 v j).p.D.st < 2048
theorem af (i : Fin 4) : AF (aV i) := by
  have h := A_f i
  dsimp only at h
  obtain ⟨h1, h2, _, h3, h4, h5, h6, h7, h8, h9, h10, h11, h12, h13, h14, h15⟩ := h
  exact ⟨h1, h2, h3, h4, h5, ⟨h7, h6⟩, h8, h9, h10, h11, h12, h13, ⟨h15, h14⟩⟩
theorem bf (i j : Fin 4) : BF (aV i) j := by
  have h := B_f i j
  dsimp only at h
  obtain ⟨h1, h2, h3, h4, h5, h6, h7, h8, h9, h10, h11⟩ := h
  exact ⟨h1, h2, h3, h4, h5, ⟨h6, h7⟩, h8, h9, ⟨h10, h11⟩⟩
theorem fin4 {x : Int} (h : x = 0 ∨ x = 1 ∨ x = 2 ∨ x = 3) : ∃ i : Fin 4, x = i := by
  rcases h with h | h | h | h
  · exact ⟨0, h⟩
  · exact ⟨1, h⟩
  · exact ⟨2, h⟩
  · exact ⟨3, h⟩
theorem A0_good : Good A0 := new_good tabN tab_ok tab_may
theorem A1_good : Good A1 := (press_good A0 13 A0_good rfl).1
theorem A2_good {v : Int} (h : AF v) : Good (A2 v) := (ask_good A1_good h.s).1
theorem A3_good {v : Int} (h : AF v) : Good (A3 v) := (press_good (A2 v) 17 (A2_good h) rfl).1
theorem play_t (p : Pan) (hp : Good p) (t : ByteArray) (l : List (Int × Int × List (Int × Int))) (h : rsL (playV ⟨p, [], []⟩ (parse t).1).rs = l) :
    callP Try.prog 23 [p.A, ints .u8 (parse t).1, .nilslice] (· = .tuple [(playV ⟨p, [], []⟩ (parse t).1).p.A, reqsA (l.map fun x => ⟨x.1, x.2.1, x.2.2⟩), ints .u16 (playV ⟨p, [], []⟩ (parse t).1).l, .int .i64 0]) := by
  have e := play_c p hp (parse t).1 [] (parse_key t) (by have := parse_len t; omega) (fun x hx => by cases hx) (by decide)
  rw [rs_eq h] at e
  exact callP_arg (.cons (Eqv.same _) (.cons (Eqv.same _) (.cons (.up (.up (.nil 1 _))) .nil))) e
theorem parse_t (t : ByteArray) (h : (parse t).2 = (0, 0)) : callP Try.prog 22 [.str t] (· = .tuple [ints .u8 (parse t).1, .int .i64 0, .int .i64 0]) := by
  have e := parse_c t
  unfold parseV at e
  rw [h] at e
  exact e
end Go.Proofs
