/- Chapter 30: the law Refuses, plain: what a refused key changes. -/
import Derived.Test.YtblgcojannjmcaaC44
import Derived.Test.YtblgcojannjmcaaE5
import Derived.Test.YtblgcojannjmcaaC48
set_option linter.unusedVariables false
set_option linter.unusedSimpArgs false
/-! Ya. -/
namespace Go.Proofs
open Go.E
set_option maxRecDepth 8000

/-- The first nouns. -/
def capN (c n : Nat) : Nat := Int.toNat (if (c : Int) < (n : Int) then (c : Int) else (n : Int)) - 0
theorem capN_le (c n : Nat) : capN c n ≤ n ∧ capN c n ≤ c := by
  unfold capN
  split <;> omega
def Nns.cut (N : Nns) (c : Nat) : Nns := ⟨capN c N.n, fun i => N.num (0 + i), fun i => N.m (0 + i), fun i j => N.cm (0 + i) j⟩
theorem Nns.Ok.cut {N : Nns} (h : N.Ok) : (N.cut 20).OkP := by
  have hc := capN_le 20 N.n
  exact ⟨⟨by have := h.n; show capN 20 N.n ≤ _; omega, fun i (hi : i < capN 20 N.n) => h.m (0 + i) (by omega), fun i (hi : i < capN 20 N.n) j hj => h.c (0 + i) (by omega) j hj⟩, by show capN 20 N.n ≤ 1000; omega⟩
theorem capN_i (c n : Nat) : 0 ≤ (if (c : Int) < (n : Int) then (c : Int) else (n : Int)) ∧ (if (c : Int) < (n : Int) then (c : Int) else (n : Int)) ≤ n := by
  split <;> omega
theorem eqv_take {kk : IntKind} {l : List Int} {m : Nat} (h : m ≤ l.length) : Eqv (.ro 1 m (fun i => irow kk l (0 + i))) (ints kk (l.take m)) := by
  refine eqv_part (by simp; omega) fun i hi => ?_
  have : i < m := by omega
  simp [irow, List.getElem?_take, this]
theorem getD_mem {l : List Int} {i : Nat} (h : i < l.length) : l.getD i 0 ∈ l := by
  rw [List.getD_eq_getElem?_getD, List.getElem?_eq_getElem h]
  exact List.getElem_mem _
end Go.Proofs
/-! Yb. -/
namespace Go.Proofs
open Go.E
set_option maxRecDepth 8000

end Go.Proofs
/-! Yc. -/
namespace Go.Proofs
open Go.E
set_option maxRecDepth 8000

theorem cmp_of {f : Nat → Int} (h : HasL [.u8, .i64, .i64, .i64] f) : Cmp.Ok ⟨f 0, f 1, f 2, f 3⟩ :=
  ⟨has_u8 (h 0 (by decide)), has_i64 (h 1 (by decide)), has_i64 (h 2 (by decide)), has_i64 (h 3 (by decide))⟩
def argN (n : Nat) (num : Nat → Int) (m : Nat → Nat) (D : Nat → Nat → Nat → Int) : Nns := ⟨n, num, m, fun i j => ⟨D i j 0, D i j 1, D i j 2, D i j 3⟩⟩
theorem argN_ok {n : Nat} {num : Nat → Int} {m : Nat → Nat} {D : Nat → Nat → Nat → Int} (hn : n ≤ maxLen)
    (hw : ∀ i, i < n → IntKind.i64.has (num i) ∧ m i ≤ maxLen ∧ ∀ j, j < m i → HasL [.u8, .i64, .i64, .i64] (D i j)) (hm : ∀ i, i < n → m i * 32 ≤ 140737488355328) : (argN n num m D).Ok :=
  ⟨hn, hm, fun i hi j hj => cmp_of ((hw i hi).2.2 j hj)⟩
end Go.Proofs
/-! Xd. -/
namespace Go.Proofs
open Go.E
set_option maxRecDepth 8000

theorem Dsp.G.rl {d : Dsp} (h : d.G) : Rl.Good d.f := by
  obtain ⟨h0, h1, h2, h3, h4, h5, ⟨a0, a1, a2, a3, a4, a5⟩, ⟨b0, b1, b2, b3, b4, b5⟩, ⟨c0, c1, c2, c3, c4, c5⟩, hl, hs⟩ := h
  have f : ∀ {x : Int}, 0 ≤ x ∧ x ≤ 10 → 0 ≤ x ∧ x < 11 := fun h => by omega
  have g : ∀ {x : Int}, 0 ≤ x ∧ x ≤ 2 → 0 ≤ x ∧ x < 3 := fun h => by omega
  intro j hj
  match j, hj with
  | 0, _ => exact f h0
  | 1, _ => exact f h1
  | 2, _ => exact f h2
  | 3, _ => exact f h3
  | 4, _ => exact f h4
  | 5, _ => exact f h5
  | 6, _ => exact g a0
  | 7, _ => exact f a1
  | 8, _ => exact f a2
  | 9, _ => exact f a3
  | 10, _ => exact f a4
  | 11, _ => exact f a5
  | 12, _ => exact g b0
  | 13, _ => exact f b1
  | 14, _ => exact f b2
  | 15, _ => exact f b3
  | 16, _ => exact f b4
  | 17, _ => exact f b5
  | 18, _ => exact g c0
  | 19, _ => exact f c1
  | 20, _ => exact f c2
  | 21, _ => exact f c3
  | 22, _ => exact f c4
  | 23, _ => exact f c5
  | 24, _ => exact hl
  | 25, _ => exact hs
  | j + 26, hj => omega
def wordsD (d : Dsp) : List Int := Rl.wordsN d.f 13
theorem words_d {d : Dsp} (h : d.G) : callP Try.prog 30 [d.A] (· = ints .u16 (wordsD d)) := Rl.words_c h.rl
theorem words_at (d : Dsp) {j : Nat} (hj : j < 13) : (wordsD d).getD j 0 = Rl.rowW d.f (j + 1) := by
  rw [List.getD_eq_getElem?_getD, wordsD, Rl.wordsN_get d.f hj]
  rfl
theorem show_d {d : Dsp} (h : d.G) : callP Try.prog 29 [ints .u16 (wordsD d)] (· = .tuple [d.A, .int .i64 0, .int .i64 0]) := by
  have hg := h.rl
  have hl : (wordsD d).length = 13 := Rl.wordsN_len d.f 13
  have e := Rl.show_ok (l := wordsD d) (fun x hx => by
    obtain ⟨j, hj, rfl⟩ := List.getElem_of_mem hx
    rw [hl] at hj
    have e := words_at d hj
    rw [List.getD_eq_getElem?_getD, List.getElem?_eq_getElem (by omega), Option.getD_some] at e
    rw [e]
    exact (Rl.row_word hg (by omega) (by omega)).1) (by rw [hl]; decide) (fun j hj => by
    rw [hl] at hj
    rw [words_at d hj]
    exact (Rl.row_word hg (by omega) (by omega)).2.2.1)
  rw [hl] at e
  rw [show Rl.dispA (Rl.foldD Rl.blankD (wordsD d) 13) = d.A from Rl.disp_congr fun j hj => (Rl.words_fold Rl.blank_good hg 13 (by decide) j hj).trans (Rl.mid_all hj)] at e
  exact e
/-- The lights, as functions of the panel. -/
theorem flashes_g {p : Pan} (h : Good p) : callP Try.prog 21 [p.A] (· = .bool (flash p)) := by
  have e := flashes_c p h.pre.D.st
  rw [h.may.fl] at e
  cases hf : flash p <;> rw [hf] at e <;> exact e
theorem free_g {p : Pan} (h : Good p) : callP Try.prog 20 [p.A] (· = .bool (waits p)) := by
  have e := free_c p h.pre.D.st
  rw [h.may.wt] at e
  cases hf : waits p <;> rw [hf] at e <;> exact e
theorem may_g {p : Pan} (h : Good p) : callP Try.prog 26 [p.A] (· = .bool true) := by
  have e := pmay_c p h.ok
  rw [(may_iff p).2 h.may] at e
  exact e
end Go.Proofs
