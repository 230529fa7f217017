/- Chapter 30: Fill. -/
import Derived.Test.YthedobkhfdpdaaaC37
set_option linter.unusedVariables false
set_option linter.unusedSimpArgs false
namespace Go.Proofs
open Go.E
set_option maxRecDepth 8000
def regS (p : Pan) (l : List Int) (j : Nat) : Shw :=
  match p.N.find p.an with
  | none => bl6
  | some i => if j < p.N.m i ∧ p.act.c j = true ∧ (showV (p.N.cm i j) l p.act.o).2.2 = 0 then
      ⟨(showV (p.N.cm i j) l p.act.o).1, (showV (p.N.cm i j) l p.act.o).2.1 0, (showV (p.N.cm i j) l p.act.o).2.1 1, (showV (p.N.cm i j) l p.act.o).2.1 2, (showV (p.N.cm i j) l p.act.o).2.1 3, (showV (p.N.cm i j) l p.act.o).2.1 4⟩
    else bl6
def fillS (p : Pan) (l : List Int) (n : Nat) : Pan :=
  { p with D := { p.D with r0 := if 0 < n then regS p l 0 else bl6, r1 := if 1 < n then regS p l 1 else bl6, r2 := if 2 < n then regS p l 2 else bl6 } }
def fillV (p : Pan) (l : List Int) : Pan :=
  if p.act.k = 0 then p else if p.act.k = 1 then { fillS p l 3 with act := .z, an := 0 } else fillS p l 3
theorem fill_none {p : Pan} {l : List Int} (h : p.N.find p.an = none) (n : Nat) : fillS p l n = { p with D := { p.D with r0 := bl6, r1 := bl6, r2 := bl6 } } := by
  simp only [fillS, regS, h, ite_self]
theorem fill_0 (p : Pan) (hp : p.Ok) (hm : mayV p = true) (l : List Int) (h : p.act.k = 0) : callN Try.prog 22 [p.A, .slice ⟨0, 0, 0⟩ l.length] [.ints .u16 l] fun v H' => v = (fillV p l).A ∧ H' = [.ints .u16 l] := by
  have em := pmay_c p hp
  rw [hm] at em
  have eo := own_c p hp.N
  rw [fillV, if_pos h]
  refine callN_end [0] ?_
  refine callN_def env (fn := Try.f22) 1 rfl rfl (by decide) ?_
  repeat refine stp ?_
  refine callT_E em rfl ?_
  repeat refine stp ?_
  refine callT_E eo rfl ?_
  repeat refine stp ?_
  exact ⟨rfl, Eqv.same _, EqvH.refl _⟩
theorem fill_no (p : Pan) (hp : p.Ok) (hm : mayV p = true) (l : List Int) (h : p.act.k ≠ 0) (hf : p.N.find p.an = none) : callN Try.prog 22 [p.A, .slice ⟨0, 0, 0⟩ l.length] [.ints .u16 l] fun v H' => v = (fillV p l).A ∧ H' = [.ints .u16 l] := by
  have em := pmay_c p hp
  rw [hm] at em
  have eo := own_c p hp.N
  rw [fillV, if_neg h, fill_none hf]
  by_cases h1 : p.act.k = 1
  · rw [if_pos h1]
    refine callN_end [0] ?_
    refine callN_def env (fn := Try.f22) 1 rfl rfl (by decide) ?_
    repeat refine stp ?_
    refine callT_E em rfl ?_
    repeat refine stp ?_
    refine callT_E eo rfl ?_
    repeat refine stp ?_
    refine callT_E (find_none hp.N.toOk hf) rfl ?_
    repeat refine stp ?_
    refine callT_E clear_d rfl ?_
    repeat (first | refine stp ?_ | refine loop_unr 1 ?_)
    exact ⟨rfl, Eqv.same _, EqvH.refl _⟩
  · rw [if_neg h1]
    refine callN_end [0] ?_
    refine callN_def env (fn := Try.f22) 1 rfl rfl (by decide) ?_
    repeat refine stp ?_
    refine callT_E em rfl ?_
    repeat refine stp ?_
    refine callT_E eo rfl ?_
    repeat refine stp ?_
    refine callT_E (find_none hp.N.toOk hf) rfl ?_
    repeat refine stp ?_
    refine callT_E clear_d rfl ?_
    repeat (first | refine stp ?_ | refine loop_unr 1 ?_)
    exact ⟨rfl, Eqv.same _, EqvH.refl _⟩
theorem reg_t {p : Pan} {l : List Int} {i j : Nat} (hf : p.N.find p.an = some i) (hj : j < p.N.m i) (hc : p.act.c j = true) (he : (showV (p.N.cm i j) l p.act.o).2.2 = 0) :
    regS p l j = ⟨(showV (p.N.cm i j) l p.act.o).1, (showV (p.N.cm i j) l p.act.o).2.1 0, (showV (p.N.cm i j) l p.act.o).2.1 1, (showV (p.N.cm i j) l p.act.o).2.1 2, (showV (p.N.cm i j) l p.act.o).2.1 3, (showV (p.N.cm i j) l p.act.o).2.1 4⟩ := by
  unfold regS
  rw [hf]
  exact if_pos ⟨hj, hc, he⟩
theorem reg_f {p : Pan} {l : List Int} {i j : Nat} (hf : p.N.find p.an = some i) (h : ¬(j < p.N.m i ∧ p.act.c j = true ∧ (showV (p.N.cm i j) l p.act.o).2.2 = 0)) : regS p l j = bl6 := by
  unfold regS
  rw [hf]
  exact if_neg h
theorem fill_3 {p : Pan} {l : List Int} {i : Nat} (hf : p.N.find p.an = some i) (hm : p.N.m i ≤ 3) : fillS p l 3 = fillS p l (p.N.m i) := by
  unfold fillS
  have h : ∀ j : Nat, j < 3 → (if j < 3 then regS p l j else bl6) = if j < p.N.m i then regS p l j else bl6 := fun j hj => by
    rw [if_pos hj]
    by_cases h : j < p.N.m i
    · rw [if_pos h]
    · rw [if_neg h, reg_f hf (fun a => h a.1)]
  rw [h 0 (by decide), h 1 (by decide), h 2 (by decide)]
theorem fill_skip {p : Pan} {l : List Int} {n : Nat} (hn : n < 3) (h : regS p l n = bl6) : fillS p l (n + 1) = fillS p l n := by
  rcases (show n = 0 ∨ n = 1 ∨ n = 2 by omega) with rfl | rfl | rfl
  · simp only [fillS, h]; rfl
  · simp only [fillS, h]; rfl
  · simp only [fillS, h]; rfl
theorem fill_s0 (p : Pan) (l : List Int) : fillS p l 1 = { fillS p l 0 with D := { (fillS p l 0).D with r0 := regS p l 0 } } := rfl
theorem fill_s1 (p : Pan) (l : List Int) : fillS p l 2 = { fillS p l 1 with D := { (fillS p l 1).D with r1 := regS p l 1 } } := rfl
theorem fill_s2 (p : Pan) (l : List Int) : fillS p l 3 = { fillS p l 2 with D := { (fillS p l 2).D with r2 := regS p l 2 } } := rfl
set_option maxHeartbeats 8000000 in
theorem fill_some (p : Pan) (hp : p.Ok) (hm : mayV p = true) (l : List Int) (hl : Words l) (hlen : l.length ≤ 9223372036854775807) (h : p.act.k ≠ 0) (i : Nat) (hf : p.N.find p.an = some i) : callN Try.prog 22 [p.A, .slice ⟨0, 0, 0⟩ l.length] [.ints .u16 l] fun v H' => v = (fillV p l).A ∧ H' = [.ints .u16 l] := by
  have em := pmay_c p hp
  have hM := (may_iff p).1 hm
  rw [hm] at em
  have eo := own_c p hp.N
  obtain ⟨hi, hnum⟩ := find_lt hf
  have hm3 := (may_good hM.N hi).1.2.2.2
  have hok := hp.N.c i hi
  refine callN_end [0] ?_
  refine callN_def env (fn := Try.f22) 1 rfl rfl (by decide) ?_
  repeat refine stp ?_
  refine callT_E em rfl ?_
  repeat refine stp ?_
  refine callT_E eo rfl ?_
  repeat refine stp ?_
  refine callT_E (find_some hp.N.toOk hf) rfl ?_
  repeat refine stp ?_
  refine callT_E clear_d rfl ?_
  repeat refine stp ?_
  refine loop_weak (fun s : Nat => slots 73 [(1, .slice ⟨0, 0, 0⟩ l.length), (2, .ptr ⟨1, 0, 0⟩), (4, .ptr ⟨2, 0, 0⟩), (35, .ro 4 (p.N.m i) (fun j => cmpL (p.N.cm i j))), (36, .int .i64 (p.N.m i)), (37, .int .i64 s)]) (fun s => [.ints .u16 l, .cells (fillS p l s).L, .cells zL])
    (fun s => s ≤ p.N.m i) (fun s => p.N.m i - s) 0 (Nat.zero_le _) (weak_keep (keep 73 [1, 2, 4, 35, 36, 37]) [0, 1, 2] rfl rfl rfl) ?_
  intro s hs
  by_cases hlt : s < p.N.m i
  rotate_left
  · have : s = p.N.m i := by omega
    rw [fillV, if_neg h, fill_3 hf hm3, this]
    by_cases h1 : p.act.k = 1
    · rw [if_pos h1]
      have h1' : (fillS p l (p.N.m i)).act.k = 1 := h1
      repeat refine stp ?_
      exact ⟨rfl, Eqv.same _, EqvH.refl _⟩
    · rw [if_neg h1]
      have h1' : ¬(fillS p l (p.N.m i)).act.k = 1 := h1
      repeat refine stp ?_
      exact ⟨rfl, Eqv.same _, EqvH.refl _⟩
  have hk := hok s hlt
  have sh := showC_c (p.N.cm i s) hk l hlen hl p.act.o
  rcases (show s = 0 ∨ s = 1 ∨ s = 2 by omega) with rfl | rfl | rfl
  · by_cases hc : p.act.c0 = true
    rotate_left
    · have hz := fill_skip (l := l) (n := 0) (by decide) (reg_f (l := l) hf (j := 0) fun a => hc a.2.1)
      have hc' : (fillS p l 0).act.c0 = false := (by simpa using hc : p.act.c0 = false)
      repeat refine stp ?_
      conv => whnf
      repeat refine stp ?_
      refine ⟨1, by show 1 ≤ p.N.m i; omega, by show p.N.m i - 1 < p.N.m i - 0; omega, weak_keep (keep 73 [1, 2, 4, 35, 36, 37]) [0, 1, 2] rfl rfl ?_⟩
      show [Blk.ints .u16 l, Blk.cells (fillS p l 0).L, Blk.cells zL] = [Blk.ints .u16 l, Blk.cells (fillS p l 1).L, Blk.cells zL]
      rw [hz]
    have hc' : (fillS p l 0).act.c0 = true := hc
    have sh : callP Try.prog 32 [cA (p.N.cm i 0), ints .u16 l, AVal.bool (fillS p l 0).act.o] _ := sh
    by_cases he : (showV (p.N.cm i 0) l p.act.o).2.2 = 0
    rotate_left
    · have hz := fill_skip (l := l) (n := 0) (by decide) (reg_f (l := l) hf (j := 0) fun a => he a.2.2)
      repeat refine stp ?_
      conv => whnf
      repeat refine stp ?_
      refine callT_lend (R := fun v => v = .tuple [shA (showV (p.N.cm i 0) l p.act.o).1 (showV (p.N.cm i 0) l p.act.o).2.1, .int .i64 (showV (p.N.cm i 0) l p.act.o).2.2]) ?_ ?_
      · apply need_intro
        · show 0 + l.length ≤ l.length
          omega
        · exact whenB_iff.2 ⟨rfl, sh⟩
      rintro v rfl
      refine whenB_iff.2 ⟨rfl, ?_⟩
      repeat refine stp ?_
      refine ⟨1, by show 1 ≤ p.N.m i; omega, by show p.N.m i - 1 < p.N.m i - 0; omega, weak_keep (keep 73 [1, 2, 4, 35, 36, 37]) [0, 1, 2] rfl rfl ?_⟩
      show [Blk.ints .u16 l, Blk.cells (fillS p l 0).L, Blk.cells zL] = [Blk.ints .u16 l, Blk.cells (fillS p l 1).L, Blk.cells zL]
      rw [hz]
    have hz : (fillS p l 1).L = ({ fillS p l 0 with D := { (fillS p l 0).D with r0 := ⟨_, _, _, _, _, _⟩ } } : Pan).L := congrArg Pan.L ((fill_s0 p l).trans (by rw [reg_t hf hlt hc he]))
    repeat refine stp ?_
    conv => whnf
    repeat refine stp ?_
    refine callT_lend (R := fun v => v = .tuple [shA (showV (p.N.cm i 0) l p.act.o).1 (showV (p.N.cm i 0) l p.act.o).2.1, .int .i64 (showV (p.N.cm i 0) l p.act.o).2.2]) ?_ ?_
    · apply need_intro
      · show 0 + l.length ≤ l.length
        omega
      · exact whenB_iff.2 ⟨rfl, sh⟩
    rintro v rfl
    refine whenB_iff.2 ⟨rfl, ?_⟩
    repeat refine stp ?_
    refine ⟨1, by show 1 ≤ p.N.m i; omega, by show p.N.m i - 1 < p.N.m i - 0; omega, weak_keep (keep 73 [1, 2, 4, 35, 36, 37]) [0, 1, 2] rfl rfl ?_⟩
    show [Blk.ints .u16 l, Blk.cells _, Blk.cells zL] = [Blk.ints .u16 l, Blk.cells (fillS p l 1).L, Blk.cells zL]
    rw [hz]
    rfl
  · by_cases hc : p.act.c1 = true
    rotate_left
    · have hz := fill_skip (l := l) (n := 1) (by decide) (reg_f (l := l) hf (j := 1) fun a => hc a.2.1)
      have hc' : (fillS p l 1).act.c1 = false := (by simpa using hc : p.act.c1 = false)
      repeat refine stp ?_
      conv => whnf
      repeat refine stp ?_
      refine ⟨2, by show 2 ≤ p.N.m i; omega, by show p.N.m i - 2 < p.N.m i - 1; omega, weak_keep (keep 73 [1, 2, 4, 35, 36, 37]) [0, 1, 2] rfl rfl ?_⟩
      show [Blk.ints .u16 l, Blk.cells (fillS p l 1).L, Blk.cells zL] = [Blk.ints .u16 l, Blk.cells (fillS p l 2).L, Blk.cells zL]
      rw [hz]
    have hc' : (fillS p l 1).act.c1 = true := hc
    have sh : callP Try.prog 32 [cA (p.N.cm i 1), ints .u16 l, AVal.bool (fillS p l 1).act.o] _ := sh
    by_cases he : (showV (p.N.cm i 1) l p.act.o).2.2 = 0
    rotate_left
    · have hz := fill_skip (l := l) (n := 1) (by decide) (reg_f (l := l) hf (j := 1) fun a => he a.2.2)
      repeat refine stp ?_
      conv => whnf
      repeat refine stp ?_
      refine callT_lend (R := fun v => v = .tuple [shA (showV (p.N.cm i 1) l p.act.o).1 (showV (p.N.cm i 1) l p.act.o).2.1, .int .i64 (showV (p.N.cm i 1) l p.act.o).2.2]) ?_ ?_
      · apply need_intro
        · show 0 + l.length ≤ l.length
          omega
        · exact whenB_iff.2 ⟨rfl, sh⟩
      rintro v rfl
      refine whenB_iff.2 ⟨rfl, ?_⟩
      repeat refine stp ?_
      refine ⟨2, by show 2 ≤ p.N.m i; omega, by show p.N.m i - 2 < p.N.m i - 1; omega, weak_keep (keep 73 [1, 2, 4, 35, 36, 37]) [0, 1, 2] rfl rfl ?_⟩
      show [Blk.ints .u16 l, Blk.cells (fillS p l 1).L, Blk.cells zL] = [Blk.ints .u16 l, Blk.cells (fillS p l 2).L, Blk.cells zL]
      rw [hz]
    have hz : (fillS p l 2).L = ({ fillS p l 1 with D := { (fillS p l 1).D with r1 := ⟨_, _, _, _, _, _⟩ } } : Pan).L := congrArg Pan.L ((fill_s1 p l).trans (by rw [reg_t hf hlt hc he]))
    repeat refine stp ?_
    conv => whnf
    repeat refine stp ?_
    refine callT_lend (R := fun v => v = .tuple [shA (showV (p.N.cm i 1) l p.act.o).1 (showV (p.N.cm i 1) l p.act.o).2.1, .int .i64 (showV (p.N.cm i 1) l p.act.o).2.2]) ?_ ?_
    · apply need_intro
      · show 0 + l.length ≤ l.length
        omega
      · exact whenB_iff.2 ⟨rfl, sh⟩
    rintro v rfl
    refine whenB_iff.2 ⟨rfl, ?_⟩
    repeat refine stp ?_
    refine ⟨2, by show 2 ≤ p.N.m i; omega, by show p.N.m i - 2 < p.N.m i - 1; omega, weak_keep (keep 73 [1, 2, 4, 35, 36, 37]) [0, 1, 2] rfl rfl ?_⟩
    show [Blk.ints .u16 l, Blk.cells _, Blk.cells zL] = [Blk.ints .u16 l, Blk.cells (fillS p l 2).L, Blk.cells zL]
    rw [hz]
    rfl
  · by_cases hc : p.act.c2 = true
    rotate_left
    · have hz := fill_skip (l := l) (n := 2) (by decide) (reg_f (l := l) hf (j := 2) fun a => hc a.2.1)
      have hc' : (fillS p l 2).act.c2 = false := (by simpa using hc : p.act.c2 = false)
      repeat refine stp ?_
      conv => whnf
      repeat refine stp ?_
      refine ⟨3, by show 3 ≤ p.N.m i; omega, by show p.N.m i - 3 < p.N.m i - 2; omega, weak_keep (keep 73 [1, 2, 4, 35, 36, 37]) [0, 1, 2] rfl rfl ?_⟩
      show [Blk.ints .u16 l, Blk.cells (fillS p l 2).L, Blk.cells zL] = [Blk.ints .u16 l, Blk.cells (fillS p l 3).L, Blk.cells zL]
      rw [hz]
    have hc' : (fillS p l 2).act.c2 = true := hc
    have sh : callP Try.prog 32 [cA (p.N.cm i 2), ints .u16 l, AVal.bool (fillS p l 2).act.o] _ := sh
    by_cases he : (showV (p.N.cm i 2) l p.act.o).2.2 = 0
    rotate_left
    · have hz := fill_skip (l := l) (n := 2) (by decide) (reg_f (l := l) hf (j := 2) fun a => he a.2.2)
      repeat refine stp ?_
      conv => whnf
      repeat refine stp ?_
      refine callT_lend (R := fun v => v = .tuple [shA (showV (p.N.cm i 2) l p.act.o).1 (showV (p.N.cm i 2) l p.act.o).2.1, .int .i64 (showV (p.N.cm i 2) l p.act.o).2.2]) ?_ ?_
      · apply need_intro
        · show 0 + l.length ≤ l.length
          omega
        · exact whenB_iff.2 ⟨rfl, sh⟩
      rintro v rfl
      refine whenB_iff.2 ⟨rfl, ?_⟩
      repeat refine stp ?_
      refine ⟨3, by show 3 ≤ p.N.m i; omega, by show p.N.m i - 3 < p.N.m i - 2; omega, weak_keep (keep 73 [1, 2, 4, 35, 36, 37]) [0, 1, 2] rfl rfl ?_⟩
      show [Blk.ints .u16 l, Blk.cells (fillS p l 2).L, Blk.cells zL] = [Blk.ints .u16 l, Blk.cells (fillS p l 3).L, Blk.cells zL]
      rw [hz]
    have hz : (fillS p l 3).L = ({ fillS p l 2 with D := { (fillS p l 2).D with r2 := ⟨_, _, _, _, _, _⟩ } } : Pan).L := congrArg Pan.L ((fill_s2 p l).trans (by rw [reg_t hf hlt hc he]))
    repeat refine stp ?_
    conv => whnf
    repeat refine stp ?_
    refine callT_lend (R := fun v => v = .tuple [shA (showV (p.N.cm i 2) l p.act.o).1 (showV (p.N.cm i 2) l p.act.o).2.1, .int .i64 (showV (p.N.cm i 2) l p.act.o).2.2]) ?_ ?_
    · apply need_intro
      · show 0 + l.length ≤ l.length
        omega
      · exact whenB_iff.2 ⟨rfl, sh⟩
    rintro v rfl
    refine whenB_iff.2 ⟨rfl, ?_⟩
    repeat refine stp ?_
    refine ⟨3, by show 3 ≤ p.N.m i; omega, by show p.N.m i - 3 < p.N.m i - 2; omega, weak_keep (keep 73 [1, 2, 4, 35, 36, 37]) [0, 1, 2] rfl rfl ?_⟩
    show [Blk.ints .u16 l, Blk.cells _, Blk.cells zL] = [Blk.ints .u16 l, Blk.cells (fillS p l 3).L, Blk.cells zL]
    rw [hz]
    rfl
theorem fill_c (p : Pan) (hp : p.Ok) (hm : mayV p = true) (l : List Int) (hl : Words l) (hlen : l.length ≤ 9223372036854775807) : callN Try.prog 22 [p.A, .slice ⟨0, 0, 0⟩ l.length] [.ints .u16 l] fun v H' => v = (fillV p l).A ∧ H' = [.ints .u16 l] := by
  by_cases h : p.act.k = 0
  · exact fill_0 p hp hm l h
  cases hf : p.N.find p.an with
  | none => exact fill_no p hp hm l h hf
  | some i => exact fill_some p hp hm l hl hlen h i hf
end Go.Proofs
