/- Chapter 30: a component is entered. -/
import Derived.Test.YthedobkhfdpdaaaC31
import Derived.Test.YthedobkhfdpdaaaC23
import Derived.Test.YthedobkhfdpdaaaC24
import Derived.Test.YthedobkhfdpdaaaC25
import Derived.Test.YthedobkhfdpdaaaC26
import Derived.Test.YthedobkhfdpdaaaC27
import Derived.Test.YthedobkhfdpdaaaC28
import Derived.Test.YthedobkhfdpdaaaC29
import Derived.Test.YthedobkhfdpdaaaC30
import Derived.Test.YthedobkhfdpdaaaC17
import Derived.Test.YthedobkhfdpdaaaC22
set_option linter.unusedVariables false
set_option linter.unusedSimpArgs false
namespace Go.Proofs
open Go.E
set_option maxRecDepth 8000
theorem oneV_t {x : Shw} {c : Cmp} (h : okV x 5 c = true) : oneV true x c = some (cellsV c (rawV x 5 c)) := by rw [oneV, if_pos rfl, ent_some h]
theorem oneV_n {x : Shw} {c : Cmp} (h : okV x 5 c = false) : oneV true x c = none := by rw [oneV, if_pos rfl, ent_none h]
theorem eq_load_ad (N : Nns) (vb nn : Int) (ty : Shw) (cnt : Int) (l0 l1 l2 : Shw) (act : Vrb) (an av aq : Int) (asked : Bool) (D : Dsp) (o c2 : Bool) (i : Nat) (hf : N.find nn = some i) (hw : vrb vb = ⟨3, o, true, true, c2⟩) (hv : okV ty cnt (N.cm i 0) = true) (hk : (N.cm i 0).k ≠ 1) : loadV (⟨N, 3, vb, nn, ty, cnt, 0, l0, l1, l2, act, an, av, aq, asked, D⟩ : Pan) = some (⟨N, 3, vb, nn, bl6, 0, 1, ty, l1, l2, act, an, av, aq, asked, D⟩, .z) := by
  have e1 : compV (⟨N, 3, vb, nn, ty, cnt, 0, l0, l1, l2, act, an, av, aq, asked, D⟩ : Pan) = N.cm i 0 := by
    rw [compV]; show (match N.find nn with | some i => N.cm i _ | none => _) = _; rw [hf]; rfl
  have eL : Pan.setL (⟨N, 3, vb, nn, ty, cnt, 0, l0, l1, l2, act, an, av, aq, asked, D⟩ : Pan) 0 ty = ⟨N, 3, vb, nn, ty, cnt, 0, ty, l1, l2, act, an, av, aq, asked, D⟩ := rfl
  simp only [loadV, e1, ent_some hv, hf, hw, if_neg hk, eL]
  rfl
theorem eq_load_bd (N : Nns) (vb nn : Int) (ty : Shw) (cnt : Int) (l0 l1 l2 : Shw) (act : Vrb) (an av aq : Int) (asked : Bool) (D : Dsp) (o : Bool) (i : Nat) (hf : N.find nn = some i) (hw : vrb vb = ⟨3, o, true, true, true⟩) (hv : okV ty cnt (N.cm i 1) = true) (hk : (N.cm i 1).k ≠ 1) : loadV (⟨N, 3, vb, nn, ty, cnt, 1, l0, l1, l2, act, an, av, aq, asked, D⟩ : Pan) = some (⟨N, 3, vb, nn, bl6, 0, 2, l0, ty, l2, act, an, av, aq, asked, D⟩, .z) := by
  have e1 : compV (⟨N, 3, vb, nn, ty, cnt, 1, l0, l1, l2, act, an, av, aq, asked, D⟩ : Pan) = N.cm i 1 := by
    rw [compV]; show (match N.find nn with | some i => N.cm i _ | none => _) = _; rw [hf]; rfl
  have eL : Pan.setL (⟨N, 3, vb, nn, ty, cnt, 1, l0, l1, l2, act, an, av, aq, asked, D⟩ : Pan) 1 ty = ⟨N, 3, vb, nn, ty, cnt, 1, l0, ty, l2, act, an, av, aq, asked, D⟩ := rfl
  simp only [loadV, e1, ent_some hv, hf, hw, if_neg hk, eL]
  rfl
theorem eq_load_cd0 (N : Nns) (vb nn : Int) (ty : Shw) (cnt : Int) (l0 l1 l2 : Shw) (act : Vrb) (an av aq : Int) (asked : Bool) (D : Dsp) (o : Bool) (i : Nat) (hf : N.find nn = some i) (hw : vrb vb = ⟨3, o, true, false, false⟩) (hv : okV ty cnt (N.cm i 0) = true) (hk : (N.cm i 0).k ≠ 1) (g0 : okV ty 5 (N.cm i 0) = false) : loadV (⟨N, 3, vb, nn, ty, cnt, 0, l0, l1, l2, act, an, av, aq, asked, D⟩ : Pan) = none := by
  have e1 : compV (⟨N, 3, vb, nn, ty, cnt, 0, l0, l1, l2, act, an, av, aq, asked, D⟩ : Pan) = N.cm i 0 := by
    rw [compV]; show (match N.find nn with | some i => N.cm i _ | none => _) = _; rw [hf]; rfl
  have eL : Pan.setL (⟨N, 3, vb, nn, ty, cnt, 0, l0, l1, l2, act, an, av, aq, asked, D⟩ : Pan) 0 ty = ⟨N, 3, vb, nn, ty, cnt, 0, ty, l1, l2, act, an, av, aq, asked, D⟩ := rfl
  simp only [loadV, e1, ent_some hv, hf, hw, if_neg hk, eL]
  rw [oneV_n g0]
  rfl
theorem eq_load_cd1 (N : Nns) (vb nn : Int) (ty : Shw) (cnt : Int) (l0 l1 l2 : Shw) (act : Vrb) (an av aq : Int) (asked : Bool) (D : Dsp) (o : Bool) (i : Nat) (hf : N.find nn = some i) (hw : vrb vb = ⟨3, o, true, false, false⟩) (hv : okV ty cnt (N.cm i 0) = true) (hk : (N.cm i 0).k ≠ 1) (g0 : okV ty 5 (N.cm i 0) = true) : loadV (⟨N, 3, vb, nn, ty, cnt, 0, l0, l1, l2, act, an, av, aq, asked, D⟩ : Pan) = some (endV { (⟨N, 3, vb, nn, ty, cnt, 0, ty, l1, l2, act, an, av, aq, asked, D⟩ : Pan) with av := if asked = true then 0 else av, aq := if asked = true then 0 else aq, asked := false }, ⟨2, 0, cellsV (N.cm i 0) (rawV ty 5 (N.cm i 0))⟩) := by
  have e1 : compV (⟨N, 3, vb, nn, ty, cnt, 0, l0, l1, l2, act, an, av, aq, asked, D⟩ : Pan) = N.cm i 0 := by
    rw [compV]; show (match N.find nn with | some i => N.cm i _ | none => _) = _; rw [hf]; rfl
  have eL : Pan.setL (⟨N, 3, vb, nn, ty, cnt, 0, l0, l1, l2, act, an, av, aq, asked, D⟩ : Pan) 0 ty = ⟨N, 3, vb, nn, ty, cnt, 0, ty, l1, l2, act, an, av, aq, asked, D⟩ := rfl
  simp only [loadV, e1, ent_some hv, hf, hw, if_neg hk, eL]
  rw [← show (cellsV (N.cm i 0) (rawV ty 5 (N.cm i 0)) ++ [] ++ [] : List (Int × Int)) = cellsV (N.cm i 0) (rawV ty 5 (N.cm i 0)) by simp]
  rw [oneV_t g0]
  rfl
theorem eq_load_dd0 (N : Nns) (vb nn : Int) (ty : Shw) (cnt : Int) (l0 l1 l2 : Shw) (act : Vrb) (an av aq : Int) (asked : Bool) (D : Dsp) (o : Bool) (i : Nat) (hf : N.find nn = some i) (hw : vrb vb = ⟨3, o, false, true, false⟩) (hv : okV ty cnt (N.cm i 1) = true) (hk : (N.cm i 1).k ≠ 1) (g1 : okV ty 5 (N.cm i 1) = false) : loadV (⟨N, 3, vb, nn, ty, cnt, 1, l0, l1, l2, act, an, av, aq, asked, D⟩ : Pan) = none := by
  have e1 : compV (⟨N, 3, vb, nn, ty, cnt, 1, l0, l1, l2, act, an, av, aq, asked, D⟩ : Pan) = N.cm i 1 := by
    rw [compV]; show (match N.find nn with | some i => N.cm i _ | none => _) = _; rw [hf]; rfl
  have eL : Pan.setL (⟨N, 3, vb, nn, ty, cnt, 1, l0, l1, l2, act, an, av, aq, asked, D⟩ : Pan) 1 ty = ⟨N, 3, vb, nn, ty, cnt, 1, l0, ty, l2, act, an, av, aq, asked, D⟩ := rfl
  simp only [loadV, e1, ent_some hv, hf, hw, if_neg hk, eL]
  rw [oneV_n g1]
  rfl
theorem eq_load_dd1 (N : Nns) (vb nn : Int) (ty : Shw) (cnt : Int) (l0 l1 l2 : Shw) (act : Vrb) (an av aq : Int) (asked : Bool) (D : Dsp) (o : Bool) (i : Nat) (hf : N.find nn = some i) (hw : vrb vb = ⟨3, o, false, true, false⟩) (hv : okV ty cnt (N.cm i 1) = true) (hk : (N.cm i 1).k ≠ 1) (g1 : okV ty 5 (N.cm i 1) = true) : loadV (⟨N, 3, vb, nn, ty, cnt, 1, l0, l1, l2, act, an, av, aq, asked, D⟩ : Pan) = some (endV { (⟨N, 3, vb, nn, ty, cnt, 1, l0, ty, l2, act, an, av, aq, asked, D⟩ : Pan) with av := if asked = true then 0 else av, aq := if asked = true then 0 else aq, asked := false }, ⟨2, 0, cellsV (N.cm i 1) (rawV ty 5 (N.cm i 1))⟩) := by
  have e1 : compV (⟨N, 3, vb, nn, ty, cnt, 1, l0, l1, l2, act, an, av, aq, asked, D⟩ : Pan) = N.cm i 1 := by
    rw [compV]; show (match N.find nn with | some i => N.cm i _ | none => _) = _; rw [hf]; rfl
  have eL : Pan.setL (⟨N, 3, vb, nn, ty, cnt, 1, l0, l1, l2, act, an, av, aq, asked, D⟩ : Pan) 1 ty = ⟨N, 3, vb, nn, ty, cnt, 1, l0, ty, l2, act, an, av, aq, asked, D⟩ := rfl
  simp only [loadV, e1, ent_some hv, hf, hw, if_neg hk, eL]
  rw [← show ([] ++ cellsV (N.cm i 1) (rawV ty 5 (N.cm i 1)) ++ [] : List (Int × Int)) = cellsV (N.cm i 1) (rawV ty 5 (N.cm i 1)) by simp]
  rw [oneV_t g1]
  rfl
theorem eq_load_ed0 (N : Nns) (vb nn : Int) (ty : Shw) (cnt : Int) (l0 l1 l2 : Shw) (act : Vrb) (an av aq : Int) (asked : Bool) (D : Dsp) (o : Bool) (i : Nat) (hf : N.find nn = some i) (hw : vrb vb = ⟨3, o, false, false, true⟩) (hv : okV ty cnt (N.cm i 2) = true) (hk : (N.cm i 2).k ≠ 1) (g2 : okV ty 5 (N.cm i 2) = false) : loadV (⟨N, 3, vb, nn, ty, cnt, 2, l0, l1, l2, act, an, av, aq, asked, D⟩ : Pan) = none := by
  have e1 : compV (⟨N, 3, vb, nn, ty, cnt, 2, l0, l1, l2, act, an, av, aq, asked, D⟩ : Pan) = N.cm i 2 := by
    rw [compV]; show (match N.find nn with | some i => N.cm i _ | none => _) = _; rw [hf]; rfl
  have eL : Pan.setL (⟨N, 3, vb, nn, ty, cnt, 2, l0, l1, l2, act, an, av, aq, asked, D⟩ : Pan) 2 ty = ⟨N, 3, vb, nn, ty, cnt, 2, l0, l1, ty, act, an, av, aq, asked, D⟩ := rfl
  simp only [loadV, e1, ent_some hv, hf, hw, if_neg hk, eL]
  rw [oneV_n g2]
  rfl
theorem eq_load_ed1 (N : Nns) (vb nn : Int) (ty : Shw) (cnt : Int) (l0 l1 l2 : Shw) (act : Vrb) (an av aq : Int) (asked : Bool) (D : Dsp) (o : Bool) (i : Nat) (hf : N.find nn = some i) (hw : vrb vb = ⟨3, o, false, false, true⟩) (hv : okV ty cnt (N.cm i 2) = true) (hk : (N.cm i 2).k ≠ 1) (g2 : okV ty 5 (N.cm i 2) = true) : loadV (⟨N, 3, vb, nn, ty, cnt, 2, l0, l1, l2, act, an, av, aq, asked, D⟩ : Pan) = some (endV { (⟨N, 3, vb, nn, ty, cnt, 2, l0, l1, ty, act, an, av, aq, asked, D⟩ : Pan) with av := if asked = true then 0 else av, aq := if asked = true then 0 else aq, asked := false }, ⟨2, 0, cellsV (N.cm i 2) (rawV ty 5 (N.cm i 2))⟩) := by
  have e1 : compV (⟨N, 3, vb, nn, ty, cnt, 2, l0, l1, l2, act, an, av, aq, asked, D⟩ : Pan) = N.cm i 2 := by
    rw [compV]; show (match N.find nn with | some i => N.cm i _ | none => _) = _; rw [hf]; rfl
  have eL : Pan.setL (⟨N, 3, vb, nn, ty, cnt, 2, l0, l1, l2, act, an, av, aq, asked, D⟩ : Pan) 2 ty = ⟨N, 3, vb, nn, ty, cnt, 2, l0, l1, ty, act, an, av, aq, asked, D⟩ := rfl
  simp only [loadV, e1, ent_some hv, hf, hw, if_neg hk, eL]
  rw [← show ([] ++ [] ++ cellsV (N.cm i 2) (rawV ty 5 (N.cm i 2)) : List (Int × Int)) = cellsV (N.cm i 2) (rawV ty 5 (N.cm i 2)) by simp]
  rw [oneV_t g2]
  rfl
theorem eq_load_fd0 (N : Nns) (vb nn : Int) (ty : Shw) (cnt : Int) (l0 l1 l2 : Shw) (act : Vrb) (an av aq : Int) (asked : Bool) (D : Dsp) (o : Bool) (i : Nat) (hf : N.find nn = some i) (hw : vrb vb = ⟨3, o, true, true, false⟩) (hv : okV ty cnt (N.cm i 1) = true) (hk : (N.cm i 1).k ≠ 1) (g0 : okV l0 5 (N.cm i 0) = false) : loadV (⟨N, 3, vb, nn, ty, cnt, 1, l0, l1, l2, act, an, av, aq, asked, D⟩ : Pan) = none := by
  have e1 : compV (⟨N, 3, vb, nn, ty, cnt, 1, l0, l1, l2, act, an, av, aq, asked, D⟩ : Pan) = N.cm i 1 := by
    rw [compV]; show (match N.find nn with | some i => N.cm i _ | none => _) = _; rw [hf]; rfl
  have eL : Pan.setL (⟨N, 3, vb, nn, ty, cnt, 1, l0, l1, l2, act, an, av, aq, asked, D⟩ : Pan) 1 ty = ⟨N, 3, vb, nn, ty, cnt, 1, l0, ty, l2, act, an, av, aq, asked, D⟩ := rfl
  simp only [loadV, e1, ent_some hv, hf, hw, if_neg hk, eL]
  rw [oneV_n g0]
  cases oneV true ty (N.cm i 1) <;> rfl
theorem eq_load_fd1 (N : Nns) (vb nn : Int) (ty : Shw) (cnt : Int) (l0 l1 l2 : Shw) (act : Vrb) (an av aq : Int) (asked : Bool) (D : Dsp) (o : Bool) (i : Nat) (hf : N.find nn = some i) (hw : vrb vb = ⟨3, o, true, true, false⟩) (hv : okV ty cnt (N.cm i 1) = true) (hk : (N.cm i 1).k ≠ 1) (g0 : okV l0 5 (N.cm i 0) = true) (g1 : okV ty 5 (N.cm i 1) = false) : loadV (⟨N, 3, vb, nn, ty, cnt, 1, l0, l1, l2, act, an, av, aq, asked, D⟩ : Pan) = none := by
  have e1 : compV (⟨N, 3, vb, nn, ty, cnt, 1, l0, l1, l2, act, an, av, aq, asked, D⟩ : Pan) = N.cm i 1 := by
    rw [compV]; show (match N.find nn with | some i => N.cm i _ | none => _) = _; rw [hf]; rfl
  have eL : Pan.setL (⟨N, 3, vb, nn, ty, cnt, 1, l0, l1, l2, act, an, av, aq, asked, D⟩ : Pan) 1 ty = ⟨N, 3, vb, nn, ty, cnt, 1, l0, ty, l2, act, an, av, aq, asked, D⟩ := rfl
  simp only [loadV, e1, ent_some hv, hf, hw, if_neg hk, eL]
  rw [oneV_t g0]
  rw [oneV_n g1]
  rfl
theorem eq_load_fd2 (N : Nns) (vb nn : Int) (ty : Shw) (cnt : Int) (l0 l1 l2 : Shw) (act : Vrb) (an av aq : Int) (asked : Bool) (D : Dsp) (o : Bool) (i : Nat) (hf : N.find nn = some i) (hw : vrb vb = ⟨3, o, true, true, false⟩) (hv : okV ty cnt (N.cm i 1) = true) (hk : (N.cm i 1).k ≠ 1) (g0 : okV l0 5 (N.cm i 0) = true) (g1 : okV ty 5 (N.cm i 1) = true) : loadV (⟨N, 3, vb, nn, ty, cnt, 1, l0, l1, l2, act, an, av, aq, asked, D⟩ : Pan) = some (endV { (⟨N, 3, vb, nn, ty, cnt, 1, l0, ty, l2, act, an, av, aq, asked, D⟩ : Pan) with av := if asked = true then 0 else av, aq := if asked = true then 0 else aq, asked := false }, ⟨2, 0, cellsV (N.cm i 0) (rawV l0 5 (N.cm i 0)) ++ cellsV (N.cm i 1) (rawV ty 5 (N.cm i 1))⟩) := by
  have e1 : compV (⟨N, 3, vb, nn, ty, cnt, 1, l0, l1, l2, act, an, av, aq, asked, D⟩ : Pan) = N.cm i 1 := by
    rw [compV]; show (match N.find nn with | some i => N.cm i _ | none => _) = _; rw [hf]; rfl
  have eL : Pan.setL (⟨N, 3, vb, nn, ty, cnt, 1, l0, l1, l2, act, an, av, aq, asked, D⟩ : Pan) 1 ty = ⟨N, 3, vb, nn, ty, cnt, 1, l0, ty, l2, act, an, av, aq, asked, D⟩ := rfl
  simp only [loadV, e1, ent_some hv, hf, hw, if_neg hk, eL]
  rw [← show (cellsV (N.cm i 0) (rawV l0 5 (N.cm i 0)) ++ cellsV (N.cm i 1) (rawV ty 5 (N.cm i 1)) ++ [] : List (Int × Int)) = cellsV (N.cm i 0) (rawV l0 5 (N.cm i 0)) ++ cellsV (N.cm i 1) (rawV ty 5 (N.cm i 1)) by simp]
  rw [oneV_t g0]
  rw [oneV_t g1]
  rfl
theorem eq_load_gd0 (N : Nns) (vb nn : Int) (ty : Shw) (cnt : Int) (l0 l1 l2 : Shw) (act : Vrb) (an av aq : Int) (asked : Bool) (D : Dsp) (o : Bool) (i : Nat) (hf : N.find nn = some i) (hw : vrb vb = ⟨3, o, true, true, true⟩) (hv : okV ty cnt (N.cm i 2) = true) (hk : (N.cm i 2).k ≠ 1) (g0 : okV l0 5 (N.cm i 0) = false) : loadV (⟨N, 3, vb, nn, ty, cnt, 2, l0, l1, l2, act, an, av, aq, asked, D⟩ : Pan) = none := by
  have e1 : compV (⟨N, 3, vb, nn, ty, cnt, 2, l0, l1, l2, act, an, av, aq, asked, D⟩ : Pan) = N.cm i 2 := by
    rw [compV]; show (match N.find nn with | some i => N.cm i _ | none => _) = _; rw [hf]; rfl
  have eL : Pan.setL (⟨N, 3, vb, nn, ty, cnt, 2, l0, l1, l2, act, an, av, aq, asked, D⟩ : Pan) 2 ty = ⟨N, 3, vb, nn, ty, cnt, 2, l0, l1, ty, act, an, av, aq, asked, D⟩ := rfl
  simp only [loadV, e1, ent_some hv, hf, hw, if_neg hk, eL]
  rw [oneV_n g0]
  rfl
theorem eq_load_gd1 (N : Nns) (vb nn : Int) (ty : Shw) (cnt : Int) (l0 l1 l2 : Shw) (act : Vrb) (an av aq : Int) (asked : Bool) (D : Dsp) (o : Bool) (i : Nat) (hf : N.find nn = some i) (hw : vrb vb = ⟨3, o, true, true, true⟩) (hv : okV ty cnt (N.cm i 2) = true) (hk : (N.cm i 2).k ≠ 1) (g0 : okV l0 5 (N.cm i 0) = true) (g1 : okV l1 5 (N.cm i 1) = false) : loadV (⟨N, 3, vb, nn, ty, cnt, 2, l0, l1, l2, act, an, av, aq, asked, D⟩ : Pan) = none := by
  have e1 : compV (⟨N, 3, vb, nn, ty, cnt, 2, l0, l1, l2, act, an, av, aq, asked, D⟩ : Pan) = N.cm i 2 := by
    rw [compV]; show (match N.find nn with | some i => N.cm i _ | none => _) = _; rw [hf]; rfl
  have eL : Pan.setL (⟨N, 3, vb, nn, ty, cnt, 2, l0, l1, l2, act, an, av, aq, asked, D⟩ : Pan) 2 ty = ⟨N, 3, vb, nn, ty, cnt, 2, l0, l1, ty, act, an, av, aq, asked, D⟩ := rfl
  simp only [loadV, e1, ent_some hv, hf, hw, if_neg hk, eL]
  rw [oneV_t g0]
  rw [oneV_n g1]
  cases oneV true ty (N.cm i 2) <;> rfl
theorem eq_load_gd2 (N : Nns) (vb nn : Int) (ty : Shw) (cnt : Int) (l0 l1 l2 : Shw) (act : Vrb) (an av aq : Int) (asked : Bool) (D : Dsp) (o : Bool) (i : Nat) (hf : N.find nn = some i) (hw : vrb vb = ⟨3, o, true, true, true⟩) (hv : okV ty cnt (N.cm i 2) = true) (hk : (N.cm i 2).k ≠ 1) (g0 : okV l0 5 (N.cm i 0) = true) (g1 : okV l1 5 (N.cm i 1) = true) (g2 : okV ty 5 (N.cm i 2) = false) : loadV (⟨N, 3, vb, nn, ty, cnt, 2, l0, l1, l2, act, an, av, aq, asked, D⟩ : Pan) = none := by
  have e1 : compV (⟨N, 3, vb, nn, ty, cnt, 2, l0, l1, l2, act, an, av, aq, asked, D⟩ : Pan) = N.cm i 2 := by
    rw [compV]; show (match N.find nn with | some i => N.cm i _ | none => _) = _; rw [hf]; rfl
  have eL : Pan.setL (⟨N, 3, vb, nn, ty, cnt, 2, l0, l1, l2, act, an, av, aq, asked, D⟩ : Pan) 2 ty = ⟨N, 3, vb, nn, ty, cnt, 2, l0, l1, ty, act, an, av, aq, asked, D⟩ := rfl
  simp only [loadV, e1, ent_some hv, hf, hw, if_neg hk, eL]
  rw [oneV_t g0]
  rw [oneV_t g1]
  rw [oneV_n g2]
  rfl
theorem eq_load_gd3 (N : Nns) (vb nn : Int) (ty : Shw) (cnt : Int) (l0 l1 l2 : Shw) (act : Vrb) (an av aq : Int) (asked : Bool) (D : Dsp) (o : Bool) (i : Nat) (hf : N.find nn = some i) (hw : vrb vb = ⟨3, o, true, true, true⟩) (hv : okV ty cnt (N.cm i 2) = true) (hk : (N.cm i 2).k ≠ 1) (g0 : okV l0 5 (N.cm i 0) = true) (g1 : okV l1 5 (N.cm i 1) = true) (g2 : okV ty 5 (N.cm i 2) = true) : loadV (⟨N, 3, vb, nn, ty, cnt, 2, l0, l1, l2, act, an, av, aq, asked, D⟩ : Pan) = some (endV { (⟨N, 3, vb, nn, ty, cnt, 2, l0, l1, ty, act, an, av, aq, asked, D⟩ : Pan) with av := if asked = true then 0 else av, aq := if asked = true then 0 else aq, asked := false }, ⟨2, 0, cellsV (N.cm i 0) (rawV l0 5 (N.cm i 0)) ++ cellsV (N.cm i 1) (rawV l1 5 (N.cm i 1)) ++ cellsV (N.cm i 2) (rawV ty 5 (N.cm i 2))⟩) := by
  have e1 : compV (⟨N, 3, vb, nn, ty, cnt, 2, l0, l1, l2, act, an, av, aq, asked, D⟩ : Pan) = N.cm i 2 := by
    rw [compV]; show (match N.find nn with | some i => N.cm i _ | none => _) = _; rw [hf]; rfl
  have eL : Pan.setL (⟨N, 3, vb, nn, ty, cnt, 2, l0, l1, l2, act, an, av, aq, asked, D⟩ : Pan) 2 ty = ⟨N, 3, vb, nn, ty, cnt, 2, l0, l1, ty, act, an, av, aq, asked, D⟩ := rfl
  simp only [loadV, e1, ent_some hv, hf, hw, if_neg hk, eL]
  rw [oneV_t g0]
  rw [oneV_t g1]
  rw [oneV_t g2]
  rfl
theorem eq_load_ao (N : Nns) (vb nn : Int) (ty : Shw) (cnt : Int) (l0 l1 l2 : Shw) (act : Vrb) (an av aq : Int) (asked : Bool) (D : Dsp) (o c2 : Bool) (i : Nat) (hf : N.find nn = some i) (hw : vrb vb = ⟨3, o, true, true, c2⟩) (hv : okV ty cnt (N.cm i 0) = true) (hk : (N.cm i 0).k = 1) : loadV (⟨N, 3, vb, nn, ty, cnt, 0, l0, l1, l2, act, an, av, aq, asked, D⟩ : Pan) = some (⟨N, 3, vb, nn, bl6, 0, 1, (octS (rawV ty cnt (N.cm i 0))), l1, l2, act, an, av, aq, asked, D⟩, .z) := by
  have e1 : compV (⟨N, 3, vb, nn, ty, cnt, 0, l0, l1, l2, act, an, av, aq, asked, D⟩ : Pan) = N.cm i 0 := by
    rw [compV]; show (match N.find nn with | some i => N.cm i _ | none => _) = _; rw [hf]; rfl
  have eL : Pan.setL (⟨N, 3, vb, nn, ty, cnt, 0, l0, l1, l2, act, an, av, aq, asked, D⟩ : Pan) 0 (octS (rawV ty cnt (N.cm i 0))) = ⟨N, 3, vb, nn, ty, cnt, 0, (octS (rawV ty cnt (N.cm i 0))), l1, l2, act, an, av, aq, asked, D⟩ := rfl
  simp only [loadV, e1, ent_some hv, hf, hw, if_pos hk, eL]
  rfl
theorem eq_load_bo (N : Nns) (vb nn : Int) (ty : Shw) (cnt : Int) (l0 l1 l2 : Shw) (act : Vrb) (an av aq : Int) (asked : Bool) (D : Dsp) (o : Bool) (i : Nat) (hf : N.find nn = some i) (hw : vrb vb = ⟨3, o, true, true, true⟩) (hv : okV ty cnt (N.cm i 1) = true) (hk : (N.cm i 1).k = 1) : loadV (⟨N, 3, vb, nn, ty, cnt, 1, l0, l1, l2, act, an, av, aq, asked, D⟩ : Pan) = some (⟨N, 3, vb, nn, bl6, 0, 2, l0, (octS (rawV ty cnt (N.cm i 1))), l2, act, an, av, aq, asked, D⟩, .z) := by
  have e1 : compV (⟨N, 3, vb, nn, ty, cnt, 1, l0, l1, l2, act, an, av, aq, asked, D⟩ : Pan) = N.cm i 1 := by
    rw [compV]; show (match N.find nn with | some i => N.cm i _ | none => _) = _; rw [hf]; rfl
  have eL : Pan.setL (⟨N, 3, vb, nn, ty, cnt, 1, l0, l1, l2, act, an, av, aq, asked, D⟩ : Pan) 1 (octS (rawV ty cnt (N.cm i 1))) = ⟨N, 3, vb, nn, ty, cnt, 1, l0, (octS (rawV ty cnt (N.cm i 1))), l2, act, an, av, aq, asked, D⟩ := rfl
  simp only [loadV, e1, ent_some hv, hf, hw, if_pos hk, eL]
  rfl
theorem eq_load_co0 (N : Nns) (vb nn : Int) (ty : Shw) (cnt : Int) (l0 l1 l2 : Shw) (act : Vrb) (an av aq : Int) (asked : Bool) (D : Dsp) (o : Bool) (i : Nat) (hf : N.find nn = some i) (hw : vrb vb = ⟨3, o, true, false, false⟩) (hv : okV ty cnt (N.cm i 0) = true) (hk : (N.cm i 0).k = 1) (g0 : okV (octS (rawV ty cnt (N.cm i 0))) 5 (N.cm i 0) = false) : loadV (⟨N, 3, vb, nn, ty, cnt, 0, l0, l1, l2, act, an, av, aq, asked, D⟩ : Pan) = none := by
  have e1 : compV (⟨N, 3, vb, nn, ty, cnt, 0, l0, l1, l2, act, an, av, aq, asked, D⟩ : Pan) = N.cm i 0 := by
    rw [compV]; show (match N.find nn with | some i => N.cm i _ | none => _) = _; rw [hf]; rfl
  have eL : Pan.setL (⟨N, 3, vb, nn, ty, cnt, 0, l0, l1, l2, act, an, av, aq, asked, D⟩ : Pan) 0 (octS (rawV ty cnt (N.cm i 0))) = ⟨N, 3, vb, nn, ty, cnt, 0, (octS (rawV ty cnt (N.cm i 0))), l1, l2, act, an, av, aq, asked, D⟩ := rfl
  simp only [loadV, e1, ent_some hv, hf, hw, if_pos hk, eL]
  rw [oneV_n g0]
  rfl
theorem eq_load_co1 (N : Nns) (vb nn : Int) (ty : Shw) (cnt : Int) (l0 l1 l2 : Shw) (act : Vrb) (an av aq : Int) (asked : Bool) (D : Dsp) (o : Bool) (i : Nat) (hf : N.find nn = some i) (hw : vrb vb = ⟨3, o, true, false, false⟩) (hv : okV ty cnt (N.cm i 0) = true) (hk : (N.cm i 0).k = 1) (g0 : okV (octS (rawV ty cnt (N.cm i 0))) 5 (N.cm i 0) = true) : loadV (⟨N, 3, vb, nn, ty, cnt, 0, l0, l1, l2, act, an, av, aq, asked, D⟩ : Pan) = some (endV { (⟨N, 3, vb, nn, ty, cnt, 0, (octS (rawV ty cnt (N.cm i 0))), l1, l2, act, an, av, aq, asked, D⟩ : Pan) with av := if asked = true then 0 else av, aq := if asked = true then 0 else aq, asked := false }, ⟨2, 0, cellsV (N.cm i 0) (rawV (octS (rawV ty cnt (N.cm i 0))) 5 (N.cm i 0))⟩) := by
  have e1 : compV (⟨N, 3, vb, nn, ty, cnt, 0, l0, l1, l2, act, an, av, aq, asked, D⟩ : Pan) = N.cm i 0 := by
    rw [compV]; show (match N.find nn with | some i => N.cm i _ | none => _) = _; rw [hf]; rfl
  have eL : Pan.setL (⟨N, 3, vb, nn, ty, cnt, 0, l0, l1, l2, act, an, av, aq, asked, D⟩ : Pan) 0 (octS (rawV ty cnt (N.cm i 0))) = ⟨N, 3, vb, nn, ty, cnt, 0, (octS (rawV ty cnt (N.cm i 0))), l1, l2, act, an, av, aq, asked, D⟩ := rfl
  simp only [loadV, e1, ent_some hv, hf, hw, if_pos hk, eL]
  rw [← show (cellsV (N.cm i 0) (rawV (octS (rawV ty cnt (N.cm i 0))) 5 (N.cm i 0)) ++ [] ++ [] : List (Int × Int)) = cellsV (N.cm i 0) (rawV (octS (rawV ty cnt (N.cm i 0))) 5 (N.cm i 0)) by simp]
  rw [oneV_t g0]
  rfl
theorem eq_load_do0 (N : Nns) (vb nn : Int) (ty : Shw) (cnt : Int) (l0 l1 l2 : Shw) (act : Vrb) (an av aq : Int) (asked : Bool) (D : Dsp) (o : Bool) (i : Nat) (hf : N.find nn = some i) (hw : vrb vb = ⟨3, o, false, true, false⟩) (hv : okV ty cnt (N.cm i 1) = true) (hk : (N.cm i 1).k = 1) (g1 : okV (octS (rawV ty cnt (N.cm i 1))) 5 (N.cm i 1) = false) : loadV (⟨N, 3, vb, nn, ty, cnt, 1, l0, l1, l2, act, an, av, aq, asked, D⟩ : Pan) = none := by
  have e1 : compV (⟨N, 3, vb, nn, ty, cnt, 1, l0, l1, l2, act, an, av, aq, asked, D⟩ : Pan) = N.cm i 1 := by
    rw [compV]; show (match N.find nn with | some i => N.cm i _ | none => _) = _; rw [hf]; rfl
  have eL : Pan.setL (⟨N, 3, vb, nn, ty, cnt, 1, l0, l1, l2, act, an, av, aq, asked, D⟩ : Pan) 1 (octS (rawV ty cnt (N.cm i 1))) = ⟨N, 3, vb, nn, ty, cnt, 1, l0, (octS (rawV ty cnt (N.cm i 1))), l2, act, an, av, aq, asked, D⟩ := rfl
  simp only [loadV, e1, ent_some hv, hf, hw, if_pos hk, eL]
  rw [oneV_n g1]
  rfl
theorem eq_load_do1 (N : Nns) (vb nn : Int) (ty : Shw) (cnt : Int) (l0 l1 l2 : Shw) (act : Vrb) (an av aq : Int) (asked : Bool) (D : Dsp) (o : Bool) (i : Nat) (hf : N.find nn = some i) (hw : vrb vb = ⟨3, o, false, true, false⟩) (hv : okV ty cnt (N.cm i 1) = true) (hk : (N.cm i 1).k = 1) (g1 : okV (octS (rawV ty cnt (N.cm i 1))) 5 (N.cm i 1) = true) : loadV (⟨N, 3, vb, nn, ty, cnt, 1, l0, l1, l2, act, an, av, aq, asked, D⟩ : Pan) = some (endV { (⟨N, 3, vb, nn, ty, cnt, 1, l0, (octS (rawV ty cnt (N.cm i 1))), l2, act, an, av, aq, asked, D⟩ : Pan) with av := if asked = true then 0 else av, aq := if asked = true then 0 else aq, asked := false }, ⟨2, 0, cellsV (N.cm i 1) (rawV (octS (rawV ty cnt (N.cm i 1))) 5 (N.cm i 1))⟩) := by
  have e1 : compV (⟨N, 3, vb, nn, ty, cnt, 1, l0, l1, l2, act, an, av, aq, asked, D⟩ : Pan) = N.cm i 1 := by
    rw [compV]; show (match N.find nn with | some i => N.cm i _ | none => _) = _; rw [hf]; rfl
  have eL : Pan.setL (⟨N, 3, vb, nn, ty, cnt, 1, l0, l1, l2, act, an, av, aq, asked, D⟩ : Pan) 1 (octS (rawV ty cnt (N.cm i 1))) = ⟨N, 3, vb, nn, ty, cnt, 1, l0, (octS (rawV ty cnt (N.cm i 1))), l2, act, an, av, aq, asked, D⟩ := rfl
  simp only [loadV, e1, ent_some hv, hf, hw, if_pos hk, eL]
  rw [← show ([] ++ cellsV (N.cm i 1) (rawV (octS (rawV ty cnt (N.cm i 1))) 5 (N.cm i 1)) ++ [] : List (Int × Int)) = cellsV (N.cm i 1) (rawV (octS (rawV ty cnt (N.cm i 1))) 5 (N.cm i 1)) by simp]
  rw [oneV_t g1]
  rfl
theorem eq_load_eo0 (N : Nns) (vb nn : Int) (ty : Shw) (cnt : Int) (l0 l1 l2 : Shw) (act : Vrb) (an av aq : Int) (asked : Bool) (D : Dsp) (o : Bool) (i : Nat) (hf : N.find nn = some i) (hw : vrb vb = ⟨3, o, false, false, true⟩) (hv : okV ty cnt (N.cm i 2) = true) (hk : (N.cm i 2).k = 1) (g2 : okV (octS (rawV ty cnt (N.cm i 2))) 5 (N.cm i 2) = false) : loadV (⟨N, 3, vb, nn, ty, cnt, 2, l0, l1, l2, act, an, av, aq, asked, D⟩ : Pan) = none := by
  have e1 : compV (⟨N, 3, vb, nn, ty, cnt, 2, l0, l1, l2, act, an, av, aq, asked, D⟩ : Pan) = N.cm i 2 := by
    rw [compV]; show (match N.find nn with | some i => N.cm i _ | none => _) = _; rw [hf]; rfl
  have eL : Pan.setL (⟨N, 3, vb, nn, ty, cnt, 2, l0, l1, l2, act, an, av, aq, asked, D⟩ : Pan) 2 (octS (rawV ty cnt (N.cm i 2))) = ⟨N, 3, vb, nn, ty, cnt, 2, l0, l1, (octS (rawV ty cnt (N.cm i 2))), act, an, av, aq, asked, D⟩ := rfl
  simp only [loadV, e1, ent_some hv, hf, hw, if_pos hk, eL]
  rw [oneV_n g2]
  rfl
theorem eq_load_eo1 (N : Nns) (vb nn : Int) (ty : Shw) (cnt : Int) (l0 l1 l2 : Shw) (act : Vrb) (an av aq : Int) (asked : Bool) (D : Dsp) (o : Bool) (i : Nat) (hf : N.find nn = some i) (hw : vrb vb = ⟨3, o, false, false, true⟩) (hv : okV ty cnt (N.cm i 2) = true) (hk : (N.cm i 2).k = 1) (g2 : okV (octS (rawV ty cnt (N.cm i 2))) 5 (N.cm i 2) = true) : loadV (⟨N, 3, vb, nn, ty, cnt, 2, l0, l1, l2, act, an, av, aq, asked, D⟩ : Pan) = some (endV { (⟨N, 3, vb, nn, ty, cnt, 2, l0, l1, (octS (rawV ty cnt (N.cm i 2))), act, an, av, aq, asked, D⟩ : Pan) with av := if asked = true then 0 else av, aq := if asked = true then 0 else aq, asked := false }, ⟨2, 0, cellsV (N.cm i 2) (rawV (octS (rawV ty cnt (N.cm i 2))) 5 (N.cm i 2))⟩) := by
  have e1 : compV (⟨N, 3, vb, nn, ty, cnt, 2, l0, l1, l2, act, an, av, aq, asked, D⟩ : Pan) = N.cm i 2 := by
    rw [compV]; show (match N.find nn with | some i => N.cm i _ | none => _) = _; rw [hf]; rfl
  have eL : Pan.setL (⟨N, 3, vb, nn, ty, cnt, 2, l0, l1, l2, act, an, av, aq, asked, D⟩ : Pan) 2 (octS (rawV ty cnt (N.cm i 2))) = ⟨N, 3, vb, nn, ty, cnt, 2, l0, l1, (octS (rawV ty cnt (N.cm i 2))), act, an, av, aq, asked, D⟩ := rfl
  simp only [loadV, e1, ent_some hv, hf, hw, if_pos hk, eL]
  rw [← show ([] ++ [] ++ cellsV (N.cm i 2) (rawV (octS (rawV ty cnt (N.cm i 2))) 5 (N.cm i 2)) : List (Int × Int)) = cellsV (N.cm i 2) (rawV (octS (rawV ty cnt (N.cm i 2))) 5 (N.cm i 2)) by simp]
  rw [oneV_t g2]
  rfl
theorem eq_load_fo0 (N : Nns) (vb nn : Int) (ty : Shw) (cnt : Int) (l0 l1 l2 : Shw) (act : Vrb) (an av aq : Int) (asked : Bool) (D : Dsp) (o : Bool) (i : Nat) (hf : N.find nn = some i) (hw : vrb vb = ⟨3, o, true, true, false⟩) (hv : okV ty cnt (N.cm i 1) = true) (hk : (N.cm i 1).k = 1) (g0 : okV l0 5 (N.cm i 0) = false) : loadV (⟨N, 3, vb, nn, ty, cnt, 1, l0, l1, l2, act, an, av, aq, asked, D⟩ : Pan) = none := by
  have e1 : compV (⟨N, 3, vb, nn, ty, cnt, 1, l0, l1, l2, act, an, av, aq, asked, D⟩ : Pan) = N.cm i 1 := by
    rw [compV]; show (match N.find nn with | some i => N.cm i _ | none => _) = _; rw [hf]; rfl
  have eL : Pan.setL (⟨N, 3, vb, nn, ty, cnt, 1, l0, l1, l2, act, an, av, aq, asked, D⟩ : Pan) 1 (octS (rawV ty cnt (N.cm i 1))) = ⟨N, 3, vb, nn, ty, cnt, 1, l0, (octS (rawV ty cnt (N.cm i 1))), l2, act, an, av, aq, asked, D⟩ := rfl
  simp only [loadV, e1, ent_some hv, hf, hw, if_pos hk, eL]
  rw [oneV_n g0]
  cases oneV true (octS (rawV ty cnt (N.cm i 1))) (N.cm i 1) <;> rfl
theorem eq_load_fo1 (N : Nns) (vb nn : Int) (ty : Shw) (cnt : Int) (l0 l1 l2 : Shw) (act : Vrb) (an av aq : Int) (asked : Bool) (D : Dsp) (o : Bool) (i : Nat) (hf : N.find nn = some i) (hw : vrb vb = ⟨3, o, true, true, false⟩) (hv : okV ty cnt (N.cm i 1) = true) (hk : (N.cm i 1).k = 1) (g0 : okV l0 5 (N.cm i 0) = true) (g1 : okV (octS (rawV ty cnt (N.cm i 1))) 5 (N.cm i 1) = false) : loadV (⟨N, 3, vb, nn, ty, cnt, 1, l0, l1, l2, act, an, av, aq, asked, D⟩ : Pan) = none := by
  have e1 : compV (⟨N, 3, vb, nn, ty, cnt, 1, l0, l1, l2, act, an, av, aq, asked, D⟩ : Pan) = N.cm i 1 := by
    rw [compV]; show (match N.find nn with | some i => N.cm i _ | none => _) = _; rw [hf]; rfl
  have eL : Pan.setL (⟨N, 3, vb, nn, ty, cnt, 1, l0, l1, l2, act, an, av, aq, asked, D⟩ : Pan) 1 (octS (rawV ty cnt (N.cm i 1))) = ⟨N, 3, vb, nn, ty, cnt, 1, l0, (octS (rawV ty cnt (N.cm i 1))), l2, act, an, av, aq, asked, D⟩ := rfl
  simp only [loadV, e1, ent_some hv, hf, hw, if_pos hk, eL]
  rw [oneV_t g0]
  rw [oneV_n g1]
  rfl
theorem eq_load_fo2 (N : Nns) (vb nn : Int) (ty : Shw) (cnt : Int) (l0 l1 l2 : Shw) (act : Vrb) (an av aq : Int) (asked : Bool) (D : Dsp) (o : Bool) (i : Nat) (hf : N.find nn = some i) (hw : vrb vb = ⟨3, o, true, true, false⟩) (hv : okV ty cnt (N.cm i 1) = true) (hk : (N.cm i 1).k = 1) (g0 : okV l0 5 (N.cm i 0) = true) (g1 : okV (octS (rawV ty cnt (N.cm i 1))) 5 (N.cm i 1) = true) : loadV (⟨N, 3, vb, nn, ty, cnt, 1, l0, l1, l2, act, an, av, aq, asked, D⟩ : Pan) = some (endV { (⟨N, 3, vb, nn, ty, cnt, 1, l0, (octS (rawV ty cnt (N.cm i 1))), l2, act, an, av, aq, asked, D⟩ : Pan) with av := if asked = true then 0 else av, aq := if asked = true then 0 else aq, asked := false }, ⟨2, 0, cellsV (N.cm i 0) (rawV l0 5 (N.cm i 0)) ++ cellsV (N.cm i 1) (rawV (octS (rawV ty cnt (N.cm i 1))) 5 (N.cm i 1))⟩) := by
  have e1 : compV (⟨N, 3, vb, nn, ty, cnt, 1, l0, l1, l2, act, an, av, aq, asked, D⟩ : Pan) = N.cm i 1 := by
    rw [compV]; show (match N.find nn with | some i => N.cm i _ | none => _) = _; rw [hf]; rfl
  have eL : Pan.setL (⟨N, 3, vb, nn, ty, cnt, 1, l0, l1, l2, act, an, av, aq, asked, D⟩ : Pan) 1 (octS (rawV ty cnt (N.cm i 1))) = ⟨N, 3, vb, nn, ty, cnt, 1, l0, (octS (rawV ty cnt (N.cm i 1))), l2, act, an, av, aq, asked, D⟩ := rfl
  simp only [loadV, e1, ent_some hv, hf, hw, if_pos hk, eL]
  rw [← show (cellsV (N.cm i 0) (rawV l0 5 (N.cm i 0)) ++ cellsV (N.cm i 1) (rawV (octS (rawV ty cnt (N.cm i 1))) 5 (N.cm i 1)) ++ [] : List (Int × Int)) = cellsV (N.cm i 0) (rawV l0 5 (N.cm i 0)) ++ cellsV (N.cm i 1) (rawV (octS (rawV ty cnt (N.cm i 1))) 5 (N.cm i 1)) by simp]
  rw [oneV_t g0]
  rw [oneV_t g1]
  rfl
theorem eq_load_go0 (N : Nns) (vb nn : Int) (ty : Shw) (cnt : Int) (l0 l1 l2 : Shw) (act : Vrb) (an av aq : Int) (asked : Bool) (D : Dsp) (o : Bool) (i : Nat) (hf : N.find nn = some i) (hw : vrb vb = ⟨3, o, true, true, true⟩) (hv : okV ty cnt (N.cm i 2) = true) (hk : (N.cm i 2).k = 1) (g0 : okV l0 5 (N.cm i 0) = false) : loadV (⟨N, 3, vb, nn, ty, cnt, 2, l0, l1, l2, act, an, av, aq, asked, D⟩ : Pan) = none := by
  have e1 : compV (⟨N, 3, vb, nn, ty, cnt, 2, l0, l1, l2, act, an, av, aq, asked, D⟩ : Pan) = N.cm i 2 := by
    rw [compV]; show (match N.find nn with | some i => N.cm i _ | none => _) = _; rw [hf]; rfl
  have eL : Pan.setL (⟨N, 3, vb, nn, ty, cnt, 2, l0, l1, l2, act, an, av, aq, asked, D⟩ : Pan) 2 (octS (rawV ty cnt (N.cm i 2))) = ⟨N, 3, vb, nn, ty, cnt, 2, l0, l1, (octS (rawV ty cnt (N.cm i 2))), act, an, av, aq, asked, D⟩ := rfl
  simp only [loadV, e1, ent_some hv, hf, hw, if_pos hk, eL]
  rw [oneV_n g0]
  rfl
theorem eq_load_go1 (N : Nns) (vb nn : Int) (ty : Shw) (cnt : Int) (l0 l1 l2 : Shw) (act : Vrb) (an av aq : Int) (asked : Bool) (D : Dsp) (o : Bool) (i : Nat) (hf : N.find nn = some i) (hw : vrb vb = ⟨3, o, true, true, true⟩) (hv : okV ty cnt (N.cm i 2) = true) (hk : (N.cm i 2).k = 1) (g0 : okV l0 5 (N.cm i 0) = true) (g1 : okV l1 5 (N.cm i 1) = false) : loadV (⟨N, 3, vb, nn, ty, cnt, 2, l0, l1, l2, act, an, av, aq, asked, D⟩ : Pan) = none := by
  have e1 : compV (⟨N, 3, vb, nn, ty, cnt, 2, l0, l1, l2, act, an, av, aq, asked, D⟩ : Pan) = N.cm i 2 := by
    rw [compV]; show (match N.find nn with | some i => N.cm i _ | none => _) = _; rw [hf]; rfl
  have eL : Pan.setL (⟨N, 3, vb, nn, ty, cnt, 2, l0, l1, l2, act, an, av, aq, asked, D⟩ : Pan) 2 (octS (rawV ty cnt (N.cm i 2))) = ⟨N, 3, vb, nn, ty, cnt, 2, l0, l1, (octS (rawV ty cnt (N.cm i 2))), act, an, av, aq, asked, D⟩ := rfl
  simp only [loadV, e1, ent_some hv, hf, hw, if_pos hk, eL]
  rw [oneV_t g0]
  rw [oneV_n g1]
  cases oneV true (octS (rawV ty cnt (N.cm i 2))) (N.cm i 2) <;> rfl
theorem eq_load_go2 (N : Nns) (vb nn : Int) (ty : Shw) (cnt : Int) (l0 l1 l2 : Shw) (act : Vrb) (an av aq : Int) (asked : Bool) (D : Dsp) (o : Bool) (i : Nat) (hf : N.find nn = some i) (hw : vrb vb = ⟨3, o, true, true, true⟩) (hv : okV ty cnt (N.cm i 2) = true) (hk : (N.cm i 2).k = 1) (g0 : okV l0 5 (N.cm i 0) = true) (g1 : okV l1 5 (N.cm i 1) = true) (g2 : okV (octS (rawV ty cnt (N.cm i 2))) 5 (N.cm i 2) = false) : loadV (⟨N, 3, vb, nn, ty, cnt, 2, l0, l1, l2, act, an, av, aq, asked, D⟩ : Pan) = none := by
  have e1 : compV (⟨N, 3, vb, nn, ty, cnt, 2, l0, l1, l2, act, an, av, aq, asked, D⟩ : Pan) = N.cm i 2 := by
    rw [compV]; show (match N.find nn with | some i => N.cm i _ | none => _) = _; rw [hf]; rfl
  have eL : Pan.setL (⟨N, 3, vb, nn, ty, cnt, 2, l0, l1, l2, act, an, av, aq, asked, D⟩ : Pan) 2 (octS (rawV ty cnt (N.cm i 2))) = ⟨N, 3, vb, nn, ty, cnt, 2, l0, l1, (octS (rawV ty cnt (N.cm i 2))), act, an, av, aq, asked, D⟩ := rfl
  simp only [loadV, e1, ent_some hv, hf, hw, if_pos hk, eL]
  rw [oneV_t g0]
  rw [oneV_t g1]
  rw [oneV_n g2]
  rfl
theorem eq_load_go3 (N : Nns) (vb nn : Int) (ty : Shw) (cnt : Int) (l0 l1 l2 : Shw) (act : Vrb) (an av aq : Int) (asked : Bool) (D : Dsp) (o : Bool) (i : Nat) (hf : N.find nn = some i) (hw : vrb vb = ⟨3, o, true, true, true⟩) (hv : okV ty cnt (N.cm i 2) = true) (hk : (N.cm i 2).k = 1) (g0 : okV l0 5 (N.cm i 0) = true) (g1 : okV l1 5 (N.cm i 1) = true) (g2 : okV (octS (rawV ty cnt (N.cm i 2))) 5 (N.cm i 2) = true) : loadV (⟨N, 3, vb, nn, ty, cnt, 2, l0, l1, l2, act, an, av, aq, asked, D⟩ : Pan) = some (endV { (⟨N, 3, vb, nn, ty, cnt, 2, l0, l1, (octS (rawV ty cnt (N.cm i 2))), act, an, av, aq, asked, D⟩ : Pan) with av := if asked = true then 0 else av, aq := if asked = true then 0 else aq, asked := false }, ⟨2, 0, cellsV (N.cm i 0) (rawV l0 5 (N.cm i 0)) ++ cellsV (N.cm i 1) (rawV l1 5 (N.cm i 1)) ++ cellsV (N.cm i 2) (rawV (octS (rawV ty cnt (N.cm i 2))) 5 (N.cm i 2))⟩) := by
  have e1 : compV (⟨N, 3, vb, nn, ty, cnt, 2, l0, l1, l2, act, an, av, aq, asked, D⟩ : Pan) = N.cm i 2 := by
    rw [compV]; show (match N.find nn with | some i => N.cm i _ | none => _) = _; rw [hf]; rfl
  have eL : Pan.setL (⟨N, 3, vb, nn, ty, cnt, 2, l0, l1, l2, act, an, av, aq, asked, D⟩ : Pan) 2 (octS (rawV ty cnt (N.cm i 2))) = ⟨N, 3, vb, nn, ty, cnt, 2, l0, l1, (octS (rawV ty cnt (N.cm i 2))), act, an, av, aq, asked, D⟩ := rfl
  simp only [loadV, e1, ent_some hv, hf, hw, if_pos hk, eL]
  rw [oneV_t g0]
  rw [oneV_t g1]
  rw [oneV_t g2]
  rfl
end Go.Proofs
namespace Go.Proofs
open Go.E
set_option maxRecDepth 8000
def LoadOut (p : Pan) (v : AVal) (H : Heap) : Prop := match loadV p with
  | some (q, r) => v = .bool true ∧ H = [.cells (deskR q r)]
  | none => NoK v H
theorem out_some {p q : Pan} {r : Req} (e : loadV p = some (q, r)) {v : AVal} {H : Heap} (h : v = .bool true ∧ H = [.cells (deskR q r)]) : LoadOut p v H := by
  rw [LoadOut, e]
  exact h
theorem out_none {p : Pan} (e : loadV p = none) {v : AVal} {H : Heap} (h : NoK v H) : LoadOut p v H := by
  rw [LoadOut, e]
  exact h
theorem load_bits (n : Int) : (vrb n).k = 3 → ((vrb n).c0, (vrb n).c1, (vrb n).c2) ∈ [(true, false, false), (false, true, false), (false, false, true), (true, true, false), (true, true, true)] :=
  vrb_all (fun w => w.k = 3 → (w.c0, w.c1, w.c2) ∈ [(true, false, false), (false, true, false), (false, false, true), (true, true, false), (true, true, true)]) (by decide) (by decide) n
set_option maxHeartbeats 4000000 in
theorem load_run (p : Pan) (hp : p.Ok) (i : Nat) (hd : Dat p i) (hva : ∀ j, j < p.N.m i → validC (p.N.cm i j) = true) (hfit : fits (vrb p.vb) (p.N.m i) = true) (hk3 : (vrb p.vb).k = 3) (hcc : (vrb p.vb).c p.cmp = true) (h3 : p.st = 3) :
    callN Try.prog 64 [.ptr ⟨0, 0, 0⟩] [.cells (desk0 p)] (LoadOut p) := by
  cases hv : okV p.ty p.cnt (compV p) with
  | false =>
    refine callN_mono (load_no p hp.N.toOk i hd hp.ty hv) fun v H' ⟨a, b⟩ => ?_
    exact out_none (by rw [loadV, ent_none hv]) ⟨a, _, b⟩
  | true =>
  have hbits := load_bits p.vb hk3
  have h1 := hd.f
  have h2 := hd.c
  have hN := hp.N.toOk
  have hty := hp.ty
  have hl0 := hp.l0
  have hl1 := hp.l1
  have hl2 := hp.l2
  rw [show compV p = p.N.cm i p.cmp.toNat by rw [compV, hd.f]] at hv
  clear hp hd
  obtain ⟨N, st, vb, nn, ty, cnt, cmp, l0, l1, l2, act, an, av, aq, asked, D⟩ := p
  dsimp only at *
  subst h3
  generalize hw : vrb vb = w at *
  obtain ⟨k, o, c0, c1, c2⟩ := w
  dsimp only at hk3 hcc hbits hfit
  subst hk3
  have hm := of_decide_eq_true hfit
  simp only [List.mem_cons, Prod.mk.injEq, List.not_mem_nil, or_false] at hbits
  rcases hbits with ⟨rfl, rfl, rfl⟩ | ⟨rfl, rfl, rfl⟩ | ⟨rfl, rfl, rfl⟩ | ⟨rfl, rfl, rfl⟩ | ⟨rfl, rfl, rfl⟩
  · simp at hm
    by_cases hm0 : cmp = 0
    · subst hm0
      by_cases hk : (N.cm i 0).k = 1
      · cases g0 : okV (octS (rawV ty cnt (N.cm i 0))) 5 (N.cm i 0) with
        | false => exact callN_mono (load_co0 _ _ _ _ _ _ _ _ _ _ _ _ _ _ _ i hN h1 (by omega) hw hty hk  hva g0 hv) fun v H' ⟨a, b⟩ => out_none (eq_load_co0 _ _ _ _ _ _ _ _ _ _ _ _ _ _ _ i h1 hw hv hk g0) ⟨a, _, b⟩
        | true => exact callN_mono (load_co1 _ _ _ _ _ _ _ _ _ _ _ _ _ _ _ i hN h1 (by omega) hw hty hk  hva g0 hv) fun v H' h => out_some (eq_load_co1 _ _ _ _ _ _ _ _ _ _ _ _ _ _ _ i h1 hw hv hk g0) h
      · cases g0 : okV ty 5 (N.cm i 0) with
        | false => exact callN_mono (load_cd0 _ _ _ _ _ _ _ _ _ _ _ _ _ _ _ i hN h1 (by omega) hw hty hk  hva g0 hv) fun v H' ⟨a, b⟩ => out_none (eq_load_cd0 _ _ _ _ _ _ _ _ _ _ _ _ _ _ _ i h1 hw hv hk g0) ⟨a, _, b⟩
        | true => exact callN_mono (load_cd1 _ _ _ _ _ _ _ _ _ _ _ _ _ _ _ i hN h1 (by omega) hw hty hk  hva g0 hv) fun v H' h => out_some (eq_load_cd1 _ _ _ _ _ _ _ _ _ _ _ _ _ _ _ i h1 hw hv hk g0) h
    exfalso
    rcases (show cmp = 0 ∨ cmp = 1 ∨ cmp = 2 by omega) with rfl | rfl | rfl <;> simp_all [Vrb.c]
  · simp at hm
    by_cases hm1 : cmp = 1
    · subst hm1
      by_cases hk : (N.cm i 1).k = 1
      · cases g1 : okV (octS (rawV ty cnt (N.cm i 1))) 5 (N.cm i 1) with
        | false => exact callN_mono (load_do0 _ _ _ _ _ _ _ _ _ _ _ _ _ _ _ i hN h1 (by omega) hw hty hk  hva g1 hv) fun v H' ⟨a, b⟩ => out_none (eq_load_do0 _ _ _ _ _ _ _ _ _ _ _ _ _ _ _ i h1 hw hv hk g1) ⟨a, _, b⟩
        | true => exact callN_mono (load_do1 _ _ _ _ _ _ _ _ _ _ _ _ _ _ _ i hN h1 (by omega) hw hty hk  hva g1 hv) fun v H' h => out_some (eq_load_do1 _ _ _ _ _ _ _ _ _ _ _ _ _ _ _ i h1 hw hv hk g1) h
      · cases g1 : okV ty 5 (N.cm i 1) with
        | false => exact callN_mono (load_dd0 _ _ _ _ _ _ _ _ _ _ _ _ _ _ _ i hN h1 (by omega) hw hty hk  hva g1 hv) fun v H' ⟨a, b⟩ => out_none (eq_load_dd0 _ _ _ _ _ _ _ _ _ _ _ _ _ _ _ i h1 hw hv hk g1) ⟨a, _, b⟩
        | true => exact callN_mono (load_dd1 _ _ _ _ _ _ _ _ _ _ _ _ _ _ _ i hN h1 (by omega) hw hty hk  hva g1 hv) fun v H' h => out_some (eq_load_dd1 _ _ _ _ _ _ _ _ _ _ _ _ _ _ _ i h1 hw hv hk g1) h
    exfalso
    rcases (show cmp = 0 ∨ cmp = 1 ∨ cmp = 2 by omega) with rfl | rfl | rfl <;> simp_all [Vrb.c]
  · simp at hm
    by_cases hm2 : cmp = 2
    · subst hm2
      by_cases hk : (N.cm i 2).k = 1
      · cases g2 : okV (octS (rawV ty cnt (N.cm i 2))) 5 (N.cm i 2) with
        | false => exact callN_mono (load_eo0 _ _ _ _ _ _ _ _ _ _ _ _ _ _ _ i hN h1 (by omega) hw hty hk  hva g2 hv) fun v H' ⟨a, b⟩ => out_none (eq_load_eo0 _ _ _ _ _ _ _ _ _ _ _ _ _ _ _ i h1 hw hv hk g2) ⟨a, _, b⟩
        | true => exact callN_mono (load_eo1 _ _ _ _ _ _ _ _ _ _ _ _ _ _ _ i hN h1 (by omega) hw hty hk  hva g2 hv) fun v H' h => out_some (eq_load_eo1 _ _ _ _ _ _ _ _ _ _ _ _ _ _ _ i h1 hw hv hk g2) h
      · cases g2 : okV ty 5 (N.cm i 2) with
        | false => exact callN_mono (load_ed0 _ _ _ _ _ _ _ _ _ _ _ _ _ _ _ i hN h1 (by omega) hw hty hk  hva g2 hv) fun v H' ⟨a, b⟩ => out_none (eq_load_ed0 _ _ _ _ _ _ _ _ _ _ _ _ _ _ _ i h1 hw hv hk g2) ⟨a, _, b⟩
        | true => exact callN_mono (load_ed1 _ _ _ _ _ _ _ _ _ _ _ _ _ _ _ i hN h1 (by omega) hw hty hk  hva g2 hv) fun v H' h => out_some (eq_load_ed1 _ _ _ _ _ _ _ _ _ _ _ _ _ _ _ i h1 hw hv hk g2) h
    exfalso
    rcases (show cmp = 0 ∨ cmp = 1 ∨ cmp = 2 by omega) with rfl | rfl | rfl <;> simp_all [Vrb.c]
  · simp at hm
    by_cases hm0 : cmp = 0
    · subst hm0
      by_cases hk : (N.cm i 0).k = 1
      · exact callN_mono (callN_nil (load_ao _ _ _ _ _ _ _ _ _ _ _ _ _ _ _ false i hN h1 (by omega) hw hty hk hv)) fun v H' h => out_some (eq_load_ao _ _ _ _ _ _ _ _ _ _ _ _ _ _ _ false i h1 hw hv hk) h
      · exact callN_mono (callN_nil (load_ad _ _ _ _ _ _ _ _ _ _ _ _ _ _ _ false i hN h1 (by omega) hw hty hk hv)) fun v H' h => out_some (eq_load_ad _ _ _ _ _ _ _ _ _ _ _ _ _ _ _ false i h1 hw hv hk) h
    by_cases hm1 : cmp = 1
    · subst hm1
      by_cases hk : (N.cm i 1).k = 1
      · cases g0 : okV l0 5 (N.cm i 0) with
        | false => exact callN_mono (load_fo0 _ _ _ _ _ _ _ _ _ _ _ _ _ _ _ i hN h1 (by omega) hw hty hk hl0 hva g0 hv) fun v H' ⟨a, b⟩ => out_none (eq_load_fo0 _ _ _ _ _ _ _ _ _ _ _ _ _ _ _ i h1 hw hv hk g0) ⟨a, _, b⟩
        | true =>
          cases g1 : okV (octS (rawV ty cnt (N.cm i 1))) 5 (N.cm i 1) with
          | false => exact callN_mono (load_fo1 _ _ _ _ _ _ _ _ _ _ _ _ _ _ _ i hN h1 (by omega) hw hty hk hl0 hva g0 g1 hv) fun v H' ⟨a, b⟩ => out_none (eq_load_fo1 _ _ _ _ _ _ _ _ _ _ _ _ _ _ _ i h1 hw hv hk g0 g1) ⟨a, _, b⟩
          | true => exact callN_mono (load_fo2 _ _ _ _ _ _ _ _ _ _ _ _ _ _ _ i hN h1 (by omega) hw hty hk hl0 hva g0 g1 hv) fun v H' h => out_some (eq_load_fo2 _ _ _ _ _ _ _ _ _ _ _ _ _ _ _ i h1 hw hv hk g0 g1) h
      · cases g0 : okV l0 5 (N.cm i 0) with
        | false => exact callN_mono (load_fd0 _ _ _ _ _ _ _ _ _ _ _ _ _ _ _ i hN h1 (by omega) hw hty hk hl0 hva g0 hv) fun v H' ⟨a, b⟩ => out_none (eq_load_fd0 _ _ _ _ _ _ _ _ _ _ _ _ _ _ _ i h1 hw hv hk g0) ⟨a, _, b⟩
        | true =>
          cases g1 : okV ty 5 (N.cm i 1) with
          | false => exact callN_mono (load_fd1 _ _ _ _ _ _ _ _ _ _ _ _ _ _ _ i hN h1 (by omega) hw hty hk hl0 hva g0 g1 hv) fun v H' ⟨a, b⟩ => out_none (eq_load_fd1 _ _ _ _ _ _ _ _ _ _ _ _ _ _ _ i h1 hw hv hk g0 g1) ⟨a, _, b⟩
          | true => exact callN_mono (load_fd2 _ _ _ _ _ _ _ _ _ _ _ _ _ _ _ i hN h1 (by omega) hw hty hk hl0 hva g0 g1 hv) fun v H' h => out_some (eq_load_fd2 _ _ _ _ _ _ _ _ _ _ _ _ _ _ _ i h1 hw hv hk g0 g1) h
    exfalso
    rcases (show cmp = 0 ∨ cmp = 1 ∨ cmp = 2 by omega) with rfl | rfl | rfl <;> simp_all [Vrb.c]
  · simp at hm
    by_cases hm0 : cmp = 0
    · subst hm0
      by_cases hk : (N.cm i 0).k = 1
      · exact callN_mono (callN_nil (load_ao _ _ _ _ _ _ _ _ _ _ _ _ _ _ _ true i hN h1 (by omega) hw hty hk hv)) fun v H' h => out_some (eq_load_ao _ _ _ _ _ _ _ _ _ _ _ _ _ _ _ true i h1 hw hv hk) h
      · exact callN_mono (callN_nil (load_ad _ _ _ _ _ _ _ _ _ _ _ _ _ _ _ true i hN h1 (by omega) hw hty hk hv)) fun v H' h => out_some (eq_load_ad _ _ _ _ _ _ _ _ _ _ _ _ _ _ _ true i h1 hw hv hk) h
    by_cases hm1 : cmp = 1
    · subst hm1
      by_cases hk : (N.cm i 1).k = 1
      · exact callN_mono (callN_nil (load_bo _ _ _ _ _ _ _ _ _ _ _ _ _ _ _ i hN h1 (by omega) hw hty hk hv)) fun v H' h => out_some (eq_load_bo _ _ _ _ _ _ _ _ _ _ _ _ _ _ _ i h1 hw hv hk) h
      · exact callN_mono (callN_nil (load_bd _ _ _ _ _ _ _ _ _ _ _ _ _ _ _ i hN h1 (by omega) hw hty hk hv)) fun v H' h => out_some (eq_load_bd _ _ _ _ _ _ _ _ _ _ _ _ _ _ _ i h1 hw hv hk) h
    by_cases hm2 : cmp = 2
    · subst hm2
      by_cases hk : (N.cm i 2).k = 1
      · cases g0 : okV l0 5 (N.cm i 0) with
        | false => exact callN_mono (load_go0 _ _ _ _ _ _ _ _ _ _ _ _ _ _ _ i hN h1 (by omega) hw hty hk hl0 hl1 hva g0 hv) fun v H' ⟨a, b⟩ => out_none (eq_load_go0 _ _ _ _ _ _ _ _ _ _ _ _ _ _ _ i h1 hw hv hk g0) ⟨a, _, b⟩
        | true =>
          cases g1 : okV l1 5 (N.cm i 1) with
          | false => exact callN_mono (load_go1 _ _ _ _ _ _ _ _ _ _ _ _ _ _ _ i hN h1 (by omega) hw hty hk hl0 hl1 hva g0 g1 hv) fun v H' ⟨a, b⟩ => out_none (eq_load_go1 _ _ _ _ _ _ _ _ _ _ _ _ _ _ _ i h1 hw hv hk g0 g1) ⟨a, _, b⟩
          | true =>
            cases g2 : okV (octS (rawV ty cnt (N.cm i 2))) 5 (N.cm i 2) with
            | false => exact callN_mono (load_go2 _ _ _ _ _ _ _ _ _ _ _ _ _ _ _ i hN h1 (by omega) hw hty hk hl0 hl1 hva g0 g1 g2 hv) fun v H' ⟨a, b⟩ => out_none (eq_load_go2 _ _ _ _ _ _ _ _ _ _ _ _ _ _ _ i h1 hw hv hk g0 g1 g2) ⟨a, _, b⟩
            | true => exact callN_mono (load_go3 _ _ _ _ _ _ _ _ _ _ _ _ _ _ _ i hN h1 (by omega) hw hty hk hl0 hl1 hva g0 g1 g2 hv) fun v H' h => out_some (eq_load_go3 _ _ _ _ _ _ _ _ _ _ _ _ _ _ _ i h1 hw hv hk g0 g1 g2) h
      · cases g0 : okV l0 5 (N.cm i 0) with
        | false => exact callN_mono (load_gd0 _ _ _ _ _ _ _ _ _ _ _ _ _ _ _ i hN h1 (by omega) hw hty hk hl0 hl1 hva g0 hv) fun v H' ⟨a, b⟩ => out_none (eq_load_gd0 _ _ _ _ _ _ _ _ _ _ _ _ _ _ _ i h1 hw hv hk g0) ⟨a, _, b⟩
        | true =>
          cases g1 : okV l1 5 (N.cm i 1) with
          | false => exact callN_mono (load_gd1 _ _ _ _ _ _ _ _ _ _ _ _ _ _ _ i hN h1 (by omega) hw hty hk hl0 hl1 hva g0 g1 hv) fun v H' ⟨a, b⟩ => out_none (eq_load_gd1 _ _ _ _ _ _ _ _ _ _ _ _ _ _ _ i h1 hw hv hk g0 g1) ⟨a, _, b⟩
          | true =>
            cases g2 : okV ty 5 (N.cm i 2) with
            | false => exact callN_mono (load_gd2 _ _ _ _ _ _ _ _ _ _ _ _ _ _ _ i hN h1 (by omega) hw hty hk hl0 hl1 hva g0 g1 g2 hv) fun v H' ⟨a, b⟩ => out_none (eq_load_gd2 _ _ _ _ _ _ _ _ _ _ _ _ _ _ _ i h1 hw hv hk g0 g1 g2) ⟨a, _, b⟩
            | true => exact callN_mono (load_gd3 _ _ _ _ _ _ _ _ _ _ _ _ _ _ _ i hN h1 (by omega) hw hty hk hl0 hl1 hva g0 g1 g2 hv) fun v H' h => out_some (eq_load_gd3 _ _ _ _ _ _ _ _ _ _ _ _ _ _ _ i h1 hw hv hk g0 g1 g2) h
    exfalso
    rcases (show cmp = 0 ∨ cmp = 1 ∨ cmp = 2 by omega) with rfl | rfl | rfl <;> simp_all [Vrb.c]
end Go.Proofs
