/- Chapter 30: the value of a component that was typed, and its cells. -/
import Derived.Test.YthedobkhfdpdaaaC18
import Derived.Test.YthedobkhfdpdaaaC6
set_option linter.unusedVariables false
set_option linter.unusedSimpArgs false
namespace Go.Proofs
open Go.E
set_option maxRecDepth 8000
theorem callP_res {P : Program} {f : FuncId} {args : List AVal} {v v' : AVal} (he : Eqv v v') (hcl : v'.closed2 = true) (h : callP P f args (· = v)) : callP P f args (· = v') := by
  unfold callP at h ⊢
  rw [callN_iff] at h ⊢
  refine ⟨h.1, fun c us h1 hg h2 h3 => (h.2 c us h1 hg h2 h3).mono ?_⟩
  rintro e w' ⟨u, x, c', a1, a2, ⟨_, hx⟩, a4, a5, a6⟩
  exact ⟨u, v', c', a1, a2, ⟨hcl, rfl⟩, a4, a5, eqv_rel (by rw [show x = v from hx]; exact he) a6⟩
def rawV (x : Shw) (n : Int) (c : Cmp) : Int := if c.k = 1 then (foV x.f x.s n).1 else (fdV x.f x.s c).1
def okV (x : Shw) (n : Int) (c : Cmp) : Bool := if c.k = 1 then (foV x.f x.s n).2 == 0 else (fdV x.f x.s c).2 == 0 && n == 5
theorem ent_some {x : Shw} {n : Int} {c : Cmp} (h : okV x n c = true) : entV x n c = some (rawV x n c) := by
  unfold okV at h
  unfold entV rawV
  by_cases hk : c.k = 1
  · rw [if_pos hk] at h ⊢
    rw [if_pos hk, if_pos (beq_iff_eq.1 h)]
  · rw [if_neg hk] at h ⊢
    simp only [Bool.and_eq_true, beq_iff_eq] at h
    rw [if_neg hk, if_pos h]
theorem ent_none {x : Shw} {n : Int} {c : Cmp} (h : okV x n c = false) : entV x n c = none := by
  unfold okV at h
  unfold entV
  by_cases hk : c.k = 1
  · rw [if_pos hk] at h ⊢
    rw [if_neg (beq_eq_false_iff_ne.1 h)]
  · rw [if_neg hk] at h ⊢
    simp only [Bool.and_eq_false_iff, beq_eq_false_iff_ne] at h
    rw [if_neg fun e => by rcases h with h | h; exact h e.1; exact h e.2]
theorem over_le {m : Int} {f : Nat → Int} {n : Nat} (h : ¬ over m f n = true) : ∀ j, j < n → f j ≤ m := fun j hj => by
  apply Classical.byContradiction
  intro hc
  exact h (over_true j hj (by omega))
theorem foV_b {x : Shw} (hx : x.Ok) (n : Int) : 0 ≤ (foV x.f x.s n).1 ∧ (foV x.f x.s n).1 < 32768 := by
  unfold foV
  split
  · exact ⟨by decide, by decide⟩
  · split
    · exact ⟨by decide, by decide⟩
    · rename_i h1 h2
      have hn : n.toNat ≤ 5 := by omega
      have := octP_b (f := x.f) n.toNat (fun j hj => ⟨(hx.f j (by omega)).1, over_le h2 j hj⟩)
      have h8 : (8 : Int) ^ n.toNat ≤ 8 ^ 5 := by
        rcases (show n.toNat = 0 ∨ n.toNat = 1 ∨ n.toNat = 2 ∨ n.toNat = 3 ∨ n.toNat = 4 ∨ n.toNat = 5 by omega) with e | e | e | e | e | e <;> rw [e] <;> decide
      have e5 : (8 : Int) ^ 5 = 32768 := by decide
      simp only
      omega
theorem value_p (x : Shw) (hx : x.Ok) (n : Int) (c : Cmp) (hc : c.Ok) : callP Try.prog 73 [.agg x.L, .int .i64 n, cA c] (· = .tuple [.int .i64 (rawV x n c), .bool (okV x n c)]) := by
  refine callE_def env (fn := Try.f73) rfl (by decide) rfl ?_
  by_cases hk : c.k = 1
  · rw [rawV, okV, if_pos hk, if_pos hk]
    have hb := foV_b hx n
    rw [show (foV x.f x.s n).1 = IntKind.i64.wrap (foV x.f x.s n).1 from (wi (by omega) (by omega)).symm]
    repeat refine stp ?_
    refine callT_E (fromOct_c x.s x.f n hx.f) rfl ?_
    repeat refine stp ?_
    show Eqv _ _
    exact .up (.up (.refl _))
  · rw [rawV, okV, if_neg hk, if_neg hk]
    repeat refine stp ?_
    refine callT_E (fromDec_c x.s x.f c hx.s hx.f hc) rfl ?_
    by_cases he : (fdV x.f x.s c).2 = 0
    · rw [show ((fdV x.f x.s c).2 == 0) = true from beq_iff_eq.2 he, Bool.true_and]
      repeat refine stp ?_
      show Eqv _ _
      exact .up (.up (.refl _))
    · rw [show ((fdV x.f x.s c).2 == 0) = false from beq_eq_false_iff_ne.2 he, Bool.false_and]
      repeat refine stp ?_
      show Eqv _ _
      exact .up (.up (.refl _))
theorem ent_in {x : Shw} (hx : x.Ok) {n : Int} {c : Cmp} (h : okV x n c = true) (hv : validC c = true) : inV (rawV x n c) c.k = true := by
  unfold okV at h
  unfold rawV
  by_cases hk : c.k = 1
  · rw [if_pos hk, hk]
    have := foV_b hx n
    exact decide_eq_true ⟨this.1, show _ ≤ (32767 : Int) by omega⟩
  · rw [if_neg hk] at h ⊢
    simp only [Bool.and_eq_true, beq_iff_eq] at h
    have h1 := h.1
    unfold fdV at h1 ⊢
    split at h1
    · cases h1
    · split at h1
      · cases h1
      · split at h1
        · cases h1
        · split at h1
          · cases h1
          · rename_i a b c0 d
            rw [if_neg a, if_neg b, if_neg c0, if_neg d]
            simpa using d
def cellN (c : Cmp) : Nat := if c.k = 3 then 2 else 1
theorem cells_len (c : Cmp) (hc : c.k = 1 ∨ c.k = 2 ∨ c.k = 3) (v : Int) : (cellsV c v).length = cellN c := by
  unfold cellsV cellN
  rcases hc with h | h | h <;> simp [h]
theorem cells_row (c : Cmp) (hc : c.k = 1 ∨ c.k = 2 ∨ c.k = 3) (v : Int) (hw : c.k = 1 → IntKind.u16.wrap v = v) : ∀ i, i < cellN c → chunk 2 (cellL c v) i = Req.row (cellsV c v) i := by
  intro i hi
  unfold cellN at hi
  unfold cellsV cellL
  rcases hc with h | h | h
  · rw [if_neg (by omega)] at hi
    obtain rfl : i = 0 := by omega
    rw [if_pos h, if_pos h, hw h]
    rfl
  · rw [if_neg (by omega)] at hi
    obtain rfl : i = 0 := by omega
    simp [h]
    rfl
  · rw [if_pos h] at hi
    rcases (show i = 0 ∨ i = 1 by omega) with rfl | rfl <;> simp [h] <;> rfl
theorem store_p (c : Cmp) (hc : c.Ok) (v : Int) (h1 : validC c = true) (h2 : inV v c.k = true) : callP Try.prog 74 [cA c, .int .i64 v] (· = .tuple [.ro 2 (cellN c) (Req.row (cellsV c v)), .int .i64 0]) := by
  have e := store_c c hc v
  rw [storeV, if_neg (by rw [h1]; decide), if_neg (by rw [h2]; decide)] at e
  refine callP_res ?_ rfl e
  refine .tuple (.cons (.up (.ro fun i hi => cells_row c (val_facts2 h1).2.2 v (fun hk => ?_) i hi)) (.cons (.up (.refl _)) .nil))
  have := of_decide_eq_true h2
  rw [hk] at this
  exact wu16 this.1 (by have := this.2; have e : hiV 1 = 32767 := rfl; omega)
theorem octS_ok (v : Int) : (octS v).Ok := by
  have h := fun i => digF_bound (b := 8) (n := v % 32768) ⟨by decide, by decide⟩ i
  refine ⟨⟨show (0 : Int) ≤ 0 by decide, show (0 : Int) < 256 by decide⟩, fun j hj => ?_⟩
  rcases (show j = 0 ∨ j = 1 ∨ j = 2 ∨ j = 3 ∨ j = 4 by omega) with rfl | rfl | rfl | rfl | rfl
  · have := h 0; exact ⟨this.1, by show digF 8 (v % 32768) 0 < 256; omega⟩
  · have := h 1; exact ⟨this.1, by show digF 8 (v % 32768) 1 < 256; omega⟩
  · have := h 2; exact ⟨this.1, by show digF 8 (v % 32768) 2 < 256; omega⟩
  · have := h 3; exact ⟨this.1, by show digF 8 (v % 32768) 3 < 256; omega⟩
  · have := h 4; exact ⟨this.1, by show digF 8 (v % 32768) 4 < 256; omega⟩
theorem room16 {n : Nat} (h : n ≤ 1000) : roomFor n 16 := by
  show n * 16 ≤ 2 ^ 47
  omega
theorem cellN_le (c : Cmp) : cellN c ≤ 2 := by
  unfold cellN
  split <;> omega
end Go.Proofs
namespace Go.Proofs
open Go.E
set_option maxRecDepth 8000
theorem desk_eqv {p : Pan} {k n : Int} {x y : AVal} (h : Eqv x y) : EqvH [.cells (deskL p k n x)] [.cells (deskL p k n y)] := by
  refine .cons ?_ .nil
  show EqvL Eqv (deskL p k n x) (deskL p k n y)
  repeat (first | exact .cons h .nil | refine .cons (Eqv.same _) ?_)
theorem row_app (a b : List (Int × Int)) (i : Nat) : Req.row (a ++ b) i = if i < a.length then Req.row a i else Req.row b (i - a.length) := by
  unfold Req.row
  by_cases h : i < a.length
  · rw [if_pos h, List.getD_eq_getElem?_getD, List.getD_eq_getElem?_getD, List.getElem?_append_left h]
  · rw [if_neg h, List.getD_eq_getElem?_getD, List.getD_eq_getElem?_getD, List.getElem?_append_right (by omega)]
theorem row_cat {n : Nat} {f g : Nat → List AVal} {a b : List (Int × Int)} (hn : a.length = n) {i : Nat} (hf : i < n → f i = Req.row a i) (hg : ¬ i < n → g (i - n) = Req.row b (i - n)) : catRows n f g i = Req.row (a ++ b) i := by
  rw [row_app, hn]
  unfold catRows
  by_cases h : i < n
  · rw [if_pos h, if_pos h, hf h]
  · rw [if_neg h, if_neg h, hg h]
end Go.Proofs
namespace Go.Proofs
open Go.E
set_option maxRecDepth 8000
abbrev deskR (q : Pan) (r : Req) : List AVal := deskL q r.k r.n (.ro 2 r.c.length (Req.row r.c))
theorem callN_nil {f : FuncId} {args : List AVal} {p q : Pan} {k n : Int} {b : Bool} (h : callN Try.prog f args [.cells (desk0 p)] fun v H' => v = .bool b ∧ H' = [.cells (deskL q k n .nilslice)]) :
    callN Try.prog f args [.cells (desk0 p)] fun v H' => v = .bool b ∧ H' = [.cells (deskR q ⟨k, n, []⟩)] := by
  refine callN_end [0] (callN_mono h fun v H' ⟨a, b⟩ => ?_)
  subst a b
  exact ⟨rfl, Eqv.same _, desk_eqv (.up (.up (.nil _ _)))⟩
end Go.Proofs
