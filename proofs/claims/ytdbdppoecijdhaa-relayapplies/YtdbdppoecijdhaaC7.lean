/- Chapter 27, part m: fit, sign; the law of words applied once or twice. -/
import Derived.Test.YtdbdppoecijdhaaC6
set_option linter.unusedVariables false
set_option linter.unusedSimpArgs false
/-! Am. -/
namespace Go.Proofs
open Go.E
set_option maxRecDepth 8000

def stg (j : Nat) : Nat := match j with
  | 0 => 1
  | 1 => 2
  | 2 => 1
  | 3 => 2
  | 4 => 1
  | 5 => 2
  | 6 => 3
  | 7 => 4
  | 8 => 5
  | 9 => 6
  | 10 => 7
  | 11 => 8
  | 12 => 9
  | 13 => 10
  | 14 => 11
  | 15 => 12
  | 16 => 13
  | 17 => 14
  | 18 => 15
  | 19 => 16
  | 20 => 17
  | 21 => 18
  | 22 => 19
  | 23 => 20
  | 24 => 21
  | 25 => 21
  | _ => 99
def fitN (d : Nat → Int) (n j : Nat) : Int := match Nat.ble (stg j) n with | true => Int.tmod (d j) (lim j) | false => d j
def fitD (d : Nat → Int) : Nat → Int := fitN d 21
theorem fit_good {d : Nat → Int} (hd : WD d) : Good (fitD d) := fun j hj => by
  have h0 : 0 ≤ d j := by
    by_cases h : j < 24
    · exact (hd.1 j h).1
    by_cases h4 : j = 24
    · subst h4; exact hd.2.1.1
    · have : j = 25 := by omega
      subst this; exact hd.2.2.1
  have e : fitD d j = Int.tmod (d j) (lim j) := by
    have : Nat.ble (stg j) 21 = true := by
      have hj' : j = 0 ∨ j = 1 ∨ j = 2 ∨ j = 3 ∨ j = 4 ∨ j = 5 ∨ j = 6 ∨ j = 7 ∨ j = 8 ∨ j = 9 ∨ j = 10 ∨ j = 11 ∨ j = 12 ∨ j = 13 ∨ j = 14 ∨ j = 15 ∨ j = 16 ∨ j = 17 ∨ j = 18 ∨ j = 19 ∨ j = 20 ∨ j = 21 ∨ j = 22 ∨ j = 23 ∨ j = 24 ∨ j = 25 := by omega
      rcases hj' with rfl | rfl | rfl | rfl | rfl | rfl | rfl | rfl | rfl | rfl | rfl | rfl | rfl | rfl | rfl | rfl | rfl | rfl | rfl | rfl | rfl | rfl | rfl | rfl | rfl | rfl <;> rfl
    unfold fitD fitN
    rw [this]
  have hl : 0 < lim j := by unfold lim; split <;> decide
  rw [e, Int.tmod_eq_emod_of_nonneg h0]
  exact ⟨Int.emod_nonneg _ (by omega), Int.emod_lt_of_pos _ hl⟩
set_option maxHeartbeats 4000000 in
theorem fit_c {d : Nat → Int} : callP Try.prog 9 [dispA d] (· = dispA (fitD d)) := by
  refine callE_def env (fn := Try.f9) rfl (by decide) rfl ?_
  refine loop_weak (fun i : Nat => slots 75 [(1, .ptr ⟨0, 0, 0⟩), (2, .ptr ⟨1, 0, 0⟩), (3, .int .i64 i)])
    (fun i => [.cells (dcells (fitN d i)), .cells (dcells fun _ => 0)])
    (fun i => i ≤ 2) (fun i => 2 - i) 0 (Nat.zero_le _) (weak_keep (keep 75 [1, 2, 3]) [0, 1] rfl rfl rfl) ?_
  intro i hi
  match i, hi with
  | 0, _ =>
    refine branch_true ?_
    refine draw_tree (picks [0, 1, 2, 3, 4, 5, 6, 7, 8, 9, 10, 11, 12, 13, 14, 15, 16, 17, 18, 19, 20, 21, 22, 23, 24, 25, 26] .done) (by decide +kernel) ?_
    repeat (refine need_intro (by decide) ?_)
    exact ⟨1, by decide, by decide, weak_keep (keep 75 [1, 2, 3]) [0, 1] rfl rfl rfl⟩
  | 1, _ =>
    refine branch_true ?_
    refine draw_tree (picks [0, 1, 2, 3, 4, 5, 6, 7, 8, 9, 10, 11, 12, 13, 14, 15, 16, 17, 18, 19, 20, 21, 22, 23, 24, 25, 26] .done) (by decide +kernel) ?_
    repeat (refine need_intro (by decide) ?_)
    exact ⟨2, by decide, by decide, weak_keep (keep 75 [1, 2, 3]) [0, 1] rfl rfl rfl⟩
  | 2, _ =>
    refine branch_false ?_
    refine loop_weak (fun i : Nat => slots 75 [(1, .ptr ⟨0, 0, 0⟩), (2, .ptr ⟨1, 0, 0⟩), (4, .int .i64 i)])
      (fun i => [.cells (dcells (fitN d (2 + 6 * i))), .cells (dcells fun _ => 0)])
      (fun i => i ≤ 3) (fun i => 3 - i) 0 (Nat.zero_le _) (weak_keep (keep 75 [1, 2, 4]) [0, 1] rfl rfl rfl) ?_
    intro i hi
    match i, hi with
    | 0, _ =>
      refine branch_true ?_
      repeat (refine need_intro (by decide) ?_)
      refine loop_weak (fun k : Nat => slots 75 [(1, .ptr ⟨0, 0, 0⟩), (2, .ptr ⟨1, 0, 0⟩), (4, .int .i64 0), (5, .int .i64 k)])
        (fun k => [.cells (dcells (fitN d (3 + k))), .cells (dcells fun _ => 0)])
        (fun k => k ≤ 5) (fun k => 5 - k) 0 (Nat.zero_le _) (weak_keep (keep 75 [1, 2, 4, 5]) [0, 1] rfl rfl rfl) ?_
      intro k hk
      match k, hk with
      | 0, _ =>
        refine branch_true ?_
        refine draw_tree (picks [0, 1, 2, 3, 4, 5, 6, 7, 8, 9, 10, 11, 12, 13, 14] .done) (by decide +kernel) ?_
        repeat (refine need_intro (by decide) ?_)
        exact ⟨1, by decide, by decide, weak_keep (keep 75 [1, 2, 4, 5]) [0, 1] rfl rfl rfl⟩
      | 1, _ =>
        refine branch_true ?_
        refine draw_tree (picks [0, 1, 2, 3, 4, 5, 6, 7, 8, 9, 10, 11, 12, 13, 14] .done) (by decide +kernel) ?_
        repeat (refine need_intro (by decide) ?_)
        exact ⟨2, by decide, by decide, weak_keep (keep 75 [1, 2, 4, 5]) [0, 1] rfl rfl rfl⟩
      | 2, _ =>
        refine branch_true ?_
        refine draw_tree (picks [0, 1, 2, 3, 4, 5, 6, 7, 8, 9, 10, 11, 12, 13, 14] .done) (by decide +kernel) ?_
        repeat (refine need_intro (by decide) ?_)
        exact ⟨3, by decide, by decide, weak_keep (keep 75 [1, 2, 4, 5]) [0, 1] rfl rfl rfl⟩
      | 3, _ =>
        refine branch_true ?_
        refine draw_tree (picks [0, 1, 2, 3, 4, 5, 6, 7, 8, 9, 10, 11, 12, 13, 14] .done) (by decide +kernel) ?_
        repeat (refine need_intro (by decide) ?_)
        exact ⟨4, by decide, by decide, weak_keep (keep 75 [1, 2, 4, 5]) [0, 1] rfl rfl rfl⟩
      | 4, _ =>
        refine branch_true ?_
        refine draw_tree (picks [0, 1, 2, 3, 4, 5, 6, 7, 8, 9, 10, 11, 12, 13, 14] .done) (by decide +kernel) ?_
        repeat (refine need_intro (by decide) ?_)
        exact ⟨5, by decide, by decide, weak_keep (keep 75 [1, 2, 4, 5]) [0, 1] rfl rfl rfl⟩
      | 5, _ =>
        refine branch_false ?_
        exact ⟨1, by decide, by decide, weak_keep (keep 75 [1, 2, 4]) [0, 1] rfl rfl rfl⟩
    | 1, _ =>
      refine branch_true ?_
      repeat (refine need_intro (by decide) ?_)
      refine loop_weak (fun k : Nat => slots 75 [(1, .ptr ⟨0, 0, 0⟩), (2, .ptr ⟨1, 0, 0⟩), (4, .int .i64 1), (5, .int .i64 k)])
        (fun k => [.cells (dcells (fitN d (9 + k))), .cells (dcells fun _ => 0)])
        (fun k => k ≤ 5) (fun k => 5 - k) 0 (Nat.zero_le _) (weak_keep (keep 75 [1, 2, 4, 5]) [0, 1] rfl rfl rfl) ?_
      intro k hk
      match k, hk with
      | 0, _ =>
        refine branch_true ?_
        refine draw_tree (picks [0, 1, 2, 3, 4, 5, 6, 7, 8, 9, 10, 11, 12, 13, 14] .done) (by decide +kernel) ?_
        repeat (refine need_intro (by decide) ?_)
        exact ⟨1, by decide, by decide, weak_keep (keep 75 [1, 2, 4, 5]) [0, 1] rfl rfl rfl⟩
      | 1, _ =>
        refine branch_true ?_
        refine draw_tree (picks [0, 1, 2, 3, 4, 5, 6, 7, 8, 9, 10, 11, 12, 13, 14] .done) (by decide +kernel) ?_
        repeat (refine need_intro (by decide) ?_)
        exact ⟨2, by decide, by decide, weak_keep (keep 75 [1, 2, 4, 5]) [0, 1] rfl rfl rfl⟩
      | 2, _ =>
        refine branch_true ?_
        refine draw_tree (picks [0, 1, 2, 3, 4, 5, 6, 7, 8, 9, 10, 11, 12, 13, 14] .done) (by decide +kernel) ?_
        repeat (refine need_intro (by decide) ?_)
        exact ⟨3, by decide, by decide, weak_keep (keep 75 [1, 2, 4, 5]) [0, 1] rfl rfl rfl⟩
      | 3, _ =>
        refine branch_true ?_
        refine draw_tree (picks [0, 1, 2, 3, 4, 5, 6, 7, 8, 9, 10, 11, 12, 13, 14] .done) (by decide +kernel) ?_
        repeat (refine need_intro (by decide) ?_)
        exact ⟨4, by decide, by decide, weak_keep (keep 75 [1, 2, 4, 5]) [0, 1] rfl rfl rfl⟩
      | 4, _ =>
        refine branch_true ?_
        refine draw_tree (picks [0, 1, 2, 3, 4, 5, 6, 7, 8, 9, 10, 11, 12, 13, 14] .done) (by decide +kernel) ?_
        repeat (refine need_intro (by decide) ?_)
        exact ⟨5, by decide, by decide, weak_keep (keep 75 [1, 2, 4, 5]) [0, 1] rfl rfl rfl⟩
      | 5, _ =>
        refine branch_false ?_
        exact ⟨2, by decide, by decide, weak_keep (keep 75 [1, 2, 4]) [0, 1] rfl rfl rfl⟩
    | 2, _ =>
      refine branch_true ?_
      repeat (refine need_intro (by decide) ?_)
      refine loop_weak (fun k : Nat => slots 75 [(1, .ptr ⟨0, 0, 0⟩), (2, .ptr ⟨1, 0, 0⟩), (4, .int .i64 2), (5, .int .i64 k)])
        (fun k => [.cells (dcells (fitN d (15 + k))), .cells (dcells fun _ => 0)])
        (fun k => k ≤ 5) (fun k => 5 - k) 0 (Nat.zero_le _) (weak_keep (keep 75 [1, 2, 4, 5]) [0, 1] rfl rfl rfl) ?_
      intro k hk
      match k, hk with
      | 0, _ =>
        refine branch_true ?_
        refine draw_tree (picks [0, 1, 2, 3, 4, 5, 6, 7, 8, 9, 10, 11, 12, 13, 14] .done) (by decide +kernel) ?_
        repeat (refine need_intro (by decide) ?_)
        exact ⟨1, by decide, by decide, weak_keep (keep 75 [1, 2, 4, 5]) [0, 1] rfl rfl rfl⟩
      | 1, _ =>
        refine branch_true ?_
        refine draw_tree (picks [0, 1, 2, 3, 4, 5, 6, 7, 8, 9, 10, 11, 12, 13, 14] .done) (by decide +kernel) ?_
        repeat (refine need_intro (by decide) ?_)
        exact ⟨2, by decide, by decide, weak_keep (keep 75 [1, 2, 4, 5]) [0, 1] rfl rfl rfl⟩
      | 2, _ =>
        refine branch_true ?_
        refine draw_tree (picks [0, 1, 2, 3, 4, 5, 6, 7, 8, 9, 10, 11, 12, 13, 14] .done) (by decide +kernel) ?_
        repeat (refine need_intro (by decide) ?_)
        exact ⟨3, by decide, by decide, weak_keep (keep 75 [1, 2, 4, 5]) [0, 1] rfl rfl rfl⟩
      | 3, _ =>
        refine branch_true ?_
        refine draw_tree (picks [0, 1, 2, 3, 4, 5, 6, 7, 8, 9, 10, 11, 12, 13, 14] .done) (by decide +kernel) ?_
        repeat (refine need_intro (by decide) ?_)
        exact ⟨4, by decide, by decide, weak_keep (keep 75 [1, 2, 4, 5]) [0, 1] rfl rfl rfl⟩
      | 4, _ =>
        refine branch_true ?_
        refine draw_tree (picks [0, 1, 2, 3, 4, 5, 6, 7, 8, 9, 10, 11, 12, 13, 14] .done) (by decide +kernel) ?_
        repeat (refine need_intro (by decide) ?_)
        exact ⟨5, by decide, by decide, weak_keep (keep 75 [1, 2, 4, 5]) [0, 1] rfl rfl rfl⟩
      | 5, _ =>
        refine branch_false ?_
        exact ⟨3, by decide, by decide, weak_keep (keep 75 [1, 2, 4]) [0, 1] rfl rfl rfl⟩
    | 3, _ =>
      refine branch_false ?_
      repeat (refine need_intro (by decide) ?_)
      show Eqv _ _
      exact .up (.up (.refl _))
def sgR (n : Nat) : Int := match n with
  | 1 => 2 | 2 => 2 | 4 => 1 | 5 => 1 | 6 => 0 | 7 => 0 | _ => -1
theorem sign_c {n : Nat} (hn : n < 16) : callP Try.prog 14 [.int .i64 n] (· = .int .i64 (sgR n)) := by
  refine callE_def env (fn := Try.f14) rfl (by decide) rfl ?_
  have h16 : n = 0 ∨ n = 1 ∨ n = 2 ∨ n = 3 ∨ n = 4 ∨ n = 5 ∨ n = 6 ∨ n = 7 ∨ n = 8 ∨ n = 9 ∨ n = 10 ∨ n = 11 ∨ n = 12 ∨ n = 13 ∨ n = 14 ∨ n = 15 := by omega
  rcases h16 with rfl | rfl | rfl | rfl | rfl | rfl | rfl | rfl | rfl | rfl | rfl | rfl | rfl | rfl | rfl | rfl
  · repeat (refine need_intro (by decide) ?_)
    show Eqv _ _
    exact .up (.up (.refl _))
  · repeat (refine need_intro (by decide) ?_)
    show Eqv _ _
    exact .up (.up (.refl _))
  · repeat (refine need_intro (by decide) ?_)
    show Eqv _ _
    exact .up (.up (.refl _))
  · repeat (refine need_intro (by decide) ?_)
    show Eqv _ _
    exact .up (.up (.refl _))
  · repeat (refine need_intro (by decide) ?_)
    show Eqv _ _
    exact .up (.up (.refl _))
  · repeat (refine need_intro (by decide) ?_)
    show Eqv _ _
    exact .up (.up (.refl _))
  · repeat (refine need_intro (by decide) ?_)
    show Eqv _ _
    exact .up (.up (.refl _))
  · repeat (refine need_intro (by decide) ?_)
    show Eqv _ _
    exact .up (.up (.refl _))
  · repeat (refine need_intro (by decide) ?_)
    show Eqv _ _
    exact .up (.up (.refl _))
  · repeat (refine need_intro (by decide) ?_)
    show Eqv _ _
    exact .up (.up (.refl _))
  · repeat (refine need_intro (by decide) ?_)
    show Eqv _ _
    exact .up (.up (.refl _))
  · repeat (refine need_intro (by decide) ?_)
    show Eqv _ _
    exact .up (.up (.refl _))
  · repeat (refine need_intro (by decide) ?_)
    show Eqv _ _
    exact .up (.up (.refl _))
  · repeat (refine need_intro (by decide) ?_)
    show Eqv _ _
    exact .up (.up (.refl _))
  · repeat (refine need_intro (by decide) ?_)
    show Eqv _ _
    exact .up (.up (.refl _))
  · repeat (refine need_intro (by decide) ?_)
    show Eqv _ _
    exact .up (.up (.refl _))
theorem sg_so : ∀ n : Fin 16, ∀ m : Fin 16, (soN n.val < 26 → soN n.val = soN m.val → decide (sgR n.val ≥ 0) = true ∧ (sgR n.val == sgR m.val) = true) := by decide +kernel
end Go.Proofs
/-! An. -/
namespace Go.Proofs
open Go.E
set_option maxRecDepth 8000

abbrev kD : List IntKind := [.u8, .u8, .u8, .u8, .u8, .u8, .u8, .u8, .u8, .u8, .u8, .u8, .u8, .u8, .u8, .u8, .u8, .u8, .u8, .u8, .u8, .u8, .u8, .u8, .u16, .u16]
theorem kd_wd {d : Nat → Int} (h : HasL kD d) : WD d := by
  refine ⟨fun j hj => ?_, has_u16 (h 24 (by decide)), has_u16 (h 25 (by decide))⟩
  have hj' : j = 0 ∨ j = 1 ∨ j = 2 ∨ j = 3 ∨ j = 4 ∨ j = 5 ∨ j = 6 ∨ j = 7 ∨ j = 8 ∨ j = 9 ∨ j = 10 ∨ j = 11 ∨ j = 12 ∨ j = 13 ∨ j = 14 ∨ j = 15 ∨ j = 16 ∨ j = 17 ∨ j = 18 ∨ j = 19 ∨ j = 20 ∨ j = 21 ∨ j = 22 ∨ j = 23 := by omega
  rcases hj' with rfl | rfl | rfl | rfl | rfl | rfl | rfl | rfl | rfl | rfl | rfl | rfl | rfl | rfl | rfl | rfl | rfl | rfl | rfl | rfl | rfl | rfl | rfl | rfl <;> exact has_u8 (h _ (by decide))
theorem disp_congr {a b : Nat → Int} (h : ∀ j, j < 26 → a j = b j) : dispA a = dispA b := by
  simp only [dispA]
  rw [h 0 (by decide), h 1 (by decide), h 2 (by decide), h 3 (by decide), h 4 (by decide), h 5 (by decide), h 6 (by decide), h 7 (by decide), h 8 (by decide), h 9 (by decide), h 10 (by decide), h 11 (by decide), h 12 (by decide), h 13 (by decide), h 14 (by decide), h 15 (by decide), h 16 (by decide), h 17 (by decide), h 18 (by decide), h 19 (by decide), h 20 (by decide), h 21 (by decide), h 22 (by decide), h 23 (by decide), h 24 (by decide), h 25 (by decide)]
theorem apD_zero {d : Nat → Int} {w : Int} (h : apE w ≠ 0) : apD d w = fun _ => 0 := by
  have hb := @rowN_b w
  unfold apE at h
  unfold apD
  generalize rowN w = r at h hb ⊢
  have h16 : r = 0 ∨ r = 1 ∨ r = 2 ∨ r = 3 ∨ r = 4 ∨ r = 5 ∨ r = 6 ∨ r = 7 ∨ r = 8 ∨ r = 9 ∨ r = 10 ∨ r = 11 ∨ r = 12 ∨ r = 13 ∨ r = 14 ∨ r = 15 := by omega
  rcases h16 with rfl | rfl | rfl | rfl | rfl | rfl | rfl | rfl | rfl | rfl | rfl | rfl | rfl | rfl | rfl | rfl <;> first
    | rfl
    | (exfalso; simp at h; done)
    | (simp only [Nat.reduceSub] at h ⊢
       split
       · rename_i hf; rw [if_pos hf] at h; exact absurd rfl h
       · rfl)
theorem row_raw {w : Int} (h0 : 0 ≤ w) (h1 : w < 65536) : IntKind.i64.wrap (Int.tdiv (IntKind.i64.wrap (Int.tmod w 32768)) 2048) = (rowN w : Int) := by
  have e1 : Int.tmod w 32768 = w % 32768 := Int.tmod_eq_emod_of_nonneg h0
  rw [e1, wi (x := w % 32768) (by omega) (by omega), Int.tdiv_eq_ediv_of_nonneg (by omega), wi (by omega) (by omega)]
  unfold rowN
  omega
set_option maxHeartbeats 4000000 in
theorem once_law (d0 : Nat → Int) (hd0 : HasL kD d0) (v : Int) (hv : 0 ≤ v ∧ v < 65536) (w : Int) (hw : 0 ≤ w ∧ w < 65536) : callP Try.prog 3 [.agg (aggL d0 kD 0), .int .u16 v, .int .u16 w] (· = .bool true) := by
  have hg := fit_good (kd_wd hd0)
  show callP Try.prog 3 [dispA d0, .int .u16 v, .int .u16 w] (· = .bool true)
  have cf := fit_c (d := d0)
  generalize fitD d0 = d at hg cf
  have ca := apply_c hg.wd hg.may hv.1 hv.2
  have cb := apply_c hg.wd hg.may hw.1 hw.2
  refine callE_def env (fn := Try.f3) rfl (by decide) rfl ?_
  refine callT_E cf rfl ?_
  by_cases hE : apE v = 0
  rotate_left
  · rw [apD_zero hE] at ca
    refine callT_E ca rfl ?_
    refine branch_t' (by simpa using hE) ?_
    repeat (first | refine branch_t' (by decide +kernel) ?_ | refine branch_f' (by decide +kernel) ?_)
    refine callT_E works_c rfl ?_
    repeat (first | refine branch_t' (by decide +kernel) ?_ | refine branch_f' (by decide +kernel) ?_)
    show Eqv _ _
    exact .up (.up (.refl _))
  have gx := ap_good hg hE
  have ctw := apply_c gx.wd gx.may hv.1 hv.2
  rw [hE, disp_congr (fun j hj => ap_twice (d := d) hE hj)] at ctw
  have hrow := ap_row (d := d) hv.1 hv.2 hE
  obtain ⟨r1, r13, _⟩ := apE_row hE
  have crow := row_c gx.wd gx.may r1 r13
  rw [hrow] at crow
  have cmay := may_c gx.wd
  rw [gx.may] at cmay
  have rv := row_raw hv.1 hv.2
  have rw_ := row_raw hw.1 hw.2
  rw [hE] at ca
  have etm : Int.tmod v 32768 = v % 32768 := Int.tmod_eq_emod_of_nonneg hv.1
  refine callT_E ca rfl ?_
  repeat (first | refine branch_t' (by decide +kernel) ?_ | refine branch_f' (by decide +kernel) ?_)
  refine callT_E ctw rfl ?_
  repeat (refine need_intro (by decide) ?_)
  refine callT_E ((congrArg (fun n => callP Try.prog 12 [dispA (apD d v), .int .i64 n] (· = _)) rv).mpr crow) rfl ?_
  repeat (first | refine branch_t' (by decide +kernel) ?_ | refine branch_f' (by decide +kernel) ?_)
  repeat (first | refine branch_true ?_ | refine branch_false ?_ | (refine branch_f' ?_ ?_; focus (simp; done)) | (refine branch_t' ?_ ?_; focus (simp; done)))
  refine callT_E cmay rfl ?_
  repeat (first | refine branch_t' (by decide +kernel) ?_ | refine branch_f' (by decide +kernel) ?_)
  repeat (refine need_intro (by decide) ?_)
  repeat (first | refine branch_t' (by decide +kernel) ?_ | refine branch_f' (by decide +kernel) ?_)
  repeat (refine need_intro (by decide) ?_)
  refine branch_f' (by rw [etm]; simp) ?_
  by_cases hW : apE w = 0
  rotate_left
  · rw [apD_zero hW] at cb
    refine callT_E cb rfl ?_
    repeat (refine need_intro (by decide) ?_)
    refine branch_t' (by simpa using hW) ?_
    repeat (first | refine branch_t' (by decide +kernel) ?_ | refine branch_f' (by decide +kernel) ?_)
    refine callT_E works_c rfl ?_
    show Eqv _ _
    exact .up (.up (.refl _))
  have gy := ap_good hg hW
  have c1 := apply_c gx.wd gx.may hw.1 hw.2
  have c2 := apply_c gy.wd gy.may hv.1 hv.2
  rw [hW] at cb c1
  rw [hE] at c2
  have csv := sign_c (n := rowN v) rowN_b
  have csw := sign_c (n := rowN w) rowN_b
  have cS := (congrArg (fun n => callP Try.prog 14 [.int .i64 n] (· = _)) rv).mpr csv
  have cS2 := (congrArg (fun n => callP Try.prog 14 [.int .i64 n] (· = _)) rw_).mpr csw
  refine callT_E cb rfl ?_
  repeat (refine need_intro (by decide) ?_)
  repeat (first | refine branch_t' (by decide +kernel) ?_ | refine branch_f' (by decide +kernel) ?_)
  rw [rv, rw_] at *
  apply branch_intro <;> intro hn
  · repeat (first | refine branch_true ?_ | refine branch_false ?_ | refine branch_f' (bne_self_eq_false _) ?_ | refine branch_t' (beq_self_eq_true _) ?_ | refine branch_t' (decide_eq_true rfl) ?_)
    refine callT_E works_c rfl ?_
    show Eqv _ _
    exact .up (.up (.refl _))
  have hne : rowN v ≠ rowN w := by
    intro e
    rw [e] at hn
    simp at hn
  repeat (first | refine branch_true ?_ | refine branch_false ?_ | refine branch_f' (bne_self_eq_false _) ?_ | refine branch_t' (beq_self_eq_true _) ?_ | refine branch_t' (decide_eq_true rfl) ?_)
  refine callT_E csv rfl ?_
  repeat (first | refine branch_true ?_ | refine branch_false ?_ | refine branch_f' (bne_self_eq_false _) ?_ | refine branch_t' (beq_self_eq_true _) ?_ | refine branch_t' (decide_eq_true rfl) ?_)
  have hall := fun (hlt : soN (rowN v) < 26) (e : soN (rowN v) = soN (rowN w)) => sg_so ⟨rowN v, rowN_b⟩ ⟨rowN w, rowN_b⟩ hlt e
  apply branch_intro <;> intro hs
  · repeat (first | refine branch_true ?_ | refine branch_false ?_ | refine branch_f' (bne_self_eq_false _) ?_ | refine branch_t' (beq_self_eq_true _) ?_ | refine branch_t' (decide_eq_true rfl) ?_)
    refine callT_E csv rfl ?_
    repeat (first | refine branch_true ?_ | refine branch_false ?_ | refine branch_f' (bne_self_eq_false _) ?_ | refine branch_t' (beq_self_eq_true _) ?_ | refine branch_t' (decide_eq_true rfl) ?_)
    refine callT_E csw rfl ?_
    repeat (first | refine branch_true ?_ | refine branch_false ?_ | refine branch_f' (bne_self_eq_false _) ?_ | refine branch_t' (beq_self_eq_true _) ?_ | refine branch_t' (decide_eq_true rfl) ?_)
    apply branch_intro <;> intro hs2
    · repeat (first | refine branch_true ?_ | refine branch_false ?_ | refine branch_f' (bne_self_eq_false _) ?_ | refine branch_t' (beq_self_eq_true _) ?_ | refine branch_t' (decide_eq_true rfl) ?_)
      refine callT_E works_c rfl ?_
      show Eqv _ _
      exact .up (.up (.refl _))
    · have hss : soN (rowN v) < 26 → soN (rowN v) ≠ soN (rowN w) := fun hlt e => by
        have := (hall hlt e).2
        simp only at this
        rw [this] at hs2
        cases hs2
      repeat (first | refine branch_true ?_ | refine branch_false ?_ | refine branch_f' (bne_self_eq_false _) ?_ | refine branch_t' (beq_self_eq_true _) ?_ | refine branch_t' (decide_eq_true rfl) ?_)
      rw [disp_congr (fun j hj => (ap_comm hE hW hne hss hj).symm)] at c2
      refine callT_E c1 rfl ?_
      refine callT_E c2 rfl ?_
      repeat (first | refine branch_t' (by decide +kernel) ?_ | refine branch_f' (by decide +kernel) ?_)
      repeat (first | refine branch_true ?_ | refine branch_false ?_ | (refine branch_f' ?_ ?_; focus (simp; done)) | (refine branch_t' ?_ ?_; focus (simp; done)))
      refine callT_E works_c rfl ?_
      repeat (first | refine branch_true ?_ | refine branch_false ?_ | refine branch_f' (bne_self_eq_false _) ?_ | refine branch_t' (beq_self_eq_true _) ?_ | refine branch_t' (decide_eq_true rfl) ?_)
      show Eqv _ _
      exact .up (.up (.refl _))
  · have hss : soN (rowN v) < 26 → soN (rowN v) ≠ soN (rowN w) := fun hlt e => by
      have := (hall hlt e).1
      simp only at this
      rw [this] at hs
      cases hs
    repeat (first | refine branch_true ?_ | refine branch_false ?_ | refine branch_f' (bne_self_eq_false _) ?_ | refine branch_t' (beq_self_eq_true _) ?_ | refine branch_t' (decide_eq_true rfl) ?_)
    rw [disp_congr (fun j hj => (ap_comm hE hW hne hss hj).symm)] at c2
    refine callT_E c1 rfl ?_
    refine callT_E c2 rfl ?_
    repeat (first | refine branch_t' (by decide +kernel) ?_ | refine branch_f' (by decide +kernel) ?_)
    repeat (first | refine branch_true ?_ | refine branch_false ?_ | (refine branch_f' ?_ ?_; focus (simp; done)) | (refine branch_t' ?_ ?_; focus (simp; done)))
    refine callT_E works_c rfl ?_
    repeat (first | refine branch_true ?_ | refine branch_false ?_ | refine branch_f' (bne_self_eq_false _) ?_ | refine branch_t' (beq_self_eq_true _) ?_ | refine branch_t' (decide_eq_true rfl) ?_)
    show Eqv _ _
    exact .up (.up (.refl _))
end Go.Proofs
