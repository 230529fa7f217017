/- Chapter 27, part i: Apply, all rows; the examples; the law of the digits. -/
import Derived.Test.YtdbdppoecijdhaaC3
import Derived.Test.YtdbdppoecijdhaaC4
set_option linter.unusedVariables false
set_option linter.unusedSimpArgs false
/-! Ai. -/
namespace Go.Proofs
open Go.E
set_option maxRecDepth 8000

def rowN (w : Int) : Nat := (w / 2048 % 16).toNat
def apE (w : Int) : Int := match rowN w with
  | 0 => 3 | 14 => 3 | 15 => 3 | 12 => 0 | 13 => 0
  | r => if fitW (r - 1) w = true then 0 else 5
def apD (d : Nat → Int) (w : Int) : Nat → Int := match rowN w with
  | 0 => fun _ => 0 | 14 => fun _ => 0 | 15 => fun _ => 0 | 12 => upd d 24 (w % 2048) | 13 => upd d 25 (w % 2048)
  | r => if fitW (r - 1) w = true then newD d (r - 1) (digV (w / 32 % 32)) (digV (w % 32)) (sgV d (onB w) (r - 1)) else fun _ => 0
theorem apply_c {d : Nat → Int} (hd : WD d) (hm : mayB d = true) {w : Int} (h0 : 0 ≤ w) (h1 : w < 65536) : callP Try.prog 10 [dispA d, .int .u16 w] (· = .tuple [dispA (apD d w), .int .i64 (apE w)]) := by
  obtain ⟨r, hr⟩ : ∃ r : Nat, rowN w = r := ⟨_, rfl⟩
  have hw : w / 2048 % 16 = r := by unfold rowN at hr; omega
  have hlt : r < 16 := by omega
  unfold apD apE
  rw [hr]
  have h16 : r = 0 ∨ r = 1 ∨ r = 2 ∨ r = 3 ∨ r = 4 ∨ r = 5 ∨ r = 6 ∨ r = 7 ∨ r = 8 ∨ r = 9 ∨ r = 10 ∨ r = 11 ∨ r = 12 ∨ r = 13 ∨ r = 14 ∨ r = 15 := by omega
  rcases h16 with rfl | rfl | rfl | rfl | rfl | rfl | rfl | rfl | rfl | rfl | rfl | rfl | rfl | rfl | rfl | rfl
  · exact apply_r0 hd hm h0 h1 hw
  · simp only [Nat.reduceSub]
    by_cases hf : fitW 0 w = true
    · rw [if_pos hf, if_pos hf]; exact apply_ok0 hd hm h0 h1 hw hf
    · rw [if_neg hf, if_neg hf]; exact apply_no0 hd hm h0 h1 hw (Bool.eq_false_iff.2 hf)
  · simp only [Nat.reduceSub]
    by_cases hf : fitW 1 w = true
    · rw [if_pos hf, if_pos hf]; exact apply_ok1 hd hm h0 h1 hw hf
    · rw [if_neg hf, if_neg hf]; exact apply_no1 hd hm h0 h1 hw (Bool.eq_false_iff.2 hf)
  · simp only [Nat.reduceSub]
    by_cases hf : fitW 2 w = true
    · rw [if_pos hf, if_pos hf]; exact apply_ok2 hd hm h0 h1 hw hf
    · rw [if_neg hf, if_neg hf]; exact apply_no2 hd hm h0 h1 hw (Bool.eq_false_iff.2 hf)
  · simp only [Nat.reduceSub]
    by_cases hf : fitW 3 w = true
    · rw [if_pos hf, if_pos hf]; exact apply_ok3 hd hm h0 h1 hw hf
    · rw [if_neg hf, if_neg hf]; exact apply_no3 hd hm h0 h1 hw (Bool.eq_false_iff.2 hf)
  · simp only [Nat.reduceSub]
    by_cases hf : fitW 4 w = true
    · rw [if_pos hf, if_pos hf]; exact apply_ok4 hd hm h0 h1 hw hf
    · rw [if_neg hf, if_neg hf]; exact apply_no4 hd hm h0 h1 hw (Bool.eq_false_iff.2 hf)
  · simp only [Nat.reduceSub]
    by_cases hf : fitW 5 w = true
    · rw [if_pos hf, if_pos hf]; exact apply_ok5 hd hm h0 h1 hw hf
    · rw [if_neg hf, if_neg hf]; exact apply_no5 hd hm h0 h1 hw (Bool.eq_false_iff.2 hf)
  · simp only [Nat.reduceSub]
    by_cases hf : fitW 6 w = true
    · rw [if_pos hf, if_pos hf]; exact apply_ok6 hd hm h0 h1 hw hf
    · rw [if_neg hf, if_neg hf]; exact apply_no6 hd hm h0 h1 hw (Bool.eq_false_iff.2 hf)
  · simp only [Nat.reduceSub]
    by_cases hf : fitW 7 w = true
    · rw [if_pos hf, if_pos hf]; exact apply_ok7 hd hm h0 h1 hw hf
    · rw [if_neg hf, if_neg hf]; exact apply_no7 hd hm h0 h1 hw (Bool.eq_false_iff.2 hf)
  · simp only [Nat.reduceSub]
    by_cases hf : fitW 8 w = true
    · rw [if_pos hf, if_pos hf]; exact apply_ok8 hd hm h0 h1 hw hf
    · rw [if_neg hf, if_neg hf]; exact apply_no8 hd hm h0 h1 hw (Bool.eq_false_iff.2 hf)
  · simp only [Nat.reduceSub]
    by_cases hf : fitW 9 w = true
    · rw [if_pos hf, if_pos hf]; exact apply_ok9 hd hm h0 h1 hw hf
    · rw [if_neg hf, if_neg hf]; exact apply_no9 hd hm h0 h1 hw (Bool.eq_false_iff.2 hf)
  · simp only [Nat.reduceSub]
    by_cases hf : fitW 10 w = true
    · rw [if_pos hf, if_pos hf]; exact apply_ok10 hd hm h0 h1 hw hf
    · rw [if_neg hf, if_neg hf]; exact apply_no10 hd hm h0 h1 hw (Bool.eq_false_iff.2 hf)
  · exact apply_r12 hd hm h0 h1 hw
  · exact apply_r13 hd hm h0 h1 hw
  · exact apply_r14 hd hm h0 h1 hw
  · exact apply_r15 hd hm h0 h1 hw
theorem blank_w : WD blankD := by
  refine ⟨fun j hj => ?_, by decide, by decide⟩
  unfold W8 blankD clD
  split <;> omega
theorem blank_may : mayB blankD = true := by decide +kernel
/-- The blank display with R1 +12345. -/
def firstD (j : Nat) : Int := match j with
  | 6 => 1 | 7 => 1 | 8 => 2 | 9 => 3 | 10 => 4 | 11 => 5
  | j => blankD j
theorem first_w : WD firstD := by
  refine ⟨fun j hj => ?_, by decide, by decide⟩
  have := blank_w.1 j hj
  unfold firstD
  split <;> first | exact this | (unfold W8; omega)
theorem first_may : mayB firstD = true := by decide +kernel
theorem first_c : callP Try.prog 34 [] (· = dispA firstD) := by
  refine callE_def env (fn := Try.f34) rfl (by decide) rfl ?_
  refine callT_E clear_c rfl ?_
  repeat refine ndD ?_
  show Eqv _ _
  exact .up (.up (.refl _))
/-- row's answer. -/
theorem rowB_c {d : Nat → Int} (hd : WD d) (hm : mayB d = true) {n : Nat} (h1 : 1 ≤ n) (h2 : n ≤ 13) (w : Int) : callP Try.prog 33 [dispA d, .int .i64 n, .int .u16 w] (· = .bool (rowW d n == w)) := by
  refine callE_def env (fn := Try.f33) rfl (by decide) rfl ?_
  refine callT_E (row_c hd hm h1 h2) rfl ?_
  apply branch_intro <;> intro h
  · repeat refine stb ?_
    show Eqv _ _
    rw [h]
    show Eqv _ _
    exact .up (.up (.refl _))
  · repeat refine stb ?_
    show Eqv _ _
    rw [h]
    show Eqv _ _
    exact .up (.up (.refl _))
theorem works_c : callP Try.prog 11 [] (· = .bool true) := by
  refine callE_def env (fn := Try.f11) rfl (by decide) rfl ?_
  refine callT_E (code_c (n := 0) (by decide)) rfl ?_
  refine callT_E (digit_c 25) rfl ?_
  refine callT_E clear_c rfl ?_
  refine callT_E (apply_c blank_w blank_may (by decide) (by decide)) rfl ?_
  refine callT_E clear_c rfl ?_
  refine callT_E (apply_c blank_w blank_may (by decide) (by decide)) rfl ?_
  repeat refine stk ?_
  repeat refine ndD ?_
  repeat refine stk ?_
  refine callT_E first_c rfl ?_
  repeat refine stk ?_
  refine callT_E (rowB_c first_w first_may (n := 8) (by decide) (by decide) 16387) rfl ?_
  repeat refine stk ?_
  refine callT_E first_c rfl ?_
  repeat refine stk ?_
  refine callT_E (rowB_c first_w first_may (n := 7) (by decide) (by decide) 16187) rfl ?_
  repeat refine stk ?_
  refine callT_E first_c rfl ?_
  repeat refine stk ?_
  refine callT_E (rowB_c first_w first_may (n := 6) (by decide) (by decide) 12798) rfl ?_
  repeat refine stk ?_
  show Eqv _ _
  refine eqv_of_eq (congrArg AVal.bool ?_)
  decide +kernel
end Go.Proofs
/-! Ak. -/
namespace Go.Proofs
open Go.E
set_option maxRecDepth 8000

def lim (j : Nat) : Int := match j with
  | 6 => 3 | 12 => 3 | 18 => 3 | 24 => 2048 | 25 => 2048 | _ => 11
def Good (d : Nat → Int) : Prop := ∀ j, j < 26 → 0 ≤ d j ∧ d j < lim j
theorem Good.wd {d : Nat → Int} (h : Good d) : WD d := by
  refine ⟨fun j hj => ?_, ?_, ?_⟩
  · have := h j (by omega)
    have hl : lim j ≤ 11 := by
      have : j ≠ 24 := by omega
      have : j ≠ 25 := by omega
      unfold lim
      split <;> first | omega | (exfalso; omega)
    unfold W8; omega
  · have := h 24 (by decide); simp only [lim] at this; omega
  · have := h 25 (by decide); simp only [lim] at this; omega
theorem Good.may {d : Nat → Int} (h : Good d) : mayB d = true := by
  unfold mayB
  have h24 := (h 24 (by decide)).2
  have h25 := (h 25 (by decide)).2
  simp only [lim] at h24 h25
  rw [decide_eq_true h24, decide_eq_true h25, Bool.and_true, Bool.and_true]
  refine allB_of fun k hk => ?_
  have hk' : k = 0 ∨ k = 1 ∨ k = 2 ∨ k = 3 ∨ k = 4 ∨ k = 5 ∨ k = 6 ∨ k = 7 ∨ k = 8 ∨ k = 9 ∨ k = 10 := by omega
  rcases hk' with rfl | rfl | rfl | rfl | rfl | rfl | rfl | rfl | rfl | rfl | rfl
  · have h22 := (h 22 (by decide)).2; have h23 := (h 23 (by decide)).2; have h18 := (h 18 (by decide)).2; simp only [lim] at h22 h23 h18; unfold okB; simp; omega
  · have h20 := (h 20 (by decide)).2; have h21 := (h 21 (by decide)).2; have h18 := (h 18 (by decide)).2; simp only [lim] at h20 h21 h18; unfold okB; simp; omega
  · have h17 := (h 17 (by decide)).2; have h19 := (h 19 (by decide)).2; simp only [lim] at h17 h19; unfold okB; simp; omega
  · have h15 := (h 15 (by decide)).2; have h16 := (h 16 (by decide)).2; have h12 := (h 12 (by decide)).2; simp only [lim] at h15 h16 h12; unfold okB; simp; omega
  · have h13 := (h 13 (by decide)).2; have h14 := (h 14 (by decide)).2; have h12 := (h 12 (by decide)).2; simp only [lim] at h13 h14 h12; unfold okB; simp; omega
  · have h10 := (h 10 (by decide)).2; have h11 := (h 11 (by decide)).2; have h6 := (h 6 (by decide)).2; simp only [lim] at h10 h11 h6; unfold okB; simp; omega
  · have h8 := (h 8 (by decide)).2; have h9 := (h 9 (by decide)).2; have h6 := (h 6 (by decide)).2; simp only [lim] at h8 h9 h6; unfold okB; simp; omega
  · have h7 := (h 7 (by decide)).2; simp only [lim] at h7; unfold okB; simp; omega
  · have h4 := (h 4 (by decide)).2; have h5 := (h 5 (by decide)).2; simp only [lim] at h4 h5; unfold okB; simp; omega
  · have h2 := (h 2 (by decide)).2; have h3 := (h 3 (by decide)).2; simp only [lim] at h2 h3; unfold okB; simp; omega
  · have h0 := (h 0 (by decide)).2; have h1 := (h 1 (by decide)).2; simp only [lim] at h0 h1; unfold okB; simp; omega
theorem upd_at (d : Nat → Int) (i : Nat) (v : Int) (j : Nat) : upd d i v j = if j = i then v else d j := by
  unfold upd
  by_cases h : j = i
  · subst h; rw [Nat.beq_refl, if_pos rfl]
  · have : Nat.beq j i = false := by
      cases hb : Nat.beq j i with
      | false => rfl
      | true => exact absurd (Nat.eq_of_beq_eq_true hb) h
    rw [if_neg h, this]
def loN (r : Nat) : Nat := match r with
  | 1 => 22
  | 2 => 20
  | 3 => 17
  | 4 => 15
  | 5 => 13
  | 6 => 10
  | 7 => 8
  | 8 => 99
  | 9 => 4
  | 10 => 2
  | 11 => 0
  | 12 => 99
  | 13 => 99
  | _ => 99
def roN (r : Nat) : Nat := match r with
  | 1 => 23
  | 2 => 21
  | 3 => 19
  | 4 => 16
  | 5 => 14
  | 6 => 11
  | 7 => 9
  | 8 => 7
  | 9 => 5
  | 10 => 3
  | 11 => 1
  | 12 => 24
  | 13 => 25
  | _ => 97
def soN (r : Nat) : Nat := match r with
  | 1 => 18
  | 2 => 18
  | 3 => 98
  | 4 => 12
  | 5 => 12
  | 6 => 6
  | 7 => 6
  | 8 => 98
  | 9 => 98
  | 10 => 98
  | 11 => 98
  | 12 => 98
  | 13 => 98
  | _ => 98
def sgnV (r : Nat) : Int := match r with
  | 1 => 2
  | 2 => 1
  | 4 => 2
  | 5 => 1
  | 6 => 2
  | 7 => 1
  | _ => 0
def svN (d : Nat → Int) (b : Bool) (r : Nat) : Int := if b = true then sgnV r else if d (soN r) = sgnV r then 0 else d (soN r)
def rvN (w : Int) : Int := if 12 ≤ rowN w then w % 2048 else digV (w % 32)
def lvN (w : Int) : Int := digV (w / 32 % 32)
theorem rowN_b {w : Int} : rowN w < 16 := by unfold rowN; omega
theorem apE_row {w : Int} (h : apE w = 0) : 1 ≤ rowN w ∧ rowN w ≤ 13 ∧ (rowN w ≤ 11 → fitW (rowN w - 1) w = true) := by
  have hb := @rowN_b w
  unfold apE at h
  generalize rowN w = r at h hb ⊢
  have h16 : r = 0 ∨ r = 1 ∨ r = 2 ∨ r = 3 ∨ r = 4 ∨ r = 5 ∨ r = 6 ∨ r = 7 ∨ r = 8 ∨ r = 9 ∨ r = 10 ∨ r = 11 ∨ r = 12 ∨ r = 13 ∨ r = 14 ∨ r = 15 := by omega
  rcases h16 with rfl | rfl | rfl | rfl | rfl | rfl | rfl | rfl | rfl | rfl | rfl | rfl | rfl | rfl | rfl | rfl <;> first
    | (exfalso; simp at h; done)
    | (exfalso; revert h; decide)
    | exact ⟨by decide, by decide, fun h => by omega⟩
    | (refine ⟨by decide, by decide, fun _ => ?_⟩
       simp only [Nat.reduceSub] at h ⊢
       split at h
       · assumption
       · exact absurd h (by decide))
/-- What Apply gives, cell by cell. -/
theorem apD_at {d : Nat → Int} {w : Int} (h : apE w = 0) {j : Nat} (hj : j < 26) : apD d w j = if j = soN (rowN w) then svN d (onB w) (rowN w) else if j = roN (rowN w) then rvN w else if j = loN (rowN w) then lvN w else d j := by
  obtain ⟨h1, h13, hf⟩ := apE_row h
  have j99 : j ≠ 99 := by omega
  have j98 : j ≠ 98 := by omega
  unfold apD rvN lvN
  generalize rowN w = r at h1 h13 hf ⊢
  have h16 : r = 1 ∨ r = 2 ∨ r = 3 ∨ r = 4 ∨ r = 5 ∨ r = 6 ∨ r = 7 ∨ r = 8 ∨ r = 9 ∨ r = 10 ∨ r = 11 ∨ r = 12 ∨ r = 13 := by omega
  rcases h16 with rfl | rfl | rfl | rfl | rfl | rfl | rfl | rfl | rfl | rfl | rfl | rfl | rfl
  · have hf := hf (by decide)
    simp only [Nat.reduceSub] at hf ⊢
    rw [if_pos hf]
    simp only [newD, upd_at, soN, roN, loN, j99, j98, if_false, show ¬ 12 ≤ 1 from by decide]
    rfl
  · have hf := hf (by decide)
    simp only [Nat.reduceSub] at hf ⊢
    rw [if_pos hf]
    simp only [newD, upd_at, soN, roN, loN, j99, j98, if_false, show ¬ 12 ≤ 2 from by decide]
    rfl
  · have hf := hf (by decide)
    simp only [Nat.reduceSub] at hf ⊢
    rw [if_pos hf]
    simp only [newD, upd_at, soN, roN, loN, j99, j98, if_false, show ¬ 12 ≤ 3 from by decide]
  · have hf := hf (by decide)
    simp only [Nat.reduceSub] at hf ⊢
    rw [if_pos hf]
    simp only [newD, upd_at, soN, roN, loN, j99, j98, if_false, show ¬ 12 ≤ 4 from by decide]
    rfl
  · have hf := hf (by decide)
    simp only [Nat.reduceSub] at hf ⊢
    rw [if_pos hf]
    simp only [newD, upd_at, soN, roN, loN, j99, j98, if_false, show ¬ 12 ≤ 5 from by decide]
    rfl
  · have hf := hf (by decide)
    simp only [Nat.reduceSub] at hf ⊢
    rw [if_pos hf]
    simp only [newD, upd_at, soN, roN, loN, j99, j98, if_false, show ¬ 12 ≤ 6 from by decide]
    rfl
  · have hf := hf (by decide)
    simp only [Nat.reduceSub] at hf ⊢
    rw [if_pos hf]
    simp only [newD, upd_at, soN, roN, loN, j99, j98, if_false, show ¬ 12 ≤ 7 from by decide]
    rfl
  · have hf := hf (by decide)
    simp only [Nat.reduceSub] at hf ⊢
    rw [if_pos hf]
    simp only [newD, upd_at, soN, roN, loN, j99, j98, if_false, show ¬ 12 ≤ 8 from by decide]
  · have hf := hf (by decide)
    simp only [Nat.reduceSub] at hf ⊢
    rw [if_pos hf]
    simp only [newD, upd_at, soN, roN, loN, j99, j98, if_false, show ¬ 12 ≤ 9 from by decide]
  · have hf := hf (by decide)
    simp only [Nat.reduceSub] at hf ⊢
    rw [if_pos hf]
    simp only [newD, upd_at, soN, roN, loN, j99, j98, if_false, show ¬ 12 ≤ 10 from by decide]
  · have hf := hf (by decide)
    simp only [Nat.reduceSub] at hf ⊢
    rw [if_pos hf]
    simp only [newD, upd_at, soN, roN, loN, j99, j98, if_false, show ¬ 12 ≤ 11 from by decide]
  · simp only [upd_at, soN, roN, loN, j99, j98, if_false, show 12 ≤ 12 from by decide, if_true]
  · simp only [upd_at, soN, roN, loN, j99, j98, if_false, show 12 ≤ 13 from by decide, if_true]
end Go.Proofs
/-! Al. -/
namespace Go.Proofs
open Go.E
set_option maxRecDepth 8000

theorem self_ne0 : ∀ r : Fin 14, 1 ≤ r.val → soN r.val ≠ roN r.val ∧ soN r.val ≠ loN r.val ∧ roN r.val ≠ loN r.val ∧ (soN r.val < 26 → sgnV r.val ≠ 0 ∧ 0 ≤ sgnV r.val ∧ sgnV r.val < 3 ∧ lim (soN r.val) = 3) := by decide +kernel
theorem self_ne1 : ∀ r : Fin 14, 1 ≤ r.val → (r.val ≤ 11 → lim (roN r.val) = 11) ∧ (12 ≤ r.val → lim (roN r.val) = 2048) ∧ (loN r.val < 26 → lim (loN r.val) = 11 ∧ r.val ≤ 11) := by decide +kernel
theorem self_ne (r : Nat) (h : r < 14) (h1 : 1 ≤ r) : soN r ≠ roN r ∧ soN r ≠ loN r ∧ roN r ≠ loN r ∧ (soN r < 26 → sgnV r ≠ 0 ∧ 0 ≤ sgnV r ∧ sgnV r < 3 ∧ lim (soN r) = 3) ∧ (r ≤ 11 → lim (roN r) = 11) ∧ (12 ≤ r → lim (roN r) = 2048) ∧ (loN r < 26 → lim (loN r) = 11 ∧ r ≤ 11) := by
  obtain ⟨a, b, c, e⟩ := self_ne0 ⟨r, h⟩ h1
  obtain ⟨x, y, z⟩ := self_ne1 ⟨r, h⟩ h1
  exact ⟨a, b, c, e, x, y, z⟩
theorem pair_ne0 : ∀ r : Fin 14, 1 ≤ r.val → ∀ q : Fin 14, 1 ≤ q.val → r.val ≠ q.val → roN r.val ≠ roN q.val ∧ (loN r.val ≠ loN q.val ∨ 26 ≤ loN r.val) ∧ roN r.val ≠ loN q.val ∧ loN r.val ≠ roN q.val := by decide +kernel
theorem pair_ne1 : ∀ r : Fin 14, 1 ≤ r.val → ∀ q : Fin 14, 1 ≤ q.val → r.val ≠ q.val → soN r.val ≠ roN q.val ∧ soN r.val ≠ loN q.val ∧ roN r.val ≠ soN q.val ∧ loN r.val ≠ soN q.val := by decide +kernel
theorem pair_ne (r : Nat) (h : r < 14) (h1 : 1 ≤ r) (q : Nat) (h' : q < 14) (h1' : 1 ≤ q) (hne : r ≠ q) : roN r ≠ roN q ∧ (loN r ≠ loN q ∨ 26 ≤ loN r) ∧ roN r ≠ loN q ∧ loN r ≠ roN q ∧ soN r ≠ roN q ∧ soN r ≠ loN q ∧ roN r ≠ soN q ∧ loN r ≠ soN q := by
  obtain ⟨a, b, c, e⟩ := pair_ne0 ⟨r, h⟩ h1 ⟨q, h'⟩ h1' hne
  obtain ⟨x, y, z, u⟩ := pair_ne1 ⟨r, h⟩ h1 ⟨q, h'⟩ h1' hne
  exact ⟨a, b, c, e, x, y, z, u⟩
theorem digV_b {c : Int} (h : digN c < 11) : 0 ≤ digV c ∧ digV c < 11 := by rw [digV_of h]; omega
theorem fit_parts {k : Nat} {w : Int} (h : fitW k w = true) : digN (w / 32 % 32) < 11 ∧ digN (w % 32) < 11 ∧ (onB w = true → hasS k = true) ∧ (k = 7 → digN (w / 32 % 32) = 10) := by
  unfold fitW at h
  simp only [Bool.and_eq_true, decide_eq_true_eq] at h
  obtain ⟨⟨⟨h1, h2⟩, h3⟩, h4⟩ := h
  refine ⟨h1, h2, fun ho => ?_, fun hk => ?_⟩
  · rw [ho] at h3; simpa using h3
  · subst hk; simpa using h4
theorem ap_good {d : Nat → Int} (hd : Good d) {w : Int} (h : apE w = 0) : Good (apD d w) := fun j hj => by
  obtain ⟨r1, r13, hf⟩ := apE_row h
  obtain ⟨s1, s2, s3, s4, s5, s6, s7⟩ := self_ne (rowN w) (by omega) r1
  rw [apD_at h hj]
  split
  · rename_i e
    subst e
    obtain ⟨v1, v2, v3, v4⟩ := s4 hj
    have := hd (soN (rowN w)) hj
    unfold svN
    rw [v4] at this ⊢
    split
    · exact ⟨v2, v3⟩
    · split
      · omega
      · exact this
  split
  · rename_i e
    subst e
    unfold rvN
    by_cases h12 : 12 ≤ rowN w
    · rw [if_pos h12, s6 h12]; omega
    · rw [if_neg h12, s5 (by omega)]
      exact digV_b (fit_parts (hf (by omega))).2.1
  split
  · rename_i e
    subst e
    obtain ⟨e1, e2⟩ := s7 hj
    rw [e1]
    exact digV_b (fit_parts (hf e2)).1
  · exact hd j hj
theorem ap_twice {d : Nat → Int} {w : Int} (h : apE w = 0) {j : Nat} (hj : j < 26) : apD (apD d w) w j = apD d w j := by
  obtain ⟨r1, r13, hf⟩ := apE_row h
  obtain ⟨s1, s2, s3, s4, s5, s6, s7⟩ := self_ne (rowN w) (by omega) r1
  rw [apD_at h hj, apD_at h hj]
  split
  · rename_i e
    subst e
    obtain ⟨v1, _⟩ := s4 hj
    have e : apD d w (soN (rowN w)) = svN d (onB w) (rowN w) := by rw [apD_at h hj, if_pos rfl]
    unfold svN at e ⊢
    rw [e]
    by_cases hb : onB w = true
    · simp only [if_pos hb]
    · simp only [if_neg hb]
      by_cases hv : d (soN (rowN w)) = sgnV (rowN w)
      · simp only [if_pos hv]
        split <;> rfl
      · simp only [if_neg hv]
  split
  · rfl
  split
  · rfl
  · rfl
theorem sv_other {d : Nat → Int} {v w : Int} (hv : apE v = 0) (hne : rowN v ≠ rowN w) (h1 : 1 ≤ rowN w) (h13 : rowN w ≤ 13) (hs : soN (rowN w) < 26) (hss : soN (rowN v) ≠ soN (rowN w)) (b : Bool) : svN (apD d v) b (rowN w) = svN d b (rowN w) := by
  obtain ⟨r1, r13, _⟩ := apE_row hv
  obtain ⟨_, _, _, _, p5, p6, p7, p8⟩ := pair_ne (rowN v) (by omega) r1 (rowN w) (by omega) h1 hne
  have e : apD d v (soN (rowN w)) = d (soN (rowN w)) := by rw [apD_at hv hs, if_neg (Ne.symm hss), if_neg (Ne.symm p7), if_neg (Ne.symm p8)]
  unfold svN
  rw [e]
theorem ap_comm {d : Nat → Int} {v w : Int} (hv : apE v = 0) (hw : apE w = 0) (hne : rowN v ≠ rowN w) (hss : soN (rowN v) < 26 → soN (rowN v) ≠ soN (rowN w)) {j : Nat} (hj : j < 26) : apD (apD d v) w j = apD (apD d w) v j := by
  obtain ⟨r1, r13, _⟩ := apE_row hv
  obtain ⟨q1, q13, _⟩ := apE_row hw
  obtain ⟨p1, p2, p3, p4, p5, p6, p7, p8⟩ := pair_ne (rowN v) (by omega) r1 (rowN w) (by omega) q1 hne
  rw [apD_at hw hj, apD_at hv hj, apD_at hv hj, apD_at hw hj]
  by_cases a1 : j = soN (rowN w)
  · subst a1
    have hs : soN (rowN v) ≠ soN (rowN w) := by
      intro e
      exact hss (by omega) e
    rw [if_pos rfl, if_neg (Ne.symm hs), if_neg (Ne.symm p7), if_neg (Ne.symm p8), if_pos rfl, sv_other hv hne q1 q13 hj hs]
  rw [if_neg a1]
  by_cases a2 : j = roN (rowN w)
  · subst a2
    rw [if_pos rfl, if_neg (Ne.symm p5), if_neg (Ne.symm p1), if_neg (Ne.symm p4), if_neg a1, if_pos rfl]
  rw [if_neg a2]
  by_cases a3 : j = loN (rowN w)
  · subst a3
    have hl : loN (rowN w) ≠ loN (rowN v) := by
      rcases p2 with h | h
      · exact Ne.symm h
      · omega
    rw [if_pos rfl, if_neg (Ne.symm p6), if_neg (Ne.symm p3), if_neg hl, if_neg a1, if_neg a2, if_pos rfl]
  rw [if_neg a3]
  by_cases b1 : j = soN (rowN v)
  · subst b1
    rw [if_pos rfl, if_pos rfl, sv_other hw (Ne.symm hne) r1 r13 hj (Ne.symm (hss hj))]
  rw [if_neg b1, if_neg b1]
  by_cases b2 : j = roN (rowN v)
  · rw [if_pos b2, if_pos b2]
  rw [if_neg b2, if_neg b2]
  by_cases b3 : j = loN (rowN v)
  · rw [if_pos b3, if_pos b3]
  rw [if_neg b3, if_neg b3, if_neg a1, if_neg a2, if_neg a3]
theorem codeV_dg {c : Int} (h : digN c < 11) : codeV (digN c) = c := by
  unfold digN at h ⊢
  split
  · rename_i e; rw [e]; rfl
  split
  · rename_i e; rw [e]; rfl
  split
  · rename_i e; rw [e]; rfl
  split
  · rename_i e; rw [e]; rfl
  split
  · rename_i e; rw [e]; rfl
  split
  · rename_i e; rw [e]; rfl
  split
  · rename_i e; rw [e]; rfl
  split
  · rename_i e; rw [e]; rfl
  split
  · rename_i e; rw [e]; rfl
  split
  · rename_i e; rw [e]; rfl
  split
  · rename_i e; rw [e]; rfl
  simp_all
theorem cN_dig {c : Int} (h0 : 0 ≤ c) (h : digN c < 11) : (cN (digV c) : Int) = c := by
  rw [digV_of h, cN_of, codeV_dg h]
/-- The row's word of what a word gives is the word. -/
theorem ap_row {d : Nat → Int} {w : Int} (h0 : 0 ≤ w) (h1 : w < 65536) (h : apE w = 0) : rowW (apD d w) (rowN w) = w % 32768 := by
  obtain ⟨r1, r13, hf⟩ := apE_row h
  obtain ⟨_, _, _, v0, _, _, _⟩ := self_ne (rowN w) (by omega) r1
  have at_ := fun (j : Nat) (hj : j < 26) => apD_at (d := d) h hj
  have hrow : w / 2048 % 16 = (rowN w : Int) := by unfold rowN; omega
  have hrv : rvN w = if 12 ≤ rowN w then w % 2048 else digV (w % 32) := rfl
  have hlv : lvN w = digV (w / 32 % 32) := rfl
  have hsv : svN d (onB w) (rowN w) = if onB w = true then sgnV (rowN w) else if d (soN (rowN w)) = sgnV (rowN w) then 0 else d (soN (rowN w)) := rfl
  have hon : onB w = decide (w / 1024 % 2 = 1) := rfl
  generalize rowN w = r at r1 r13 hf at_ hrow hrv hsv v0 ⊢
  have h16 : r = 1 ∨ r = 2 ∨ r = 3 ∨ r = 4 ∨ r = 5 ∨ r = 6 ∨ r = 7 ∨ r = 8 ∨ r = 9 ∨ r = 10 ∨ r = 11 ∨ r = 12 ∨ r = 13 := by omega
  rcases h16 with rfl | rfl | rfl | rfl | rfl | rfl | rfl | rfl | rfl | rfl | rfl | rfl | rfl
  · obtain ⟨f1, f2, f3, f4⟩ := fit_parts (hf (by decide))
    have er : apD d w 23 = digV (w % 32) := (at_ 23 (by decide)).trans (by rw [if_neg (by decide), if_pos (by decide), hrv, if_neg (by decide)])
    have c2 := cN_dig (c := w % 32) (by omega) f2
    have c1 := cN_dig (c := w / 32 % 32) (by omega) f1
    have el : apD d w 22 = digV (w / 32 % 32) := (at_ 22 (by decide)).trans (by rw [if_neg (by decide), if_neg (by decide), if_pos (by decide), hlv])
    have es := (at_ 18 (by decide)).trans (if_pos rfl)
    have v0 := (v0 (by decide)).1
    have eb : bitN (apD d w) 0 = if onB w = true then 1024 else 0 := by
      show (if apD d w 18 = 2 then 1024 else 0) = _
      rw [es, hsv]
      by_cases hb : onB w = true
      · rw [if_pos hb, if_pos hb]; rfl
      · rw [if_neg hb, if_neg hb]
        by_cases hv : d (soN 1) = sgnV 1
        · rw [if_pos hv]; rfl
        · rw [if_neg hv]; exact if_neg hv
    show ((2048 * 1 + bitN (apD d w) 0 + (32 * cN (apD d w 22) + cN (apD d w 23)) : Nat) : Int) = w % 32768
    rw [eb, el, er, hon]
    by_cases hb : w / 1024 % 2 = 1
    · rw [decide_eq_true hb, if_pos rfl]; omega
    · rw [decide_eq_false hb, if_neg (by decide)]; omega
  · obtain ⟨f1, f2, f3, f4⟩ := fit_parts (hf (by decide))
    have er : apD d w 21 = digV (w % 32) := (at_ 21 (by decide)).trans (by rw [if_neg (by decide), if_pos (by decide), hrv, if_neg (by decide)])
    have c2 := cN_dig (c := w % 32) (by omega) f2
    have c1 := cN_dig (c := w / 32 % 32) (by omega) f1
    have el : apD d w 20 = digV (w / 32 % 32) := (at_ 20 (by decide)).trans (by rw [if_neg (by decide), if_neg (by decide), if_pos (by decide), hlv])
    have es := (at_ 18 (by decide)).trans (if_pos rfl)
    have v0 := (v0 (by decide)).1
    have eb : bitN (apD d w) 1 = if onB w = true then 1024 else 0 := by
      show (if apD d w 18 = 1 then 1024 else 0) = _
      rw [es, hsv]
      by_cases hb : onB w = true
      · rw [if_pos hb, if_pos hb]; rfl
      · rw [if_neg hb, if_neg hb]
        by_cases hv : d (soN 2) = sgnV 2
        · rw [if_pos hv]; rfl
        · rw [if_neg hv]; exact if_neg hv
    show ((2048 * 2 + bitN (apD d w) 1 + (32 * cN (apD d w 20) + cN (apD d w 21)) : Nat) : Int) = w % 32768
    rw [eb, el, er, hon]
    by_cases hb : w / 1024 % 2 = 1
    · rw [decide_eq_true hb, if_pos rfl]; omega
    · rw [decide_eq_false hb, if_neg (by decide)]; omega
  · obtain ⟨f1, f2, f3, f4⟩ := fit_parts (hf (by decide))
    have er : apD d w 19 = digV (w % 32) := (at_ 19 (by decide)).trans (by rw [if_neg (by decide), if_pos (by decide), hrv, if_neg (by decide)])
    have c2 := cN_dig (c := w % 32) (by omega) f2
    have c1 := cN_dig (c := w / 32 % 32) (by omega) f1
    have el : apD d w 17 = digV (w / 32 % 32) := (at_ 17 (by decide)).trans (by rw [if_neg (by decide), if_neg (by decide), if_pos (by decide), hlv])
    have eb : bitN (apD d w) 2 = if onB w = true then 1024 else 0 := by
      rw [if_neg (fun hb => by have := f3 hb; revert this; decide)]
      rfl
    show ((2048 * 3 + bitN (apD d w) 2 + (32 * cN (apD d w 17) + cN (apD d w 19)) : Nat) : Int) = w % 32768
    rw [eb, el, er, hon]
    by_cases hb : w / 1024 % 2 = 1
    · rw [decide_eq_true hb, if_pos rfl]; omega
    · rw [decide_eq_false hb, if_neg (by decide)]; omega
  · obtain ⟨f1, f2, f3, f4⟩ := fit_parts (hf (by decide))
    have er : apD d w 16 = digV (w % 32) := (at_ 16 (by decide)).trans (by rw [if_neg (by decide), if_pos (by decide), hrv, if_neg (by decide)])
    have c2 := cN_dig (c := w % 32) (by omega) f2
    have c1 := cN_dig (c := w / 32 % 32) (by omega) f1
    have el : apD d w 15 = digV (w / 32 % 32) := (at_ 15 (by decide)).trans (by rw [if_neg (by decide), if_neg (by decide), if_pos (by decide), hlv])
    have es := (at_ 12 (by decide)).trans (if_pos rfl)
    have v0 := (v0 (by decide)).1
    have eb : bitN (apD d w) 3 = if onB w = true then 1024 else 0 := by
      show (if apD d w 12 = 2 then 1024 else 0) = _
      rw [es, hsv]
      by_cases hb : onB w = true
      · rw [if_pos hb, if_pos hb]; rfl
      · rw [if_neg hb, if_neg hb]
        by_cases hv : d (soN 4) = sgnV 4
        · rw [if_pos hv]; rfl
        · rw [if_neg hv]; exact if_neg hv
    show ((2048 * 4 + bitN (apD d w) 3 + (32 * cN (apD d w 15) + cN (apD d w 16)) : Nat) : Int) = w % 32768
    rw [eb, el, er, hon]
    by_cases hb : w / 1024 % 2 = 1
    · rw [decide_eq_true hb, if_pos rfl]; omega
    · rw [decide_eq_false hb, if_neg (by decide)]; omega
  · obtain ⟨f1, f2, f3, f4⟩ := fit_parts (hf (by decide))
    have er : apD d w 14 = digV (w % 32) := (at_ 14 (by decide)).trans (by rw [if_neg (by decide), if_pos (by decide), hrv, if_neg (by decide)])
    have c2 := cN_dig (c := w % 32) (by omega) f2
    have c1 := cN_dig (c := w / 32 % 32) (by omega) f1
    have el : apD d w 13 = digV (w / 32 % 32) := (at_ 13 (by decide)).trans (by rw [if_neg (by decide), if_neg (by decide), if_pos (by decide), hlv])
    have es := (at_ 12 (by decide)).trans (if_pos rfl)
    have v0 := (v0 (by decide)).1
    have eb : bitN (apD d w) 4 = if onB w = true then 1024 else 0 := by
      show (if apD d w 12 = 1 then 1024 else 0) = _
      rw [es, hsv]
      by_cases hb : onB w = true
      · rw [if_pos hb, if_pos hb]; rfl
      · rw [if_neg hb, if_neg hb]
        by_cases hv : d (soN 5) = sgnV 5
        · rw [if_pos hv]; rfl
        · rw [if_neg hv]; exact if_neg hv
    show ((2048 * 5 + bitN (apD d w) 4 + (32 * cN (apD d w 13) + cN (apD d w 14)) : Nat) : Int) = w % 32768
    rw [eb, el, er, hon]
    by_cases hb : w / 1024 % 2 = 1
    · rw [decide_eq_true hb, if_pos rfl]; omega
    · rw [decide_eq_false hb, if_neg (by decide)]; omega
  · obtain ⟨f1, f2, f3, f4⟩ := fit_parts (hf (by decide))
    have er : apD d w 11 = digV (w % 32) := (at_ 11 (by decide)).trans (by rw [if_neg (by decide), if_pos (by decide), hrv, if_neg (by decide)])
    have c2 := cN_dig (c := w % 32) (by omega) f2
    have c1 := cN_dig (c := w / 32 % 32) (by omega) f1
    have el : apD d w 10 = digV (w / 32 % 32) := (at_ 10 (by decide)).trans (by rw [if_neg (by decide), if_neg (by decide), if_pos (by decide), hlv])
    have es := (at_ 6 (by decide)).trans (if_pos rfl)
    have v0 := (v0 (by decide)).1
    have eb : bitN (apD d w) 5 = if onB w = true then 1024 else 0 := by
      show (if apD d w 6 = 2 then 1024 else 0) = _
      rw [es, hsv]
      by_cases hb : onB w = true
      · rw [if_pos hb, if_pos hb]; rfl
      · rw [if_neg hb, if_neg hb]
        by_cases hv : d (soN 6) = sgnV 6
        · rw [if_pos hv]; rfl
        · rw [if_neg hv]; exact if_neg hv
    show ((2048 * 6 + bitN (apD d w) 5 + (32 * cN (apD d w 10) + cN (apD d w 11)) : Nat) : Int) = w % 32768
    rw [eb, el, er, hon]
    by_cases hb : w / 1024 % 2 = 1
    · rw [decide_eq_true hb, if_pos rfl]; omega
    · rw [decide_eq_false hb, if_neg (by decide)]; omega
  · obtain ⟨f1, f2, f3, f4⟩ := fit_parts (hf (by decide))
    have er : apD d w 9 = digV (w % 32) := (at_ 9 (by decide)).trans (by rw [if_neg (by decide), if_pos (by decide), hrv, if_neg (by decide)])
    have c2 := cN_dig (c := w % 32) (by omega) f2
    have c1 := cN_dig (c := w / 32 % 32) (by omega) f1
    have el : apD d w 8 = digV (w / 32 % 32) := (at_ 8 (by decide)).trans (by rw [if_neg (by decide), if_neg (by decide), if_pos (by decide), hlv])
    have es := (at_ 6 (by decide)).trans (if_pos rfl)
    have v0 := (v0 (by decide)).1
    have eb : bitN (apD d w) 6 = if onB w = true then 1024 else 0 := by
      show (if apD d w 6 = 1 then 1024 else 0) = _
      rw [es, hsv]
      by_cases hb : onB w = true
      · rw [if_pos hb, if_pos hb]; rfl
      · rw [if_neg hb, if_neg hb]
        by_cases hv : d (soN 7) = sgnV 7
        · rw [if_pos hv]; rfl
        · rw [if_neg hv]; exact if_neg hv
    show ((2048 * 7 + bitN (apD d w) 6 + (32 * cN (apD d w 8) + cN (apD d w 9)) : Nat) : Int) = w % 32768
    rw [eb, el, er, hon]
    by_cases hb : w / 1024 % 2 = 1
    · rw [decide_eq_true hb, if_pos rfl]; omega
    · rw [decide_eq_false hb, if_neg (by decide)]; omega
  · obtain ⟨f1, f2, f3, f4⟩ := fit_parts (hf (by decide))
    have er : apD d w 7 = digV (w % 32) := (at_ 7 (by decide)).trans (by rw [if_neg (by decide), if_pos (by decide), hrv, if_neg (by decide)])
    have c2 := cN_dig (c := w % 32) (by omega) f2
    have c1 := cN_dig (c := w / 32 % 32) (by omega) f1
    have f4 := f4 rfl
    have c1 : (cN 10 : Int) = w / 32 % 32 := by rw [← c1, digV_of f1, f4]; rfl
    have eb : bitN (apD d w) 7 = if onB w = true then 1024 else 0 := by
      rw [if_neg (fun hb => by have := f3 hb; revert this; decide)]
      rfl
    show ((2048 * 8 + bitN (apD d w) 7 + (32 * cN 10 + cN (apD d w 7)) : Nat) : Int) = w % 32768
    rw [eb, er, hon]
    by_cases hb : w / 1024 % 2 = 1
    · rw [decide_eq_true hb, if_pos rfl]; omega
    · rw [decide_eq_false hb, if_neg (by decide)]; omega
  · obtain ⟨f1, f2, f3, f4⟩ := fit_parts (hf (by decide))
    have er : apD d w 5 = digV (w % 32) := (at_ 5 (by decide)).trans (by rw [if_neg (by decide), if_pos (by decide), hrv, if_neg (by decide)])
    have c2 := cN_dig (c := w % 32) (by omega) f2
    have c1 := cN_dig (c := w / 32 % 32) (by omega) f1
    have el : apD d w 4 = digV (w / 32 % 32) := (at_ 4 (by decide)).trans (by rw [if_neg (by decide), if_neg (by decide), if_pos (by decide), hlv])
    have eb : bitN (apD d w) 8 = if onB w = true then 1024 else 0 := by
      rw [if_neg (fun hb => by have := f3 hb; revert this; decide)]
      rfl
    show ((2048 * 9 + bitN (apD d w) 8 + (32 * cN (apD d w 4) + cN (apD d w 5)) : Nat) : Int) = w % 32768
    rw [eb, el, er, hon]
    by_cases hb : w / 1024 % 2 = 1
    · rw [decide_eq_true hb, if_pos rfl]; omega
    · rw [decide_eq_false hb, if_neg (by decide)]; omega
  · obtain ⟨f1, f2, f3, f4⟩ := fit_parts (hf (by decide))
    have er : apD d w 3 = digV (w % 32) := (at_ 3 (by decide)).trans (by rw [if_neg (by decide), if_pos (by decide), hrv, if_neg (by decide)])
    have c2 := cN_dig (c := w % 32) (by omega) f2
    have c1 := cN_dig (c := w / 32 % 32) (by omega) f1
    have el : apD d w 2 = digV (w / 32 % 32) := (at_ 2 (by decide)).trans (by rw [if_neg (by decide), if_neg (by decide), if_pos (by decide), hlv])
    have eb : bitN (apD d w) 9 = if onB w = true then 1024 else 0 := by
      rw [if_neg (fun hb => by have := f3 hb; revert this; decide)]
      rfl
    show ((2048 * 10 + bitN (apD d w) 9 + (32 * cN (apD d w 2) + cN (apD d w 3)) : Nat) : Int) = w % 32768
    rw [eb, el, er, hon]
    by_cases hb : w / 1024 % 2 = 1
    · rw [decide_eq_true hb, if_pos rfl]; omega
    · rw [decide_eq_false hb, if_neg (by decide)]; omega
  · obtain ⟨f1, f2, f3, f4⟩ := fit_parts (hf (by decide))
    have er : apD d w 1 = digV (w % 32) := (at_ 1 (by decide)).trans (by rw [if_neg (by decide), if_pos (by decide), hrv, if_neg (by decide)])
    have c2 := cN_dig (c := w % 32) (by omega) f2
    have c1 := cN_dig (c := w / 32 % 32) (by omega) f1
    have el : apD d w 0 = digV (w / 32 % 32) := (at_ 0 (by decide)).trans (by rw [if_neg (by decide), if_neg (by decide), if_pos (by decide), hlv])
    have eb : bitN (apD d w) 10 = if onB w = true then 1024 else 0 := by
      rw [if_neg (fun hb => by have := f3 hb; revert this; decide)]
      rfl
    show ((2048 * 11 + bitN (apD d w) 10 + (32 * cN (apD d w 0) + cN (apD d w 1)) : Nat) : Int) = w % 32768
    rw [eb, el, er, hon]
    by_cases hb : w / 1024 % 2 = 1
    · rw [decide_eq_true hb, if_pos rfl]; omega
    · rw [decide_eq_false hb, if_neg (by decide)]; omega
  · have er : apD d w 24 = w % 2048 := (at_ 24 (by decide)).trans (by rw [if_neg (by decide), if_pos (by decide), hrv, if_pos (by decide)])
    show 24576 + apD d w 24 = w % 32768
    rw [er]
    omega
  · have er : apD d w 25 = w % 2048 := (at_ 25 (by decide)).trans (by rw [if_neg (by decide), if_pos (by decide), hrv, if_pos (by decide)])
    show 26624 + apD d w 25 = w % 32768
    rw [er]
    omega
end Go.Proofs
/-! Am. -/
namespace Go.Proofs
open Go.E
set_option maxRecDepth 8000

def stg (j : Nat) : Nat := match j with
  | 0 => 1
  | 1 => 2
  | 2 => 1
  | 3 => 2
  | 4 => 1
  | 5 => 2
  | 6 => 3
  | 7 => 4
  | 8 => 5
  | 9 => 6
  | 10 => 7
  | 11 => 8
  | 12 => 9
  | 13 => 10
  | 14 => 11
  | 15 => 12
  | 16 => 13
  | 17 => 14
  | 18 => 15
  | 19 => 16
  | 20 => 17
  | 21 => 18
  | 22 => 19
  | 23 => 20
  | 24 => 21
  | 25 => 21
  | _ => 99
def fitN (d : Nat → Int) (n j : Nat) : Int := match Nat.ble (stg j) n with | true => Int.tmod (d j) (lim j) | false => d j
def fitD (d : Nat → Int) : Nat → Int := fitN d 21
theorem fit_good {d : Nat → Int} (hd : WD d) : Good (fitD d) := fun j hj => by
  have h0 : 0 ≤ d j := by
    by_cases h : j < 24
    · exact (hd.1 j h).1
    by_cases h4 : j = 24
    · subst h4; exact hd.2.1.1
    · have : j = 25 := by omega
      subst this; exact hd.2.2.1
  have e : fitD d j = Int.tmod (d j) (lim j) := by
    have : Nat.ble (stg j) 21 = true := by
      have hj' : j = 0 ∨ j = 1 ∨ j = 2 ∨ j = 3 ∨ j = 4 ∨ j = 5 ∨ j = 6 ∨ j = 7 ∨ j = 8 ∨ j = 9 ∨ j = 10 ∨ j = 11 ∨ j = 12 ∨ j = 13 ∨ j = 14 ∨ j = 15 ∨ j = 16 ∨ j = 17 ∨ j = 18 ∨ j = 19 ∨ j = 20 ∨ j = 21 ∨ j = 22 ∨ j = 23 ∨ j = 24 ∨ j = 25 := by omega
      rcases hj' with rfl | rfl | rfl | rfl | rfl | rfl | rfl | rfl | rfl | rfl | rfl | rfl | rfl | rfl | rfl | rfl | rfl | rfl | rfl | rfl | rfl | rfl | rfl | rfl | rfl | rfl <;> rfl
    unfold fitD fitN
    rw [this]
  have hl : 0 < lim j := by unfold lim; split <;> decide
  rw [e, Int.tmod_eq_emod_of_nonneg h0]
  exact ⟨Int.emod_nonneg _ (by omega), Int.emod_lt_of_pos _ hl⟩
set_option maxHeartbeats 4000000 in
theorem fit_c {d : Nat → Int} : callP Try.prog 9 [dispA d] (· = dispA (fitD d)) := by
  refine callE_def env (fn := Try.f9) rfl (by decide) rfl ?_
  refine loop_weak (fun i : Nat => slots 75 [(1, .ptr ⟨0, 0, 0⟩), (2, .ptr ⟨1, 0, 0⟩), (3, .int .i64 i)])
    (fun i => [.cells (dcells (fitN d i)), .cells (dcells fun _ => 0)])
    (fun i => i ≤ 2) (fun i => 2 - i) 0 (Nat.zero_le _) (weak_keep (keep 75 [1, 2, 3]) [0, 1] rfl rfl rfl) ?_
  intro i hi
  match i, hi with
  | 0, _ =>
    refine branch_true ?_
    refine draw_tree (picks [0, 1, 2, 3, 4, 5, 6, 7, 8, 9, 10, 11, 12, 13, 14, 15, 16, 17, 18, 19, 20, 21, 22, 23, 24, 25, 26] .done) (by decide +kernel) ?_
    repeat refine ndD ?_
    exact ⟨1, by decide, by decide, weak_keep (keep 75 [1, 2, 3]) [0, 1] rfl rfl rfl⟩
  | 1, _ =>
    refine branch_true ?_
    refine draw_tree (picks [0, 1, 2, 3, 4, 5, 6, 7, 8, 9, 10, 11, 12, 13, 14, 15, 16, 17, 18, 19, 20, 21, 22, 23, 24, 25, 26] .done) (by decide +kernel) ?_
    repeat refine ndD ?_
    exact ⟨2, by decide, by decide, weak_keep (keep 75 [1, 2, 3]) [0, 1] rfl rfl rfl⟩
  | 2, _ =>
    refine branch_false ?_
    refine loop_weak (fun i : Nat => slots 75 [(1, .ptr ⟨0, 0, 0⟩), (2, .ptr ⟨1, 0, 0⟩), (4, .int .i64 i)])
      (fun i => [.cells (dcells (fitN d (2 + 6 * i))), .cells (dcells fun _ => 0)])
      (fun i => i ≤ 3) (fun i => 3 - i) 0 (Nat.zero_le _) (weak_keep (keep 75 [1, 2, 4]) [0, 1] rfl rfl rfl) ?_
    intro i hi
    match i, hi with
    | 0, _ =>
      refine branch_true ?_
      repeat refine ndD ?_
      refine loop_weak (fun k : Nat => slots 75 [(1, .ptr ⟨0, 0, 0⟩), (2, .ptr ⟨1, 0, 0⟩), (4, .int .i64 0), (5, .int .i64 k)])
        (fun k => [.cells (dcells (fitN d (3 + k))), .cells (dcells fun _ => 0)])
        (fun k => k ≤ 5) (fun k => 5 - k) 0 (Nat.zero_le _) (weak_keep (keep 75 [1, 2, 4, 5]) [0, 1] rfl rfl rfl) ?_
      intro k hk
      match k, hk with
      | 0, _ =>
        refine branch_true ?_
        refine draw_tree (picks [0, 1, 2, 3, 4, 5, 6, 7, 8, 9, 10, 11, 12, 13, 14] .done) (by decide +kernel) ?_
        repeat refine ndD ?_
        exact ⟨1, by decide, by decide, weak_keep (keep 75 [1, 2, 4, 5]) [0, 1] rfl rfl rfl⟩
      | 1, _ =>
        refine branch_true ?_
        refine draw_tree (picks [0, 1, 2, 3, 4, 5, 6, 7, 8, 9, 10, 11, 12, 13, 14] .done) (by decide +kernel) ?_
        repeat refine ndD ?_
        exact ⟨2, by decide, by decide, weak_keep (keep 75 [1, 2, 4, 5]) [0, 1] rfl rfl rfl⟩
      | 2, _ =>
        refine branch_true ?_
        refine draw_tree (picks [0, 1, 2, 3, 4, 5, 6, 7, 8, 9, 10, 11, 12, 13, 14] .done) (by decide +kernel) ?_
        repeat refine ndD ?_
        exact ⟨3, by decide, by decide, weak_keep (keep 75 [1, 2, 4, 5]) [0, 1] rfl rfl rfl⟩
      | 3, _ =>
        refine branch_true ?_
        refine draw_tree (picks [0, 1, 2, 3, 4, 5, 6, 7, 8, 9, 10, 11, 12, 13, 14] .done) (by decide +kernel) ?_
        repeat refine ndD ?_
        exact ⟨4, by decide, by decide, weak_keep (keep 75 [1, 2, 4, 5]) [0, 1] rfl rfl rfl⟩
      | 4, _ =>
        refine branch_true ?_
        refine draw_tree (picks [0, 1, 2, 3, 4, 5, 6, 7, 8, 9, 10, 11, 12, 13, 14] .done) (by decide +kernel) ?_
        repeat refine ndD ?_
        exact ⟨5, by decide, by decide, weak_keep (keep 75 [1, 2, 4, 5]) [0, 1] rfl rfl rfl⟩
      | 5, _ =>
        refine branch_false ?_
        exact ⟨1, by decide, by decide, weak_keep (keep 75 [1, 2, 4]) [0, 1] rfl rfl rfl⟩
    | 1, _ =>
      refine branch_true ?_
      repeat refine ndD ?_
      refine loop_weak (fun k : Nat => slots 75 [(1, .ptr ⟨0, 0, 0⟩), (2, .ptr ⟨1, 0, 0⟩), (4, .int .i64 1), (5, .int .i64 k)])
        (fun k => [.cells (dcells (fitN d (9 + k))), .cells (dcells fun _ => 0)])
        (fun k => k ≤ 5) (fun k => 5 - k) 0 (Nat.zero_le _) (weak_keep (keep 75 [1, 2, 4, 5]) [0, 1] rfl rfl rfl) ?_
      intro k hk
      match k, hk with
      | 0, _ =>
        refine branch_true ?_
        refine draw_tree (picks [0, 1, 2, 3, 4, 5, 6, 7, 8, 9, 10, 11, 12, 13, 14] .done) (by decide +kernel) ?_
        repeat refine ndD ?_
        exact ⟨1, by decide, by decide, weak_keep (keep 75 [1, 2, 4, 5]) [0, 1] rfl rfl rfl⟩
      | 1, _ =>
        refine branch_true ?_
        refine draw_tree (picks [0, 1, 2, 3, 4, 5, 6, 7, 8, 9, 10, 11, 12, 13, 14] .done) (by decide +kernel) ?_
        repeat refine ndD ?_
        exact ⟨2, by decide, by decide, weak_keep (keep 75 [1, 2, 4, 5]) [0, 1] rfl rfl rfl⟩
      | 2, _ =>
        refine branch_true ?_
        refine draw_tree (picks [0, 1, 2, 3, 4, 5, 6, 7, 8, 9, 10, 11, 12, 13, 14] .done) (by decide +kernel) ?_
        repeat refine ndD ?_
        exact ⟨3, by decide, by decide, weak_keep (keep 75 [1, 2, 4, 5]) [0, 1] rfl rfl rfl⟩
      | 3, _ =>
        refine branch_true ?_
        refine draw_tree (picks [0, 1, 2, 3, 4, 5, 6, 7, 8, 9, 10, 11, 12, 13, 14] .done) (by decide +kernel) ?_
        repeat refine ndD ?_
        exact ⟨4, by decide, by decide, weak_keep (keep 75 [1, 2, 4, 5]) [0, 1] rfl rfl rfl⟩
      | 4, _ =>
        refine branch_true ?_
        refine draw_tree (picks [0, 1, 2, 3, 4, 5, 6, 7, 8, 9, 10, 11, 12, 13, 14] .done) (by decide +kernel) ?_
        repeat refine ndD ?_
        exact ⟨5, by decide, by decide, weak_keep (keep 75 [1, 2, 4, 5]) [0, 1] rfl rfl rfl⟩
      | 5, _ =>
        refine branch_false ?_
        exact ⟨2, by decide, by decide, weak_keep (keep 75 [1, 2, 4]) [0, 1] rfl rfl rfl⟩
    | 2, _ =>
      refine branch_true ?_
      repeat refine ndD ?_
      refine loop_weak (fun k : Nat => slots 75 [(1, .ptr ⟨0, 0, 0⟩), (2, .ptr ⟨1, 0, 0⟩), (4, .int .i64 2), (5, .int .i64 k)])
        (fun k => [.cells (dcells (fitN d (15 + k))), .cells (dcells fun _ => 0)])
        (fun k => k ≤ 5) (fun k => 5 - k) 0 (Nat.zero_le _) (weak_keep (keep 75 [1, 2, 4, 5]) [0, 1] rfl rfl rfl) ?_
      intro k hk
      match k, hk with
      | 0, _ =>
        refine branch_true ?_
        refine draw_tree (picks [0, 1, 2, 3, 4, 5, 6, 7, 8, 9, 10, 11, 12, 13, 14] .done) (by decide +kernel) ?_
        repeat refine ndD ?_
        exact ⟨1, by decide, by decide, weak_keep (keep 75 [1, 2, 4, 5]) [0, 1] rfl rfl rfl⟩
      | 1, _ =>
        refine branch_true ?_
        refine draw_tree (picks [0, 1, 2, 3, 4, 5, 6, 7, 8, 9, 10, 11, 12, 13, 14] .done) (by decide +kernel) ?_
        repeat refine ndD ?_
        exact ⟨2, by decide, by decide, weak_keep (keep 75 [1, 2, 4, 5]) [0, 1] rfl rfl rfl⟩
      | 2, _ =>
        refine branch_true ?_
        refine draw_tree (picks [0, 1, 2, 3, 4, 5, 6, 7, 8, 9, 10, 11, 12, 13, 14] .done) (by decide +kernel) ?_
        repeat refine ndD ?_
        exact ⟨3, by decide, by decide, weak_keep (keep 75 [1, 2, 4, 5]) [0, 1] rfl rfl rfl⟩
      | 3, _ =>
        refine branch_true ?_
        refine draw_tree (picks [0, 1, 2, 3, 4, 5, 6, 7, 8, 9, 10, 11, 12, 13, 14] .done) (by decide +kernel) ?_
        repeat refine ndD ?_
        exact ⟨4, by decide, by decide, weak_keep (keep 75 [1, 2, 4, 5]) [0, 1] rfl rfl rfl⟩
      | 4, _ =>
        refine branch_true ?_
        refine draw_tree (picks [0, 1, 2, 3, 4, 5, 6, 7, 8, 9, 10, 11, 12, 13, 14] .done) (by decide +kernel) ?_
        repeat refine ndD ?_
        exact ⟨5, by decide, by decide, weak_keep (keep 75 [1, 2, 4, 5]) [0, 1] rfl rfl rfl⟩
      | 5, _ =>
        refine branch_false ?_
        exact ⟨3, by decide, by decide, weak_keep (keep 75 [1, 2, 4]) [0, 1] rfl rfl rfl⟩
    | 3, _ =>
      refine branch_false ?_
      repeat refine ndD ?_
      show Eqv _ _
      exact .up (.up (.refl _))
def sgR (n : Nat) : Int := match n with
  | 1 => 2 | 2 => 2 | 4 => 1 | 5 => 1 | 6 => 0 | 7 => 0 | _ => -1
theorem sign_c {n : Nat} (hn : n < 16) : callP Try.prog 14 [.int .i64 n] (· = .int .i64 (sgR n)) := by
  refine callE_def env (fn := Try.f14) rfl (by decide) rfl ?_
  have h16 : n = 0 ∨ n = 1 ∨ n = 2 ∨ n = 3 ∨ n = 4 ∨ n = 5 ∨ n = 6 ∨ n = 7 ∨ n = 8 ∨ n = 9 ∨ n = 10 ∨ n = 11 ∨ n = 12 ∨ n = 13 ∨ n = 14 ∨ n = 15 := by omega
  rcases h16 with rfl | rfl | rfl | rfl | rfl | rfl | rfl | rfl | rfl | rfl | rfl | rfl | rfl | rfl | rfl | rfl
  · repeat refine ndD ?_
    show Eqv _ _
    exact .up (.up (.refl _))
  · repeat refine ndD ?_
    show Eqv _ _
    exact .up (.up (.refl _))
  · repeat refine ndD ?_
    show Eqv _ _
    exact .up (.up (.refl _))
  · repeat refine ndD ?_
    show Eqv _ _
    exact .up (.up (.refl _))
  · repeat refine ndD ?_
    show Eqv _ _
    exact .up (.up (.refl _))
  · repeat refine ndD ?_
    show Eqv _ _
    exact .up (.up (.refl _))
  · repeat refine ndD ?_
    show Eqv _ _
    exact .up (.up (.refl _))
  · repeat refine ndD ?_
    show Eqv _ _
    exact .up (.up (.refl _))
  · repeat refine ndD ?_
    show Eqv _ _
    exact .up (.up (.refl _))
  · repeat refine ndD ?_
    show Eqv _ _
    exact .up (.up (.refl _))
  · repeat refine ndD ?_
    show Eqv _ _
    exact .up (.up (.refl _))
  · repeat refine ndD ?_
    show Eqv _ _
    exact .up (.up (.refl _))
  · repeat refine ndD ?_
    show Eqv _ _
    exact .up (.up (.refl _))
  · repeat refine ndD ?_
    show Eqv _ _
    exact .up (.up (.refl _))
  · repeat refine ndD ?_
    show Eqv _ _
    exact .up (.up (.refl _))
  · repeat refine ndD ?_
    show Eqv _ _
    exact .up (.up (.refl _))
theorem sg_so : ∀ n : Fin 16, ∀ m : Fin 16, (soN n.val < 26 → soN n.val = soN m.val → decide (sgR n.val ≥ 0) = true ∧ (sgR n.val == sgR m.val) = true) := by decide +kernel
end Go.Proofs
