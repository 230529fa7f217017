/- Chapter 27, part n: the law of words applied once or twice. -/
import Derived.Test.YtdbdppoecijdhaaC5
set_option linter.unusedVariables false
set_option linter.unusedSimpArgs false
/-! An. -/
namespace Go.Proofs
open Go.E
set_option maxRecDepth 8000

abbrev kD : List IntKind := [.u8, .u8, .u8, .u8, .u8, .u8, .u8, .u8, .u8, .u8, .u8, .u8, .u8, .u8, .u8, .u8, .u8, .u8, .u8, .u8, .u8, .u8, .u8, .u8, .u16, .u16]
theorem kd_wd {d : Nat → Int} (h : HasL kD d) : WD d := by
  refine ⟨fun j hj => ?_, has_u16 (h 24 (by decide)), has_u16 (h 25 (by decide))⟩
  have hj' : j = 0 ∨ j = 1 ∨ j = 2 ∨ j = 3 ∨ j = 4 ∨ j = 5 ∨ j = 6 ∨ j = 7 ∨ j = 8 ∨ j = 9 ∨ j = 10 ∨ j = 11 ∨ j = 12 ∨ j = 13 ∨ j = 14 ∨ j = 15 ∨ j = 16 ∨ j = 17 ∨ j = 18 ∨ j = 19 ∨ j = 20 ∨ j = 21 ∨ j = 22 ∨ j = 23 := by omega
  rcases hj' with rfl | rfl | rfl | rfl | rfl | rfl | rfl | rfl | rfl | rfl | rfl | rfl | rfl | rfl | rfl | rfl | rfl | rfl | rfl | rfl | rfl | rfl | rfl | rfl <;> exact has_u8 (h _ (by decide))
theorem disp_congr {a b : Nat → Int} (h : ∀ j, j < 26 → a j = b j) : dispA a = dispA b := by
  simp only [dispA]
  rw [h 0 (by decide), h 1 (by decide), h 2 (by decide), h 3 (by decide), h 4 (by decide), h 5 (by decide), h 6 (by decide), h 7 (by decide), h 8 (by decide), h 9 (by decide), h 10 (by decide), h 11 (by decide), h 12 (by decide), h 13 (by decide), h 14 (by decide), h 15 (by decide), h 16 (by decide), h 17 (by decide), h 18 (by decide), h 19 (by decide), h 20 (by decide), h 21 (by decide), h 22 (by decide), h 23 (by decide), h 24 (by decide), h 25 (by decide)]
theorem apD_zero {d : Nat → Int} {w : Int} (h : apE w ≠ 0) : apD d w = fun _ => 0 := by
  have hb := @rowN_b w
  unfold apE at h
  unfold apD
  generalize rowN w = r at h hb ⊢
  have h16 : r = 0 ∨ r = 1 ∨ r = 2 ∨ r = 3 ∨ r = 4 ∨ r = 5 ∨ r = 6 ∨ r = 7 ∨ r = 8 ∨ r = 9 ∨ r = 10 ∨ r = 11 ∨ r = 12 ∨ r = 13 ∨ r = 14 ∨ r = 15 := by omega
  rcases h16 with rfl | rfl | rfl | rfl | rfl | rfl | rfl | rfl | rfl | rfl | rfl | rfl | rfl | rfl | rfl | rfl <;> first
    | rfl
    | (exfalso; simp at h; done)
    | (simp only [Nat.reduceSub] at h ⊢
       split
       · rename_i hf; rw [if_pos hf] at h; exact absurd rfl h
       · rfl)
theorem row_raw {w : Int} (h0 : 0 ≤ w) (h1 : w < 65536) : IntKind.i64.wrap (Int.tdiv (IntKind.i64.wrap (Int.tmod w 32768)) 2048) = (rowN w : Int) := by
  have e1 : Int.tmod w 32768 = w % 32768 := Int.tmod_eq_emod_of_nonneg h0
  rw [e1, wi (x := w % 32768) (by omega) (by omega), Int.tdiv_eq_ediv_of_nonneg (by omega), wi (by omega) (by omega)]
  unfold rowN
  omega
set_option maxHeartbeats 4000000 in
theorem once_law (d0 : Nat → Int) (hd0 : HasL kD d0) (v : Int) (hv : 0 ≤ v ∧ v < 65536) (w : Int) (hw : 0 ≤ w ∧ w < 65536) : callP Try.prog 3 [.agg (aggL d0 kD 0), .int .u16 v, .int .u16 w] (· = .bool true) := by
  have hg := fit_good (kd_wd hd0)
  show callP Try.prog 3 [dispA d0, .int .u16 v, .int .u16 w] (· = .bool true)
  have cf := fit_c (d := d0)
  generalize fitD d0 = d at hg cf
  have ca := apply_c hg.wd hg.may hv.1 hv.2
  have cb := apply_c hg.wd hg.may hw.1 hw.2
  refine callE_def env (fn := Try.f3) rfl (by decide) rfl ?_
  refine callT_E cf rfl ?_
  by_cases hE : apE v = 0
  rotate_left
  · rw [apD_zero hE] at ca
    refine callT_E ca rfl ?_
    refine branch_t' (by simpa using hE) ?_
    repeat refine stk ?_
    refine callT_E works_c rfl ?_
    repeat refine stk ?_
    show Eqv _ _
    exact .up (.up (.refl _))
  have gx := ap_good hg hE
  have ctw := apply_c gx.wd gx.may hv.1 hv.2
  rw [hE, disp_congr (fun j hj => ap_twice (d := d) hE hj)] at ctw
  have hrow := ap_row (d := d) hv.1 hv.2 hE
  obtain ⟨r1, r13, _⟩ := apE_row hE
  have crow := row_c gx.wd gx.may r1 r13
  rw [hrow] at crow
  have cmay := may_c gx.wd
  rw [gx.may] at cmay
  have rv := row_raw hv.1 hv.2
  have rw_ := row_raw hw.1 hw.2
  rw [hE] at ca
  have etm : Int.tmod v 32768 = v % 32768 := Int.tmod_eq_emod_of_nonneg hv.1
  refine callT_E ca rfl ?_
  repeat refine stk ?_
  refine callT_E ctw rfl ?_
  repeat refine ndD ?_
  refine callT_E ((congrArg (fun n => callP Try.prog 12 [dispA (apD d v), .int .i64 n] (· = _)) rv).mpr crow) rfl ?_
  repeat refine stk ?_
  repeat (first | refine branch_true ?_ | refine branch_false ?_ | (refine branch_f' ?_ ?_; focus (simp; done)) | (refine branch_t' ?_ ?_; focus (simp; done)))
  refine callT_E cmay rfl ?_
  repeat refine stk ?_
  repeat refine ndD ?_
  repeat refine stk ?_
  repeat refine ndD ?_
  refine branch_f' (by rw [etm]; simp) ?_
  by_cases hW : apE w = 0
  rotate_left
  · rw [apD_zero hW] at cb
    refine callT_E cb rfl ?_
    repeat refine ndD ?_
    refine branch_t' (by simpa using hW) ?_
    repeat refine stk ?_
    refine callT_E works_c rfl ?_
    show Eqv _ _
    exact .up (.up (.refl _))
  have gy := ap_good hg hW
  have c1 := apply_c gx.wd gx.may hw.1 hw.2
  have c2 := apply_c gy.wd gy.may hv.1 hv.2
  rw [hW] at cb c1
  rw [hE] at c2
  have csv := sign_c (n := rowN v) rowN_b
  have csw := sign_c (n := rowN w) rowN_b
  have cS := (congrArg (fun n => callP Try.prog 14 [.int .i64 n] (· = _)) rv).mpr csv
  have cS2 := (congrArg (fun n => callP Try.prog 14 [.int .i64 n] (· = _)) rw_).mpr csw
  refine callT_E cb rfl ?_
  repeat refine ndD ?_
  repeat refine stk ?_
  rw [rv, rw_] at *
  apply branch_intro <;> intro hn
  · repeat refine stb ?_
    refine callT_E works_c rfl ?_
    show Eqv _ _
    exact .up (.up (.refl _))
  have hne : rowN v ≠ rowN w := by
    intro e
    rw [e] at hn
    simp at hn
  repeat refine stb ?_
  refine callT_E csv rfl ?_
  repeat refine stb ?_
  have hall := fun (hlt : soN (rowN v) < 26) (e : soN (rowN v) = soN (rowN w)) => sg_so ⟨rowN v, rowN_b⟩ ⟨rowN w, rowN_b⟩ hlt e
  apply branch_intro <;> intro hs
  · repeat refine stb ?_
    refine callT_E csv rfl ?_
    repeat refine stb ?_
    refine callT_E csw rfl ?_
    repeat refine stb ?_
    apply branch_intro <;> intro hs2
    · repeat refine stb ?_
      refine callT_E works_c rfl ?_
      show Eqv _ _
      exact .up (.up (.refl _))
    · have hss : soN (rowN v) < 26 → soN (rowN v) ≠ soN (rowN w) := fun hlt e => by
        have := (hall hlt e).2
        simp only at this
        rw [this] at hs2
        cases hs2
      repeat refine stb ?_
      rw [disp_congr (fun j hj => (ap_comm hE hW hne hss hj).symm)] at c2
      refine callT_E c1 rfl ?_
      refine callT_E c2 rfl ?_
      repeat refine stk ?_
      repeat (first | refine branch_true ?_ | refine branch_false ?_ | (refine branch_f' ?_ ?_; focus (simp; done)) | (refine branch_t' ?_ ?_; focus (simp; done)))
      refine callT_E works_c rfl ?_
      repeat refine stb ?_
      show Eqv _ _
      exact .up (.up (.refl _))
  · have hss : soN (rowN v) < 26 → soN (rowN v) ≠ soN (rowN w) := fun hlt e => by
      have := (hall hlt e).1
      simp only at this
      rw [this] at hs
      cases hs
    repeat refine stb ?_
    rw [disp_congr (fun j hj => (ap_comm hE hW hne hss hj).symm)] at c2
    refine callT_E c1 rfl ?_
    refine callT_E c2 rfl ?_
    repeat refine stk ?_
    repeat (first | refine branch_true ?_ | refine branch_false ?_ | (refine branch_f' ?_ ?_; focus (simp; done)) | (refine branch_t' ?_ ?_; focus (simp; done)))
    refine callT_E works_c rfl ?_
    repeat refine stb ?_
    show Eqv _ _
    exact .up (.up (.refl _))
end Go.Proofs
/-! Ao. -/
namespace Go.Proofs
open Go.E
set_option maxRecDepth 8000

theorem ints_of_row {kk : IntKind} (l : List Int) : rowsInts kk l.length (irow kk l) = l := by
  refine List.ext_getElem (rowsInts_len kk _ _) fun i h1 h2 => ?_
  have hk : sameKind kk kk = true := sameKind_iff.2 rfl
  simp [rowsInts, irow, rowInt, hk, List.getElem?_eq_getElem h2]
theorem snoc_row {kk : IntKind} (l : List Int) (x : Int) : List.drop 0 l ++ rowsInts kk 1 (irow kk [x]) = l ++ [x] := by
  have hk : sameKind kk kk = true := sameKind_iff.2 rfl
  simp [rowsInts, irow, rowInt, hk]
/-- The words of the first n rows. -/
def wordsN (d : Nat → Int) : Nat → List Int
  | 0 => []
  | n + 1 => wordsN d n ++ [rowW d (n + 1)]
theorem wordsN_len (d : Nat → Int) : ∀ n, (wordsN d n).length = n
  | 0 => rfl
  | n + 1 => by simp [wordsN, wordsN_len d n]
theorem wordsN_get (d : Nat → Int) : ∀ {n i : Nat}, i < n → (wordsN d n)[i]? = some (rowW d (i + 1))
  | 0, i, h => by omega
  | n + 1, i, h => by
    by_cases hi : i < n
    · rw [wordsN, List.getElem?_append_left (by rw [wordsN_len]; exact hi)]
      exact wordsN_get d hi
    · have : i = n := by omega
      subst this
      rw [wordsN, List.getElem?_append_right (by rw [wordsN_len]; omega), wordsN_len]
      simp
set_option maxHeartbeats 1000000 in
theorem words_c {d : Nat → Int} (hd : Good d) : callP Try.prog 23 [dispA d] (· = ints .u16 (wordsN d 13)) := by
  refine callE_def env (fn := Try.f23) rfl (by decide) rfl ?_
  refine loop_weak (fun i : Nat => slots 24 [(1, .ptr ⟨0, 0, 0⟩), (3, .slice ⟨1, 0, 0⟩ i), (4, .int .i64 ((i + 1 : Nat) : Int))])
    (fun i => [.cells (dcells d), .ints .u16 (wordsN d i)])
    (fun i => i ≤ 13) (fun i => 13 - i) 0 (Nat.zero_le _) ?_ ?_
  · exact (weak_keep (keep 24 [1, 3, 4]) [0] rfl rfl rfl).trans (weak_nil 3 (.ints .u16 []) rfl rfl)
  intro i hi
  have ei : IntKind.i64.wrap (((i + 1 : Nat) : Int) + 1) = ((i + 1 + 1 : Nat) : Int) := by rw [wi (by omega) (by omega)]; rfl
  apply branch_intro <;> intro h
  · have h : i < 13 := by simp at h; omega
    refine callT_E (row_c hd.wd hd.may (n := i + 1) (by omega) (by omega)) rfl ?_
    repeat refine stk ?_
    apply choice_l
    apply need_intro
    · show (i + 1) * 2 ≤ _
      omega
    apply need_intro
    · exact ⟨by rw [wordsN_len]; omega, fun j hj => by
        have : j = 0 := by omega
        subst this
        exact ⟨_, rfl⟩⟩
    refine ⟨i + 1, h, by omega, weak_keep (keep 24 [1, 3, 4]) [0, 1] rfl ?_ ?_⟩
    · show [_, _, _, _, _, _, _, _, _, _, _, _, _, _, _, _, _, _, _, _, _, _, _, _] = _
      rw [ei]
      rfl
    · show [_, Blk.ints .u16 (List.drop 0 (wordsN d i) ++ rowsInts .u16 1 (irow .u16 [rowW d (i + 1)]))] = _
      rw [snoc_row]
      rfl
  · have : i = 13 := by simp at h; omega
    subst this
    apply need_intro
    · show 0 + 13 ≤ (wordsN d 13).length
      rw [wordsN_len]
      omega
    show Eqv _ _
    exact eqv_part (wordsN_len d 13).symm (fun _ _ => rfl)
/-- The display after the first n words. -/
def foldD (d : Nat → Int) (l : List Int) : Nat → (Nat → Int)
  | 0 => d
  | n + 1 => apD (foldD d l n) (l.getD n 0)
theorem blank_good : Good blankD := by
  intro j hj
  have hj' : j = 0 ∨ j = 1 ∨ j = 2 ∨ j = 3 ∨ j = 4 ∨ j = 5 ∨ j = 6 ∨ j = 7 ∨ j = 8 ∨ j = 9 ∨ j = 10 ∨ j = 11 ∨ j = 12 ∨ j = 13 ∨ j = 14 ∨ j = 15 ∨ j = 16 ∨ j = 17 ∨ j = 18 ∨ j = 19 ∨ j = 20 ∨ j = 21 ∨ j = 22 ∨ j = 23 ∨ j = 24 ∨ j = 25 := by omega
  rcases hj' with rfl | rfl | rfl | rfl | rfl | rfl | rfl | rfl | rfl | rfl | rfl | rfl | rfl | rfl | rfl | rfl | rfl | rfl | rfl | rfl | rfl | rfl | rfl | rfl | rfl | rfl <;> decide
theorem fold_good {d : Nat → Int} (hd : Good d) {l : List Int} : ∀ n, n ≤ l.length → (∀ j, j < n → apE (l.getD j 0) = 0) → Good (foldD d l n)
  | 0, _, _ => hd
  | n + 1, hn, h => ap_good (fold_good hd n (by omega) fun j hj => h j (by omega)) (h n (by omega))
def W16L (l : List Int) : Prop := ∀ x ∈ l, 0 ≤ x ∧ x < 65536
theorem w16_at {l : List Int} (h : W16L l) {i : Nat} (hi : i < l.length) : 0 ≤ l.getD i 0 ∧ l.getD i 0 < 65536 := by
  rw [List.getD_eq_getElem?_getD, List.getElem?_eq_getElem hi]
  exact h _ (List.getElem_mem hi)
theorem show_ok {l : List Int} (hl : W16L l) (hn : l.length < 1152921504606846976) (h : ∀ j, j < l.length → apE (l.getD j 0) = 0) : callP Try.prog 18 [ints .u16 l] (· = .tuple [dispA (foldD blankD l l.length), .int .i64 0, .int .i64 0]) := by
  refine callE_def env (fn := Try.f18) rfl (by decide) rfl ?_
  refine callT_E clear_c rfl ?_
  refine loop_weak (fun i : Nat => slots 32 [(2, .ptr ⟨0, 0, 0⟩), (3, .int .i64 0), (4, .int .i64 0), (5, .ptr ⟨1, 0, 0⟩), (11, ints .u16 l), (12, .int .i64 l.length), (13, .int .i64 i)])
    (fun i => [.cells (dcells fun _ => 0), .cells (dcells (foldD blankD l i))])
    (fun i => i ≤ l.length) (fun i => l.length - i) 0 (Nat.zero_le _) (weak_keep (keep 32 [2, 3, 4, 5, 11, 12, 13]) [0, 1] rfl rfl rfl) ?_
  intro i hi
  have ei : IntKind.i64.wrap ((i : Int) + 1) = ((i + 1 : Nat) : Int) := by rw [wi (by omega) (by omega)]; rfl
  have et : ((i : Int)).toNat = i := Int.toNat_natCast i
  apply branch_intro <;> intro hb
  · have hb : i < l.length := by simp at hb; omega
    have hg := fold_good blank_good (l := l) i hi fun j hj => h j (by omega)
    have ca := apply_c hg.wd hg.may (w16_at hl hb).1 (w16_at hl hb).2
    rw [h i hb] at ca
    apply need_intro
    · omega
    refine callT_E ((congrArg (fun n => callP Try.prog 10 [dispA (foldD blankD l i), .int .u16 (l.getD n 0)] (· = _)) et).mpr ca) rfl ?_
    repeat refine stk ?_
    refine ⟨i + 1, hb, by omega, weak_keep (keep 32 [2, 3, 4, 5, 11, 12, 13]) [0, 1] rfl ?_ rfl⟩
    show [_, _, _, _, _, _, _, _, _, _, _, _, _, _, _, _, _, _, _, _, _, _, _, _, _, _, _, _, _, _, _, _] = _
    rw [ei]
    rfl
  · have : i = l.length := by simp at hb; omega
    subst this
    show Eqv _ _
    exact .up (.up (.refl _))
theorem show_no {l : List Int} (hl : W16L l) (hn : l.length < 1152921504606846976) {m : Nat} (hm : m < l.length) (h : ∀ j, j < m → apE (l.getD j 0) = 0) (he : apE (l.getD m 0) ≠ 0) : callP Try.prog 18 [ints .u16 l] (· = .tuple [dispA (fun _ => 0), .int .i64 m, .int .i64 (apE (l.getD m 0))]) := by
  refine callE_def env (fn := Try.f18) rfl (by decide) rfl ?_
  refine callT_E clear_c rfl ?_
  refine loop_weak (fun i : Nat => slots 32 [(2, .ptr ⟨0, 0, 0⟩), (3, .int .i64 0), (4, .int .i64 0), (5, .ptr ⟨1, 0, 0⟩), (11, ints .u16 l), (12, .int .i64 l.length), (13, .int .i64 i)])
    (fun i => [.cells (dcells fun _ => 0), .cells (dcells (foldD blankD l i))])
    (fun i => i ≤ m) (fun i => m - i) 0 (Nat.zero_le _) (weak_keep (keep 32 [2, 3, 4, 5, 11, 12, 13]) [0, 1] rfl rfl rfl) ?_
  intro i hi
  have ei : IntKind.i64.wrap ((i : Int) + 1) = ((i + 1 : Nat) : Int) := by rw [wi (by omega) (by omega)]; rfl
  have et : ((i : Int)).toNat = i := Int.toNat_natCast i
  have hb : i < l.length := by omega
  refine branch_t' (decide_eq_true (by omega)) ?_
  have hg := fold_good blank_good (l := l) i (by omega) fun j hj => h j (by omega)
  have ca := apply_c hg.wd hg.may (w16_at hl hb).1 (w16_at hl hb).2
  apply need_intro
  · omega
  by_cases him : i = m
  · subst him
    rw [apD_zero he] at ca
    refine callT_E ((congrArg (fun n => callP Try.prog 10 [dispA (foldD blankD l i), .int .u16 (l.getD n 0)] (· = _)) et).mpr ca) rfl ?_
    refine branch_t' (by simpa using he) ?_
    show Eqv _ _
    exact .up (.up (.refl _))
  · rw [h i (by omega)] at ca
    refine callT_E ((congrArg (fun n => callP Try.prog 10 [dispA (foldD blankD l i), .int .u16 (l.getD n 0)] (· = _)) et).mpr ca) rfl ?_
    repeat refine stk ?_
    refine ⟨i + 1, by omega, by omega, weak_keep (keep 32 [2, 3, 4, 5, 11, 12, 13]) [0, 1] rfl ?_ rfl⟩
    show [_, _, _, _, _, _, _, _, _, _, _, _, _, _, _, _, _, _, _, _, _, _, _, _, _, _, _, _, _, _, _, _] = _
    rw [ei]
    rfl
/-- The words of b that differ from those of a, among the first n rows. -/
def chgN (a b : Nat → Int) : Nat → List Int
  | 0 => []
  | n + 1 => if rowW a (n + 1) = rowW b (n + 1) then chgN a b n else chgN a b n ++ [rowW b (n + 1)]
theorem chgN_len (a b : Nat → Int) : ∀ n, (chgN a b n).length ≤ n
  | 0 => Nat.le_refl _
  | n + 1 => by
    have := chgN_len a b n
    unfold chgN
    split
    · omega
    · rw [List.length_append]; simp; omega
set_option maxHeartbeats 1000000 in
theorem changed_c {a b : Nat → Int} (ha : Good a) (hb : Good b) : callP Try.prog 21 [dispA a, dispA b] (· = ints .u16 (chgN a b 13)) := by
  have la := wordsN_len a 13
  have lb := wordsN_len b 13
  have ga : ∀ i, i < 13 → (wordsN a 13).getD i 0 = rowW a (i + 1) := fun i h => by rw [List.getD_eq_getElem?_getD, wordsN_get a h]; rfl
  have gb : ∀ i, i < 13 → (wordsN b 13).getD i 0 = rowW b (i + 1) := fun i h => by rw [List.getD_eq_getElem?_getD, wordsN_get b h]; rfl
  have ca := words_c ha
  have cb := words_c hb
  generalize wordsN a 13 = A at la ga ca
  generalize wordsN b 13 = B at lb gb cb
  refine callE_def env (fn := Try.f21) rfl (by decide) rfl ?_
  refine draw_tree (picks [0, 1, 2, 3, 4, 5] .done) (by decide +kernel) ?_
  refine ⟨_, ⟨ca, rfl⟩, ?_⟩
  refine ⟨_, ⟨cb, rfl⟩, ?_⟩
  refine loop_weak (fun i : Nat => slots 42 [(5, .slice ⟨2, 0, 0⟩ (chgN a b i).length), (6, ints .u16 A), (7, ints .u16 B), (8, .int .i64 i)])
    (fun i => [.cells (dcells a), .cells (dcells b), .ints .u16 (chgN a b i)])
    (fun i => i ≤ 13) (fun i => 13 - i) 0 (Nat.zero_le _) ?_ ?_
  · exact (weak_keep (keep 42 [5, 6, 7, 8]) [0, 1] rfl rfl rfl).trans (weak_nil 5 (.ints .u16 []) rfl rfl)
  intro i hi
  have ei : IntKind.i64.wrap ((i : Int) + 1) = ((i + 1 : Nat) : Int) := by rw [wi (by omega) (by omega)]; rfl
  have et : ((i : Int)).toNat = i := Int.toNat_natCast i
  have hc := chgN_len a b i
  apply branch_intro <;> intro h <;> rw [la] at h
  · have h : i < 13 := by simp at h; omega
    repeat refine stb ?_
    refine branch_t' (decide_eq_true (by rw [lb]; omega)) ?_
    refine draw_tree (picks [0, 1, 2, 3, 4, 5, 6, 7, 8] .done) (by decide +kernel) ?_
    apply need_intro
    · rw [la]; omega
    apply need_intro
    · rw [lb]; omega
    have ga := ga i h
    have gb := gb i h
    apply branch_intro <;> intro hx <;> rw [et, ga, gb] at hx
    · have hx : ¬ rowW a (i + 1) = rowW b (i + 1) := by simpa using hx
      have hnx : chgN a b (i + 1) = chgN a b i ++ [rowW b (i + 1)] := if_neg hx
      apply need_intro
      · rw [lb]; omega
      apply choice_l
      apply need_intro
      · show ((chgN a b i).length + 1) * 2 ≤ _
        omega
      apply need_intro
      · exact ⟨by omega, fun j hj => by
          have : j = 0 := by omega
          subst this
          exact ⟨_, rfl⟩⟩
      refine ⟨i + 1, h, by omega, weak_keep (keep 42 [5, 6, 7, 8]) [0, 1, 2] rfl ?_ ?_⟩
      · show [_, _, _, _, _, _, _, _, _, _, _, _, _, _, _, _, _, _, _, _, _, _, _, _, _, _, _, _, _, _, _, _, _, _, _, _, _, _, _, _, _, _] = _
        rw [ei, hnx, List.length_append]
        rfl
      · show [_, _, Blk.ints .u16 (List.drop 0 (chgN a b i) ++ rowsInts .u16 1 (irow .u16 [B.getD ((i : Int)).toNat 0]))] = _
        rw [snoc_row, et, gb, hnx]
        rfl
    · have hx : rowW a (i + 1) = rowW b (i + 1) := by simpa using hx
      have hnx : chgN a b (i + 1) = chgN a b i := if_pos hx
      refine ⟨i + 1, h, by omega, weak_keep (keep 42 [5, 6, 7, 8]) [0, 1, 2] rfl ?_ ?_⟩
      · show [_, _, _, _, _, _, _, _, _, _, _, _, _, _, _, _, _, _, _, _, _, _, _, _, _, _, _, _, _, _, _, _, _, _, _, _, _, _, _, _, _, _] = _
        rw [ei, hnx]
        rfl
      · rw [hnx]
        rfl
  · have : i = 13 := by simp at h; omega
    subst this
    repeat refine stb ?_
    apply need_intro
    · omega
    show Eqv _ _
    exact eqv_part rfl (fun _ _ => rfl)
end Go.Proofs
/-! Ap. -/
namespace Go.Proofs
open Go.E
set_option maxRecDepth 8000

theorem digN_cN {x : Int} (h0 : 0 ≤ x) (h : x < 11) : digN (cN x : Int) = x.toNat := by
  obtain ⟨n, rfl⟩ := Int.eq_ofNat_of_zero_le h0
  rw [cN_of, digN_code (by omega), Int.toNat_natCast]
/-- The row of a valid display is a word that Apply takes. -/
theorem row_word {a : Nat → Int} (ha : Good a) {r : Nat} (h1 : 1 ≤ r) (h13 : r ≤ 13) : (0 ≤ rowW a r ∧ rowW a r < 65536) ∧ rowN (rowW a r) = r ∧ apE (rowW a r) = 0 ∧ rvN (rowW a r) = a (roN r) ∧ (loN r < 26 → lvN (rowW a r) = a (loN r)) ∧ (soN r < 26 → onB (rowW a r) = decide (a (soN r) = sgnV r)) := by
  have h16 : r = 1 ∨ r = 2 ∨ r = 3 ∨ r = 4 ∨ r = 5 ∨ r = 6 ∨ r = 7 ∨ r = 8 ∨ r = 9 ∨ r = 10 ∨ r = 11 ∨ r = 12 ∨ r = 13 := by omega
  rcases h16 with rfl | rfl | rfl | rfl | rfl | rfl | rfl | rfl | rfl | rfl | rfl | rfl | rfl
  · have g2 := ha 23 (by decide)
    simp only [lim] at g2
    have g1 := ha 22 (by decide)
    simp only [lim] at g1
    have d1 := digN_cN g1.1 g1.2
    have d2 := digN_cN g2.1 g2.2
    have b1 := cN_b (a 22)
    have b2 := cN_b (a 23)
    obtain ⟨B, hB⟩ : ∃ B : Nat, B = bitN a 0 := ⟨_, rfl⟩
    have hB2 : B = 0 ∨ B = 1024 := by
      rw [hB]
      show (if a 18 = 2 then 1024 else 0) = 0 ∨ (if a 18 = 2 then 1024 else 0) = 1024
      split <;> simp
    have e : rowW a 1 = ((2048 * 1 + B + (32 * cN (a 22) + cN (a 23)) : Nat) : Int) := by rw [hB]; rfl
    have e1 : rowN (rowW a 1) = 1 := by rw [e]; unfold rowN; omega
    have e2 : rowW a 1 / 32 % 32 = (cN (a 22) : Int) := by rw [e]; omega
    have e3 : rowW a 1 % 32 = (cN (a 23) : Int) := by rw [e]; omega
    have eo : onB (rowW a 1) = decide (B = 1024) := by
      unfold onB
      rw [e]
      rcases hB2 with h | h <;> rw [h]
      · rw [decide_eq_false (by omega), decide_eq_false (by omega)]
      · rw [decide_eq_true (by omega), decide_eq_true rfl]
    have hf : fitW 0 (rowW a 1) = true := by
      unfold fitW
      rw [e2, e3, d1, d2, eo]
      simp [hasS]
      omega
    refine ⟨by rw [e]; omega, e1, ?_, ?_, fun hl => ?_, fun hs => ?_⟩
    · unfold apE; rw [e1]; exact if_pos hf
    · unfold rvN; rw [e1, if_neg (by decide), e3, digV_of (by rw [d2]; omega), d2]
      exact Int.toNat_of_nonneg g2.1
    · unfold lvN; rw [e2, digV_of (by rw [d1]; omega), d1]
      exact Int.toNat_of_nonneg g1.1
    · rw [eo]
      by_cases h : a 18 = 2
      · have hx : B = 1024 := by rw [hB]; exact if_pos h
        rw [decide_eq_true hx]
        exact (decide_eq_true h).symm
      · have hx : B ≠ 1024 := by
          rw [hB]
          show (if a 18 = 2 then 1024 else 0) ≠ 1024
          rw [if_neg h]
          decide
        rw [decide_eq_false hx]
        exact (decide_eq_false h).symm
  · have g2 := ha 21 (by decide)
    simp only [lim] at g2
    have g1 := ha 20 (by decide)
    simp only [lim] at g1
    have d1 := digN_cN g1.1 g1.2
    have d2 := digN_cN g2.1 g2.2
    have b1 := cN_b (a 20)
    have b2 := cN_b (a 21)
    obtain ⟨B, hB⟩ : ∃ B : Nat, B = bitN a 1 := ⟨_, rfl⟩
    have hB2 : B = 0 ∨ B = 1024 := by
      rw [hB]
      show (if a 18 = 1 then 1024 else 0) = 0 ∨ (if a 18 = 1 then 1024 else 0) = 1024
      split <;> simp
    have e : rowW a 2 = ((2048 * 2 + B + (32 * cN (a 20) + cN (a 21)) : Nat) : Int) := by rw [hB]; rfl
    have e1 : rowN (rowW a 2) = 2 := by rw [e]; unfold rowN; omega
    have e2 : rowW a 2 / 32 % 32 = (cN (a 20) : Int) := by rw [e]; omega
    have e3 : rowW a 2 % 32 = (cN (a 21) : Int) := by rw [e]; omega
    have eo : onB (rowW a 2) = decide (B = 1024) := by
      unfold onB
      rw [e]
      rcases hB2 with h | h <;> rw [h]
      · rw [decide_eq_false (by omega), decide_eq_false (by omega)]
      · rw [decide_eq_true (by omega), decide_eq_true rfl]
    have hf : fitW 1 (rowW a 2) = true := by
      unfold fitW
      rw [e2, e3, d1, d2, eo]
      simp [hasS]
      omega
    refine ⟨by rw [e]; omega, e1, ?_, ?_, fun hl => ?_, fun hs => ?_⟩
    · unfold apE; rw [e1]; exact if_pos hf
    · unfold rvN; rw [e1, if_neg (by decide), e3, digV_of (by rw [d2]; omega), d2]
      exact Int.toNat_of_nonneg g2.1
    · unfold lvN; rw [e2, digV_of (by rw [d1]; omega), d1]
      exact Int.toNat_of_nonneg g1.1
    · rw [eo]
      by_cases h : a 18 = 1
      · have hx : B = 1024 := by rw [hB]; exact if_pos h
        rw [decide_eq_true hx]
        exact (decide_eq_true h).symm
      · have hx : B ≠ 1024 := by
          rw [hB]
          show (if a 18 = 1 then 1024 else 0) ≠ 1024
          rw [if_neg h]
          decide
        rw [decide_eq_false hx]
        exact (decide_eq_false h).symm
  · have g2 := ha 19 (by decide)
    simp only [lim] at g2
    have g1 := ha 17 (by decide)
    simp only [lim] at g1
    have d1 := digN_cN g1.1 g1.2
    have d2 := digN_cN g2.1 g2.2
    have b1 := cN_b (a 17)
    have b2 := cN_b (a 19)
    obtain ⟨B, hB⟩ : ∃ B : Nat, B = bitN a 2 := ⟨_, rfl⟩
    have hB2 : B = 0 ∨ B = 1024 := by
      rw [hB]
      show (0) = 0 ∨ (0) = 1024
      simp
    have e : rowW a 3 = ((2048 * 3 + B + (32 * cN (a 17) + cN (a 19)) : Nat) : Int) := by rw [hB]; rfl
    have e1 : rowN (rowW a 3) = 3 := by rw [e]; unfold rowN; omega
    have e2 : rowW a 3 / 32 % 32 = (cN (a 17) : Int) := by rw [e]; omega
    have e3 : rowW a 3 % 32 = (cN (a 19) : Int) := by rw [e]; omega
    have eo : onB (rowW a 3) = decide (B = 1024) := by
      unfold onB
      rw [e]
      rcases hB2 with h | h <;> rw [h]
      · rw [decide_eq_false (by omega), decide_eq_false (by omega)]
      · rw [decide_eq_true (by omega), decide_eq_true rfl]
    have hf : fitW 2 (rowW a 3) = true := by
      unfold fitW
      rw [e2, e3, d1, d2, eo]
      have : B = 0 := by rw [hB]; rfl
      rw [this]
      simp [hasS]
      omega
    refine ⟨by rw [e]; omega, e1, ?_, ?_, fun hl => ?_, fun hs => ?_⟩
    · unfold apE; rw [e1]; exact if_pos hf
    · unfold rvN; rw [e1, if_neg (by decide), e3, digV_of (by rw [d2]; omega), d2]
      exact Int.toNat_of_nonneg g2.1
    · unfold lvN; rw [e2, digV_of (by rw [d1]; omega), d1]
      exact Int.toNat_of_nonneg g1.1
    · exact absurd hs (by decide)
  · have g2 := ha 16 (by decide)
    simp only [lim] at g2
    have g1 := ha 15 (by decide)
    simp only [lim] at g1
    have d1 := digN_cN g1.1 g1.2
    have d2 := digN_cN g2.1 g2.2
    have b1 := cN_b (a 15)
    have b2 := cN_b (a 16)
    obtain ⟨B, hB⟩ : ∃ B : Nat, B = bitN a 3 := ⟨_, rfl⟩
    have hB2 : B = 0 ∨ B = 1024 := by
      rw [hB]
      show (if a 12 = 2 then 1024 else 0) = 0 ∨ (if a 12 = 2 then 1024 else 0) = 1024
      split <;> simp
    have e : rowW a 4 = ((2048 * 4 + B + (32 * cN (a 15) + cN (a 16)) : Nat) : Int) := by rw [hB]; rfl
    have e1 : rowN (rowW a 4) = 4 := by rw [e]; unfold rowN; omega
    have e2 : rowW a 4 / 32 % 32 = (cN (a 15) : Int) := by rw [e]; omega
    have e3 : rowW a 4 % 32 = (cN (a 16) : Int) := by rw [e]; omega
    have eo : onB (rowW a 4) = decide (B = 1024) := by
      unfold onB
      rw [e]
      rcases hB2 with h | h <;> rw [h]
      · rw [decide_eq_false (by omega), decide_eq_false (by omega)]
      · rw [decide_eq_true (by omega), decide_eq_true rfl]
    have hf : fitW 3 (rowW a 4) = true := by
      unfold fitW
      rw [e2, e3, d1, d2, eo]
      simp [hasS]
      omega
    refine ⟨by rw [e]; omega, e1, ?_, ?_, fun hl => ?_, fun hs => ?_⟩
    · unfold apE; rw [e1]; exact if_pos hf
    · unfold rvN; rw [e1, if_neg (by decide), e3, digV_of (by rw [d2]; omega), d2]
      exact Int.toNat_of_nonneg g2.1
    · unfold lvN; rw [e2, digV_of (by rw [d1]; omega), d1]
      exact Int.toNat_of_nonneg g1.1
    · rw [eo]
      by_cases h : a 12 = 2
      · have hx : B = 1024 := by rw [hB]; exact if_pos h
        rw [decide_eq_true hx]
        exact (decide_eq_true h).symm
      · have hx : B ≠ 1024 := by
          rw [hB]
          show (if a 12 = 2 then 1024 else 0) ≠ 1024
          rw [if_neg h]
          decide
        rw [decide_eq_false hx]
        exact (decide_eq_false h).symm
  · have g2 := ha 14 (by decide)
    simp only [lim] at g2
    have g1 := ha 13 (by decide)
    simp only [lim] at g1
    have d1 := digN_cN g1.1 g1.2
    have d2 := digN_cN g2.1 g2.2
    have b1 := cN_b (a 13)
    have b2 := cN_b (a 14)
    obtain ⟨B, hB⟩ : ∃ B : Nat, B = bitN a 4 := ⟨_, rfl⟩
    have hB2 : B = 0 ∨ B = 1024 := by
      rw [hB]
      show (if a 12 = 1 then 1024 else 0) = 0 ∨ (if a 12 = 1 then 1024 else 0) = 1024
      split <;> simp
    have e : rowW a 5 = ((2048 * 5 + B + (32 * cN (a 13) + cN (a 14)) : Nat) : Int) := by rw [hB]; rfl
    have e1 : rowN (rowW a 5) = 5 := by rw [e]; unfold rowN; omega
    have e2 : rowW a 5 / 32 % 32 = (cN (a 13) : Int) := by rw [e]; omega
    have e3 : rowW a 5 % 32 = (cN (a 14) : Int) := by rw [e]; omega
    have eo : onB (rowW a 5) = decide (B = 1024) := by
      unfold onB
      rw [e]
      rcases hB2 with h | h <;> rw [h]
      · rw [decide_eq_false (by omega), decide_eq_false (by omega)]
      · rw [decide_eq_true (by omega), decide_eq_true rfl]
    have hf : fitW 4 (rowW a 5) = true := by
      unfold fitW
      rw [e2, e3, d1, d2, eo]
      simp [hasS]
      omega
    refine ⟨by rw [e]; omega, e1, ?_, ?_, fun hl => ?_, fun hs => ?_⟩
    · unfold apE; rw [e1]; exact if_pos hf
    · unfold rvN; rw [e1, if_neg (by decide), e3, digV_of (by rw [d2]; omega), d2]
      exact Int.toNat_of_nonneg g2.1
    · unfold lvN; rw [e2, digV_of (by rw [d1]; omega), d1]
      exact Int.toNat_of_nonneg g1.1
    · rw [eo]
      by_cases h : a 12 = 1
      · have hx : B = 1024 := by rw [hB]; exact if_pos h
        rw [decide_eq_true hx]
        exact (decide_eq_true h).symm
      · have hx : B ≠ 1024 := by
          rw [hB]
          show (if a 12 = 1 then 1024 else 0) ≠ 1024
          rw [if_neg h]
          decide
        rw [decide_eq_false hx]
        exact (decide_eq_false h).symm
  · have g2 := ha 11 (by decide)
    simp only [lim] at g2
    have g1 := ha 10 (by decide)
    simp only [lim] at g1
    have d1 := digN_cN g1.1 g1.2
    have d2 := digN_cN g2.1 g2.2
    have b1 := cN_b (a 10)
    have b2 := cN_b (a 11)
    obtain ⟨B, hB⟩ : ∃ B : Nat, B = bitN a 5 := ⟨_, rfl⟩
    have hB2 : B = 0 ∨ B = 1024 := by
      rw [hB]
      show (if a 6 = 2 then 1024 else 0) = 0 ∨ (if a 6 = 2 then 1024 else 0) = 1024
      split <;> simp
    have e : rowW a 6 = ((2048 * 6 + B + (32 * cN (a 10) + cN (a 11)) : Nat) : Int) := by rw [hB]; rfl
    have e1 : rowN (rowW a 6) = 6 := by rw [e]; unfold rowN; omega
    have e2 : rowW a 6 / 32 % 32 = (cN (a 10) : Int) := by rw [e]; omega
    have e3 : rowW a 6 % 32 = (cN (a 11) : Int) := by rw [e]; omega
    have eo : onB (rowW a 6) = decide (B = 1024) := by
      unfold onB
      rw [e]
      rcases hB2 with h | h <;> rw [h]
      · rw [decide_eq_false (by omega), decide_eq_false (by omega)]
      · rw [decide_eq_true (by omega), decide_eq_true rfl]
    have hf : fitW 5 (rowW a 6) = true := by
      unfold fitW
      rw [e2, e3, d1, d2, eo]
      simp [hasS]
      omega
    refine ⟨by rw [e]; omega, e1, ?_, ?_, fun hl => ?_, fun hs => ?_⟩
    · unfold apE; rw [e1]; exact if_pos hf
    · unfold rvN; rw [e1, if_neg (by decide), e3, digV_of (by rw [d2]; omega), d2]
      exact Int.toNat_of_nonneg g2.1
    · unfold lvN; rw [e2, digV_of (by rw [d1]; omega), d1]
      exact Int.toNat_of_nonneg g1.1
    · rw [eo]
      by_cases h : a 6 = 2
      · have hx : B = 1024 := by rw [hB]; exact if_pos h
        rw [decide_eq_true hx]
        exact (decide_eq_true h).symm
      · have hx : B ≠ 1024 := by
          rw [hB]
          show (if a 6 = 2 then 1024 else 0) ≠ 1024
          rw [if_neg h]
          decide
        rw [decide_eq_false hx]
        exact (decide_eq_false h).symm
  · have g2 := ha 9 (by decide)
    simp only [lim] at g2
    have g1 := ha 8 (by decide)
    simp only [lim] at g1
    have d1 := digN_cN g1.1 g1.2
    have d2 := digN_cN g2.1 g2.2
    have b1 := cN_b (a 8)
    have b2 := cN_b (a 9)
    obtain ⟨B, hB⟩ : ∃ B : Nat, B = bitN a 6 := ⟨_, rfl⟩
    have hB2 : B = 0 ∨ B = 1024 := by
      rw [hB]
      show (if a 6 = 1 then 1024 else 0) = 0 ∨ (if a 6 = 1 then 1024 else 0) = 1024
      split <;> simp
    have e : rowW a 7 = ((2048 * 7 + B + (32 * cN (a 8) + cN (a 9)) : Nat) : Int) := by rw [hB]; rfl
    have e1 : rowN (rowW a 7) = 7 := by rw [e]; unfold rowN; omega
    have e2 : rowW a 7 / 32 % 32 = (cN (a 8) : Int) := by rw [e]; omega
    have e3 : rowW a 7 % 32 = (cN (a 9) : Int) := by rw [e]; omega
    have eo : onB (rowW a 7) = decide (B = 1024) := by
      unfold onB
      rw [e]
      rcases hB2 with h | h <;> rw [h]
      · rw [decide_eq_false (by omega), decide_eq_false (by omega)]
      · rw [decide_eq_true (by omega), decide_eq_true rfl]
    have hf : fitW 6 (rowW a 7) = true := by
      unfold fitW
      rw [e2, e3, d1, d2, eo]
      simp [hasS]
      omega
    refine ⟨by rw [e]; omega, e1, ?_, ?_, fun hl => ?_, fun hs => ?_⟩
    · unfold apE; rw [e1]; exact if_pos hf
    · unfold rvN; rw [e1, if_neg (by decide), e3, digV_of (by rw [d2]; omega), d2]
      exact Int.toNat_of_nonneg g2.1
    · unfold lvN; rw [e2, digV_of (by rw [d1]; omega), d1]
      exact Int.toNat_of_nonneg g1.1
    · rw [eo]
      by_cases h : a 6 = 1
      · have hx : B = 1024 := by rw [hB]; exact if_pos h
        rw [decide_eq_true hx]
        exact (decide_eq_true h).symm
      · have hx : B ≠ 1024 := by
          rw [hB]
          show (if a 6 = 1 then 1024 else 0) ≠ 1024
          rw [if_neg h]
          decide
        rw [decide_eq_false hx]
        exact (decide_eq_false h).symm
  · have g2 := ha 7 (by decide)
    simp only [lim] at g2
    have d1 : digN (cN 10 : Int) = 10 := by decide
    have d2 := digN_cN g2.1 g2.2
    have b1 := cN_b (10)
    have b2 := cN_b (a 7)
    obtain ⟨B, hB⟩ : ∃ B : Nat, B = bitN a 7 := ⟨_, rfl⟩
    have hB2 : B = 0 ∨ B = 1024 := by
      rw [hB]
      show (0) = 0 ∨ (0) = 1024
      simp
    have e : rowW a 8 = ((2048 * 8 + B + (32 * cN 10 + cN (a 7)) : Nat) : Int) := by rw [hB]; rfl
    have e1 : rowN (rowW a 8) = 8 := by rw [e]; unfold rowN; omega
    have e2 : rowW a 8 / 32 % 32 = (cN 10 : Int) := by rw [e]; omega
    have e3 : rowW a 8 % 32 = (cN (a 7) : Int) := by rw [e]; omega
    have eo : onB (rowW a 8) = decide (B = 1024) := by
      unfold onB
      rw [e]
      rcases hB2 with h | h <;> rw [h]
      · rw [decide_eq_false (by omega), decide_eq_false (by omega)]
      · rw [decide_eq_true (by omega), decide_eq_true rfl]
    have hf : fitW 7 (rowW a 8) = true := by
      unfold fitW
      rw [e2, e3, d1, d2, eo]
      have : B = 0 := by rw [hB]; rfl
      rw [this]
      simp [hasS]
      omega
    refine ⟨by rw [e]; omega, e1, ?_, ?_, fun hl => ?_, fun hs => ?_⟩
    · unfold apE; rw [e1]; exact if_pos hf
    · unfold rvN; rw [e1, if_neg (by decide), e3, digV_of (by rw [d2]; omega), d2]
      exact Int.toNat_of_nonneg g2.1
    · exact absurd hl (by decide)
    · exact absurd hs (by decide)
  · have g2 := ha 5 (by decide)
    simp only [lim] at g2
    have g1 := ha 4 (by decide)
    simp only [lim] at g1
    have d1 := digN_cN g1.1 g1.2
    have d2 := digN_cN g2.1 g2.2
    have b1 := cN_b (a 4)
    have b2 := cN_b (a 5)
    obtain ⟨B, hB⟩ : ∃ B : Nat, B = bitN a 8 := ⟨_, rfl⟩
    have hB2 : B = 0 ∨ B = 1024 := by
      rw [hB]
      show (0) = 0 ∨ (0) = 1024
      simp
    have e : rowW a 9 = ((2048 * 9 + B + (32 * cN (a 4) + cN (a 5)) : Nat) : Int) := by rw [hB]; rfl
    have e1 : rowN (rowW a 9) = 9 := by rw [e]; unfold rowN; omega
    have e2 : rowW a 9 / 32 % 32 = (cN (a 4) : Int) := by rw [e]; omega
    have e3 : rowW a 9 % 32 = (cN (a 5) : Int) := by rw [e]; omega
    have eo : onB (rowW a 9) = decide (B = 1024) := by
      unfold onB
      rw [e]
      rcases hB2 with h | h <;> rw [h]
      · rw [decide_eq_false (by omega), decide_eq_false (by omega)]
      · rw [decide_eq_true (by omega), decide_eq_true rfl]
    have hf : fitW 8 (rowW a 9) = true := by
      unfold fitW
      rw [e2, e3, d1, d2, eo]
      have : B = 0 := by rw [hB]; rfl
      rw [this]
      simp [hasS]
      omega
    refine ⟨by rw [e]; omega, e1, ?_, ?_, fun hl => ?_, fun hs => ?_⟩
    · unfold apE; rw [e1]; exact if_pos hf
    · unfold rvN; rw [e1, if_neg (by decide), e3, digV_of (by rw [d2]; omega), d2]
      exact Int.toNat_of_nonneg g2.1
    · unfold lvN; rw [e2, digV_of (by rw [d1]; omega), d1]
      exact Int.toNat_of_nonneg g1.1
    · exact absurd hs (by decide)
  · have g2 := ha 3 (by decide)
    simp only [lim] at g2
    have g1 := ha 2 (by decide)
    simp only [lim] at g1
    have d1 := digN_cN g1.1 g1.2
    have d2 := digN_cN g2.1 g2.2
    have b1 := cN_b (a 2)
    have b2 := cN_b (a 3)
    obtain ⟨B, hB⟩ : ∃ B : Nat, B = bitN a 9 := ⟨_, rfl⟩
    have hB2 : B = 0 ∨ B = 1024 := by
      rw [hB]
      show (0) = 0 ∨ (0) = 1024
      simp
    have e : rowW a 10 = ((2048 * 10 + B + (32 * cN (a 2) + cN (a 3)) : Nat) : Int) := by rw [hB]; rfl
    have e1 : rowN (rowW a 10) = 10 := by rw [e]; unfold rowN; omega
    have e2 : rowW a 10 / 32 % 32 = (cN (a 2) : Int) := by rw [e]; omega
    have e3 : rowW a 10 % 32 = (cN (a 3) : Int) := by rw [e]; omega
    have eo : onB (rowW a 10) = decide (B = 1024) := by
      unfold onB
      rw [e]
      rcases hB2 with h | h <;> rw [h]
      · rw [decide_eq_false (by omega), decide_eq_false (by omega)]
      · rw [decide_eq_true (by omega), decide_eq_true rfl]
    have hf : fitW 9 (rowW a 10) = true := by
      unfold fitW
      rw [e2, e3, d1, d2, eo]
      have : B = 0 := by rw [hB]; rfl
      rw [this]
      simp [hasS]
      omega
    refine ⟨by rw [e]; omega, e1, ?_, ?_, fun hl => ?_, fun hs => ?_⟩
    · unfold apE; rw [e1]; exact if_pos hf
    · unfold rvN; rw [e1, if_neg (by decide), e3, digV_of (by rw [d2]; omega), d2]
      exact Int.toNat_of_nonneg g2.1
    · unfold lvN; rw [e2, digV_of (by rw [d1]; omega), d1]
      exact Int.toNat_of_nonneg g1.1
    · exact absurd hs (by decide)
  · have g2 := ha 1 (by decide)
    simp only [lim] at g2
    have g1 := ha 0 (by decide)
    simp only [lim] at g1
    have d1 := digN_cN g1.1 g1.2
    have d2 := digN_cN g2.1 g2.2
    have b1 := cN_b (a 0)
    have b2 := cN_b (a 1)
    obtain ⟨B, hB⟩ : ∃ B : Nat, B = bitN a 10 := ⟨_, rfl⟩
    have hB2 : B = 0 ∨ B = 1024 := by
      rw [hB]
      show (0) = 0 ∨ (0) = 1024
      simp
    have e : rowW a 11 = ((2048 * 11 + B + (32 * cN (a 0) + cN (a 1)) : Nat) : Int) := by rw [hB]; rfl
    have e1 : rowN (rowW a 11) = 11 := by rw [e]; unfold rowN; omega
    have e2 : rowW a 11 / 32 % 32 = (cN (a 0) : Int) := by rw [e]; omega
    have e3 : rowW a 11 % 32 = (cN (a 1) : Int) := by rw [e]; omega
    have eo : onB (rowW a 11) = decide (B = 1024) := by
      unfold onB
      rw [e]
      rcases hB2 with h | h <;> rw [h]
      · rw [decide_eq_false (by omega), decide_eq_false (by omega)]
      · rw [decide_eq_true (by omega), decide_eq_true rfl]
    have hf : fitW 10 (rowW a 11) = true := by
      unfold fitW
      rw [e2, e3, d1, d2, eo]
      have : B = 0 := by rw [hB]; rfl
      rw [this]
      simp [hasS]
      omega
    refine ⟨by rw [e]; omega, e1, ?_, ?_, fun hl => ?_, fun hs => ?_⟩
    · unfold apE; rw [e1]; exact if_pos hf
    · unfold rvN; rw [e1, if_neg (by decide), e3, digV_of (by rw [d2]; omega), d2]
      exact Int.toNat_of_nonneg g2.1
    · unfold lvN; rw [e2, digV_of (by rw [d1]; omega), d1]
      exact Int.toNat_of_nonneg g1.1
    · exact absurd hs (by decide)
  · have g := ha 24 (by decide)
    simp only [lim] at g
    have e : rowW a 12 = 24576 + a 24 := rfl
    have e1 : rowN (rowW a 12) = 12 := by rw [e]; unfold rowN; omega
    refine ⟨by rw [e]; omega, e1, ?_, ?_, fun hl => absurd hl (by decide), fun hs => absurd hs (by decide)⟩
    · unfold apE; rw [e1]; rfl
    · unfold rvN; rw [e1, if_pos (by decide), e]
      show (24576 + a 24) % 2048 = a 24
      omega
  · have g := ha 25 (by decide)
    simp only [lim] at g
    have e : rowW a 13 = 26624 + a 25 := rfl
    have e1 : rowN (rowW a 13) = 13 := by rw [e]; unfold rowN; omega
    refine ⟨by rw [e]; omega, e1, ?_, ?_, fun hl => absurd hl (by decide), fun hs => absurd hs (by decide)⟩
    · unfold apE; rw [e1]; rfl
    · unfold rvN; rw [e1, if_pos (by decide), e]
      show (26624 + a 25) % 2048 = a 25
      omega
/-- Between a and b: the rows up to n are b's. -/
def mid (a b : Nat → Int) (n j : Nat) : Int := match j with
  | 0 => if 11 ≤ n then b 0 else a 0
  | 1 => if 11 ≤ n then b 1 else a 1
  | 2 => if 10 ≤ n then b 2 else a 2
  | 3 => if 10 ≤ n then b 3 else a 3
  | 4 => if 9 ≤ n then b 4 else a 4
  | 5 => if 9 ≤ n then b 5 else a 5
  | 7 => if 8 ≤ n then b 7 else a 7
  | 8 => if 7 ≤ n then b 8 else a 8
  | 9 => if 7 ≤ n then b 9 else a 9
  | 10 => if 6 ≤ n then b 10 else a 10
  | 11 => if 6 ≤ n then b 11 else a 11
  | 13 => if 5 ≤ n then b 13 else a 13
  | 14 => if 5 ≤ n then b 14 else a 14
  | 15 => if 4 ≤ n then b 15 else a 15
  | 16 => if 4 ≤ n then b 16 else a 16
  | 17 => if 3 ≤ n then b 17 else a 17
  | 19 => if 3 ≤ n then b 19 else a 19
  | 20 => if 2 ≤ n then b 20 else a 20
  | 21 => if 2 ≤ n then b 21 else a 21
  | 22 => if 1 ≤ n then b 22 else a 22
  | 23 => if 1 ≤ n then b 23 else a 23
  | 24 => if 12 ≤ n then b 24 else a 24
  | 25 => if 13 ≤ n then b 25 else a 25
  | 6 => if n < 6 then a 6 else if n = 6 then (if b 6 = 2 then 2 else if a 6 = 2 then 0 else a 6) else b 6
  | 12 => if n < 4 then a 12 else if n = 4 then (if b 12 = 2 then 2 else if a 12 = 2 then 0 else a 12) else b 12
  | 18 => if n < 1 then a 18 else if n = 1 then (if b 18 = 2 then 2 else if a 18 = 2 then 0 else a 18) else b 18
  | j => a j
theorem mid_next {a b S : Nat → Int} (ha : Good a) (hb : Good b) {n : Nat} (hn : n < 13) (hS : ∀ j, j < 26 → S j = mid a b n j) {j : Nat} (hj : j < 26) : apD S (rowW b (n + 1)) j = mid a b (n + 1) j := by
  obtain ⟨w0, w1, w2, w3, w4, w5⟩ := row_word hb (r := n + 1) (by omega) (by omega)
  rw [apD_at w2 hj, w1]
  have hsv : svN S (onB (rowW b (n + 1))) (n + 1) = if onB (rowW b (n + 1)) = true then sgnV (n + 1) else if S (soN (n + 1)) = sgnV (n + 1) then 0 else S (soN (n + 1)) := rfl
  have hj' : j = 0 ∨ j = 1 ∨ j = 2 ∨ j = 3 ∨ j = 4 ∨ j = 5 ∨ j = 6 ∨ j = 7 ∨ j = 8 ∨ j = 9 ∨ j = 10 ∨ j = 11 ∨ j = 12 ∨ j = 13 ∨ j = 14 ∨ j = 15 ∨ j = 16 ∨ j = 17 ∨ j = 18 ∨ j = 19 ∨ j = 20 ∨ j = 21 ∨ j = 22 ∨ j = 23 ∨ j = 24 ∨ j = 25 := by omega
  have hn' : n = 0 ∨ n = 1 ∨ n = 2 ∨ n = 3 ∨ n = 4 ∨ n = 5 ∨ n = 6 ∨ n = 7 ∨ n = 8 ∨ n = 9 ∨ n = 10 ∨ n = 11 ∨ n = 12 := by omega
  rcases hn' with rfl | rfl | rfl | rfl | rfl | rfl | rfl | rfl | rfl | rfl | rfl | rfl | rfl
  · have hs := hS 18 (by decide)
    have w5 := w5 (by decide)
    have gb := hb 18 (by decide)
    have ga := ha 18 (by decide)
    simp only [lim] at gb ga
    simp only [mid] at hs
    simp only [soN, sgnV, Nat.reduceAdd] at hsv w5
    have w3 := w3
    simp only [roN, loN, Nat.reduceAdd] at w3 w4
    rcases hj' with rfl | rfl | rfl | rfl | rfl | rfl | rfl | rfl | rfl | rfl | rfl | rfl | rfl | rfl | rfl | rfl | rfl | rfl | rfl | rfl | rfl | rfl | rfl | rfl | rfl | rfl
    · rw [if_neg (by decide), if_neg (by decide), if_neg (by decide), hS 0 (by decide)]; rfl
    · rw [if_neg (by decide), if_neg (by decide), if_neg (by decide), hS 1 (by decide)]; rfl
    · rw [if_neg (by decide), if_neg (by decide), if_neg (by decide), hS 2 (by decide)]; rfl
    · rw [if_neg (by decide), if_neg (by decide), if_neg (by decide), hS 3 (by decide)]; rfl
    · rw [if_neg (by decide), if_neg (by decide), if_neg (by decide), hS 4 (by decide)]; rfl
    · rw [if_neg (by decide), if_neg (by decide), if_neg (by decide), hS 5 (by decide)]; rfl
    · rw [if_neg (by decide), if_neg (by decide), if_neg (by decide), hS 6 (by decide)]; rfl
    · rw [if_neg (by decide), if_neg (by decide), if_neg (by decide), hS 7 (by decide)]; rfl
    · rw [if_neg (by decide), if_neg (by decide), if_neg (by decide), hS 8 (by decide)]; rfl
    · rw [if_neg (by decide), if_neg (by decide), if_neg (by decide), hS 9 (by decide)]; rfl
    · rw [if_neg (by decide), if_neg (by decide), if_neg (by decide), hS 10 (by decide)]; rfl
    · rw [if_neg (by decide), if_neg (by decide), if_neg (by decide), hS 11 (by decide)]; rfl
    · rw [if_neg (by decide), if_neg (by decide), if_neg (by decide), hS 12 (by decide)]; rfl
    · rw [if_neg (by decide), if_neg (by decide), if_neg (by decide), hS 13 (by decide)]; rfl
    · rw [if_neg (by decide), if_neg (by decide), if_neg (by decide), hS 14 (by decide)]; rfl
    · rw [if_neg (by decide), if_neg (by decide), if_neg (by decide), hS 15 (by decide)]; rfl
    · rw [if_neg (by decide), if_neg (by decide), if_neg (by decide), hS 16 (by decide)]; rfl
    · rw [if_neg (by decide), if_neg (by decide), if_neg (by decide), hS 17 (by decide)]; rfl
    · rw [if_pos (by decide), hsv, w5]
      simp only [mid, decide_eq_true_eq]
      rw [hs]
      repeat (first | (split <;> simp_all <;> omega) | omega)
    · rw [if_neg (by decide), if_neg (by decide), if_neg (by decide), hS 19 (by decide)]; rfl
    · rw [if_neg (by decide), if_neg (by decide), if_neg (by decide), hS 20 (by decide)]; rfl
    · rw [if_neg (by decide), if_neg (by decide), if_neg (by decide), hS 21 (by decide)]; rfl
    · rw [if_neg (by decide), if_neg (by decide), if_pos (by decide), w4 (by decide)]; rfl
    · rw [if_neg (by decide), if_pos (by decide), w3]; rfl
    · rw [if_neg (by decide), if_neg (by decide), if_neg (by decide), hS 24 (by decide)]; rfl
    · rw [if_neg (by decide), if_neg (by decide), if_neg (by decide), hS 25 (by decide)]; rfl
  · have hs := hS 18 (by decide)
    have w5 := w5 (by decide)
    have gb := hb 18 (by decide)
    have ga := ha 18 (by decide)
    simp only [lim] at gb ga
    simp only [mid] at hs
    simp only [soN, sgnV, Nat.reduceAdd] at hsv w5
    have w3 := w3
    simp only [roN, loN, Nat.reduceAdd] at w3 w4
    rcases hj' with rfl | rfl | rfl | rfl | rfl | rfl | rfl | rfl | rfl | rfl | rfl | rfl | rfl | rfl | rfl | rfl | rfl | rfl | rfl | rfl | rfl | rfl | rfl | rfl | rfl | rfl
    · rw [if_neg (by decide), if_neg (by decide), if_neg (by decide), hS 0 (by decide)]; rfl
    · rw [if_neg (by decide), if_neg (by decide), if_neg (by decide), hS 1 (by decide)]; rfl
    · rw [if_neg (by decide), if_neg (by decide), if_neg (by decide), hS 2 (by decide)]; rfl
    · rw [if_neg (by decide), if_neg (by decide), if_neg (by decide), hS 3 (by decide)]; rfl
    · rw [if_neg (by decide), if_neg (by decide), if_neg (by decide), hS 4 (by decide)]; rfl
    · rw [if_neg (by decide), if_neg (by decide), if_neg (by decide), hS 5 (by decide)]; rfl
    · rw [if_neg (by decide), if_neg (by decide), if_neg (by decide), hS 6 (by decide)]; rfl
    · rw [if_neg (by decide), if_neg (by decide), if_neg (by decide), hS 7 (by decide)]; rfl
    · rw [if_neg (by decide), if_neg (by decide), if_neg (by decide), hS 8 (by decide)]; rfl
    · rw [if_neg (by decide), if_neg (by decide), if_neg (by decide), hS 9 (by decide)]; rfl
    · rw [if_neg (by decide), if_neg (by decide), if_neg (by decide), hS 10 (by decide)]; rfl
    · rw [if_neg (by decide), if_neg (by decide), if_neg (by decide), hS 11 (by decide)]; rfl
    · rw [if_neg (by decide), if_neg (by decide), if_neg (by decide), hS 12 (by decide)]; rfl
    · rw [if_neg (by decide), if_neg (by decide), if_neg (by decide), hS 13 (by decide)]; rfl
    · rw [if_neg (by decide), if_neg (by decide), if_neg (by decide), hS 14 (by decide)]; rfl
    · rw [if_neg (by decide), if_neg (by decide), if_neg (by decide), hS 15 (by decide)]; rfl
    · rw [if_neg (by decide), if_neg (by decide), if_neg (by decide), hS 16 (by decide)]; rfl
    · rw [if_neg (by decide), if_neg (by decide), if_neg (by decide), hS 17 (by decide)]; rfl
    · rw [if_pos (by decide), hsv, w5]
      simp only [mid, decide_eq_true_eq]
      rw [hs]
      repeat (first | (split <;> simp_all <;> omega) | omega)
    · rw [if_neg (by decide), if_neg (by decide), if_neg (by decide), hS 19 (by decide)]; rfl
    · rw [if_neg (by decide), if_neg (by decide), if_pos (by decide), w4 (by decide)]; rfl
    · rw [if_neg (by decide), if_pos (by decide), w3]; rfl
    · rw [if_neg (by decide), if_neg (by decide), if_neg (by decide), hS 22 (by decide)]; rfl
    · rw [if_neg (by decide), if_neg (by decide), if_neg (by decide), hS 23 (by decide)]; rfl
    · rw [if_neg (by decide), if_neg (by decide), if_neg (by decide), hS 24 (by decide)]; rfl
    · rw [if_neg (by decide), if_neg (by decide), if_neg (by decide), hS 25 (by decide)]; rfl
  · skip
    have w3 := w3
    simp only [roN, loN, Nat.reduceAdd] at w3 w4
    rcases hj' with rfl | rfl | rfl | rfl | rfl | rfl | rfl | rfl | rfl | rfl | rfl | rfl | rfl | rfl | rfl | rfl | rfl | rfl | rfl | rfl | rfl | rfl | rfl | rfl | rfl | rfl
    · rw [if_neg (by decide), if_neg (by decide), if_neg (by decide), hS 0 (by decide)]; rfl
    · rw [if_neg (by decide), if_neg (by decide), if_neg (by decide), hS 1 (by decide)]; rfl
    · rw [if_neg (by decide), if_neg (by decide), if_neg (by decide), hS 2 (by decide)]; rfl
    · rw [if_neg (by decide), if_neg (by decide), if_neg (by decide), hS 3 (by decide)]; rfl
    · rw [if_neg (by decide), if_neg (by decide), if_neg (by decide), hS 4 (by decide)]; rfl
    · rw [if_neg (by decide), if_neg (by decide), if_neg (by decide), hS 5 (by decide)]; rfl
    · rw [if_neg (by decide), if_neg (by decide), if_neg (by decide), hS 6 (by decide)]; rfl
    · rw [if_neg (by decide), if_neg (by decide), if_neg (by decide), hS 7 (by decide)]; rfl
    · rw [if_neg (by decide), if_neg (by decide), if_neg (by decide), hS 8 (by decide)]; rfl
    · rw [if_neg (by decide), if_neg (by decide), if_neg (by decide), hS 9 (by decide)]; rfl
    · rw [if_neg (by decide), if_neg (by decide), if_neg (by decide), hS 10 (by decide)]; rfl
    · rw [if_neg (by decide), if_neg (by decide), if_neg (by decide), hS 11 (by decide)]; rfl
    · rw [if_neg (by decide), if_neg (by decide), if_neg (by decide), hS 12 (by decide)]; rfl
    · rw [if_neg (by decide), if_neg (by decide), if_neg (by decide), hS 13 (by decide)]; rfl
    · rw [if_neg (by decide), if_neg (by decide), if_neg (by decide), hS 14 (by decide)]; rfl
    · rw [if_neg (by decide), if_neg (by decide), if_neg (by decide), hS 15 (by decide)]; rfl
    · rw [if_neg (by decide), if_neg (by decide), if_neg (by decide), hS 16 (by decide)]; rfl
    · rw [if_neg (by decide), if_neg (by decide), if_pos (by decide), w4 (by decide)]; rfl
    · rw [if_neg (by decide), if_neg (by decide), if_neg (by decide), hS 18 (by decide)]; rfl
    · rw [if_neg (by decide), if_pos (by decide), w3]; rfl
    · rw [if_neg (by decide), if_neg (by decide), if_neg (by decide), hS 20 (by decide)]; rfl
    · rw [if_neg (by decide), if_neg (by decide), if_neg (by decide), hS 21 (by decide)]; rfl
    · rw [if_neg (by decide), if_neg (by decide), if_neg (by decide), hS 22 (by decide)]; rfl
    · rw [if_neg (by decide), if_neg (by decide), if_neg (by decide), hS 23 (by decide)]; rfl
    · rw [if_neg (by decide), if_neg (by decide), if_neg (by decide), hS 24 (by decide)]; rfl
    · rw [if_neg (by decide), if_neg (by decide), if_neg (by decide), hS 25 (by decide)]; rfl
  · have hs := hS 12 (by decide)
    have w5 := w5 (by decide)
    have gb := hb 12 (by decide)
    have ga := ha 12 (by decide)
    simp only [lim] at gb ga
    simp only [mid] at hs
    simp only [soN, sgnV, Nat.reduceAdd] at hsv w5
    have w3 := w3
    simp only [roN, loN, Nat.reduceAdd] at w3 w4
    rcases hj' with rfl | rfl | rfl | rfl | rfl | rfl | rfl | rfl | rfl | rfl | rfl | rfl | rfl | rfl | rfl | rfl | rfl | rfl | rfl | rfl | rfl | rfl | rfl | rfl | rfl | rfl
    · rw [if_neg (by decide), if_neg (by decide), if_neg (by decide), hS 0 (by decide)]; rfl
    · rw [if_neg (by decide), if_neg (by decide), if_neg (by decide), hS 1 (by decide)]; rfl
    · rw [if_neg (by decide), if_neg (by decide), if_neg (by decide), hS 2 (by decide)]; rfl
    · rw [if_neg (by decide), if_neg (by decide), if_neg (by decide), hS 3 (by decide)]; rfl
    · rw [if_neg (by decide), if_neg (by decide), if_neg (by decide), hS 4 (by decide)]; rfl
    · rw [if_neg (by decide), if_neg (by decide), if_neg (by decide), hS 5 (by decide)]; rfl
    · rw [if_neg (by decide), if_neg (by decide), if_neg (by decide), hS 6 (by decide)]; rfl
    · rw [if_neg (by decide), if_neg (by decide), if_neg (by decide), hS 7 (by decide)]; rfl
    · rw [if_neg (by decide), if_neg (by decide), if_neg (by decide), hS 8 (by decide)]; rfl
    · rw [if_neg (by decide), if_neg (by decide), if_neg (by decide), hS 9 (by decide)]; rfl
    · rw [if_neg (by decide), if_neg (by decide), if_neg (by decide), hS 10 (by decide)]; rfl
    · rw [if_neg (by decide), if_neg (by decide), if_neg (by decide), hS 11 (by decide)]; rfl
    · rw [if_pos (by decide), hsv, w5]
      simp only [mid, decide_eq_true_eq]
      rw [hs]
      repeat (first | (split <;> simp_all <;> omega) | omega)
    · rw [if_neg (by decide), if_neg (by decide), if_neg (by decide), hS 13 (by decide)]; rfl
    · rw [if_neg (by decide), if_neg (by decide), if_neg (by decide), hS 14 (by decide)]; rfl
    · rw [if_neg (by decide), if_neg (by decide), if_pos (by decide), w4 (by decide)]; rfl
    · rw [if_neg (by decide), if_pos (by decide), w3]; rfl
    · rw [if_neg (by decide), if_neg (by decide), if_neg (by decide), hS 17 (by decide)]; rfl
    · rw [if_neg (by decide), if_neg (by decide), if_neg (by decide), hS 18 (by decide)]; rfl
    · rw [if_neg (by decide), if_neg (by decide), if_neg (by decide), hS 19 (by decide)]; rfl
    · rw [if_neg (by decide), if_neg (by decide), if_neg (by decide), hS 20 (by decide)]; rfl
    · rw [if_neg (by decide), if_neg (by decide), if_neg (by decide), hS 21 (by decide)]; rfl
    · rw [if_neg (by decide), if_neg (by decide), if_neg (by decide), hS 22 (by decide)]; rfl
    · rw [if_neg (by decide), if_neg (by decide), if_neg (by decide), hS 23 (by decide)]; rfl
    · rw [if_neg (by decide), if_neg (by decide), if_neg (by decide), hS 24 (by decide)]; rfl
    · rw [if_neg (by decide), if_neg (by decide), if_neg (by decide), hS 25 (by decide)]; rfl
  · have hs := hS 12 (by decide)
    have w5 := w5 (by decide)
    have gb := hb 12 (by decide)
    have ga := ha 12 (by decide)
    simp only [lim] at gb ga
    simp only [mid] at hs
    simp only [soN, sgnV, Nat.reduceAdd] at hsv w5
    have w3 := w3
    simp only [roN, loN, Nat.reduceAdd] at w3 w4
    rcases hj' with rfl | rfl | rfl | rfl | rfl | rfl | rfl | rfl | rfl | rfl | rfl | rfl | rfl | rfl | rfl | rfl | rfl | rfl | rfl | rfl | rfl | rfl | rfl | rfl | rfl | rfl
    · rw [if_neg (by decide), if_neg (by decide), if_neg (by decide), hS 0 (by decide)]; rfl
    · rw [if_neg (by decide), if_neg (by decide), if_neg (by decide), hS 1 (by decide)]; rfl
    · rw [if_neg (by decide), if_neg (by decide), if_neg (by decide), hS 2 (by decide)]; rfl
    · rw [if_neg (by decide), if_neg (by decide), if_neg (by decide), hS 3 (by decide)]; rfl
    · rw [if_neg (by decide), if_neg (by decide), if_neg (by decide), hS 4 (by decide)]; rfl
    · rw [if_neg (by decide), if_neg (by decide), if_neg (by decide), hS 5 (by decide)]; rfl
    · rw [if_neg (by decide), if_neg (by decide), if_neg (by decide), hS 6 (by decide)]; rfl
    · rw [if_neg (by decide), if_neg (by decide), if_neg (by decide), hS 7 (by decide)]; rfl
    · rw [if_neg (by decide), if_neg (by decide), if_neg (by decide), hS 8 (by decide)]; rfl
    · rw [if_neg (by decide), if_neg (by decide), if_neg (by decide), hS 9 (by decide)]; rfl
    · rw [if_neg (by decide), if_neg (by decide), if_neg (by decide), hS 10 (by decide)]; rfl
    · rw [if_neg (by decide), if_neg (by decide), if_neg (by decide), hS 11 (by decide)]; rfl
    · rw [if_pos (by decide), hsv, w5]
      simp only [mid, decide_eq_true_eq]
      rw [hs]
      repeat (first | (split <;> simp_all <;> omega) | omega)
    · rw [if_neg (by decide), if_neg (by decide), if_pos (by decide), w4 (by decide)]; rfl
    · rw [if_neg (by decide), if_pos (by decide), w3]; rfl
    · rw [if_neg (by decide), if_neg (by decide), if_neg (by decide), hS 15 (by decide)]; rfl
    · rw [if_neg (by decide), if_neg (by decide), if_neg (by decide), hS 16 (by decide)]; rfl
    · rw [if_neg (by decide), if_neg (by decide), if_neg (by decide), hS 17 (by decide)]; rfl
    · rw [if_neg (by decide), if_neg (by decide), if_neg (by decide), hS 18 (by decide)]; rfl
    · rw [if_neg (by decide), if_neg (by decide), if_neg (by decide), hS 19 (by decide)]; rfl
    · rw [if_neg (by decide), if_neg (by decide), if_neg (by decide), hS 20 (by decide)]; rfl
    · rw [if_neg (by decide), if_neg (by decide), if_neg (by decide), hS 21 (by decide)]; rfl
    · rw [if_neg (by decide), if_neg (by decide), if_neg (by decide), hS 22 (by decide)]; rfl
    · rw [if_neg (by decide), if_neg (by decide), if_neg (by decide), hS 23 (by decide)]; rfl
    · rw [if_neg (by decide), if_neg (by decide), if_neg (by decide), hS 24 (by decide)]; rfl
    · rw [if_neg (by decide), if_neg (by decide), if_neg (by decide), hS 25 (by decide)]; rfl
  · have hs := hS 6 (by decide)
    have w5 := w5 (by decide)
    have gb := hb 6 (by decide)
    have ga := ha 6 (by decide)
    simp only [lim] at gb ga
    simp only [mid] at hs
    simp only [soN, sgnV, Nat.reduceAdd] at hsv w5
    have w3 := w3
    simp only [roN, loN, Nat.reduceAdd] at w3 w4
    rcases hj' with rfl | rfl | rfl | rfl | rfl | rfl | rfl | rfl | rfl | rfl | rfl | rfl | rfl | rfl | rfl | rfl | rfl | rfl | rfl | rfl | rfl | rfl | rfl | rfl | rfl | rfl
    · rw [if_neg (by decide), if_neg (by decide), if_neg (by decide), hS 0 (by decide)]; rfl
    · rw [if_neg (by decide), if_neg (by decide), if_neg (by decide), hS 1 (by decide)]; rfl
    · rw [if_neg (by decide), if_neg (by decide), if_neg (by decide), hS 2 (by decide)]; rfl
    · rw [if_neg (by decide), if_neg (by decide), if_neg (by decide), hS 3 (by decide)]; rfl
    · rw [if_neg (by decide), if_neg (by decide), if_neg (by decide), hS 4 (by decide)]; rfl
    · rw [if_neg (by decide), if_neg (by decide), if_neg (by decide), hS 5 (by decide)]; rfl
    · rw [if_pos (by decide), hsv, w5]
      simp only [mid, decide_eq_true_eq]
      rw [hs]
      repeat (first | (split <;> simp_all <;> omega) | omega)
    · rw [if_neg (by decide), if_neg (by decide), if_neg (by decide), hS 7 (by decide)]; rfl
    · rw [if_neg (by decide), if_neg (by decide), if_neg (by decide), hS 8 (by decide)]; rfl
    · rw [if_neg (by decide), if_neg (by decide), if_neg (by decide), hS 9 (by decide)]; rfl
    · rw [if_neg (by decide), if_neg (by decide), if_pos (by decide), w4 (by decide)]; rfl
    · rw [if_neg (by decide), if_pos (by decide), w3]; rfl
    · rw [if_neg (by decide), if_neg (by decide), if_neg (by decide), hS 12 (by decide)]; rfl
    · rw [if_neg (by decide), if_neg (by decide), if_neg (by decide), hS 13 (by decide)]; rfl
    · rw [if_neg (by decide), if_neg (by decide), if_neg (by decide), hS 14 (by decide)]; rfl
    · rw [if_neg (by decide), if_neg (by decide), if_neg (by decide), hS 15 (by decide)]; rfl
    · rw [if_neg (by decide), if_neg (by decide), if_neg (by decide), hS 16 (by decide)]; rfl
    · rw [if_neg (by decide), if_neg (by decide), if_neg (by decide), hS 17 (by decide)]; rfl
    · rw [if_neg (by decide), if_neg (by decide), if_neg (by decide), hS 18 (by decide)]; rfl
    · rw [if_neg (by decide), if_neg (by decide), if_neg (by decide), hS 19 (by decide)]; rfl
    · rw [if_neg (by decide), if_neg (by decide), if_neg (by decide), hS 20 (by decide)]; rfl
    · rw [if_neg (by decide), if_neg (by decide), if_neg (by decide), hS 21 (by decide)]; rfl
    · rw [if_neg (by decide), if_neg (by decide), if_neg (by decide), hS 22 (by decide)]; rfl
    · rw [if_neg (by decide), if_neg (by decide), if_neg (by decide), hS 23 (by decide)]; rfl
    · rw [if_neg (by decide), if_neg (by decide), if_neg (by decide), hS 24 (by decide)]; rfl
    · rw [if_neg (by decide), if_neg (by decide), if_neg (by decide), hS 25 (by decide)]; rfl
  · have hs := hS 6 (by decide)
    have w5 := w5 (by decide)
    have gb := hb 6 (by decide)
    have ga := ha 6 (by decide)
    simp only [lim] at gb ga
    simp only [mid] at hs
    simp only [soN, sgnV, Nat.reduceAdd] at hsv w5
    have w3 := w3
    simp only [roN, loN, Nat.reduceAdd] at w3 w4
    rcases hj' with rfl | rfl | rfl | rfl | rfl | rfl | rfl | rfl | rfl | rfl | rfl | rfl | rfl | rfl | rfl | rfl | rfl | rfl | rfl | rfl | rfl | rfl | rfl | rfl | rfl | rfl
    · rw [if_neg (by decide), if_neg (by decide), if_neg (by decide), hS 0 (by decide)]; rfl
    · rw [if_neg (by decide), if_neg (by decide), if_neg (by decide), hS 1 (by decide)]; rfl
    · rw [if_neg (by decide), if_neg (by decide), if_neg (by decide), hS 2 (by decide)]; rfl
    · rw [if_neg (by decide), if_neg (by decide), if_neg (by decide), hS 3 (by decide)]; rfl
    · rw [if_neg (by decide), if_neg (by decide), if_neg (by decide), hS 4 (by decide)]; rfl
    · rw [if_neg (by decide), if_neg (by decide), if_neg (by decide), hS 5 (by decide)]; rfl
    · rw [if_pos (by decide), hsv, w5]
      simp only [mid, decide_eq_true_eq]
      rw [hs]
      repeat (first | (split <;> simp_all <;> omega) | omega)
    · rw [if_neg (by decide), if_neg (by decide), if_neg (by decide), hS 7 (by decide)]; rfl
    · rw [if_neg (by decide), if_neg (by decide), if_pos (by decide), w4 (by decide)]; rfl
    · rw [if_neg (by decide), if_pos (by decide), w3]; rfl
    · rw [if_neg (by decide), if_neg (by decide), if_neg (by decide), hS 10 (by decide)]; rfl
    · rw [if_neg (by decide), if_neg (by decide), if_neg (by decide), hS 11 (by decide)]; rfl
    · rw [if_neg (by decide), if_neg (by decide), if_neg (by decide), hS 12 (by decide)]; rfl
    · rw [if_neg (by decide), if_neg (by decide), if_neg (by decide), hS 13 (by decide)]; rfl
    · rw [if_neg (by decide), if_neg (by decide), if_neg (by decide), hS 14 (by decide)]; rfl
    · rw [if_neg (by decide), if_neg (by decide), if_neg (by decide), hS 15 (by decide)]; rfl
    · rw [if_neg (by decide), if_neg (by decide), if_neg (by decide), hS 16 (by decide)]; rfl
    · rw [if_neg (by decide), if_neg (by decide), if_neg (by decide), hS 17 (by decide)]; rfl
    · rw [if_neg (by decide), if_neg (by decide), if_neg (by decide), hS 18 (by decide)]; rfl
    · rw [if_neg (by decide), if_neg (by decide), if_neg (by decide), hS 19 (by decide)]; rfl
    · rw [if_neg (by decide), if_neg (by decide), if_neg (by decide), hS 20 (by decide)]; rfl
    · rw [if_neg (by decide), if_neg (by decide), if_neg (by decide), hS 21 (by decide)]; rfl
    · rw [if_neg (by decide), if_neg (by decide), if_neg (by decide), hS 22 (by decide)]; rfl
    · rw [if_neg (by decide), if_neg (by decide), if_neg (by decide), hS 23 (by decide)]; rfl
    · rw [if_neg (by decide), if_neg (by decide), if_neg (by decide), hS 24 (by decide)]; rfl
    · rw [if_neg (by decide), if_neg (by decide), if_neg (by decide), hS 25 (by decide)]; rfl
  · skip
    have w3 := w3
    simp only [roN, loN, Nat.reduceAdd] at w3 w4
    rcases hj' with rfl | rfl | rfl | rfl | rfl | rfl | rfl | rfl | rfl | rfl | rfl | rfl | rfl | rfl | rfl | rfl | rfl | rfl | rfl | rfl | rfl | rfl | rfl | rfl | rfl | rfl
    · rw [if_neg (by decide), if_neg (by decide), if_neg (by decide), hS 0 (by decide)]; rfl
    · rw [if_neg (by decide), if_neg (by decide), if_neg (by decide), hS 1 (by decide)]; rfl
    · rw [if_neg (by decide), if_neg (by decide), if_neg (by decide), hS 2 (by decide)]; rfl
    · rw [if_neg (by decide), if_neg (by decide), if_neg (by decide), hS 3 (by decide)]; rfl
    · rw [if_neg (by decide), if_neg (by decide), if_neg (by decide), hS 4 (by decide)]; rfl
    · rw [if_neg (by decide), if_neg (by decide), if_neg (by decide), hS 5 (by decide)]; rfl
    · rw [if_neg (by decide), if_neg (by decide), if_neg (by decide), hS 6 (by decide)]; rfl
    · rw [if_neg (by decide), if_pos (by decide), w3]; rfl
    · rw [if_neg (by decide), if_neg (by decide), if_neg (by decide), hS 8 (by decide)]; rfl
    · rw [if_neg (by decide), if_neg (by decide), if_neg (by decide), hS 9 (by decide)]; rfl
    · rw [if_neg (by decide), if_neg (by decide), if_neg (by decide), hS 10 (by decide)]; rfl
    · rw [if_neg (by decide), if_neg (by decide), if_neg (by decide), hS 11 (by decide)]; rfl
    · rw [if_neg (by decide), if_neg (by decide), if_neg (by decide), hS 12 (by decide)]; rfl
    · rw [if_neg (by decide), if_neg (by decide), if_neg (by decide), hS 13 (by decide)]; rfl
    · rw [if_neg (by decide), if_neg (by decide), if_neg (by decide), hS 14 (by decide)]; rfl
    · rw [if_neg (by decide), if_neg (by decide), if_neg (by decide), hS 15 (by decide)]; rfl
    · rw [if_neg (by decide), if_neg (by decide), if_neg (by decide), hS 16 (by decide)]; rfl
    · rw [if_neg (by decide), if_neg (by decide), if_neg (by decide), hS 17 (by decide)]; rfl
    · rw [if_neg (by decide), if_neg (by decide), if_neg (by decide), hS 18 (by decide)]; rfl
    · rw [if_neg (by decide), if_neg (by decide), if_neg (by decide), hS 19 (by decide)]; rfl
    · rw [if_neg (by decide), if_neg (by decide), if_neg (by decide), hS 20 (by decide)]; rfl
    · rw [if_neg (by decide), if_neg (by decide), if_neg (by decide), hS 21 (by decide)]; rfl
    · rw [if_neg (by decide), if_neg (by decide), if_neg (by decide), hS 22 (by decide)]; rfl
    · rw [if_neg (by decide), if_neg (by decide), if_neg (by decide), hS 23 (by decide)]; rfl
    · rw [if_neg (by decide), if_neg (by decide), if_neg (by decide), hS 24 (by decide)]; rfl
    · rw [if_neg (by decide), if_neg (by decide), if_neg (by decide), hS 25 (by decide)]; rfl
  · skip
    have w3 := w3
    simp only [roN, loN, Nat.reduceAdd] at w3 w4
    rcases hj' with rfl | rfl | rfl | rfl | rfl | rfl | rfl | rfl | rfl | rfl | rfl | rfl | rfl | rfl | rfl | rfl | rfl | rfl | rfl | rfl | rfl | rfl | rfl | rfl | rfl | rfl
    · rw [if_neg (by decide), if_neg (by decide), if_neg (by decide), hS 0 (by decide)]; rfl
    · rw [if_neg (by decide), if_neg (by decide), if_neg (by decide), hS 1 (by decide)]; rfl
    · rw [if_neg (by decide), if_neg (by decide), if_neg (by decide), hS 2 (by decide)]; rfl
    · rw [if_neg (by decide), if_neg (by decide), if_neg (by decide), hS 3 (by decide)]; rfl
    · rw [if_neg (by decide), if_neg (by decide), if_pos (by decide), w4 (by decide)]; rfl
    · rw [if_neg (by decide), if_pos (by decide), w3]; rfl
    · rw [if_neg (by decide), if_neg (by decide), if_neg (by decide), hS 6 (by decide)]; rfl
    · rw [if_neg (by decide), if_neg (by decide), if_neg (by decide), hS 7 (by decide)]; rfl
    · rw [if_neg (by decide), if_neg (by decide), if_neg (by decide), hS 8 (by decide)]; rfl
    · rw [if_neg (by decide), if_neg (by decide), if_neg (by decide), hS 9 (by decide)]; rfl
    · rw [if_neg (by decide), if_neg (by decide), if_neg (by decide), hS 10 (by decide)]; rfl
    · rw [if_neg (by decide), if_neg (by decide), if_neg (by decide), hS 11 (by decide)]; rfl
    · rw [if_neg (by decide), if_neg (by decide), if_neg (by decide), hS 12 (by decide)]; rfl
    · rw [if_neg (by decide), if_neg (by decide), if_neg (by decide), hS 13 (by decide)]; rfl
    · rw [if_neg (by decide), if_neg (by decide), if_neg (by decide), hS 14 (by decide)]; rfl
    · rw [if_neg (by decide), if_neg (by decide), if_neg (by decide), hS 15 (by decide)]; rfl
    · rw [if_neg (by decide), if_neg (by decide), if_neg (by decide), hS 16 (by decide)]; rfl
    · rw [if_neg (by decide), if_neg (by decide), if_neg (by decide), hS 17 (by decide)]; rfl
    · rw [if_neg (by decide), if_neg (by decide), if_neg (by decide), hS 18 (by decide)]; rfl
    · rw [if_neg (by decide), if_neg (by decide), if_neg (by decide), hS 19 (by decide)]; rfl
    · rw [if_neg (by decide), if_neg (by decide), if_neg (by decide), hS 20 (by decide)]; rfl
    · rw [if_neg (by decide), if_neg (by decide), if_neg (by decide), hS 21 (by decide)]; rfl
    · rw [if_neg (by decide), if_neg (by decide), if_neg (by decide), hS 22 (by decide)]; rfl
    · rw [if_neg (by decide), if_neg (by decide), if_neg (by decide), hS 23 (by decide)]; rfl
    · rw [if_neg (by decide), if_neg (by decide), if_neg (by decide), hS 24 (by decide)]; rfl
    · rw [if_neg (by decide), if_neg (by decide), if_neg (by decide), hS 25 (by decide)]; rfl
  · skip
    have w3 := w3
    simp only [roN, loN, Nat.reduceAdd] at w3 w4
    rcases hj' with rfl | rfl | rfl | rfl | rfl | rfl | rfl | rfl | rfl | rfl | rfl | rfl | rfl | rfl | rfl | rfl | rfl | rfl | rfl | rfl | rfl | rfl | rfl | rfl | rfl | rfl
    · rw [if_neg (by decide), if_neg (by decide), if_neg (by decide), hS 0 (by decide)]; rfl
    · rw [if_neg (by decide), if_neg (by decide), if_neg (by decide), hS 1 (by decide)]; rfl
    · rw [if_neg (by decide), if_neg (by decide), if_pos (by decide), w4 (by decide)]; rfl
    · rw [if_neg (by decide), if_pos (by decide), w3]; rfl
    · rw [if_neg (by decide), if_neg (by decide), if_neg (by decide), hS 4 (by decide)]; rfl
    · rw [if_neg (by decide), if_neg (by decide), if_neg (by decide), hS 5 (by decide)]; rfl
    · rw [if_neg (by decide), if_neg (by decide), if_neg (by decide), hS 6 (by decide)]; rfl
    · rw [if_neg (by decide), if_neg (by decide), if_neg (by decide), hS 7 (by decide)]; rfl
    · rw [if_neg (by decide), if_neg (by decide), if_neg (by decide), hS 8 (by decide)]; rfl
    · rw [if_neg (by decide), if_neg (by decide), if_neg (by decide), hS 9 (by decide)]; rfl
    · rw [if_neg (by decide), if_neg (by decide), if_neg (by decide), hS 10 (by decide)]; rfl
    · rw [if_neg (by decide), if_neg (by decide), if_neg (by decide), hS 11 (by decide)]; rfl
    · rw [if_neg (by decide), if_neg (by decide), if_neg (by decide), hS 12 (by decide)]; rfl
    · rw [if_neg (by decide), if_neg (by decide), if_neg (by decide), hS 13 (by decide)]; rfl
    · rw [if_neg (by decide), if_neg (by decide), if_neg (by decide), hS 14 (by decide)]; rfl
    · rw [if_neg (by decide), if_neg (by decide), if_neg (by decide), hS 15 (by decide)]; rfl
    · rw [if_neg (by decide), if_neg (by decide), if_neg (by decide), hS 16 (by decide)]; rfl
    · rw [if_neg (by decide), if_neg (by decide), if_neg (by decide), hS 17 (by decide)]; rfl
    · rw [if_neg (by decide), if_neg (by decide), if_neg (by decide), hS 18 (by decide)]; rfl
    · rw [if_neg (by decide), if_neg (by decide), if_neg (by decide), hS 19 (by decide)]; rfl
    · rw [if_neg (by decide), if_neg (by decide), if_neg (by decide), hS 20 (by decide)]; rfl
    · rw [if_neg (by decide), if_neg (by decide), if_neg (by decide), hS 21 (by decide)]; rfl
    · rw [if_neg (by decide), if_neg (by decide), if_neg (by decide), hS 22 (by decide)]; rfl
    · rw [if_neg (by decide), if_neg (by decide), if_neg (by decide), hS 23 (by decide)]; rfl
    · rw [if_neg (by decide), if_neg (by decide), if_neg (by decide), hS 24 (by decide)]; rfl
    · rw [if_neg (by decide), if_neg (by decide), if_neg (by decide), hS 25 (by decide)]; rfl
  · skip
    have w3 := w3
    simp only [roN, loN, Nat.reduceAdd] at w3 w4
    rcases hj' with rfl | rfl | rfl | rfl | rfl | rfl | rfl | rfl | rfl | rfl | rfl | rfl | rfl | rfl | rfl | rfl | rfl | rfl | rfl | rfl | rfl | rfl | rfl | rfl | rfl | rfl
    · rw [if_neg (by decide), if_neg (by decide), if_pos (by decide), w4 (by decide)]; rfl
    · rw [if_neg (by decide), if_pos (by decide), w3]; rfl
    · rw [if_neg (by decide), if_neg (by decide), if_neg (by decide), hS 2 (by decide)]; rfl
    · rw [if_neg (by decide), if_neg (by decide), if_neg (by decide), hS 3 (by decide)]; rfl
    · rw [if_neg (by decide), if_neg (by decide), if_neg (by decide), hS 4 (by decide)]; rfl
    · rw [if_neg (by decide), if_neg (by decide), if_neg (by decide), hS 5 (by decide)]; rfl
    · rw [if_neg (by decide), if_neg (by decide), if_neg (by decide), hS 6 (by decide)]; rfl
    · rw [if_neg (by decide), if_neg (by decide), if_neg (by decide), hS 7 (by decide)]; rfl
    · rw [if_neg (by decide), if_neg (by decide), if_neg (by decide), hS 8 (by decide)]; rfl
    · rw [if_neg (by decide), if_neg (by decide), if_neg (by decide), hS 9 (by decide)]; rfl
    · rw [if_neg (by decide), if_neg (by decide), if_neg (by decide), hS 10 (by decide)]; rfl
    · rw [if_neg (by decide), if_neg (by decide), if_neg (by decide), hS 11 (by decide)]; rfl
    · rw [if_neg (by decide), if_neg (by decide), if_neg (by decide), hS 12 (by decide)]; rfl
    · rw [if_neg (by decide), if_neg (by decide), if_neg (by decide), hS 13 (by decide)]; rfl
    · rw [if_neg (by decide), if_neg (by decide), if_neg (by decide), hS 14 (by decide)]; rfl
    · rw [if_neg (by decide), if_neg (by decide), if_neg (by decide), hS 15 (by decide)]; rfl
    · rw [if_neg (by decide), if_neg (by decide), if_neg (by decide), hS 16 (by decide)]; rfl
    · rw [if_neg (by decide), if_neg (by decide), if_neg (by decide), hS 17 (by decide)]; rfl
    · rw [if_neg (by decide), if_neg (by decide), if_neg (by decide), hS 18 (by decide)]; rfl
    · rw [if_neg (by decide), if_neg (by decide), if_neg (by decide), hS 19 (by decide)]; rfl
    · rw [if_neg (by decide), if_neg (by decide), if_neg (by decide), hS 20 (by decide)]; rfl
    · rw [if_neg (by decide), if_neg (by decide), if_neg (by decide), hS 21 (by decide)]; rfl
    · rw [if_neg (by decide), if_neg (by decide), if_neg (by decide), hS 22 (by decide)]; rfl
    · rw [if_neg (by decide), if_neg (by decide), if_neg (by decide), hS 23 (by decide)]; rfl
    · rw [if_neg (by decide), if_neg (by decide), if_neg (by decide), hS 24 (by decide)]; rfl
    · rw [if_neg (by decide), if_neg (by decide), if_neg (by decide), hS 25 (by decide)]; rfl
  · skip
    have w3 := w3
    simp only [roN, loN, Nat.reduceAdd] at w3 w4
    rcases hj' with rfl | rfl | rfl | rfl | rfl | rfl | rfl | rfl | rfl | rfl | rfl | rfl | rfl | rfl | rfl | rfl | rfl | rfl | rfl | rfl | rfl | rfl | rfl | rfl | rfl | rfl
    · rw [if_neg (by decide), if_neg (by decide), if_neg (by decide), hS 0 (by decide)]; rfl
    · rw [if_neg (by decide), if_neg (by decide), if_neg (by decide), hS 1 (by decide)]; rfl
    · rw [if_neg (by decide), if_neg (by decide), if_neg (by decide), hS 2 (by decide)]; rfl
    · rw [if_neg (by decide), if_neg (by decide), if_neg (by decide), hS 3 (by decide)]; rfl
    · rw [if_neg (by decide), if_neg (by decide), if_neg (by decide), hS 4 (by decide)]; rfl
    · rw [if_neg (by decide), if_neg (by decide), if_neg (by decide), hS 5 (by decide)]; rfl
    · rw [if_neg (by decide), if_neg (by decide), if_neg (by decide), hS 6 (by decide)]; rfl
    · rw [if_neg (by decide), if_neg (by decide), if_neg (by decide), hS 7 (by decide)]; rfl
    · rw [if_neg (by decide), if_neg (by decide), if_neg (by decide), hS 8 (by decide)]; rfl
    · rw [if_neg (by decide), if_neg (by decide), if_neg (by decide), hS 9 (by decide)]; rfl
    · rw [if_neg (by decide), if_neg (by decide), if_neg (by decide), hS 10 (by decide)]; rfl
    · rw [if_neg (by decide), if_neg (by decide), if_neg (by decide), hS 11 (by decide)]; rfl
    · rw [if_neg (by decide), if_neg (by decide), if_neg (by decide), hS 12 (by decide)]; rfl
    · rw [if_neg (by decide), if_neg (by decide), if_neg (by decide), hS 13 (by decide)]; rfl
    · rw [if_neg (by decide), if_neg (by decide), if_neg (by decide), hS 14 (by decide)]; rfl
    · rw [if_neg (by decide), if_neg (by decide), if_neg (by decide), hS 15 (by decide)]; rfl
    · rw [if_neg (by decide), if_neg (by decide), if_neg (by decide), hS 16 (by decide)]; rfl
    · rw [if_neg (by decide), if_neg (by decide), if_neg (by decide), hS 17 (by decide)]; rfl
    · rw [if_neg (by decide), if_neg (by decide), if_neg (by decide), hS 18 (by decide)]; rfl
    · rw [if_neg (by decide), if_neg (by decide), if_neg (by decide), hS 19 (by decide)]; rfl
    · rw [if_neg (by decide), if_neg (by decide), if_neg (by decide), hS 20 (by decide)]; rfl
    · rw [if_neg (by decide), if_neg (by decide), if_neg (by decide), hS 21 (by decide)]; rfl
    · rw [if_neg (by decide), if_neg (by decide), if_neg (by decide), hS 22 (by decide)]; rfl
    · rw [if_neg (by decide), if_neg (by decide), if_neg (by decide), hS 23 (by decide)]; rfl
    · rw [if_neg (by decide), if_pos (by decide), w3]; rfl
    · rw [if_neg (by decide), if_neg (by decide), if_neg (by decide), hS 25 (by decide)]; rfl
  · skip
    have w3 := w3
    simp only [roN, loN, Nat.reduceAdd] at w3 w4
    rcases hj' with rfl | rfl | rfl | rfl | rfl | rfl | rfl | rfl | rfl | rfl | rfl | rfl | rfl | rfl | rfl | rfl | rfl | rfl | rfl | rfl | rfl | rfl | rfl | rfl | rfl | rfl
    · rw [if_neg (by decide), if_neg (by decide), if_neg (by decide), hS 0 (by decide)]; rfl
    · rw [if_neg (by decide), if_neg (by decide), if_neg (by decide), hS 1 (by decide)]; rfl
    · rw [if_neg (by decide), if_neg (by decide), if_neg (by decide), hS 2 (by decide)]; rfl
    · rw [if_neg (by decide), if_neg (by decide), if_neg (by decide), hS 3 (by decide)]; rfl
    · rw [if_neg (by decide), if_neg (by decide), if_neg (by decide), hS 4 (by decide)]; rfl
    · rw [if_neg (by decide), if_neg (by decide), if_neg (by decide), hS 5 (by decide)]; rfl
    · rw [if_neg (by decide), if_neg (by decide), if_neg (by decide), hS 6 (by decide)]; rfl
    · rw [if_neg (by decide), if_neg (by decide), if_neg (by decide), hS 7 (by decide)]; rfl
    · rw [if_neg (by decide), if_neg (by decide), if_neg (by decide), hS 8 (by decide)]; rfl
    · rw [if_neg (by decide), if_neg (by decide), if_neg (by decide), hS 9 (by decide)]; rfl
    · rw [if_neg (by decide), if_neg (by decide), if_neg (by decide), hS 10 (by decide)]; rfl
    · rw [if_neg (by decide), if_neg (by decide), if_neg (by decide), hS 11 (by decide)]; rfl
    · rw [if_neg (by decide), if_neg (by decide), if_neg (by decide), hS 12 (by decide)]; rfl
    · rw [if_neg (by decide), if_neg (by decide), if_neg (by decide), hS 13 (by decide)]; rfl
    · rw [if_neg (by decide), if_neg (by decide), if_neg (by decide), hS 14 (by decide)]; rfl
    · rw [if_neg (by decide), if_neg (by decide), if_neg (by decide), hS 15 (by decide)]; rfl
    · rw [if_neg (by decide), if_neg (by decide), if_neg (by decide), hS 16 (by decide)]; rfl
    · rw [if_neg (by decide), if_neg (by decide), if_neg (by decide), hS 17 (by decide)]; rfl
    · rw [if_neg (by decide), if_neg (by decide), if_neg (by decide), hS 18 (by decide)]; rfl
    · rw [if_neg (by decide), if_neg (by decide), if_neg (by decide), hS 19 (by decide)]; rfl
    · rw [if_neg (by decide), if_neg (by decide), if_neg (by decide), hS 20 (by decide)]; rfl
    · rw [if_neg (by decide), if_neg (by decide), if_neg (by decide), hS 21 (by decide)]; rfl
    · rw [if_neg (by decide), if_neg (by decide), if_neg (by decide), hS 22 (by decide)]; rfl
    · rw [if_neg (by decide), if_neg (by decide), if_neg (by decide), hS 23 (by decide)]; rfl
    · rw [if_neg (by decide), if_neg (by decide), if_neg (by decide), hS 24 (by decide)]; rfl
    · rw [if_neg (by decide), if_pos (by decide), w3]; rfl
end Go.Proofs
/-! Aq. -/
namespace Go.Proofs
open Go.E
set_option maxRecDepth 8000

theorem mid_skip {a b : Nat → Int} (ha : Good a) (hb : Good b) {n : Nat} (hn : n < 13) (h : rowW a (n + 1) = rowW b (n + 1)) {j : Nat} (hj : j < 26) : mid a b n j = mid a b (n + 1) j := by
  obtain ⟨_, _, _, u3, u4, u5⟩ := row_word ha (r := n + 1) (by omega) (by omega)
  obtain ⟨_, _, _, w3, w4, w5⟩ := row_word hb (r := n + 1) (by omega) (by omega)
  rw [h] at u3 u4 u5
  have hj' : j = 0 ∨ j = 1 ∨ j = 2 ∨ j = 3 ∨ j = 4 ∨ j = 5 ∨ j = 6 ∨ j = 7 ∨ j = 8 ∨ j = 9 ∨ j = 10 ∨ j = 11 ∨ j = 12 ∨ j = 13 ∨ j = 14 ∨ j = 15 ∨ j = 16 ∨ j = 17 ∨ j = 18 ∨ j = 19 ∨ j = 20 ∨ j = 21 ∨ j = 22 ∨ j = 23 ∨ j = 24 ∨ j = 25 := by omega
  have hn' : n = 0 ∨ n = 1 ∨ n = 2 ∨ n = 3 ∨ n = 4 ∨ n = 5 ∨ n = 6 ∨ n = 7 ∨ n = 8 ∨ n = 9 ∨ n = 10 ∨ n = 11 ∨ n = 12 := by omega
  rcases hn' with rfl | rfl | rfl | rfl | rfl | rfl | rfl | rfl | rfl | rfl | rfl | rfl | rfl
  · simp only [roN, loN, Nat.reduceAdd] at u3 w3 u4 w4
    have er := u3.symm.trans w3
    have el := (u4 (by decide)).symm.trans (w4 (by decide))
    have es := (u5 (by decide)).symm.trans (w5 (by decide))
    simp only [soN, sgnV, Nat.reduceAdd, decide_eq_decide] at es
    have gb := hb 18 (by decide)
    have ga := ha 18 (by decide)
    simp only [lim] at gb ga
    rcases hj' with rfl | rfl | rfl | rfl | rfl | rfl | rfl | rfl | rfl | rfl | rfl | rfl | rfl | rfl | rfl | rfl | rfl | rfl | rfl | rfl | rfl | rfl | rfl | rfl | rfl | rfl
    · rfl
    · rfl
    · rfl
    · rfl
    · rfl
    · rfl
    · rfl
    · rfl
    · rfl
    · rfl
    · rfl
    · rfl
    · rfl
    · rfl
    · rfl
    · rfl
    · rfl
    · rfl
    · simp only [mid]
      repeat (first | (split <;> simp_all <;> omega) | omega)
    · rfl
    · rfl
    · rfl
    · exact el
    · exact er
    · rfl
    · rfl
  · simp only [roN, loN, Nat.reduceAdd] at u3 w3 u4 w4
    have er := u3.symm.trans w3
    have el := (u4 (by decide)).symm.trans (w4 (by decide))
    have es := (u5 (by decide)).symm.trans (w5 (by decide))
    simp only [soN, sgnV, Nat.reduceAdd, decide_eq_decide] at es
    have gb := hb 18 (by decide)
    have ga := ha 18 (by decide)
    simp only [lim] at gb ga
    rcases hj' with rfl | rfl | rfl | rfl | rfl | rfl | rfl | rfl | rfl | rfl | rfl | rfl | rfl | rfl | rfl | rfl | rfl | rfl | rfl | rfl | rfl | rfl | rfl | rfl | rfl | rfl
    · rfl
    · rfl
    · rfl
    · rfl
    · rfl
    · rfl
    · rfl
    · rfl
    · rfl
    · rfl
    · rfl
    · rfl
    · rfl
    · rfl
    · rfl
    · rfl
    · rfl
    · rfl
    · simp only [mid]
      repeat (first | (split <;> simp_all <;> omega) | omega)
    · rfl
    · exact el
    · exact er
    · rfl
    · rfl
    · rfl
    · rfl
  · simp only [roN, loN, Nat.reduceAdd] at u3 w3 u4 w4
    have er := u3.symm.trans w3
    have el := (u4 (by decide)).symm.trans (w4 (by decide))
    rcases hj' with rfl | rfl | rfl | rfl | rfl | rfl | rfl | rfl | rfl | rfl | rfl | rfl | rfl | rfl | rfl | rfl | rfl | rfl | rfl | rfl | rfl | rfl | rfl | rfl | rfl | rfl
    · rfl
    · rfl
    · rfl
    · rfl
    · rfl
    · rfl
    · rfl
    · rfl
    · rfl
    · rfl
    · rfl
    · rfl
    · rfl
    · rfl
    · rfl
    · rfl
    · rfl
    · exact el
    · rfl
    · exact er
    · rfl
    · rfl
    · rfl
    · rfl
    · rfl
    · rfl
  · simp only [roN, loN, Nat.reduceAdd] at u3 w3 u4 w4
    have er := u3.symm.trans w3
    have el := (u4 (by decide)).symm.trans (w4 (by decide))
    have es := (u5 (by decide)).symm.trans (w5 (by decide))
    simp only [soN, sgnV, Nat.reduceAdd, decide_eq_decide] at es
    have gb := hb 12 (by decide)
    have ga := ha 12 (by decide)
    simp only [lim] at gb ga
    rcases hj' with rfl | rfl | rfl | rfl | rfl | rfl | rfl | rfl | rfl | rfl | rfl | rfl | rfl | rfl | rfl | rfl | rfl | rfl | rfl | rfl | rfl | rfl | rfl | rfl | rfl | rfl
    · rfl
    · rfl
    · rfl
    · rfl
    · rfl
    · rfl
    · rfl
    · rfl
    · rfl
    · rfl
    · rfl
    · rfl
    · simp only [mid]
      repeat (first | (split <;> simp_all <;> omega) | omega)
    · rfl
    · rfl
    · exact el
    · exact er
    · rfl
    · rfl
    · rfl
    · rfl
    · rfl
    · rfl
    · rfl
    · rfl
    · rfl
  · simp only [roN, loN, Nat.reduceAdd] at u3 w3 u4 w4
    have er := u3.symm.trans w3
    have el := (u4 (by decide)).symm.trans (w4 (by decide))
    have es := (u5 (by decide)).symm.trans (w5 (by decide))
    simp only [soN, sgnV, Nat.reduceAdd, decide_eq_decide] at es
    have gb := hb 12 (by decide)
    have ga := ha 12 (by decide)
    simp only [lim] at gb ga
    rcases hj' with rfl | rfl | rfl | rfl | rfl | rfl | rfl | rfl | rfl | rfl | rfl | rfl | rfl | rfl | rfl | rfl | rfl | rfl | rfl | rfl | rfl | rfl | rfl | rfl | rfl | rfl
    · rfl
    · rfl
    · rfl
    · rfl
    · rfl
    · rfl
    · rfl
    · rfl
    · rfl
    · rfl
    · rfl
    · rfl
    · simp only [mid]
      repeat (first | (split <;> simp_all <;> omega) | omega)
    · exact el
    · exact er
    · rfl
    · rfl
    · rfl
    · rfl
    · rfl
    · rfl
    · rfl
    · rfl
    · rfl
    · rfl
    · rfl
  · simp only [roN, loN, Nat.reduceAdd] at u3 w3 u4 w4
    have er := u3.symm.trans w3
    have el := (u4 (by decide)).symm.trans (w4 (by decide))
    have es := (u5 (by decide)).symm.trans (w5 (by decide))
    simp only [soN, sgnV, Nat.reduceAdd, decide_eq_decide] at es
    have gb := hb 6 (by decide)
    have ga := ha 6 (by decide)
    simp only [lim] at gb ga
    rcases hj' with rfl | rfl | rfl | rfl | rfl | rfl | rfl | rfl | rfl | rfl | rfl | rfl | rfl | rfl | rfl | rfl | rfl | rfl | rfl | rfl | rfl | rfl | rfl | rfl | rfl | rfl
    · rfl
    · rfl
    · rfl
    · rfl
    · rfl
    · rfl
    · simp only [mid]
      repeat (first | (split <;> simp_all <;> omega) | omega)
    · rfl
    · rfl
    · rfl
    · exact el
    · exact er
    · rfl
    · rfl
    · rfl
    · rfl
    · rfl
    · rfl
    · rfl
    · rfl
    · rfl
    · rfl
    · rfl
    · rfl
    · rfl
    · rfl
  · simp only [roN, loN, Nat.reduceAdd] at u3 w3 u4 w4
    have er := u3.symm.trans w3
    have el := (u4 (by decide)).symm.trans (w4 (by decide))
    have es := (u5 (by decide)).symm.trans (w5 (by decide))
    simp only [soN, sgnV, Nat.reduceAdd, decide_eq_decide] at es
    have gb := hb 6 (by decide)
    have ga := ha 6 (by decide)
    simp only [lim] at gb ga
    rcases hj' with rfl | rfl | rfl | rfl | rfl | rfl | rfl | rfl | rfl | rfl | rfl | rfl | rfl | rfl | rfl | rfl | rfl | rfl | rfl | rfl | rfl | rfl | rfl | rfl | rfl | rfl
    · rfl
    · rfl
    · rfl
    · rfl
    · rfl
    · rfl
    · simp only [mid]
      repeat (first | (split <;> simp_all <;> omega) | omega)
    · rfl
    · exact el
    · exact er
    · rfl
    · rfl
    · rfl
    · rfl
    · rfl
    · rfl
    · rfl
    · rfl
    · rfl
    · rfl
    · rfl
    · rfl
    · rfl
    · rfl
    · rfl
    · rfl
  · simp only [roN, loN, Nat.reduceAdd] at u3 w3 u4 w4
    have er := u3.symm.trans w3
    rcases hj' with rfl | rfl | rfl | rfl | rfl | rfl | rfl | rfl | rfl | rfl | rfl | rfl | rfl | rfl | rfl | rfl | rfl | rfl | rfl | rfl | rfl | rfl | rfl | rfl | rfl | rfl
    · rfl
    · rfl
    · rfl
    · rfl
    · rfl
    · rfl
    · rfl
    · exact er
    · rfl
    · rfl
    · rfl
    · rfl
    · rfl
    · rfl
    · rfl
    · rfl
    · rfl
    · rfl
    · rfl
    · rfl
    · rfl
    · rfl
    · rfl
    · rfl
    · rfl
    · rfl
  · simp only [roN, loN, Nat.reduceAdd] at u3 w3 u4 w4
    have er := u3.symm.trans w3
    have el := (u4 (by decide)).symm.trans (w4 (by decide))
    rcases hj' with rfl | rfl | rfl | rfl | rfl | rfl | rfl | rfl | rfl | rfl | rfl | rfl | rfl | rfl | rfl | rfl | rfl | rfl | rfl | rfl | rfl | rfl | rfl | rfl | rfl | rfl
    · rfl
    · rfl
    · rfl
    · rfl
    · exact el
    · exact er
    · rfl
    · rfl
    · rfl
    · rfl
    · rfl
    · rfl
    · rfl
    · rfl
    · rfl
    · rfl
    · rfl
    · rfl
    · rfl
    · rfl
    · rfl
    · rfl
    · rfl
    · rfl
    · rfl
    · rfl
  · simp only [roN, loN, Nat.reduceAdd] at u3 w3 u4 w4
    have er := u3.symm.trans w3
    have el := (u4 (by decide)).symm.trans (w4 (by decide))
    rcases hj' with rfl | rfl | rfl | rfl | rfl | rfl | rfl | rfl | rfl | rfl | rfl | rfl | rfl | rfl | rfl | rfl | rfl | rfl | rfl | rfl | rfl | rfl | rfl | rfl | rfl | rfl
    · rfl
    · rfl
    · exact el
    · exact er
    · rfl
    · rfl
    · rfl
    · rfl
    · rfl
    · rfl
    · rfl
    · rfl
    · rfl
    · rfl
    · rfl
    · rfl
    · rfl
    · rfl
    · rfl
    · rfl
    · rfl
    · rfl
    · rfl
    · rfl
    · rfl
    · rfl
  · simp only [roN, loN, Nat.reduceAdd] at u3 w3 u4 w4
    have er := u3.symm.trans w3
    have el := (u4 (by decide)).symm.trans (w4 (by decide))
    rcases hj' with rfl | rfl | rfl | rfl | rfl | rfl | rfl | rfl | rfl | rfl | rfl | rfl | rfl | rfl | rfl | rfl | rfl | rfl | rfl | rfl | rfl | rfl | rfl | rfl | rfl | rfl
    · exact el
    · exact er
    · rfl
    · rfl
    · rfl
    · rfl
    · rfl
    · rfl
    · rfl
    · rfl
    · rfl
    · rfl
    · rfl
    · rfl
    · rfl
    · rfl
    · rfl
    · rfl
    · rfl
    · rfl
    · rfl
    · rfl
    · rfl
    · rfl
    · rfl
    · rfl
  · simp only [roN, loN, Nat.reduceAdd] at u3 w3 u4 w4
    have er := u3.symm.trans w3
    rcases hj' with rfl | rfl | rfl | rfl | rfl | rfl | rfl | rfl | rfl | rfl | rfl | rfl | rfl | rfl | rfl | rfl | rfl | rfl | rfl | rfl | rfl | rfl | rfl | rfl | rfl | rfl
    · rfl
    · rfl
    · rfl
    · rfl
    · rfl
    · rfl
    · rfl
    · rfl
    · rfl
    · rfl
    · rfl
    · rfl
    · rfl
    · rfl
    · rfl
    · rfl
    · rfl
    · rfl
    · rfl
    · rfl
    · rfl
    · rfl
    · rfl
    · rfl
    · exact er
    · rfl
  · simp only [roN, loN, Nat.reduceAdd] at u3 w3 u4 w4
    have er := u3.symm.trans w3
    rcases hj' with rfl | rfl | rfl | rfl | rfl | rfl | rfl | rfl | rfl | rfl | rfl | rfl | rfl | rfl | rfl | rfl | rfl | rfl | rfl | rfl | rfl | rfl | rfl | rfl | rfl | rfl
    · rfl
    · rfl
    · rfl
    · rfl
    · rfl
    · rfl
    · rfl
    · rfl
    · rfl
    · rfl
    · rfl
    · rfl
    · rfl
    · rfl
    · rfl
    · rfl
    · rfl
    · rfl
    · rfl
    · rfl
    · rfl
    · rfl
    · rfl
    · rfl
    · rfl
    · exact er
theorem mid_zero {a b : Nat → Int} {j : Nat} (hj : j < 26) : mid a b 0 j = a j := by
  have hj' : j = 0 ∨ j = 1 ∨ j = 2 ∨ j = 3 ∨ j = 4 ∨ j = 5 ∨ j = 6 ∨ j = 7 ∨ j = 8 ∨ j = 9 ∨ j = 10 ∨ j = 11 ∨ j = 12 ∨ j = 13 ∨ j = 14 ∨ j = 15 ∨ j = 16 ∨ j = 17 ∨ j = 18 ∨ j = 19 ∨ j = 20 ∨ j = 21 ∨ j = 22 ∨ j = 23 ∨ j = 24 ∨ j = 25 := by omega
  rcases hj' with rfl | rfl | rfl | rfl | rfl | rfl | rfl | rfl | rfl | rfl | rfl | rfl | rfl | rfl | rfl | rfl | rfl | rfl | rfl | rfl | rfl | rfl | rfl | rfl | rfl | rfl <;> rfl
theorem mid_all {a b : Nat → Int} {j : Nat} (hj : j < 26) : mid a b 13 j = b j := by
  have hj' : j = 0 ∨ j = 1 ∨ j = 2 ∨ j = 3 ∨ j = 4 ∨ j = 5 ∨ j = 6 ∨ j = 7 ∨ j = 8 ∨ j = 9 ∨ j = 10 ∨ j = 11 ∨ j = 12 ∨ j = 13 ∨ j = 14 ∨ j = 15 ∨ j = 16 ∨ j = 17 ∨ j = 18 ∨ j = 19 ∨ j = 20 ∨ j = 21 ∨ j = 22 ∨ j = 23 ∨ j = 24 ∨ j = 25 := by omega
  rcases hj' with rfl | rfl | rfl | rfl | rfl | rfl | rfl | rfl | rfl | rfl | rfl | rfl | rfl | rfl | rfl | rfl | rfl | rfl | rfl | rfl | rfl | rfl | rfl | rfl | rfl | rfl <;> rfl
theorem words_fold {d a : Nat → Int} (hd : Good d) (ha : Good a) : ∀ n, n ≤ 13 → ∀ j, j < 26 → foldD d (wordsN a 13) n j = mid d a n j
  | 0, _, j, hj => (mid_zero hj).symm
  | n + 1, hn, j, hj => by
    have ih := words_fold hd ha n (by omega)
    have g : (wordsN a 13).getD n 0 = rowW a (n + 1) := by rw [List.getD_eq_getElem?_getD, wordsN_get a (by omega)]; rfl
    show apD (foldD d (wordsN a 13) n) ((wordsN a 13).getD n 0) j = _
    rw [g]
    exact mid_next hd ha (by omega) ih hj
theorem foldD_app (d : Nat → Int) (l m : List Int) : ∀ n, n ≤ l.length → foldD d (l ++ m) n = foldD d l n
  | 0, _ => rfl
  | n + 1, h => by
    show apD (foldD d (l ++ m) n) ((l ++ m).getD n 0) = apD (foldD d l n) (l.getD n 0)
    rw [foldD_app d l m n (by omega), List.getD_eq_getElem?_getD, List.getD_eq_getElem?_getD, List.getElem?_append_left (by omega)]
theorem chg_fold {a b : Nat → Int} (ha : Good a) (hb : Good b) : ∀ n, n ≤ 13 → ∀ j, j < 26 → foldD a (chgN a b n) (chgN a b n).length j = mid a b n j
  | 0, _, j, hj => (mid_zero hj).symm
  | n + 1, hn, j, hj => by
    have ih := chg_fold ha hb n (by omega)
    unfold chgN
    split
    · rename_i h
      rw [ih j hj]
      exact mid_skip ha hb (by omega) h hj
    · rw [List.length_append]
      show apD (foldD a (chgN a b n ++ [rowW b (n + 1)]) (chgN a b n).length) ((chgN a b n ++ [rowW b (n + 1)]).getD (chgN a b n).length 0) j = _
      rw [foldD_app _ _ _ _ (Nat.le_refl _)]
      have g : (chgN a b n ++ [rowW b (n + 1)]).getD (chgN a b n).length 0 = rowW b (n + 1) := by
        rw [List.getD_eq_getElem?_getD, List.getElem?_append_right (Nat.le_refl _)]; simp
      rw [g]
      exact mid_next ha hb (by omega) ih hj
theorem chg_mem {a b : Nat → Int} : ∀ {n : Nat}, n ≤ 13 → ∀ x ∈ chgN a b n, ∃ r, 1 ≤ r ∧ r ≤ 13 ∧ x = rowW b r
  | 0, _, x, hx => by cases hx
  | n + 1, hn, x, hx => by
    unfold chgN at hx
    split at hx
    · exact chg_mem (by omega) x hx
    · rcases List.mem_append.1 hx with h | h
      · exact chg_mem (by omega) x h
      · simp at h
        exact ⟨n + 1, by omega, by omega, h⟩
theorem chg_word {a b : Nat → Int} (hb : Good b) {k : Nat} (hk : k < (chgN a b 13).length) : (0 ≤ (chgN a b 13).getD k 0 ∧ (chgN a b 13).getD k 0 < 65536) ∧ apE ((chgN a b 13).getD k 0) = 0 := by
  have hm : (chgN a b 13).getD k 0 ∈ chgN a b 13 := by
    rw [List.getD_eq_getElem?_getD, List.getElem?_eq_getElem hk]
    exact List.getElem_mem hk
  obtain ⟨r, h1, h2, e⟩ := chg_mem (Nat.le_refl _) _ hm
  rw [e]
  obtain ⟨w0, _, w2, _⟩ := row_word hb h1 h2
  exact ⟨w0, w2⟩
theorem rowW_congr {a b : Nat → Int} (h : ∀ j, j < 26 → a j = b j) {r : Nat} (h1 : 1 ≤ r) (h13 : r ≤ 13) : rowW a r = rowW b r := by
  have h16 : r = 1 ∨ r = 2 ∨ r = 3 ∨ r = 4 ∨ r = 5 ∨ r = 6 ∨ r = 7 ∨ r = 8 ∨ r = 9 ∨ r = 10 ∨ r = 11 ∨ r = 12 ∨ r = 13 := by omega
  rcases h16 with rfl | rfl | rfl | rfl | rfl | rfl | rfl | rfl | rfl | rfl | rfl | rfl | rfl
  · show ((2048 * 1 + (if a 18 = 2 then 1024 else 0) + (32 * cN (a 22) + cN (a 23)) : Nat) : Int) = ((2048 * 1 + (if b 18 = 2 then 1024 else 0) + (32 * cN (b 22) + cN (b 23)) : Nat) : Int)
    rw [h 22 (by decide), h 23 (by decide), h 18 (by decide)]
  · show ((2048 * 2 + (if a 18 = 1 then 1024 else 0) + (32 * cN (a 20) + cN (a 21)) : Nat) : Int) = ((2048 * 2 + (if b 18 = 1 then 1024 else 0) + (32 * cN (b 20) + cN (b 21)) : Nat) : Int)
    rw [h 20 (by decide), h 21 (by decide), h 18 (by decide)]
  · show ((2048 * 3 + 0 + (32 * cN (a 17) + cN (a 19)) : Nat) : Int) = ((2048 * 3 + 0 + (32 * cN (b 17) + cN (b 19)) : Nat) : Int)
    rw [h 17 (by decide), h 19 (by decide)]
  · show ((2048 * 4 + (if a 12 = 2 then 1024 else 0) + (32 * cN (a 15) + cN (a 16)) : Nat) : Int) = ((2048 * 4 + (if b 12 = 2 then 1024 else 0) + (32 * cN (b 15) + cN (b 16)) : Nat) : Int)
    rw [h 15 (by decide), h 16 (by decide), h 12 (by decide)]
  · show ((2048 * 5 + (if a 12 = 1 then 1024 else 0) + (32 * cN (a 13) + cN (a 14)) : Nat) : Int) = ((2048 * 5 + (if b 12 = 1 then 1024 else 0) + (32 * cN (b 13) + cN (b 14)) : Nat) : Int)
    rw [h 13 (by decide), h 14 (by decide), h 12 (by decide)]
  · show ((2048 * 6 + (if a 6 = 2 then 1024 else 0) + (32 * cN (a 10) + cN (a 11)) : Nat) : Int) = ((2048 * 6 + (if b 6 = 2 then 1024 else 0) + (32 * cN (b 10) + cN (b 11)) : Nat) : Int)
    rw [h 10 (by decide), h 11 (by decide), h 6 (by decide)]
  · show ((2048 * 7 + (if a 6 = 1 then 1024 else 0) + (32 * cN (a 8) + cN (a 9)) : Nat) : Int) = ((2048 * 7 + (if b 6 = 1 then 1024 else 0) + (32 * cN (b 8) + cN (b 9)) : Nat) : Int)
    rw [h 8 (by decide), h 9 (by decide), h 6 (by decide)]
  · show ((2048 * 8 + 0 + (32 * cN 10 + cN (a 7)) : Nat) : Int) = ((2048 * 8 + 0 + (32 * cN 10 + cN (b 7)) : Nat) : Int)
    rw [h 7 (by decide)]
  · show ((2048 * 9 + 0 + (32 * cN (a 4) + cN (a 5)) : Nat) : Int) = ((2048 * 9 + 0 + (32 * cN (b 4) + cN (b 5)) : Nat) : Int)
    rw [h 4 (by decide), h 5 (by decide)]
  · show ((2048 * 10 + 0 + (32 * cN (a 2) + cN (a 3)) : Nat) : Int) = ((2048 * 10 + 0 + (32 * cN (b 2) + cN (b 3)) : Nat) : Int)
    rw [h 2 (by decide), h 3 (by decide)]
  · show ((2048 * 11 + 0 + (32 * cN (a 0) + cN (a 1)) : Nat) : Int) = ((2048 * 11 + 0 + (32 * cN (b 0) + cN (b 1)) : Nat) : Int)
    rw [h 0 (by decide), h 1 (by decide)]
  · show 24576 + a 24 = 24576 + b 24
    rw [h 24 (by decide)]
  · show 26624 + a 25 = 26624 + b 25
    rw [h 25 (by decide)]
theorem chg_nil {a b : Nat → Int} (h : ∀ j, j < 26 → a j = b j) : ∀ n, n ≤ 13 → chgN a b n = []
  | 0, _ => rfl
  | n + 1, hn => by
    unfold chgN
    rw [if_pos (rowW_congr h (by omega) (by omega)), chg_nil h n (by omega)]
set_option maxHeartbeats 4000000 in
theorem shows_law (a0 : Nat → Int) (ha0 : HasL kD a0) (b0 : Nat → Int) (hb0 : HasL kD b0) : callP Try.prog 6 [.agg (aggL a0 kD 0), .agg (aggL b0 kD 0)] (· = .bool true) := by
  have ga := fit_good (kd_wd ha0)
  have gb := fit_good (kd_wd hb0)
  show callP Try.prog 6 [dispA a0, dispA b0] (· = .bool true)
  have cfa := fit_c (d := a0)
  have cfb := fit_c (d := b0)
  generalize fitD a0 = a at ga cfa
  generalize fitD b0 = b at gb cfb
  have cw := words_c ga
  have cs := show_ok (l := wordsN a 13) (fun x hx => by
    obtain ⟨i, hi, e⟩ := List.getElem_of_mem hx
    rw [wordsN_len] at hi
    have g := wordsN_get a hi
    rw [List.getElem?_eq_getElem (by rw [wordsN_len]; exact hi)] at g
    have : x = rowW a (i + 1) := by rw [← e]; exact Option.some.inj g
    rw [this]
    exact (row_word ga (by omega) (by omega)).1) (by rw [wordsN_len]; decide) (fun j hj => by
    rw [wordsN_len] at hj
    rw [List.getD_eq_getElem?_getD, wordsN_get a hj]
    exact (row_word ga (by omega) (by omega)).2.2.1)
  have hfold := words_fold blank_good ga 13 (Nat.le_refl _)
  have hlen := wordsN_len a 13
  rw [hlen, disp_congr (fun j hj => (hfold j hj).trans (mid_all hj))] at cs
  have cs : callP Try.prog 18 [ints .u16 (wordsN a 13)] (· = .tuple [dispA a, .int .i64 0, .int .i64 0]) := cs
  generalize wordsN a 13 = A at hlen cw cs
  have cmay := may_c ga.wd
  rw [ga.may] at cmay
  have cc := changed_c ga gb
  have hcw := fun k (hk : k < (chgN a b 13).length) => chg_word gb hk
  have hcf := chg_fold ga gb 13 (Nat.le_refl _)
  have hcl := chgN_len a b 13
  have hcn := fun h => chg_nil (a := a) (b := b) h 13 (Nat.le_refl _)
  generalize chgN a b 13 = C at cc hcw hcf hcl hcn
  refine callE_def env (fn := Try.f6) rfl (by decide) rfl ?_
  refine draw_tree (picks [0, 1, 2, 3, 4, 5] .done) (by decide +kernel) ?_
  refine ⟨_, ⟨cfa, rfl⟩, ?_⟩
  refine ⟨_, ⟨cfb, rfl⟩, ?_⟩
  refine callT_E cw rfl ?_
  refine callT_E cs rfl ?_
  refine callT_E cmay rfl ?_
  repeat (first | refine branch_true ?_ | refine branch_false ?_ | (refine branch_f' ?_ ?_; focus (simp; done)) | (refine branch_t' ?_ ?_; focus (simp; done)))
  refine callT_E cw rfl ?_
  repeat (first | refine branch_true ?_ | refine branch_false ?_ | (refine branch_f' ?_ ?_; focus (simp; done)) | (refine branch_t' ?_ ?_; focus (simp; done)))
  refine branch_f' (by rw [hlen]; rfl) ?_
  refine callT_E cc rfl ?_
  refine loop_weak (fun i : Nat => slots 81 [(2, .ptr ⟨0, 0, 0⟩), (3, .ptr ⟨1, 0, 0⟩), (5, .ptr ⟨2, 0, 0⟩), (8, ints .u16 C), (9, .int .i64 i)])
    (fun i => [.cells (dcells a), .cells (dcells b), .cells (dcells (foldD a C i))])
    (fun i => i ≤ C.length) (fun i => C.length - i) 0 (Nat.zero_le _) (weak_keep (keep 81 [2, 3, 5, 8, 9]) [0, 1, 2] rfl rfl rfl) ?_
  intro i hi
  have ei : IntKind.i64.wrap ((i : Int) + 1) = ((i + 1 : Nat) : Int) := by rw [wi (by omega) (by omega)]; rfl
  have et : ((i : Int)).toNat = i := Int.toNat_natCast i
  apply branch_intro <;> intro h
  · have h : i < C.length := by simp at h; omega
    have hg := fold_good ga (l := C) i hi fun j hj => (hcw j (by omega)).2
    obtain ⟨w0, w2⟩ := hcw i h
    have ca := apply_c hg.wd hg.may w0.1 w0.2
    rw [w2] at ca
    refine draw_tree (picks [0, 1, 2, 3, 4, 5, 6, 7, 8, 9, 10, 11] .done) (by decide +kernel) ?_
    apply need_intro
    · omega
    refine ⟨_, ⟨(congrArg (fun n => callP Try.prog 10 [dispA (foldD a C i), .int .u16 (C.getD n 0)] (· = _)) et).mpr ca, rfl⟩, ?_⟩
    repeat refine stk ?_
    refine ⟨i + 1, h, by omega, weak_keep (keep 81 [2, 3, 5, 8, 9]) [0, 1, 2] rfl ?_ rfl⟩
    show [_, _, _, _, _, _, _, _, _, _, _, _, _, _, _, _, _, _, _, _, _, _, _, _, _, _, _, _, _, _, _, _, _, _, _, _, _, _, _, _, _, _, _, _, _, _, _, _, _, _, _, _, _, _, _, _, _, _, _, _, _, _, _, _, _, _, _, _, _, _, _, _, _, _, _, _, _, _, _, _, _] = _
    rw [ei]
    rfl
  · have : i = C.length := by simp at h; omega
    subst this
    have e : ∀ j, j < 26 → foldD a C C.length j = b j := fun j hj => (hcf j hj).trans (mid_all hj)
    have hC0 : C.length = 0 → ∀ j, j < 26 → a j = b j := fun h0 j hj => by
      have := e j hj
      rw [h0] at this
      exact this
    generalize foldD a C C.length = X at e
    refine branch_t' (by simp only [e 0 (by decide), e 1 (by decide), e 2 (by decide), e 3 (by decide), e 4 (by decide), e 5 (by decide), e 6 (by decide), e 7 (by decide), e 8 (by decide), e 9 (by decide), e 10 (by decide), e 11 (by decide), e 12 (by decide), e 13 (by decide), e 14 (by decide), e 15 (by decide), e 16 (by decide), e 17 (by decide), e 18 (by decide), e 19 (by decide), e 20 (by decide), e 21 (by decide), e 22 (by decide), e 23 (by decide), e 24 (by decide), e 25 (by decide), beq_self_eq_true, Bool.and_true]) ?_
    repeat refine stb ?_
    by_cases hE : ∀ j, j < 26 → a j = b j
    · have hC := hcn hE
      refine branch_t' (by rw [hC]; simp only [hE 0 (by decide), hE 1 (by decide), hE 2 (by decide), hE 3 (by decide), hE 4 (by decide), hE 5 (by decide), hE 6 (by decide), hE 7 (by decide), hE 8 (by decide), hE 9 (by decide), hE 10 (by decide), hE 11 (by decide), hE 12 (by decide), hE 13 (by decide), hE 14 (by decide), hE 15 (by decide), hE 16 (by decide), hE 17 (by decide), hE 18 (by decide), hE 19 (by decide), hE 20 (by decide), hE 21 (by decide), hE 22 (by decide), hE 23 (by decide), hE 24 (by decide), hE 25 (by decide), beq_self_eq_true, Bool.and_true]; rfl) ?_
      repeat refine stb ?_
      refine callT_E works_c rfl ?_
      repeat refine stb ?_
      show Eqv _ _
      exact .up (.up (.refl _))
    · have hC : C.length ≠ 0 := fun h0 => hE (hC0 h0)
      have h1 : ((C.length : Int) == 0) = false := by rw [beq_eq_false_iff_ne]; omega
      refine branch_t' (by
        rw [h1, beq_iff_eq]
        refine (Bool.eq_false_iff.2 fun hb => hE fun j hj => ?_).symm
        simp only [Bool.and_eq_true, beq_iff_eq] at hb
        have hj' : j = 0 ∨ j = 1 ∨ j = 2 ∨ j = 3 ∨ j = 4 ∨ j = 5 ∨ j = 6 ∨ j = 7 ∨ j = 8 ∨ j = 9 ∨ j = 10 ∨ j = 11 ∨ j = 12 ∨ j = 13 ∨ j = 14 ∨ j = 15 ∨ j = 16 ∨ j = 17 ∨ j = 18 ∨ j = 19 ∨ j = 20 ∨ j = 21 ∨ j = 22 ∨ j = 23 ∨ j = 24 ∨ j = 25 := by omega
        rcases hj' with rfl | rfl | rfl | rfl | rfl | rfl | rfl | rfl | rfl | rfl | rfl | rfl | rfl | rfl | rfl | rfl | rfl | rfl | rfl | rfl | rfl | rfl | rfl | rfl | rfl | rfl <;> simp [hb]) ?_
      repeat refine stb ?_
      refine callT_E works_c rfl ?_
      repeat refine stb ?_
      show Eqv _ _
      exact .up (.up (.refl _))
end Go.Proofs
