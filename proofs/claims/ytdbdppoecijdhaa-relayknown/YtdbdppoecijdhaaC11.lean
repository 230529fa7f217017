/- Chapter 27, part x: the reference: Apply, all rows; Show, Changed; the law of applied words. -/
import Derived.Test.YtdbdppoecijdhaaC8
import Derived.Test.YtdbdppoecijdhaaC9
import Derived.Test.YtdbdppoecijdhaaC10
set_option linter.unusedVariables false
set_option linter.unusedSimpArgs false
/-! Bg. -/
namespace Go.Proofs
open Go.E
set_option maxRecDepth 8000

theorem rapply_c {d : Nat → Int} (hm : mayB d = true) {w : Int} (h0 : 0 ≤ w) (h1 : w < 65536) : callP Try.prog 17 [dispA d, .int .u16 w] (· = .tuple [dispA (apD d w), .int .i64 (apE w)]) := by
  obtain ⟨r, hr⟩ : ∃ r : Nat, rowN w = r := ⟨_, rfl⟩
  have hw : w / 2048 % 16 = r := by unfold rowN at hr; omega
  have hlt : r < 16 := by omega
  unfold apD apE
  rw [hr]
  have h16 : r = 0 ∨ r = 1 ∨ r = 2 ∨ r = 3 ∨ r = 4 ∨ r = 5 ∨ r = 6 ∨ r = 7 ∨ r = 8 ∨ r = 9 ∨ r = 10 ∨ r = 11 ∨ r = 12 ∨ r = 13 ∨ r = 14 ∨ r = 15 := by omega
  rcases h16 with rfl | rfl | rfl | rfl | rfl | rfl | rfl | rfl | rfl | rfl | rfl | rfl | rfl | rfl | rfl | rfl
  · exact rapply_r0 hm h0 h1 hw
  · simp only [Nat.reduceSub]
    by_cases hf : fitW 0 w = true
    · rw [if_pos hf, if_pos hf]; exact rapply_ok1 hm h0 h1 hw hf
    · rw [if_neg hf, if_neg hf]; exact rapply_no1 hm h0 h1 hw (Bool.eq_false_iff.2 hf)
  · simp only [Nat.reduceSub]
    by_cases hf : fitW 1 w = true
    · rw [if_pos hf, if_pos hf]; exact rapply_ok2 hm h0 h1 hw hf
    · rw [if_neg hf, if_neg hf]; exact rapply_no2 hm h0 h1 hw (Bool.eq_false_iff.2 hf)
  · simp only [Nat.reduceSub]
    by_cases hf : fitW 2 w = true
    · rw [if_pos hf, if_pos hf]; exact rapply_ok3 hm h0 h1 hw hf
    · rw [if_neg hf, if_neg hf]; exact rapply_no3 hm h0 h1 hw (Bool.eq_false_iff.2 hf)
  · simp only [Nat.reduceSub]
    by_cases hf : fitW 3 w = true
    · rw [if_pos hf, if_pos hf]; exact rapply_ok4 hm h0 h1 hw hf
    · rw [if_neg hf, if_neg hf]; exact rapply_no4 hm h0 h1 hw (Bool.eq_false_iff.2 hf)
  · simp only [Nat.reduceSub]
    by_cases hf : fitW 4 w = true
    · rw [if_pos hf, if_pos hf]; exact rapply_ok5 hm h0 h1 hw hf
    · rw [if_neg hf, if_neg hf]; exact rapply_no5 hm h0 h1 hw (Bool.eq_false_iff.2 hf)
  · simp only [Nat.reduceSub]
    by_cases hf : fitW 5 w = true
    · rw [if_pos hf, if_pos hf]; exact rapply_ok6 hm h0 h1 hw hf
    · rw [if_neg hf, if_neg hf]; exact rapply_no6 hm h0 h1 hw (Bool.eq_false_iff.2 hf)
  · simp only [Nat.reduceSub]
    by_cases hf : fitW 6 w = true
    · rw [if_pos hf, if_pos hf]; exact rapply_ok7 hm h0 h1 hw hf
    · rw [if_neg hf, if_neg hf]; exact rapply_no7 hm h0 h1 hw (Bool.eq_false_iff.2 hf)
  · simp only [Nat.reduceSub]
    by_cases hf : fitW 7 w = true
    · rw [if_pos hf, if_pos hf]; exact rapply_ok8 hm h0 h1 hw hf
    · rw [if_neg hf, if_neg hf]; exact rapply_no8 hm h0 h1 hw (Bool.eq_false_iff.2 hf)
  · simp only [Nat.reduceSub]
    by_cases hf : fitW 8 w = true
    · rw [if_pos hf, if_pos hf]; exact rapply_ok9 hm h0 h1 hw hf
    · rw [if_neg hf, if_neg hf]; exact rapply_no9 hm h0 h1 hw (Bool.eq_false_iff.2 hf)
  · simp only [Nat.reduceSub]
    by_cases hf : fitW 9 w = true
    · rw [if_pos hf, if_pos hf]; exact rapply_ok10 hm h0 h1 hw hf
    · rw [if_neg hf, if_neg hf]; exact rapply_no10 hm h0 h1 hw (Bool.eq_false_iff.2 hf)
  · simp only [Nat.reduceSub]
    by_cases hf : fitW 10 w = true
    · rw [if_pos hf, if_pos hf]; exact rapply_ok11 hm h0 h1 hw hf
    · rw [if_neg hf, if_neg hf]; exact rapply_no11 hm h0 h1 hw (Bool.eq_false_iff.2 hf)
  · exact rapply_r12 hm h0 h1 hw
  · exact rapply_r13 hm h0 h1 hw
  · exact rapply_r14 hm h0 h1 hw
  · exact rapply_r15 hm h0 h1 hw
theorem rshow_ok {l : List Int} (hl : W16L l) (hn : l.length < 1152921504606846976) (h : ∀ j, j < l.length → apE (l.getD j 0) = 0) : callP Try.prog 19 [ints .u16 l] (· = .tuple [dispA (foldD blankD l l.length), .int .i64 0, .int .i64 0]) := by
  refine callE_def env (fn := Try.f19) rfl (by decide) rfl ?_
  refine callT_E rclear_c rfl ?_
  refine loop_weak (fun i : Nat => slots 32 [(0, ints .u16 l), (2, .ptr ⟨0, 0, 0⟩), (3, .int .i64 0), (4, .int .i64 0), (5, .ptr ⟨1, 0, 0⟩), (6, .int .i64 i)])
    (fun i => [.cells (dcells fun _ => 0), .cells (dcells (foldD blankD l i))])
    (fun i => i ≤ l.length) (fun i => l.length - i) 0 (Nat.zero_le _) (weak_keep (keep 32 [0, 2, 3, 4, 5, 6]) [0, 1] rfl rfl rfl) ?_
  intro i hi
  have ei : IntKind.i64.wrap ((i : Int) + 1) = ((i + 1 : Nat) : Int) := by rw [wi (by omega) (by omega)]; rfl
  have et : ((i : Int)).toNat = i := Int.toNat_natCast i
  apply branch_intro <;> intro hb
  · have hb : i < l.length := by simp at hb; omega
    have hg := fold_good blank_good (l := l) i hi fun j hj => h j (by omega)
    have ca := rapply_c hg.may (w16_at hl hb).1 (w16_at hl hb).2
    rw [h i hb] at ca
    refine draw_tree (picks [0, 1, 2, 3, 4, 5, 6, 7, 8, 9, 10, 11] .done) (by decide +kernel) ?_
    apply need_intro
    · omega
    refine ⟨_, ⟨(congrArg (fun n => callP Try.prog 17 [dispA (foldD blankD l i), .int .u16 (l.getD n 0)] (· = _)) et).mpr ca, rfl⟩, ?_⟩
    repeat refine stk ?_
    refine ⟨i + 1, hb, by omega, weak_keep (keep 32 [0, 2, 3, 4, 5, 6]) [0, 1] rfl ?_ rfl⟩
    show [_, _, _, _, _, _, _, _, _, _, _, _, _, _, _, _, _, _, _, _, _, _, _, _, _, _, _, _, _, _, _, _] = _
    rw [ei]
    rfl
  · have : i = l.length := by simp at hb; omega
    subst this
    show Eqv _ _
    exact .up (.up (.refl _))
theorem rshow_no {l : List Int} (hl : W16L l) (hn : l.length < 1152921504606846976) {m : Nat} (hm : m < l.length) (h : ∀ j, j < m → apE (l.getD j 0) = 0) (he : apE (l.getD m 0) ≠ 0) : callP Try.prog 19 [ints .u16 l] (· = .tuple [dispA (fun _ => 0), .int .i64 m, .int .i64 (apE (l.getD m 0))]) := by
  refine callE_def env (fn := Try.f19) rfl (by decide) rfl ?_
  refine callT_E rclear_c rfl ?_
  refine loop_weak (fun i : Nat => slots 32 [(0, ints .u16 l), (2, .ptr ⟨0, 0, 0⟩), (3, .int .i64 0), (4, .int .i64 0), (5, .ptr ⟨1, 0, 0⟩), (6, .int .i64 i)])
    (fun i => [.cells (dcells fun _ => 0), .cells (dcells (foldD blankD l i))])
    (fun i => i ≤ m) (fun i => m - i) 0 (Nat.zero_le _) (weak_keep (keep 32 [0, 2, 3, 4, 5, 6]) [0, 1] rfl rfl rfl) ?_
  intro i hi
  have ei : IntKind.i64.wrap ((i : Int) + 1) = ((i + 1 : Nat) : Int) := by rw [wi (by omega) (by omega)]; rfl
  have et : ((i : Int)).toNat = i := Int.toNat_natCast i
  have hb : i < l.length := by omega
  refine branch_t' (decide_eq_true (by omega)) ?_
  have hg := fold_good blank_good (l := l) i (by omega) fun j hj => h j (by omega)
  have ca := rapply_c hg.may (w16_at hl hb).1 (w16_at hl hb).2
  refine draw_tree (picks [0, 1, 2, 3, 4, 5, 6, 7, 8, 9, 10, 11] .done) (by decide +kernel) ?_
  apply need_intro
  · omega
  by_cases him : i = m
  · subst him
    rw [apD_zero he] at ca
    refine ⟨_, ⟨(congrArg (fun n => callP Try.prog 17 [dispA (foldD blankD l i), .int .u16 (l.getD n 0)] (· = _)) et).mpr ca, rfl⟩, ?_⟩
    refine branch_t' (by simpa using he) ?_
    show Eqv _ _
    exact .up (.up (.refl _))
  · rw [h i (by omega)] at ca
    refine ⟨_, ⟨(congrArg (fun n => callP Try.prog 17 [dispA (foldD blankD l i), .int .u16 (l.getD n 0)] (· = _)) et).mpr ca, rfl⟩, ?_⟩
    repeat refine stk ?_
    refine ⟨i + 1, by omega, by omega, weak_keep (keep 32 [0, 2, 3, 4, 5, 6]) [0, 1] rfl ?_ rfl⟩
    show [_, _, _, _, _, _, _, _, _, _, _, _, _, _, _, _, _, _, _, _, _, _, _, _, _, _, _, _, _, _, _, _] = _
    rw [ei]
    rfl
set_option maxHeartbeats 1000000 in
theorem rchanged_c {a b : Nat → Int} (ha : Good a) (hb : Good b) : callP Try.prog 22 [dispA a, dispA b] (· = ints .u16 (chgN a b 13)) := by
  have ma := rmay_c (d := a)
  rw [ha.may] at ma
  have mb := rmay_c (d := b)
  rw [hb.may] at mb
  refine callE_def env (fn := Try.f22) rfl (by decide) rfl ?_
  refine loop_weak (fun i : Nat => slots 43 [(2, .ptr ⟨0, 0, 0⟩), (3, .ptr ⟨1, 0, 0⟩), (5, .slice ⟨2, 0, 0⟩ (chgN a b i).length), (6, .int .i64 ((i + 1 : Nat) : Int))])
    (fun i => [.cells (dcells a), .cells (dcells b), .ints .u16 (chgN a b i)])
    (fun i => i ≤ 13) (fun i => 13 - i) 0 (Nat.zero_le _) ?_ ?_
  · exact (weak_keep (keep 43 [2, 3, 5, 6]) [0, 1] rfl rfl rfl).trans (weak_nil 5 (.ints .u16 []) rfl rfl)
  intro i hi
  have ei : IntKind.i64.wrap (((i + 1 : Nat) : Int) + 1) = ((i + 1 + 1 : Nat) : Int) := by rw [wi (by omega) (by omega)]; rfl
  have hc := chgN_len a b i
  apply branch_intro <;> intro h
  · have h : i < 13 := by simp at h; omega
    repeat refine stb ?_
    refine callT_E ma rfl ?_
    repeat refine stb ?_
    refine callT_E mb rfl ?_
    repeat refine stb ?_
    refine callT_E (rrow_c ha (n := i + 1) (by omega) (by omega)) rfl ?_
    refine callT_E (rrow_c hb (n := i + 1) (by omega) (by omega)) rfl ?_
    apply branch_intro <;> intro hx
    · have hx : ¬ rowW a (i + 1) = rowW b (i + 1) := by simpa using hx
      have hnx : chgN a b (i + 1) = chgN a b i ++ [rowW b (i + 1)] := if_neg hx
      apply choice_l
      apply need_intro
      · show ((chgN a b i).length + 1) * 2 ≤ _
        omega
      apply need_intro
      · exact ⟨by omega, fun j hj => by
          have : j = 0 := by omega
          subst this
          exact ⟨_, rfl⟩⟩
      refine ⟨i + 1, h, by omega, weak_keep (keep 43 [2, 3, 5, 6]) [0, 1, 2] rfl ?_ ?_⟩
      · show [_, _, _, _, _, _, _, _, _, _, _, _, _, _, _, _, _, _, _, _, _, _, _, _, _, _, _, _, _, _, _, _, _, _, _, _, _, _, _, _, _, _, _] = _
        rw [ei, hnx, List.length_append]
        rfl
      · show [_, _, Blk.ints .u16 (List.drop 0 (chgN a b i) ++ rowsInts .u16 1 (irow .u16 [rowW b (i + 1)]))] = _
        rw [snoc_row, hnx]
        rfl
    · have hx : rowW a (i + 1) = rowW b (i + 1) := by simpa using hx
      have hnx : chgN a b (i + 1) = chgN a b i := if_pos hx
      refine ⟨i + 1, h, by omega, weak_keep (keep 43 [2, 3, 5, 6]) [0, 1, 2] rfl ?_ ?_⟩
      · show [_, _, _, _, _, _, _, _, _, _, _, _, _, _, _, _, _, _, _, _, _, _, _, _, _, _, _, _, _, _, _, _, _, _, _, _, _, _, _, _, _, _, _] = _
        rw [ei, hnx]
        rfl
      · rw [hnx]
        rfl
  · have : i = 13 := by simp at h; omega
    subst this
    repeat refine stb ?_
    apply need_intro
    · omega
    show Eqv _ _
    exact eqv_part rfl (fun _ _ => rfl)
theorem nil_ints {x : List Int} (h : x = []) : Eqv .nilslice (ints .u16 x) := by
  subst h
  exact .up (.up (.nil 1 _))
theorem rchanged_bad {a b : Nat → Int} (h : mayB a = false ∨ mayB b = false) : callP Try.prog 22 [dispA a, dispA b] (· = ints .u16 []) := by
  have ma := rmay_c (d := a)
  have mb := rmay_c (d := b)
  refine callE_def env (fn := Try.f22) rfl (by decide) rfl ?_
  refine loop_weak (fun _ : Nat => slots 43 [(2, .ptr ⟨0, 0, 0⟩), (3, .ptr ⟨1, 0, 0⟩), (5, .nilslice), (6, .int .i64 1)])
    (fun i => [.cells (dcells a), .cells (dcells b)])
    (fun i => i ≤ 13) (fun i => 13 - i) 0 (Nat.zero_le _) (weak_keep (keep 43 [2, 3, 5, 6]) [0, 1] rfl rfl rfl) ?_
  intro i hi
  refine branch_true ?_
  repeat refine stb ?_
  refine callT_E ma rfl ?_
  by_cases ha : mayB a = false
  · rw [ha]
    repeat refine stb ?_
    show Eqv _ _
    exact nil_ints rfl
  · have hb : mayB b = false := by rcases h with h | h; exact absurd h ha; exact h
    have ha : mayB a = true := by cases hm : mayB a; exact absurd hm ha; rfl
    rw [ha]
    repeat refine stb ?_
    refine callT_E mb rfl ?_
    rw [hb]
    repeat refine stb ?_
    show Eqv _ _
    exact nil_ints rfl
theorem words_bad {d : Nat → Int} (hd : WD d) (hm : mayB d = false) : callP Try.prog 23 [dispA d] (· = ints .u16 []) := by
  refine callE_def env (fn := Try.f23) rfl (by decide) rfl ?_
  refine loop_weak (fun _ : Nat => slots 24 [(1, .ptr ⟨0, 0, 0⟩), (3, .nilslice), (4, .int .i64 1)])
    (fun i => [.cells (dcells d)]) (fun i => i ≤ 13) (fun i => 13 - i) 0 (Nat.zero_le _) (weak_keep (keep 24 [1, 3, 4]) [0] rfl rfl rfl) ?_
  intro i hi
  refine branch_true ?_
  refine callT_E (row_bad1 hd hm 1) rfl ?_
  repeat refine stk ?_
  show Eqv _ _
  exact nil_ints rfl
theorem words_any {d : Nat → Int} (hd : WD d) : ∃ l, callP Try.prog 23 [dispA d] (· = ints .u16 l) ∧ l.length ≤ 13 ∧ (mayB d = false → l = []) := by
  cases hm : mayB d with
  | false => exact ⟨[], words_bad hd hm, by decide, fun _ => rfl⟩
  | true => exact ⟨_, words_c (good_of hd hm), by rw [wordsN_len]; decide, fun h => by cases h⟩
theorem changed_bad {a b : Nat → Int} (wa : WD a) (wb : WD b) (h : mayB a = false ∨ mayB b = false) : callP Try.prog 21 [dispA a, dispA b] (· = ints .u16 []) := by
  obtain ⟨A, ca, hA, nA⟩ := words_any wa
  obtain ⟨B, cb, hB, nB⟩ := words_any wb
  refine callE_def env (fn := Try.f21) rfl (by decide) rfl ?_
  refine draw_tree (picks [0, 1, 2, 3, 4, 5] .done) (by decide +kernel) ?_
  refine ⟨_, ⟨ca, rfl⟩, ?_⟩
  refine ⟨_, ⟨cb, rfl⟩, ?_⟩
  refine loop_weak (fun _ : Nat => slots 42 [(5, .nilslice), (6, ints .u16 A), (7, ints .u16 B), (8, .int .i64 0)])
    (fun i => []) (fun i => i ≤ 13) (fun i => 13 - i) 0 (Nat.zero_le _) (weak_keep (keep 42 [5, 6, 7, 8]) [] rfl rfl rfl) ?_
  intro i hi
  apply branch_intro <;> intro hx
  · repeat refine stb ?_
    have hb : B = [] := by
      rcases h with h | h
      · rw [nA h] at hx; simp at hx
      · exact nB h
    refine branch_f' (by rw [hb]; rfl) ?_
    repeat refine stb ?_
    show Eqv _ _
    exact nil_ints rfl
  · repeat refine stb ?_
    show Eqv _ _
    exact nil_ints rfl
/-- Two equal lists of words. -/
theorem same_c {l : List Int} (hl : l.length ≤ 13) : callP Try.prog 20 [ints .u16 l, ints .u16 l] (· = .bool true) := by
  refine callE_def env (fn := Try.f20) rfl (by decide) rfl ?_
  refine loop_weak (fun i : Nat => slots 32 [(0, ints .u16 l), (1, ints .u16 l), (4, .bool false), (5, .int .i64 i)])
    (fun i => []) (fun i => i ≤ l.length) (fun i => l.length - i) 0 (Nat.zero_le _) (weak_keep (keep 32 [0, 1, 4, 5]) [] rfl rfl rfl) ?_
  intro i hi
  have ei : IntKind.i64.wrap ((i : Int) + 1) = ((i + 1 : Nat) : Int) := by rw [wi (by omega) (by omega)]; rfl
  apply branch_intro <;> intro h
  · have h : i < l.length := by simp at h; omega
    repeat refine stb ?_
    refine branch_t' (decide_eq_true (by omega)) ?_
    refine draw_tree (picks [0, 1, 2, 3, 4, 5, 6, 7, 8] .done) (by decide +kernel) ?_
    apply need_intro
    · omega
    apply need_intro
    · omega
    refine branch_f' (by simp) ?_
    refine ⟨i + 1, h, by omega, weak_keep (keep 32 [0, 1, 4, 5]) [] rfl ?_ rfl⟩
    show [_, _, _, _, _, _, _, _, _, _, _, _, _, _, _, _, _, _, _, _, _, _, _, _, _, _, _, _, _, _, _, _] = _
    rw [ei]
    rfl
  · repeat refine stb ?_
    show Eqv _ _
    refine eqv_of_eq (congrArg AVal.bool ?_)
    simp
end Go.Proofs
/-! Bh. -/
namespace Go.Proofs
open Go.E
set_option maxRecDepth 8000

theorem first_err (l : List Int) : ∀ n, (∀ j, j < n → apE (l.getD j 0) = 0) ∨ ∃ m, m < n ∧ (∀ j, j < m → apE (l.getD j 0) = 0) ∧ apE (l.getD m 0) ≠ 0
  | 0 => .inl fun j hj => by omega
  | n + 1 => by
    rcases first_err l n with h | ⟨m, h1, h2, h3⟩
    · by_cases he : apE (l.getD n 0) = 0
      · refine .inl fun j hj => ?_
        by_cases hjn : j < n
        · exact h j hjn
        · have : j = n := by omega
          subst this
          exact he
      · exact .inr ⟨n, by omega, h, he⟩
    · exact .inr ⟨m, by omega, h2, h3⟩
theorem apply_any {d : Nat → Int} (hd : WD d) {w : Int} (h0 : 0 ≤ w) (h1 : w < 65536) : ∃ R e, callP Try.prog 10 [dispA d, .int .u16 w] (· = .tuple [dispA R, .int .i64 e]) ∧ callP Try.prog 17 [dispA d, .int .u16 w] (· = .tuple [dispA R, .int .i64 e]) := by
  cases hm : mayB d with
  | false => exact ⟨_, _, apply_bad hd hm w, rapply_bad hm w⟩
  | true => exact ⟨_, _, apply_c hd hm h0 h1, rapply_c hm h0 h1⟩
theorem show_any {l : List Int} (hl : W16L l) (hn : l.length < 1152921504606846976) : ∃ R i e, callP Try.prog 18 [ints .u16 l] (· = .tuple [dispA R, .int .i64 i, .int .i64 e]) ∧ callP Try.prog 19 [ints .u16 l] (· = .tuple [dispA R, .int .i64 i, .int .i64 e]) := by
  rcases first_err l l.length with h | ⟨m, h1, h2, h3⟩
  · exact ⟨_, _, _, show_ok hl hn h, rshow_ok hl hn h⟩
  · exact ⟨_, _, _, show_no hl hn h1 h2 h3, rshow_no hl hn h1 h2 h3⟩
theorem changed_any {a b : Nat → Int} (wa : WD a) (wb : WD b) : ∃ l, l.length ≤ 13 ∧ callP Try.prog 21 [dispA a, dispA b] (· = ints .u16 l) ∧ callP Try.prog 22 [dispA a, dispA b] (· = ints .u16 l) := by
  cases ha : mayB a with
  | false => exact ⟨[], by decide, changed_bad wa wb (.inl ha), rchanged_bad (.inl ha)⟩
  | true => cases hb : mayB b with
    | false => exact ⟨[], by decide, changed_bad wa wb (.inr hb), rchanged_bad (.inr hb)⟩
    | true => exact ⟨_, chgN_len a b 13, changed_c (good_of wa ha) (good_of wb hb), rchanged_c (good_of wa ha) (good_of wb hb)⟩
set_option maxHeartbeats 4000000 in
theorem applies_law (d : Nat → Int) (hd : HasL kD d) (b : Nat → Int) (hb : HasL kD b) (l : List Int) (hm : l.length ≤ maxLen) (hl : ∀ x ∈ l, 0 ≤ x ∧ x < 65536) : callP Try.prog 5 [.agg (aggL d kD 0), .agg (aggL b kD 0), ints .u16 l] (· = .bool true) := by
  have wd := kd_wd hd
  have wb := kd_wd hb
  show callP Try.prog 5 [dispA d, dispA b, ints .u16 l] (· = .bool true)
  refine callE_def env (fn := Try.f5) rfl (by decide) rfl ?_
  have em : (if (200 : Int) < (l.length : Int) then (200 : Int) else (l.length : Int)) = ((min l.length 200 : Nat) : Int) := by
    split <;> omega
  have wl : W16L (l.take 200) := fun x hx => hl x (List.mem_of_mem_take hx)
  have ll : (l.take 200).length = min l.length 200 := by rw [List.length_take, Nat.min_comm]
  have gl : ∀ i, i < (l.take 200).length → l.getD i 0 = (l.take 200).getD i 0 := fun i hi => by
    rw [List.getD_eq_getElem?_getD, List.getD_eq_getElem?_getD, List.getElem?_take, if_pos (by omega)]
  generalize l.take 200 = L at wl ll gl
  obtain ⟨R, p, e, s1, s2⟩ := show_any wl (by omega)
  obtain ⟨C, hC, g1, g2⟩ := changed_any wd wb
  apply need_intro
  · show (0 : Int) ≤ (if (200 : Int) < (l.length : Int) then (200 : Int) else (l.length : Int)) ∧ (if (200 : Int) < (l.length : Int) then (200 : Int) else (l.length : Int)) ≤ (l.length : Int)
    rw [em]
    omega
  refine loop_weak (fun i : Nat => slots 96 [(2, ints .u16 L), (3, .ptr ⟨0, 0, 0⟩), (4, .ptr ⟨1, 0, 0⟩), (6, .bool false), (7, .int .i64 i)])
    (fun i => [.cells (dcells d), .cells (dcells b)]) (fun i => i ≤ L.length ∧ i ≤ 20) (fun i => 20 - i) 0 ⟨Nat.zero_le _, Nat.zero_le _⟩ ?_ ?_
  · refine WeakS.trans (weak_keep (keep 96 [2, 3, 4, 6, 7]) [0, 1] rfl rfl rfl) (weak_slot 2 (v' := ints .u16 L) (eqv_part (n := (if (200 : Int) < (l.length : Int) then (200 : Int) else (l.length : Int)).toNat - 0) (row := fun i => irow .u16 l (0 + i)) (by rw [em, Int.toNat_natCast, ll]; rfl) (fun i hi => ?_)) rfl)
    rw [em, Int.toNat_natCast] at hi
    show [AVal.int .u16 (l.getD (0 + i) 0)] = [AVal.int .u16 (L.getD i 0)]
    rw [Nat.zero_add, gl i (by omega)]
  rintro i ⟨hi, hi20⟩
  have ei : IntKind.i64.wrap ((i : Int) + 1) = ((i + 1 : Nat) : Int) := by rw [wi (by omega) (by omega)]; rfl
  have et : ((i : Int)).toNat = i := Int.toNat_natCast i
  apply branch_intro <;> intro h
  · have h : i < L.length := by simp at h; omega
    repeat refine stb ?_
    apply branch_intro <;> intro h20
    · have h20 : i < 20 := by simp at h20; omega
      obtain ⟨Q, q, a1, a2⟩ := apply_any wd (w16_at wl h).1 (w16_at wl h).2
      refine draw_tree (picks [0, 1, 2, 3, 4, 5, 6, 7, 8, 9, 10, 11] .done) (by decide +kernel) ?_
      apply need_intro
      · omega
      refine ⟨_, ⟨(congrArg (fun n => callP Try.prog 10 [dispA d, .int .u16 (L.getD n 0)] (· = _)) et).mpr a1, rfl⟩, ?_⟩
      refine draw_tree (picks [0, 1, 2, 3, 4, 5, 6, 7, 8, 9, 10, 11] .done) (by decide +kernel) ?_
      apply need_intro
      · omega
      refine ⟨_, ⟨(congrArg (fun n => callP Try.prog 17 [dispA d, .int .u16 (L.getD n 0)] (· = _)) et).mpr a2, rfl⟩, ?_⟩
      repeat (first | refine branch_true ?_ | refine branch_false ?_ | (refine branch_f' ?_ ?_; focus (simp; done)) | (refine branch_t' ?_ ?_; focus (simp; done)))
      refine ⟨i + 1, ⟨h, h20⟩, by omega, weak_keep (keep 96 [2, 3, 4, 6, 7]) [0, 1] rfl ?_ rfl⟩
      show [_, _, _, _, _, _, _, _, _, _, _, _, _, _, _, _, _, _, _, _, _, _, _, _, _, _, _, _, _, _, _, _, _, _, _, _, _, _, _, _, _, _, _, _, _, _, _, _, _, _, _, _, _, _, _, _, _, _, _, _, _, _, _, _, _, _, _, _, _, _, _, _, _, _, _, _, _, _, _, _, _, _, _, _, _, _, _, _, _, _, _, _, _, _, _, _] = _
      rw [ei]
      rfl
    · repeat refine stb ?_
      refine callT_E s1 rfl ?_
      refine callT_E s2 rfl ?_
      refine draw_tree (picks [0, 1, 2, 3, 4, 5, 6, 7, 8, 9, 10, 11, 12, 13, 14, 15, 16, 17, 18, 19, 20, 21, 22, 23, 24, 25] .done) (by decide +kernel) ?_
      repeat (first | refine branch_true ?_ | refine branch_false ?_ | (refine branch_f' ?_ ?_; focus (simp; done)) | (refine branch_t' ?_ ?_; focus (simp; done)))
      refine ⟨_, ⟨g1, rfl⟩, ?_⟩
      repeat (first | refine branch_true ?_ | refine branch_false ?_ | (refine branch_f' ?_ ?_; focus (simp; done)) | (refine branch_t' ?_ ?_; focus (simp; done)))
      refine ⟨_, ⟨g2, rfl⟩, ?_⟩
      repeat (first | refine branch_true ?_ | refine branch_false ?_ | (refine branch_f' ?_ ?_; focus (simp; done)) | (refine branch_t' ?_ ?_; focus (simp; done)))
      refine ⟨_, ⟨same_c hC, rfl⟩, ?_⟩
      repeat (first | refine branch_true ?_ | refine branch_false ?_ | (refine branch_f' ?_ ?_; focus (simp; done)) | (refine branch_t' ?_ ?_; focus (simp; done)))
      refine ⟨_, ⟨works_c, rfl⟩, ?_⟩
      repeat (first | refine branch_true ?_ | refine branch_false ?_ | (refine branch_f' ?_ ?_; focus (simp; done)) | (refine branch_t' ?_ ?_; focus (simp; done)))
      show Eqv _ _
      exact .up (.up (.refl _))
  · repeat refine stb ?_
    refine callT_E s1 rfl ?_
    refine callT_E s2 rfl ?_
    refine draw_tree (picks [0, 1, 2, 3, 4, 5, 6, 7, 8, 9, 10, 11, 12, 13, 14, 15, 16, 17, 18, 19, 20, 21, 22, 23, 24, 25] .done) (by decide +kernel) ?_
    repeat (first | refine branch_true ?_ | refine branch_false ?_ | (refine branch_f' ?_ ?_; focus (simp; done)) | (refine branch_t' ?_ ?_; focus (simp; done)))
    refine ⟨_, ⟨g1, rfl⟩, ?_⟩
    repeat (first | refine branch_true ?_ | refine branch_false ?_ | (refine branch_f' ?_ ?_; focus (simp; done)) | (refine branch_t' ?_ ?_; focus (simp; done)))
    refine ⟨_, ⟨g2, rfl⟩, ?_⟩
    repeat (first | refine branch_true ?_ | refine branch_false ?_ | (refine branch_f' ?_ ?_; focus (simp; done)) | (refine branch_t' ?_ ?_; focus (simp; done)))
    refine ⟨_, ⟨same_c hC, rfl⟩, ?_⟩
    repeat (first | refine branch_true ?_ | refine branch_false ?_ | (refine branch_f' ?_ ?_; focus (simp; done)) | (refine branch_t' ?_ ?_; focus (simp; done)))
    refine ⟨_, ⟨works_c, rfl⟩, ?_⟩
    repeat (first | refine branch_true ?_ | refine branch_false ?_ | (refine branch_f' ?_ ?_; focus (simp; done)) | (refine branch_t' ?_ ?_; focus (simp; done)))
    show Eqv _ _
    exact .up (.up (.refl _))
end Go.Proofs
