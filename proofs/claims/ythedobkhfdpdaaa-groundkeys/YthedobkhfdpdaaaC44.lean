/- Chapter 27, part l: a word applied twice, two words in either order, the row's word. -/
import Derived.Test.YthedobkhfdpdaaaC43
import Derived.Test.YthedobkhfdpdaaaC40
set_option linter.unusedVariables false
set_option linter.unusedSimpArgs false
namespace Go.Proofs.Rl
open Go.E
set_option maxRecDepth 8000
theorem self_ne0 : ∀ r : Fin 14, 1 ≤ r.val → soN r.val ≠ roN r.val ∧ soN r.val ≠ loN r.val ∧ roN r.val ≠ loN r.val ∧ (soN r.val < 26 → sgnV r.val ≠ 0 ∧ 0 ≤ sgnV r.val ∧ sgnV r.val < 3 ∧ lim (soN r.val) = 3) := by decide +kernel
theorem self_ne1 : ∀ r : Fin 14, 1 ≤ r.val → (r.val ≤ 11 → lim (roN r.val) = 11) ∧ (12 ≤ r.val → lim (roN r.val) = 2048) ∧ (loN r.val < 26 → lim (loN r.val) = 11 ∧ r.val ≤ 11) := by decide +kernel
theorem self_ne (r : Nat) (h : r < 14) (h1 : 1 ≤ r) : soN r ≠ roN r ∧ soN r ≠ loN r ∧ roN r ≠ loN r ∧ (soN r < 26 → sgnV r ≠ 0 ∧ 0 ≤ sgnV r ∧ sgnV r < 3 ∧ lim (soN r) = 3) ∧ (r ≤ 11 → lim (roN r) = 11) ∧ (12 ≤ r → lim (roN r) = 2048) ∧ (loN r < 26 → lim (loN r) = 11 ∧ r ≤ 11) := by
  obtain ⟨a, b, c, e⟩ := self_ne0 ⟨r, h⟩ h1
  obtain ⟨x, y, z⟩ := self_ne1 ⟨r, h⟩ h1
  exact ⟨a, b, c, e, x, y, z⟩
theorem digV_b {c : Int} (h : digN c < 11) : 0 ≤ digV c ∧ digV c < 11 := by rw [digV_of h]; omega
theorem fit_parts {k : Nat} {w : Int} (h : fitW k w = true) : digN (w / 32 % 32) < 11 ∧ digN (w % 32) < 11 ∧ (onB w = true → hasS k = true) ∧ (k = 7 → digN (w / 32 % 32) = 10) := by
  unfold fitW at h
  simp only [Bool.and_eq_true, decide_eq_true_eq] at h
  obtain ⟨⟨⟨h1, h2⟩, h3⟩, h4⟩ := h
  refine ⟨h1, h2, fun ho => ?_, fun hk => ?_⟩
  · rw [ho] at h3; simpa using h3
  · subst hk; simpa using h4
theorem ap_good {d : Nat → Int} (hd : Good d) {w : Int} (h : apE w = 0) : Good (apD d w) := fun j hj => by
  obtain ⟨r1, r13, hf⟩ := apE_row h
  obtain ⟨s1, s2, s3, s4, s5, s6, s7⟩ := self_ne (rowN w) (by omega) r1
  rw [apD_at h hj]
  split
  · rename_i e
    subst e
    obtain ⟨v1, v2, v3, v4⟩ := s4 hj
    have := hd (soN (rowN w)) hj
    unfold svN
    rw [v4] at this ⊢
    split
    · exact ⟨v2, v3⟩
    · split
      · omega
      · exact this
  split
  · rename_i e
    subst e
    unfold rvN
    by_cases h12 : 12 ≤ rowN w
    · rw [if_pos h12, s6 h12]; omega
    · rw [if_neg h12, s5 (by omega)]
      exact digV_b (fit_parts (hf (by omega))).2.1
  split
  · rename_i e
    subst e
    obtain ⟨e1, e2⟩ := s7 hj
    rw [e1]
    exact digV_b (fit_parts (hf e2)).1
  · exact hd j hj
end Go.Proofs.Rl
namespace Go.Proofs.Rl
open Go.E
set_option maxRecDepth 8000
end Go.Proofs.Rl
namespace Go.Proofs.Rl
open Go.E
set_option maxRecDepth 8000
theorem disp_congr {a b : Nat → Int} (h : ∀ j, j < 26 → a j = b j) : dispA a = dispA b := by
  simp only [dispA]
  rw [h 0 (by decide), h 1 (by decide), h 2 (by decide), h 3 (by decide), h 4 (by decide), h 5 (by decide), h 6 (by decide), h 7 (by decide), h 8 (by decide), h 9 (by decide), h 10 (by decide), h 11 (by decide), h 12 (by decide), h 13 (by decide), h 14 (by decide), h 15 (by decide), h 16 (by decide), h 17 (by decide), h 18 (by decide), h 19 (by decide), h 20 (by decide), h 21 (by decide), h 22 (by decide), h 23 (by decide), h 24 (by decide), h 25 (by decide)]
end Go.Proofs.Rl
namespace Go.Proofs.Rl
open Go.E
set_option maxRecDepth 8000
theorem snoc_row {kk : IntKind} (l : List Int) (x : Int) : List.drop 0 l ++ rowsInts kk 1 (irow kk [x]) = l ++ [x] := by
  have hk : sameKind kk kk = true := sameKind_iff.2 rfl
  simp [rowsInts, irow, rowInt, hk]
def wordsN (d : Nat → Int) : Nat → List Int
  | 0 => []
  | n + 1 => wordsN d n ++ [rowW d (n + 1)]
theorem wordsN_len (d : Nat → Int) : ∀ n, (wordsN d n).length = n
  | 0 => rfl
  | n + 1 => by simp [wordsN, wordsN_len d n]
theorem wordsN_get (d : Nat → Int) : ∀ {n i : Nat}, i < n → (wordsN d n)[i]? = some (rowW d (i + 1))
  | 0, i, h => by omega
  | n + 1, i, h => by
    by_cases hi : i < n
    · rw [wordsN, List.getElem?_append_left (by rw [wordsN_len]; exact hi)]
      exact wordsN_get d hi
    · have : i = n := by omega
      subst this
      rw [wordsN, List.getElem?_append_right (by rw [wordsN_len]; omega), wordsN_len]
      simp
set_option maxHeartbeats 1000000 in
theorem words_c {d : Nat → Int} (hd : Good d) : callP Try.prog 12 [dispA d] (· = ints .u16 (wordsN d 13)) := by
  refine callE_def env (fn := Try.f12) rfl (by decide) rfl ?_
  refine loop_weak (fun i : Nat => slots 24 [(1, .ptr ⟨0, 0, 0⟩), (3, .slice ⟨1, 0, 0⟩ i), (4, .int .i64 ((i + 1 : Nat) : Int))])
    (fun i => [.cells (dcells d), .ints .u16 (wordsN d i)])
    (fun i => i ≤ 13) (fun i => 13 - i) 0 (Nat.zero_le _) ?_ ?_
  · exact (weak_keep (keep 24 [1, 3, 4]) [0] rfl rfl rfl).trans (weak_nil 3 (.ints .u16 []) rfl rfl)
  intro i hi
  have ei : IntKind.i64.wrap (((i + 1 : Nat) : Int) + 1) = ((i + 1 + 1 : Nat) : Int) := by rw [wi (by omega) (by omega)]; rfl
  apply branch_intro <;> intro h
  · have h : i < 13 := by simp at h; omega
    refine callT_E (row_c hd.wd hd.may (n := i + 1) (by omega) (by omega)) rfl ?_
    repeat refine stk ?_
    apply choice_l
    apply need_intro
    · show (i + 1) * 2 ≤ _
      omega
    apply need_intro
    · exact ⟨by rw [wordsN_len]; omega, fun j hj => by
        have : j = 0 := by omega
        subst this
        exact ⟨_, rfl⟩⟩
    refine ⟨i + 1, h, by omega, weak_keep (keep 24 [1, 3, 4]) [0, 1] rfl ?_ ?_⟩
    · show [_, _, _, _, _, _, _, _, _, _, _, _, _, _, _, _, _, _, _, _, _, _, _, _] = _
      rw [ei]
      rfl
    · show [_, Blk.ints .u16 (List.drop 0 (wordsN d i) ++ rowsInts .u16 1 (irow .u16 [rowW d (i + 1)]))] = _
      rw [snoc_row]
      rfl
  · have : i = 13 := by simp at h; omega
    subst this
    apply need_intro
    · show 0 + 13 ≤ (wordsN d 13).length
      rw [wordsN_len]
      omega
    show Eqv _ _
    exact eqv_part (wordsN_len d 13).symm (fun _ _ => rfl)
def foldD (d : Nat → Int) (l : List Int) : Nat → (Nat → Int)
  | 0 => d
  | n + 1 => apD (foldD d l n) (l.getD n 0)
theorem blank_good : Good blankD := by
  intro j hj
  have hj' : j = 0 ∨ j = 1 ∨ j = 2 ∨ j = 3 ∨ j = 4 ∨ j = 5 ∨ j = 6 ∨ j = 7 ∨ j = 8 ∨ j = 9 ∨ j = 10 ∨ j = 11 ∨ j = 12 ∨ j = 13 ∨ j = 14 ∨ j = 15 ∨ j = 16 ∨ j = 17 ∨ j = 18 ∨ j = 19 ∨ j = 20 ∨ j = 21 ∨ j = 22 ∨ j = 23 ∨ j = 24 ∨ j = 25 := by omega
  rcases hj' with rfl | rfl | rfl | rfl | rfl | rfl | rfl | rfl | rfl | rfl | rfl | rfl | rfl | rfl | rfl | rfl | rfl | rfl | rfl | rfl | rfl | rfl | rfl | rfl | rfl | rfl <;> decide
theorem fold_good {d : Nat → Int} (hd : Good d) {l : List Int} : ∀ n, n ≤ l.length → (∀ j, j < n → apE (l.getD j 0) = 0) → Good (foldD d l n)
  | 0, _, _ => hd
  | n + 1, hn, h => ap_good (fold_good hd n (by omega) fun j hj => h j (by omega)) (h n (by omega))
def W16L (l : List Int) : Prop := ∀ x ∈ l, 0 ≤ x ∧ x < 65536
theorem w16_at {l : List Int} (h : W16L l) {i : Nat} (hi : i < l.length) : 0 ≤ l.getD i 0 ∧ l.getD i 0 < 65536 := by
  rw [List.getD_eq_getElem?_getD, List.getElem?_eq_getElem hi]
  exact h _ (List.getElem_mem hi)
theorem show_ok {l : List Int} (hl : W16L l) (hn : l.length < 1152921504606846976) (h : ∀ j, j < l.length → apE (l.getD j 0) = 0) : callP Try.prog 11 [ints .u16 l] (· = .tuple [dispA (foldD blankD l l.length), .int .i64 0, .int .i64 0]) := by
  refine callE_def env (fn := Try.f11) rfl (by decide) rfl ?_
  refine callT_E clear_c rfl ?_
  refine loop_weak (fun i : Nat => slots 32 [(2, .ptr ⟨0, 0, 0⟩), (3, .int .i64 0), (4, .int .i64 0), (5, .ptr ⟨1, 0, 0⟩), (11, ints .u16 l), (12, .int .i64 l.length), (13, .int .i64 i)])
    (fun i => [.cells (dcells fun _ => 0), .cells (dcells (foldD blankD l i))])
    (fun i => i ≤ l.length) (fun i => l.length - i) 0 (Nat.zero_le _) (weak_keep (keep 32 [2, 3, 4, 5, 11, 12, 13]) [0, 1] rfl rfl rfl) ?_
  intro i hi
  have ei : IntKind.i64.wrap ((i : Int) + 1) = ((i + 1 : Nat) : Int) := by rw [wi (by omega) (by omega)]; rfl
  have et : ((i : Int)).toNat = i := Int.toNat_natCast i
  apply branch_intro <;> intro hb
  · have hb : i < l.length := by simp at hb; omega
    have hg := fold_good blank_good (l := l) i hi fun j hj => h j (by omega)
    have ca := apply_c hg.wd hg.may (w16_at hl hb).1 (w16_at hl hb).2
    rw [h i hb] at ca
    apply need_intro
    · omega
    refine callT_E ((congrArg (fun n => callP Try.prog 23 [dispA (foldD blankD l i), .int .u16 (l.getD n 0)] (· = _)) et).mpr ca) rfl ?_
    repeat refine stk ?_
    refine ⟨i + 1, hb, by omega, weak_keep (keep 32 [2, 3, 4, 5, 11, 12, 13]) [0, 1] rfl ?_ rfl⟩
    show [_, _, _, _, _, _, _, _, _, _, _, _, _, _, _, _, _, _, _, _, _, _, _, _, _, _, _, _, _, _, _, _] = _
    rw [ei]
    rfl
  · have : i = l.length := by simp at hb; omega
    subst this
    show Eqv _ _
    exact .up (.up (.refl _))
end Go.Proofs.Rl
namespace Go.Proofs.Rl
open Go.E
set_option maxRecDepth 8000
theorem digN_cN {x : Int} (h0 : 0 ≤ x) (h : x < 11) : digN (cN x : Int) = x.toNat := by
  obtain ⟨n, rfl⟩ := Int.eq_ofNat_of_zero_le h0
  rw [cN_of, digN_code (by omega), Int.toNat_natCast]
theorem row_word {a : Nat → Int} (ha : Good a) {r : Nat} (h1 : 1 ≤ r) (h13 : r ≤ 13) : (0 ≤ rowW a r ∧ rowW a r < 65536) ∧ rowN (rowW a r) = r ∧ apE (rowW a r) = 0 ∧ rvN (rowW a r) = a (roN r) ∧ (loN r < 26 → lvN (rowW a r) = a (loN r)) ∧ (soN r < 26 → onB (rowW a r) = decide (a (soN r) = sgnV r)) := by
  have h16 : r = 1 ∨ r = 2 ∨ r = 3 ∨ r = 4 ∨ r = 5 ∨ r = 6 ∨ r = 7 ∨ r = 8 ∨ r = 9 ∨ r = 10 ∨ r = 11 ∨ r = 12 ∨ r = 13 := by omega
  rcases h16 with rfl | rfl | rfl | rfl | rfl | rfl | rfl | rfl | rfl | rfl | rfl | rfl | rfl
  · have g2 := ha 23 (by decide)
    simp only [lim] at g2
    have g1 := ha 22 (by decide)
    simp only [lim] at g1
    have d1 := digN_cN g1.1 g1.2
    have d2 := digN_cN g2.1 g2.2
    have b1 := cN_b (a 22)
    have b2 := cN_b (a 23)
    obtain ⟨B, hB⟩ : ∃ B : Nat, B = bitN a 0 := ⟨_, rfl⟩
    have hB2 : B = 0 ∨ B = 1024 := by
      rw [hB]
      show (if a 18 = 2 then 1024 else 0) = 0 ∨ (if a 18 = 2 then 1024 else 0) = 1024
      split <;> simp
    have e : rowW a 1 = ((2048 * 1 + B + (32 * cN (a 22) + cN (a 23)) : Nat) : Int) := by rw [hB]; rfl
    have e1 : rowN (rowW a 1) = 1 := by rw [e]; unfold rowN; omega
    have e2 : rowW a 1 / 32 % 32 = (cN (a 22) : Int) := by rw [e]; omega
    have e3 : rowW a 1 % 32 = (cN (a 23) : Int) := by rw [e]; omega
    have eo : onB (rowW a 1) = decide (B = 1024) := by
      unfold onB
      rw [e]
      rcases hB2 with h | h <;> rw [h]
      · rw [decide_eq_false (by omega), decide_eq_false (by omega)]
      · rw [decide_eq_true (by omega), decide_eq_true rfl]
    have hf : fitW 0 (rowW a 1) = true := by
      unfold fitW
      rw [e2, e3, d1, d2, eo]
      simp [hasS]
      omega
    refine ⟨by rw [e]; omega, e1, ?_, ?_, fun hl => ?_, fun hs => ?_⟩
    · unfold apE; rw [e1]; exact if_pos hf
    · unfold rvN; rw [e1, if_neg (by decide), e3, digV_of (by rw [d2]; omega), d2]
      exact Int.toNat_of_nonneg g2.1
    · unfold lvN; rw [e2, digV_of (by rw [d1]; omega), d1]
      exact Int.toNat_of_nonneg g1.1
    · rw [eo]
      by_cases h : a 18 = 2
      · have hx : B = 1024 := by rw [hB]; exact if_pos h
        rw [decide_eq_true hx]
        exact (decide_eq_true h).symm
      · have hx : B ≠ 1024 := by
          rw [hB]
          show (if a 18 = 2 then 1024 else 0) ≠ 1024
          rw [if_neg h]
          decide
        rw [decide_eq_false hx]
        exact (decide_eq_false h).symm
  · have g2 := ha 21 (by decide)
    simp only [lim] at g2
    have g1 := ha 20 (by decide)
    simp only [lim] at g1
    have d1 := digN_cN g1.1 g1.2
    have d2 := digN_cN g2.1 g2.2
    have b1 := cN_b (a 20)
    have b2 := cN_b (a 21)
    obtain ⟨B, hB⟩ : ∃ B : Nat, B = bitN a 1 := ⟨_, rfl⟩
    have hB2 : B = 0 ∨ B = 1024 := by
      rw [hB]
      show (if a 18 = 1 then 1024 else 0) = 0 ∨ (if a 18 = 1 then 1024 else 0) = 1024
      split <;> simp
    have e : rowW a 2 = ((2048 * 2 + B + (32 * cN (a 20) + cN (a 21)) : Nat) : Int) := by rw [hB]; rfl
    have e1 : rowN (rowW a 2) = 2 := by rw [e]; unfold rowN; omega
    have e2 : rowW a 2 / 32 % 32 = (cN (a 20) : Int) := by rw [e]; omega
    have e3 : rowW a 2 % 32 = (cN (a 21) : Int) := by rw [e]; omega
    have eo : onB (rowW a 2) = decide (B = 1024) := by
      unfold onB
      rw [e]
      rcases hB2 with h | h <;> rw [h]
      · rw [decide_eq_false (by omega), decide_eq_false (by omega)]
      · rw [decide_eq_true (by omega), decide_eq_true rfl]
    have hf : fitW 1 (rowW a 2) = true := by
      unfold fitW
      rw [e2, e3, d1, d2, eo]
      simp [hasS]
      omega
    refine ⟨by rw [e]; omega, e1, ?_, ?_, fun hl => ?_, fun hs => ?_⟩
    · unfold apE; rw [e1]; exact if_pos hf
    · unfold rvN; rw [e1, if_neg (by decide), e3, digV_of (by rw [d2]; omega), d2]
      exact Int.toNat_of_nonneg g2.1
    · unfold lvN; rw [e2, digV_of (by rw [d1]; omega), d1]
      exact Int.toNat_of_nonneg g1.1
    · rw [eo]
      by_cases h : a 18 = 1
      · have hx : B = 1024 := by rw [hB]; exact if_pos h
        rw [decide_eq_true hx]
        exact (decide_eq_true h).symm
      · have hx : B ≠ 1024 := by
          rw [hB]
          show (if a 18 = 1 then 1024 else 0) ≠ 1024
          rw [if_neg h]
          decide
        rw [decide_eq_false hx]
        exact (decide_eq_false h).symm
  · have g2 := ha 19 (by decide)
    simp only [lim] at g2
    have g1 := ha 17 (by decide)
    simp only [lim] at g1
    have d1 := digN_cN g1.1 g1.2
    have d2 := digN_cN g2.1 g2.2
    have b1 := cN_b (a 17)
    have b2 := cN_b (a 19)
    obtain ⟨B, hB⟩ : ∃ B : Nat, B = bitN a 2 := ⟨_, rfl⟩
    have hB2 : B = 0 ∨ B = 1024 := by
      rw [hB]
      show (0) = 0 ∨ (0) = 1024
      simp
    have e : rowW a 3 = ((2048 * 3 + B + (32 * cN (a 17) + cN (a 19)) : Nat) : Int) := by rw [hB]; rfl
    have e1 : rowN (rowW a 3) = 3 := by rw [e]; unfold rowN; omega
    have e2 : rowW a 3 / 32 % 32 = (cN (a 17) : Int) := by rw [e]; omega
    have e3 : rowW a 3 % 32 = (cN (a 19) : Int) := by rw [e]; omega
    have eo : onB (rowW a 3) = decide (B = 1024) := by
      unfold onB
      rw [e]
      rcases hB2 with h | h <;> rw [h]
      · rw [decide_eq_false (by omega), decide_eq_false (by omega)]
      · rw [decide_eq_true (by omega), decide_eq_true rfl]
    have hf : fitW 2 (rowW a 3) = true := by
      unfold fitW
      rw [e2, e3, d1, d2, eo]
      have : B = 0 := by rw [hB]; rfl
      rw [this]
      simp [hasS]
      omega
    refine ⟨by rw [e]; omega, e1, ?_, ?_, fun hl => ?_, fun hs => ?_⟩
    · unfold apE; rw [e1]; exact if_pos hf
    · unfold rvN; rw [e1, if_neg (by decide), e3, digV_of (by rw [d2]; omega), d2]
      exact Int.toNat_of_nonneg g2.1
    · unfold lvN; rw [e2, digV_of (by rw [d1]; omega), d1]
      exact Int.toNat_of_nonneg g1.1
    · exact absurd hs (by decide)
  · have g2 := ha 16 (by decide)
    simp only [lim] at g2
    have g1 := ha 15 (by decide)
    simp only [lim] at g1
    have d1 := digN_cN g1.1 g1.2
    have d2 := digN_cN g2.1 g2.2
    have b1 := cN_b (a 15)
    have b2 := cN_b (a 16)
    obtain ⟨B, hB⟩ : ∃ B : Nat, B = bitN a 3 := ⟨_, rfl⟩
    have hB2 : B = 0 ∨ B = 1024 := by
      rw [hB]
      show (if a 12 = 2 then 1024 else 0) = 0 ∨ (if a 12 = 2 then 1024 else 0) = 1024
      split <;> simp
    have e : rowW a 4 = ((2048 * 4 + B + (32 * cN (a 15) + cN (a 16)) : Nat) : Int) := by rw [hB]; rfl
    have e1 : rowN (rowW a 4) = 4 := by rw [e]; unfold rowN; omega
    have e2 : rowW a 4 / 32 % 32 = (cN (a 15) : Int) := by rw [e]; omega
    have e3 : rowW a 4 % 32 = (cN (a 16) : Int) := by rw [e]; omega
    have eo : onB (rowW a 4) = decide (B = 1024) := by
      unfold onB
      rw [e]
      rcases hB2 with h | h <;> rw [h]
      · rw [decide_eq_false (by omega), decide_eq_false (by omega)]
      · rw [decide_eq_true (by omega), decide_eq_true rfl]
    have hf : fitW 3 (rowW a 4) = true := by
      unfold fitW
      rw [e2, e3, d1, d2, eo]
      simp [hasS]
      omega
    refine ⟨by rw [e]; omega, e1, ?_, ?_, fun hl => ?_, fun hs => ?_⟩
    · unfold apE; rw [e1]; exact if_pos hf
    · unfold rvN; rw [e1, if_neg (by decide), e3, digV_of (by rw [d2]; omega), d2]
      exact Int.toNat_of_nonneg g2.1
    · unfold lvN; rw [e2, digV_of (by rw [d1]; omega), d1]
      exact Int.toNat_of_nonneg g1.1
    · rw [eo]
      by_cases h : a 12 = 2
      · have hx : B = 1024 := by rw [hB]; exact if_pos h
        rw [decide_eq_true hx]
        exact (decide_eq_true h).symm
      · have hx : B ≠ 1024 := by
          rw [hB]
          show (if a 12 = 2 then 1024 else 0) ≠ 1024
          rw [if_neg h]
          decide
        rw [decide_eq_false hx]
        exact (decide_eq_false h).symm
  · have g2 := ha 14 (by decide)
    simp only [lim] at g2
    have g1 := ha 13 (by decide)
    simp only [lim] at g1
    have d1 := digN_cN g1.1 g1.2
    have d2 := digN_cN g2.1 g2.2
    have b1 := cN_b (a 13)
    have b2 := cN_b (a 14)
    obtain ⟨B, hB⟩ : ∃ B : Nat, B = bitN a 4 := ⟨_, rfl⟩
    have hB2 : B = 0 ∨ B = 1024 := by
      rw [hB]
      show (if a 12 = 1 then 1024 else 0) = 0 ∨ (if a 12 = 1 then 1024 else 0) = 1024
      split <;> simp
    have e : rowW a 5 = ((2048 * 5 + B + (32 * cN (a 13) + cN (a 14)) : Nat) : Int) := by rw [hB]; rfl
    have e1 : rowN (rowW a 5) = 5 := by rw [e]; unfold rowN; omega
    have e2 : rowW a 5 / 32 % 32 = (cN (a 13) : Int) := by rw [e]; omega
    have e3 : rowW a 5 % 32 = (cN (a 14) : Int) := by rw [e]; omega
    have eo : onB (rowW a 5) = decide (B = 1024) := by
      unfold onB
      rw [e]
      rcases hB2 with h | h <;> rw [h]
      · rw [decide_eq_false (by omega), decide_eq_false (by omega)]
      · rw [decide_eq_true (by omega), decide_eq_true rfl]
    have hf : fitW 4 (rowW a 5) = true := by
      unfold fitW
      rw [e2, e3, d1, d2, eo]
      simp [hasS]
      omega
    refine ⟨by rw [e]; omega, e1, ?_, ?_, fun hl => ?_, fun hs => ?_⟩
    · unfold apE; rw [e1]; exact if_pos hf
    · unfold rvN; rw [e1, if_neg (by decide), e3, digV_of (by rw [d2]; omega), d2]
      exact Int.toNat_of_nonneg g2.1
    · unfold lvN; rw [e2, digV_of (by rw [d1]; omega), d1]
      exact Int.toNat_of_nonneg g1.1
    · rw [eo]
      by_cases h : a 12 = 1
      · have hx : B = 1024 := by rw [hB]; exact if_pos h
        rw [decide_eq_true hx]
        exact (decide_eq_true h).symm
      · have hx : B ≠ 1024 := by
          rw [hB]
          show (if a 12 = 1 then 1024 else 0) ≠ 1024
          rw [if_neg h]
          decide
        rw [decide_eq_false hx]
        exact (decide_eq_false h).symm
  · have g2 := ha 11 (by decide)
    simp only [lim] at g2
    have g1 := ha 10 (by decide)
    simp only [lim] at g1
    have d1 := digN_cN g1.1 g1.2
    have d2 := digN_cN g2.1 g2.2
    have b1 := cN_b (a 10)
    have b2 := cN_b (a 11)
    obtain ⟨B, hB⟩ : ∃ B : Nat, B = bitN a 5 := ⟨_, rfl⟩
    have hB2 : B = 0 ∨ B = 1024 := by
      rw [hB]
      show (if a 6 = 2 then 1024 else 0) = 0 ∨ (if a 6 = 2 then 1024 else 0) = 1024
      split <;> simp
    have e : rowW a 6 = ((2048 * 6 + B + (32 * cN (a 10) + cN (a 11)) : Nat) : Int) := by rw [hB]; rfl
    have e1 : rowN (rowW a 6) = 6 := by rw [e]; unfold rowN; omega
    have e2 : rowW a 6 / 32 % 32 = (cN (a 10) : Int) := by rw [e]; omega
    have e3 : rowW a 6 % 32 = (cN (a 11) : Int) := by rw [e]; omega
    have eo : onB (rowW a 6) = decide (B = 1024) := by
      unfold onB
      rw [e]
      rcases hB2 with h | h <;> rw [h]
      · rw [decide_eq_false (by omega), decide_eq_false (by omega)]
      · rw [decide_eq_true (by omega), decide_eq_true rfl]
    have hf : fitW 5 (rowW a 6) = true := by
      unfold fitW
      rw [e2, e3, d1, d2, eo]
      simp [hasS]
      omega
    refine ⟨by rw [e]; omega, e1, ?_, ?_, fun hl => ?_, fun hs => ?_⟩
    · unfold apE; rw [e1]; exact if_pos hf
    · unfold rvN; rw [e1, if_neg (by decide), e3, digV_of (by rw [d2]; omega), d2]
      exact Int.toNat_of_nonneg g2.1
    · unfold lvN; rw [e2, digV_of (by rw [d1]; omega), d1]
      exact Int.toNat_of_nonneg g1.1
    · rw [eo]
      by_cases h : a 6 = 2
      · have hx : B = 1024 := by rw [hB]; exact if_pos h
        rw [decide_eq_true hx]
        exact (decide_eq_true h).symm
      · have hx : B ≠ 1024 := by
          rw [hB]
          show (if a 6 = 2 then 1024 else 0) ≠ 1024
          rw [if_neg h]
          decide
        rw [decide_eq_false hx]
        exact (decide_eq_false h).symm
  · have g2 := ha 9 (by decide)
    simp only [lim] at g2
    have g1 := ha 8 (by decide)
    simp only [lim] at g1
    have d1 := digN_cN g1.1 g1.2
    have d2 := digN_cN g2.1 g2.2
    have b1 := cN_b (a 8)
    have b2 := cN_b (a 9)
    obtain ⟨B, hB⟩ : ∃ B : Nat, B = bitN a 6 := ⟨_, rfl⟩
    have hB2 : B = 0 ∨ B = 1024 := by
      rw [hB]
      show (if a 6 = 1 then 1024 else 0) = 0 ∨ (if a 6 = 1 then 1024 else 0) = 1024
      split <;> simp
    have e : rowW a 7 = ((2048 * 7 + B + (32 * cN (a 8) + cN (a 9)) : Nat) : Int) := by rw [hB]; rfl
    have e1 : rowN (rowW a 7) = 7 := by rw [e]; unfold rowN; omega
    have e2 : rowW a 7 / 32 % 32 = (cN (a 8) : Int) := by rw [e]; omega
    have e3 : rowW a 7 % 32 = (cN (a 9) : Int) := by rw [e]; omega
    have eo : onB (rowW a 7) = decide (B = 1024) := by
      unfold onB
      rw [e]
      rcases hB2 with h | h <;> rw [h]
      · rw [decide_eq_false (by omega), decide_eq_false (by omega)]
      · rw [decide_eq_true (by omega), decide_eq_true rfl]
    have hf : fitW 6 (rowW a 7) = true := by
      unfold fitW
      rw [e2, e3, d1, d2, eo]
      simp [hasS]
      omega
    refine ⟨by rw [e]; omega, e1, ?_, ?_, fun hl => ?_, fun hs => ?_⟩
    · unfold apE; rw [e1]; exact if_pos hf
    · unfold rvN; rw [e1, if_neg (by decide), e3, digV_of (by rw [d2]; omega), d2]
      exact Int.toNat_of_nonneg g2.1
    · unfold lvN; rw [e2, digV_of (by rw [d1]; omega), d1]
      exact Int.toNat_of_nonneg g1.1
    · rw [eo]
      by_cases h : a 6 = 1
      · have hx : B = 1024 := by rw [hB]; exact if_pos h
        rw [decide_eq_true hx]
        exact (decide_eq_true h).symm
      · have hx : B ≠ 1024 := by
          rw [hB]
          show (if a 6 = 1 then 1024 else 0) ≠ 1024
          rw [if_neg h]
          decide
        rw [decide_eq_false hx]
        exact (decide_eq_false h).symm
  · have g2 := ha 7 (by decide)
    simp only [lim] at g2
    have d1 : digN (cN 10 : Int) = 10 := by decide
    have d2 := digN_cN g2.1 g2.2
    have b1 := cN_b (10)
    have b2 := cN_b (a 7)
    obtain ⟨B, hB⟩ : ∃ B : Nat, B = bitN a 7 := ⟨_, rfl⟩
    have hB2 : B = 0 ∨ B = 1024 := by
      rw [hB]
      show (0) = 0 ∨ (0) = 1024
      simp
    have e : rowW a 8 = ((2048 * 8 + B + (32 * cN 10 + cN (a 7)) : Nat) : Int) := by rw [hB]; rfl
    have e1 : rowN (rowW a 8) = 8 := by rw [e]; unfold rowN; omega
    have e2 : rowW a 8 / 32 % 32 = (cN 10 : Int) := by rw [e]; omega
    have e3 : rowW a 8 % 32 = (cN (a 7) : Int) := by rw [e]; omega
    have eo : onB (rowW a 8) = decide (B = 1024) := by
      unfold onB
      rw [e]
      rcases hB2 with h | h <;> rw [h]
      · rw [decide_eq_false (by omega), decide_eq_false (by omega)]
      · rw [decide_eq_true (by omega), decide_eq_true rfl]
    have hf : fitW 7 (rowW a 8) = true := by
      unfold fitW
      rw [e2, e3, d1, d2, eo]
      have : B = 0 := by rw [hB]; rfl
      rw [this]
      simp [hasS]
      omega
    refine ⟨by rw [e]; omega, e1, ?_, ?_, fun hl => ?_, fun hs => ?_⟩
    · unfold apE; rw [e1]; exact if_pos hf
    · unfold rvN; rw [e1, if_neg (by decide), e3, digV_of (by rw [d2]; omega), d2]
      exact Int.toNat_of_nonneg g2.1
    · exact absurd hl (by decide)
    · exact absurd hs (by decide)
  · have g2 := ha 5 (by decide)
    simp only [lim] at g2
    have g1 := ha 4 (by decide)
    simp only [lim] at g1
    have d1 := digN_cN g1.1 g1.2
    have d2 := digN_cN g2.1 g2.2
    have b1 := cN_b (a 4)
    have b2 := cN_b (a 5)
    obtain ⟨B, hB⟩ : ∃ B : Nat, B = bitN a 8 := ⟨_, rfl⟩
    have hB2 : B = 0 ∨ B = 1024 := by
      rw [hB]
      show (0) = 0 ∨ (0) = 1024
      simp
    have e : rowW a 9 = ((2048 * 9 + B + (32 * cN (a 4) + cN (a 5)) : Nat) : Int) := by rw [hB]; rfl
    have e1 : rowN (rowW a 9) = 9 := by rw [e]; unfold rowN; omega
    have e2 : rowW a 9 / 32 % 32 = (cN (a 4) : Int) := by rw [e]; omega
    have e3 : rowW a 9 % 32 = (cN (a 5) : Int) := by rw [e]; omega
    have eo : onB (rowW a 9) = decide (B = 1024) := by
      unfold onB
      rw [e]
      rcases hB2 with h | h <;> rw [h]
      · rw [decide_eq_false (by omega), decide_eq_false (by omega)]
      · rw [decide_eq_true (by omega), decide_eq_true rfl]
    have hf : fitW 8 (rowW a 9) = true := by
      unfold fitW
      rw [e2, e3, d1, d2, eo]
      have : B = 0 := by rw [hB]; rfl
      rw [this]
      simp [hasS]
      omega
    refine ⟨by rw [e]; omega, e1, ?_, ?_, fun hl => ?_, fun hs => ?_⟩
    · unfold apE; rw [e1]; exact if_pos hf
    · unfold rvN; rw [e1, if_neg (by decide), e3, digV_of (by rw [d2]; omega), d2]
      exact Int.toNat_of_nonneg g2.1
    · unfold lvN; rw [e2, digV_of (by rw [d1]; omega), d1]
      exact Int.toNat_of_nonneg g1.1
    · exact absurd hs (by decide)
  · have g2 := ha 3 (by decide)
    simp only [lim] at g2
    have g1 := ha 2 (by decide)
    simp only [lim] at g1
    have d1 := digN_cN g1.1 g1.2
    have d2 := digN_cN g2.1 g2.2
    have b1 := cN_b (a 2)
    have b2 := cN_b (a 3)
    obtain ⟨B, hB⟩ : ∃ B : Nat, B = bitN a 9 := ⟨_, rfl⟩
    have hB2 : B = 0 ∨ B = 1024 := by
      rw [hB]
      show (0) = 0 ∨ (0) = 1024
      simp
    have e : rowW a 10 = ((2048 * 10 + B + (32 * cN (a 2) + cN (a 3)) : Nat) : Int) := by rw [hB]; rfl
    have e1 : rowN (rowW a 10) = 10 := by rw [e]; unfold rowN; omega
    have e2 : rowW a 10 / 32 % 32 = (cN (a 2) : Int) := by rw [e]; omega
    have e3 : rowW a 10 % 32 = (cN (a 3) : Int) := by rw [e]; omega
    have eo : onB (rowW a 10) = decide (B = 1024) := by
      unfold onB
      rw [e]
      rcases hB2 with h | h <;> rw [h]
      · rw [decide_eq_false (by omega), decide_eq_false (by omega)]
      · rw [decide_eq_true (by omega), decide_eq_true rfl]
    have hf : fitW 9 (rowW a 10) = true := by
      unfold fitW
      rw [e2, e3, d1, d2, eo]
      have : B = 0 := by rw [hB]; rfl
      rw [this]
      simp [hasS]
      omega
    refine ⟨by rw [e]; omega, e1, ?_, ?_, fun hl => ?_, fun hs => ?_⟩
    · unfold apE; rw [e1]; exact if_pos hf
    · unfold rvN; rw [e1, if_neg (by decide), e3, digV_of (by rw [d2]; omega), d2]
      exact Int.toNat_of_nonneg g2.1
    · unfold lvN; rw [e2, digV_of (by rw [d1]; omega), d1]
      exact Int.toNat_of_nonneg g1.1
    · exact absurd hs (by decide)
  · have g2 := ha 1 (by decide)
    simp only [lim] at g2
    have g1 := ha 0 (by decide)
    simp only [lim] at g1
    have d1 := digN_cN g1.1 g1.2
    have d2 := digN_cN g2.1 g2.2
    have b1 := cN_b (a 0)
    have b2 := cN_b (a 1)
    obtain ⟨B, hB⟩ : ∃ B : Nat, B = bitN a 10 := ⟨_, rfl⟩
    have hB2 : B = 0 ∨ B = 1024 := by
      rw [hB]
      show (0) = 0 ∨ (0) = 1024
      simp
    have e : rowW a 11 = ((2048 * 11 + B + (32 * cN (a 0) + cN (a 1)) : Nat) : Int) := by rw [hB]; rfl
    have e1 : rowN (rowW a 11) = 11 := by rw [e]; unfold rowN; omega
    have e2 : rowW a 11 / 32 % 32 = (cN (a 0) : Int) := by rw [e]; omega
    have e3 : rowW a 11 % 32 = (cN (a 1) : Int) := by rw [e]; omega
    have eo : onB (rowW a 11) = decide (B = 1024) := by
      unfold onB
      rw [e]
      rcases hB2 with h | h <;> rw [h]
      · rw [decide_eq_false (by omega), decide_eq_false (by omega)]
      · rw [decide_eq_true (by omega), decide_eq_true rfl]
    have hf : fitW 10 (rowW a 11) = true := by
      unfold fitW
      rw [e2, e3, d1, d2, eo]
      have : B = 0 := by rw [hB]; rfl
      rw [this]
      simp [hasS]
      omega
    refine ⟨by rw [e]; omega, e1, ?_, ?_, fun hl => ?_, fun hs => ?_⟩
    · unfold apE; rw [e1]; exact if_pos hf
    · unfold rvN; rw [e1, if_neg (by decide), e3, digV_of (by rw [d2]; omega), d2]
      exact Int.toNat_of_nonneg g2.1
    · unfold lvN; rw [e2, digV_of (by rw [d1]; omega), d1]
      exact Int.toNat_of_nonneg g1.1
    · exact absurd hs (by decide)
  · have g := ha 24 (by decide)
    simp only [lim] at g
    have e : rowW a 12 = 24576 + a 24 := rfl
    have e1 : rowN (rowW a 12) = 12 := by rw [e]; unfold rowN; omega
    refine ⟨by rw [e]; omega, e1, ?_, ?_, fun hl => absurd hl (by decide), fun hs => absurd hs (by decide)⟩
    · unfold apE; rw [e1]; rfl
    · unfold rvN; rw [e1, if_pos (by decide), e]
      show (24576 + a 24) % 2048 = a 24
      omega
  · have g := ha 25 (by decide)
    simp only [lim] at g
    have e : rowW a 13 = 26624 + a 25 := rfl
    have e1 : rowN (rowW a 13) = 13 := by rw [e]; unfold rowN; omega
    refine ⟨by rw [e]; omega, e1, ?_, ?_, fun hl => absurd hl (by decide), fun hs => absurd hs (by decide)⟩
    · unfold apE; rw [e1]; rfl
    · unfold rvN; rw [e1, if_pos (by decide), e]
      show (26624 + a 25) % 2048 = a 25
      omega
def mid (a b : Nat → Int) (n j : Nat) : Int := match j with
  | 0 => if 11 ≤ n then b 0 else a 0
  | 1 => if 11 ≤ n then b 1 else a 1
  | 2 => if 10 ≤ n then b 2 else a 2
  | 3 => if 10 ≤ n then b 3 else a 3
  | 4 => if 9 ≤ n then b 4 else a 4
  | 5 => if 9 ≤ n then b 5 else a 5
  | 7 => if 8 ≤ n then b 7 else a 7
  | 8 => if 7 ≤ n then b 8 else a 8
  | 9 => if 7 ≤ n then b 9 else a 9
  | 10 => if 6 ≤ n then b 10 else a 10
  | 11 => if 6 ≤ n then b 11 else a 11
  | 13 => if 5 ≤ n then b 13 else a 13
  | 14 => if 5 ≤ n then b 14 else a 14
  | 15 => if 4 ≤ n then b 15 else a 15
  | 16 => if 4 ≤ n then b 16 else a 16
  | 17 => if 3 ≤ n then b 17 else a 17
  | 19 => if 3 ≤ n then b 19 else a 19
  | 20 => if 2 ≤ n then b 20 else a 20
  | 21 => if 2 ≤ n then b 21 else a 21
  | 22 => if 1 ≤ n then b 22 else a 22
  | 23 => if 1 ≤ n then b 23 else a 23
  | 24 => if 12 ≤ n then b 24 else a 24
  | 25 => if 13 ≤ n then b 25 else a 25
  | 6 => if n < 6 then a 6 else if n = 6 then (if b 6 = 2 then 2 else if a 6 = 2 then 0 else a 6) else b 6
  | 12 => if n < 4 then a 12 else if n = 4 then (if b 12 = 2 then 2 else if a 12 = 2 then 0 else a 12) else b 12
  | 18 => if n < 1 then a 18 else if n = 1 then (if b 18 = 2 then 2 else if a 18 = 2 then 0 else a 18) else b 18
  | j => a j
theorem mid_next {a b S : Nat → Int} (ha : Good a) (hb : Good b) {n : Nat} (hn : n < 13) (hS : ∀ j, j < 26 → S j = mid a b n j) {j : Nat} (hj : j < 26) : apD S (rowW b (n + 1)) j = mid a b (n + 1) j := by
  obtain ⟨w0, w1, w2, w3, w4, w5⟩ := row_word hb (r := n + 1) (by omega) (by omega)
  rw [apD_at w2 hj, w1]
  have hsv : svN S (onB (rowW b (n + 1))) (n + 1) = if onB (rowW b (n + 1)) = true then sgnV (n + 1) else if S (soN (n + 1)) = sgnV (n + 1) then 0 else S (soN (n + 1)) := rfl
  have hj' : j = 0 ∨ j = 1 ∨ j = 2 ∨ j = 3 ∨ j = 4 ∨ j = 5 ∨ j = 6 ∨ j = 7 ∨ j = 8 ∨ j = 9 ∨ j = 10 ∨ j = 11 ∨ j = 12 ∨ j = 13 ∨ j = 14 ∨ j = 15 ∨ j = 16 ∨ j = 17 ∨ j = 18 ∨ j = 19 ∨ j = 20 ∨ j = 21 ∨ j = 22 ∨ j = 23 ∨ j = 24 ∨ j = 25 := by omega
  have hn' : n = 0 ∨ n = 1 ∨ n = 2 ∨ n = 3 ∨ n = 4 ∨ n = 5 ∨ n = 6 ∨ n = 7 ∨ n = 8 ∨ n = 9 ∨ n = 10 ∨ n = 11 ∨ n = 12 := by omega
  rcases hn' with rfl | rfl | rfl | rfl | rfl | rfl | rfl | rfl | rfl | rfl | rfl | rfl | rfl
  · have hs := hS 18 (by decide)
    have w5 := w5 (by decide)
    have gb := hb 18 (by decide)
    have ga := ha 18 (by decide)
    simp only [lim] at gb ga
    simp only [mid] at hs
    simp only [soN, sgnV, Nat.reduceAdd] at hsv w5
    have w3 := w3
    simp only [roN, loN, Nat.reduceAdd] at w3 w4
    rcases hj' with rfl | rfl | rfl | rfl | rfl | rfl | rfl | rfl | rfl | rfl | rfl | rfl | rfl | rfl | rfl | rfl | rfl | rfl | rfl | rfl | rfl | rfl | rfl | rfl | rfl | rfl
    iterate 18 (rw [if_neg (by decide), if_neg (by decide), if_neg (by decide), hS _ (by decide)]; rfl)
    · rw [if_pos (by decide), hsv, w5]
      simp only [mid, decide_eq_true_eq]
      rw [hs]
      repeat (first | (split <;> simp_all <;> omega) | omega)
    iterate 3 (rw [if_neg (by decide), if_neg (by decide), if_neg (by decide), hS _ (by decide)]; rfl)
    · rw [if_neg (by decide), if_neg (by decide), if_pos (by decide), w4 (by decide)]; rfl
    · rw [if_neg (by decide), if_pos (by decide), w3]; rfl
    iterate 2 (rw [if_neg (by decide), if_neg (by decide), if_neg (by decide), hS _ (by decide)]; rfl)
  · have hs := hS 18 (by decide)
    have w5 := w5 (by decide)
    have gb := hb 18 (by decide)
    have ga := ha 18 (by decide)
    simp only [lim] at gb ga
    simp only [mid] at hs
    simp only [soN, sgnV, Nat.reduceAdd] at hsv w5
    have w3 := w3
    simp only [roN, loN, Nat.reduceAdd] at w3 w4
    rcases hj' with rfl | rfl | rfl | rfl | rfl | rfl | rfl | rfl | rfl | rfl | rfl | rfl | rfl | rfl | rfl | rfl | rfl | rfl | rfl | rfl | rfl | rfl | rfl | rfl | rfl | rfl
    iterate 18 (rw [if_neg (by decide), if_neg (by decide), if_neg (by decide), hS _ (by decide)]; rfl)
    · rw [if_pos (by decide), hsv, w5]
      simp only [mid, decide_eq_true_eq]
      rw [hs]
      repeat (first | (split <;> simp_all <;> omega) | omega)
    · rw [if_neg (by decide), if_neg (by decide), if_neg (by decide), hS 19 (by decide)]; rfl
    · rw [if_neg (by decide), if_neg (by decide), if_pos (by decide), w4 (by decide)]; rfl
    · rw [if_neg (by decide), if_pos (by decide), w3]; rfl
    iterate 4 (rw [if_neg (by decide), if_neg (by decide), if_neg (by decide), hS _ (by decide)]; rfl)
  · skip
    have w3 := w3
    simp only [roN, loN, Nat.reduceAdd] at w3 w4
    rcases hj' with rfl | rfl | rfl | rfl | rfl | rfl | rfl | rfl | rfl | rfl | rfl | rfl | rfl | rfl | rfl | rfl | rfl | rfl | rfl | rfl | rfl | rfl | rfl | rfl | rfl | rfl
    iterate 17 (rw [if_neg (by decide), if_neg (by decide), if_neg (by decide), hS _ (by decide)]; rfl)
    · rw [if_neg (by decide), if_neg (by decide), if_pos (by decide), w4 (by decide)]; rfl
    · rw [if_neg (by decide), if_neg (by decide), if_neg (by decide), hS 18 (by decide)]; rfl
    · rw [if_neg (by decide), if_pos (by decide), w3]; rfl
    iterate 6 (rw [if_neg (by decide), if_neg (by decide), if_neg (by decide), hS _ (by decide)]; rfl)
  · have hs := hS 12 (by decide)
    have w5 := w5 (by decide)
    have gb := hb 12 (by decide)
    have ga := ha 12 (by decide)
    simp only [lim] at gb ga
    simp only [mid] at hs
    simp only [soN, sgnV, Nat.reduceAdd] at hsv w5
    have w3 := w3
    simp only [roN, loN, Nat.reduceAdd] at w3 w4
    rcases hj' with rfl | rfl | rfl | rfl | rfl | rfl | rfl | rfl | rfl | rfl | rfl | rfl | rfl | rfl | rfl | rfl | rfl | rfl | rfl | rfl | rfl | rfl | rfl | rfl | rfl | rfl
    iterate 12 (rw [if_neg (by decide), if_neg (by decide), if_neg (by decide), hS _ (by decide)]; rfl)
    · rw [if_pos (by decide), hsv, w5]
      simp only [mid, decide_eq_true_eq]
      rw [hs]
      repeat (first | (split <;> simp_all <;> omega) | omega)
    iterate 2 (rw [if_neg (by decide), if_neg (by decide), if_neg (by decide), hS _ (by decide)]; rfl)
    · rw [if_neg (by decide), if_neg (by decide), if_pos (by decide), w4 (by decide)]; rfl
    · rw [if_neg (by decide), if_pos (by decide), w3]; rfl
    iterate 9 (rw [if_neg (by decide), if_neg (by decide), if_neg (by decide), hS _ (by decide)]; rfl)
  · have hs := hS 12 (by decide)
    have w5 := w5 (by decide)
    have gb := hb 12 (by decide)
    have ga := ha 12 (by decide)
    simp only [lim] at gb ga
    simp only [mid] at hs
    simp only [soN, sgnV, Nat.reduceAdd] at hsv w5
    have w3 := w3
    simp only [roN, loN, Nat.reduceAdd] at w3 w4
    rcases hj' with rfl | rfl | rfl | rfl | rfl | rfl | rfl | rfl | rfl | rfl | rfl | rfl | rfl | rfl | rfl | rfl | rfl | rfl | rfl | rfl | rfl | rfl | rfl | rfl | rfl | rfl
    iterate 12 (rw [if_neg (by decide), if_neg (by decide), if_neg (by decide), hS _ (by decide)]; rfl)
    · rw [if_pos (by decide), hsv, w5]
      simp only [mid, decide_eq_true_eq]
      rw [hs]
      repeat (first | (split <;> simp_all <;> omega) | omega)
    · rw [if_neg (by decide), if_neg (by decide), if_pos (by decide), w4 (by decide)]; rfl
    · rw [if_neg (by decide), if_pos (by decide), w3]; rfl
    iterate 11 (rw [if_neg (by decide), if_neg (by decide), if_neg (by decide), hS _ (by decide)]; rfl)
  · have hs := hS 6 (by decide)
    have w5 := w5 (by decide)
    have gb := hb 6 (by decide)
    have ga := ha 6 (by decide)
    simp only [lim] at gb ga
    simp only [mid] at hs
    simp only [soN, sgnV, Nat.reduceAdd] at hsv w5
    have w3 := w3
    simp only [roN, loN, Nat.reduceAdd] at w3 w4
    rcases hj' with rfl | rfl | rfl | rfl | rfl | rfl | rfl | rfl | rfl | rfl | rfl | rfl | rfl | rfl | rfl | rfl | rfl | rfl | rfl | rfl | rfl | rfl | rfl | rfl | rfl | rfl
    iterate 6 (rw [if_neg (by decide), if_neg (by decide), if_neg (by decide), hS _ (by decide)]; rfl)
    · rw [if_pos (by decide), hsv, w5]
      simp only [mid, decide_eq_true_eq]
      rw [hs]
      repeat (first | (split <;> simp_all <;> omega) | omega)
    iterate 3 (rw [if_neg (by decide), if_neg (by decide), if_neg (by decide), hS _ (by decide)]; rfl)
    · rw [if_neg (by decide), if_neg (by decide), if_pos (by decide), w4 (by decide)]; rfl
    · rw [if_neg (by decide), if_pos (by decide), w3]; rfl
    iterate 14 (rw [if_neg (by decide), if_neg (by decide), if_neg (by decide), hS _ (by decide)]; rfl)
  · have hs := hS 6 (by decide)
    have w5 := w5 (by decide)
    have gb := hb 6 (by decide)
    have ga := ha 6 (by decide)
    simp only [lim] at gb ga
    simp only [mid] at hs
    simp only [soN, sgnV, Nat.reduceAdd] at hsv w5
    have w3 := w3
    simp only [roN, loN, Nat.reduceAdd] at w3 w4
    rcases hj' with rfl | rfl | rfl | rfl | rfl | rfl | rfl | rfl | rfl | rfl | rfl | rfl | rfl | rfl | rfl | rfl | rfl | rfl | rfl | rfl | rfl | rfl | rfl | rfl | rfl | rfl
    iterate 6 (rw [if_neg (by decide), if_neg (by decide), if_neg (by decide), hS _ (by decide)]; rfl)
    · rw [if_pos (by decide), hsv, w5]
      simp only [mid, decide_eq_true_eq]
      rw [hs]
      repeat (first | (split <;> simp_all <;> omega) | omega)
    · rw [if_neg (by decide), if_neg (by decide), if_neg (by decide), hS 7 (by decide)]; rfl
    · rw [if_neg (by decide), if_neg (by decide), if_pos (by decide), w4 (by decide)]; rfl
    · rw [if_neg (by decide), if_pos (by decide), w3]; rfl
    iterate 16 (rw [if_neg (by decide), if_neg (by decide), if_neg (by decide), hS _ (by decide)]; rfl)
  · skip
    have w3 := w3
    simp only [roN, loN, Nat.reduceAdd] at w3 w4
    rcases hj' with rfl | rfl | rfl | rfl | rfl | rfl | rfl | rfl | rfl | rfl | rfl | rfl | rfl | rfl | rfl | rfl | rfl | rfl | rfl | rfl | rfl | rfl | rfl | rfl | rfl | rfl
    iterate 7 (rw [if_neg (by decide), if_neg (by decide), if_neg (by decide), hS _ (by decide)]; rfl)
    · rw [if_neg (by decide), if_pos (by decide), w3]; rfl
    iterate 18 (rw [if_neg (by decide), if_neg (by decide), if_neg (by decide), hS _ (by decide)]; rfl)
  · skip
    have w3 := w3
    simp only [roN, loN, Nat.reduceAdd] at w3 w4
    rcases hj' with rfl | rfl | rfl | rfl | rfl | rfl | rfl | rfl | rfl | rfl | rfl | rfl | rfl | rfl | rfl | rfl | rfl | rfl | rfl | rfl | rfl | rfl | rfl | rfl | rfl | rfl
    iterate 4 (rw [if_neg (by decide), if_neg (by decide), if_neg (by decide), hS _ (by decide)]; rfl)
    · rw [if_neg (by decide), if_neg (by decide), if_pos (by decide), w4 (by decide)]; rfl
    · rw [if_neg (by decide), if_pos (by decide), w3]; rfl
    iterate 20 (rw [if_neg (by decide), if_neg (by decide), if_neg (by decide), hS _ (by decide)]; rfl)
  · skip
    have w3 := w3
    simp only [roN, loN, Nat.reduceAdd] at w3 w4
    rcases hj' with rfl | rfl | rfl | rfl | rfl | rfl | rfl | rfl | rfl | rfl | rfl | rfl | rfl | rfl | rfl | rfl | rfl | rfl | rfl | rfl | rfl | rfl | rfl | rfl | rfl | rfl
    iterate 2 (rw [if_neg (by decide), if_neg (by decide), if_neg (by decide), hS _ (by decide)]; rfl)
    · rw [if_neg (by decide), if_neg (by decide), if_pos (by decide), w4 (by decide)]; rfl
    · rw [if_neg (by decide), if_pos (by decide), w3]; rfl
    iterate 22 (rw [if_neg (by decide), if_neg (by decide), if_neg (by decide), hS _ (by decide)]; rfl)
  · skip
    have w3 := w3
    simp only [roN, loN, Nat.reduceAdd] at w3 w4
    rcases hj' with rfl | rfl | rfl | rfl | rfl | rfl | rfl | rfl | rfl | rfl | rfl | rfl | rfl | rfl | rfl | rfl | rfl | rfl | rfl | rfl | rfl | rfl | rfl | rfl | rfl | rfl
    · rw [if_neg (by decide), if_neg (by decide), if_pos (by decide), w4 (by decide)]; rfl
    · rw [if_neg (by decide), if_pos (by decide), w3]; rfl
    iterate 24 (rw [if_neg (by decide), if_neg (by decide), if_neg (by decide), hS _ (by decide)]; rfl)
  · skip
    have w3 := w3
    simp only [roN, loN, Nat.reduceAdd] at w3 w4
    rcases hj' with rfl | rfl | rfl | rfl | rfl | rfl | rfl | rfl | rfl | rfl | rfl | rfl | rfl | rfl | rfl | rfl | rfl | rfl | rfl | rfl | rfl | rfl | rfl | rfl | rfl | rfl
    iterate 24 (rw [if_neg (by decide), if_neg (by decide), if_neg (by decide), hS _ (by decide)]; rfl)
    · rw [if_neg (by decide), if_pos (by decide), w3]; rfl
    · rw [if_neg (by decide), if_neg (by decide), if_neg (by decide), hS 25 (by decide)]; rfl
  · skip
    have w3 := w3
    simp only [roN, loN, Nat.reduceAdd] at w3 w4
    rcases hj' with rfl | rfl | rfl | rfl | rfl | rfl | rfl | rfl | rfl | rfl | rfl | rfl | rfl | rfl | rfl | rfl | rfl | rfl | rfl | rfl | rfl | rfl | rfl | rfl | rfl | rfl
    iterate 25 (rw [if_neg (by decide), if_neg (by decide), if_neg (by decide), hS _ (by decide)]; rfl)
    · rw [if_neg (by decide), if_pos (by decide), w3]; rfl
end Go.Proofs.Rl
namespace Go.Proofs.Rl
open Go.E
set_option maxRecDepth 8000
theorem mid_zero {a b : Nat → Int} {j : Nat} (hj : j < 26) : mid a b 0 j = a j := by
  have hj' : j = 0 ∨ j = 1 ∨ j = 2 ∨ j = 3 ∨ j = 4 ∨ j = 5 ∨ j = 6 ∨ j = 7 ∨ j = 8 ∨ j = 9 ∨ j = 10 ∨ j = 11 ∨ j = 12 ∨ j = 13 ∨ j = 14 ∨ j = 15 ∨ j = 16 ∨ j = 17 ∨ j = 18 ∨ j = 19 ∨ j = 20 ∨ j = 21 ∨ j = 22 ∨ j = 23 ∨ j = 24 ∨ j = 25 := by omega
  rcases hj' with rfl | rfl | rfl | rfl | rfl | rfl | rfl | rfl | rfl | rfl | rfl | rfl | rfl | rfl | rfl | rfl | rfl | rfl | rfl | rfl | rfl | rfl | rfl | rfl | rfl | rfl <;> rfl
theorem mid_all {a b : Nat → Int} {j : Nat} (hj : j < 26) : mid a b 13 j = b j := by
  have hj' : j = 0 ∨ j = 1 ∨ j = 2 ∨ j = 3 ∨ j = 4 ∨ j = 5 ∨ j = 6 ∨ j = 7 ∨ j = 8 ∨ j = 9 ∨ j = 10 ∨ j = 11 ∨ j = 12 ∨ j = 13 ∨ j = 14 ∨ j = 15 ∨ j = 16 ∨ j = 17 ∨ j = 18 ∨ j = 19 ∨ j = 20 ∨ j = 21 ∨ j = 22 ∨ j = 23 ∨ j = 24 ∨ j = 25 := by omega
  rcases hj' with rfl | rfl | rfl | rfl | rfl | rfl | rfl | rfl | rfl | rfl | rfl | rfl | rfl | rfl | rfl | rfl | rfl | rfl | rfl | rfl | rfl | rfl | rfl | rfl | rfl | rfl <;> rfl
theorem words_fold {d a : Nat → Int} (hd : Good d) (ha : Good a) : ∀ n, n ≤ 13 → ∀ j, j < 26 → foldD d (wordsN a 13) n j = mid d a n j
  | 0, _, j, hj => (mid_zero hj).symm
  | n + 1, hn, j, hj => by
    have ih := words_fold hd ha n (by omega)
    have g : (wordsN a 13).getD n 0 = rowW a (n + 1) := by rw [List.getD_eq_getElem?_getD, wordsN_get a (by omega)]; rfl
    show apD (foldD d (wordsN a 13) n) ((wordsN a 13).getD n 0) j = _
    rw [g]
    exact mid_next hd ha (by omega) ih hj
end Go.Proofs.Rl
namespace Go.Proofs
open Go.E
set_option maxRecDepth 8000
theorem Dsp.G.rl {d : Dsp} (h : d.G) : Rl.Good d.f := by
  obtain ⟨h0, h1, h2, h3, h4, h5, ⟨a0, a1, a2, a3, a4, a5⟩, ⟨b0, b1, b2, b3, b4, b5⟩, ⟨c0, c1, c2, c3, c4, c5⟩, hl, hs⟩ := h
  have f : ∀ {x : Int}, 0 ≤ x ∧ x ≤ 10 → 0 ≤ x ∧ x < 11 := fun h => by omega
  have g : ∀ {x : Int}, 0 ≤ x ∧ x ≤ 2 → 0 ≤ x ∧ x < 3 := fun h => by omega
  intro j hj
  match j, hj with
  | 0, _ => exact f h0
  | 1, _ => exact f h1
  | 2, _ => exact f h2
  | 3, _ => exact f h3
  | 4, _ => exact f h4
  | 5, _ => exact f h5
  | 6, _ => exact g a0
  | 7, _ => exact f a1
  | 8, _ => exact f a2
  | 9, _ => exact f a3
  | 10, _ => exact f a4
  | 11, _ => exact f a5
  | 12, _ => exact g b0
  | 13, _ => exact f b1
  | 14, _ => exact f b2
  | 15, _ => exact f b3
  | 16, _ => exact f b4
  | 17, _ => exact f b5
  | 18, _ => exact g c0
  | 19, _ => exact f c1
  | 20, _ => exact f c2
  | 21, _ => exact f c3
  | 22, _ => exact f c4
  | 23, _ => exact f c5
  | 24, _ => exact hl
  | 25, _ => exact hs
  | j + 26, hj => omega
def wordsD (d : Dsp) : List Int := Rl.wordsN d.f 13
theorem words_d {d : Dsp} (h : d.G) : callP Try.prog 12 [d.A] (· = ints .u16 (wordsD d)) := Rl.words_c h.rl
theorem words_at (d : Dsp) {j : Nat} (hj : j < 13) : (wordsD d).getD j 0 = Rl.rowW d.f (j + 1) := by
  rw [List.getD_eq_getElem?_getD, wordsD, Rl.wordsN_get d.f hj]
  rfl
theorem show_d {d : Dsp} (h : d.G) : callP Try.prog 11 [ints .u16 (wordsD d)] (· = .tuple [d.A, .int .i64 0, .int .i64 0]) := by
  have hg := h.rl
  have hl : (wordsD d).length = 13 := Rl.wordsN_len d.f 13
  have e := Rl.show_ok (l := wordsD d) (fun x hx => by
    obtain ⟨j, hj, rfl⟩ := List.getElem_of_mem hx
    rw [hl] at hj
    have e := words_at d hj
    rw [List.getD_eq_getElem?_getD, List.getElem?_eq_getElem (by omega), Option.getD_some] at e
    rw [e]
    exact (Rl.row_word hg (by omega) (by omega)).1) (by rw [hl]; decide) (fun j hj => by
    rw [hl] at hj
    rw [words_at d hj]
    exact (Rl.row_word hg (by omega) (by omega)).2.2.1)
  rw [hl] at e
  rw [show Rl.dispA (Rl.foldD Rl.blankD (wordsD d) 13) = d.A from Rl.disp_congr fun j hj => (Rl.words_fold Rl.blank_good hg 13 (by decide) j hj).trans (Rl.mid_all hj)] at e
  exact e
end Go.Proofs
