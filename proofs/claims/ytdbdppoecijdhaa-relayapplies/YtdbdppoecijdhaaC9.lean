/- Chapter 27, part q: the law of the words of displays. -/
import Derived.Test.YtdbdppoecijdhaaC8
set_option linter.unusedVariables false
set_option linter.unusedSimpArgs false
/-! Aq. -/
namespace Go.Proofs
open Go.E
set_option maxRecDepth 8000

theorem mid_skip {a b : Nat → Int} (ha : Good a) (hb : Good b) {n : Nat} (hn : n < 13) (h : rowW a (n + 1) = rowW b (n + 1)) {j : Nat} (hj : j < 26) : mid a b n j = mid a b (n + 1) j := by
  obtain ⟨_, _, _, u3, u4, u5⟩ := row_word ha (r := n + 1) (by omega) (by omega)
  obtain ⟨_, _, _, w3, w4, w5⟩ := row_word hb (r := n + 1) (by omega) (by omega)
  rw [h] at u3 u4 u5
  have hj' : j = 0 ∨ j = 1 ∨ j = 2 ∨ j = 3 ∨ j = 4 ∨ j = 5 ∨ j = 6 ∨ j = 7 ∨ j = 8 ∨ j = 9 ∨ j = 10 ∨ j = 11 ∨ j = 12 ∨ j = 13 ∨ j = 14 ∨ j = 15 ∨ j = 16 ∨ j = 17 ∨ j = 18 ∨ j = 19 ∨ j = 20 ∨ j = 21 ∨ j = 22 ∨ j = 23 ∨ j = 24 ∨ j = 25 := by omega
  have hn' : n = 0 ∨ n = 1 ∨ n = 2 ∨ n = 3 ∨ n = 4 ∨ n = 5 ∨ n = 6 ∨ n = 7 ∨ n = 8 ∨ n = 9 ∨ n = 10 ∨ n = 11 ∨ n = 12 := by omega
  rcases hn' with rfl | rfl | rfl | rfl | rfl | rfl | rfl | rfl | rfl | rfl | rfl | rfl | rfl
  · simp only [roN, loN, Nat.reduceAdd] at u3 w3 u4 w4
    have er := u3.symm.trans w3
    have el := (u4 (by decide)).symm.trans (w4 (by decide))
    have es := (u5 (by decide)).symm.trans (w5 (by decide))
    simp only [soN, sgnV, Nat.reduceAdd, decide_eq_decide] at es
    have gb := hb 18 (by decide)
    have ga := ha 18 (by decide)
    simp only [lim] at gb ga
    rcases hj' with rfl | rfl | rfl | rfl | rfl | rfl | rfl | rfl | rfl | rfl | rfl | rfl | rfl | rfl | rfl | rfl | rfl | rfl | rfl | rfl | rfl | rfl | rfl | rfl | rfl | rfl
    · rfl
    · rfl
    · rfl
    · rfl
    · rfl
    · rfl
    · rfl
    · rfl
    · rfl
    · rfl
    · rfl
    · rfl
    · rfl
    · rfl
    · rfl
    · rfl
    · rfl
    · rfl
    · simp only [mid]
      repeat (first | (split <;> simp_all <;> omega) | omega)
    · rfl
    · rfl
    · rfl
    · exact el
    · exact er
    · rfl
    · rfl
  · simp only [roN, loN, Nat.reduceAdd] at u3 w3 u4 w4
    have er := u3.symm.trans w3
    have el := (u4 (by decide)).symm.trans (w4 (by decide))
    have es := (u5 (by decide)).symm.trans (w5 (by decide))
    simp only [soN, sgnV, Nat.reduceAdd, decide_eq_decide] at es
    have gb := hb 18 (by decide)
    have ga := ha 18 (by decide)
    simp only [lim] at gb ga
    rcases hj' with rfl | rfl | rfl | rfl | rfl | rfl | rfl | rfl | rfl | rfl | rfl | rfl | rfl | rfl | rfl | rfl | rfl | rfl | rfl | rfl | rfl | rfl | rfl | rfl | rfl | rfl
    · rfl
    · rfl
    · rfl
    · rfl
    · rfl
    · rfl
    · rfl
    · rfl
    · rfl
    · rfl
    · rfl
    · rfl
    · rfl
    · rfl
    · rfl
    · rfl
    · rfl
    · rfl
    · simp only [mid]
      repeat (first | (split <;> simp_all <;> omega) | omega)
    · rfl
    · exact el
    · exact er
    · rfl
    · rfl
    · rfl
    · rfl
  · simp only [roN, loN, Nat.reduceAdd] at u3 w3 u4 w4
    have er := u3.symm.trans w3
    have el := (u4 (by decide)).symm.trans (w4 (by decide))
    rcases hj' with rfl | rfl | rfl | rfl | rfl | rfl | rfl | rfl | rfl | rfl | rfl | rfl | rfl | rfl | rfl | rfl | rfl | rfl | rfl | rfl | rfl | rfl | rfl | rfl | rfl | rfl
    · rfl
    · rfl
    · rfl
    · rfl
    · rfl
    · rfl
    · rfl
    · rfl
    · rfl
    · rfl
    · rfl
    · rfl
    · rfl
    · rfl
    · rfl
    · rfl
    · rfl
    · exact el
    · rfl
    · exact er
    · rfl
    · rfl
    · rfl
    · rfl
    · rfl
    · rfl
  · simp only [roN, loN, Nat.reduceAdd] at u3 w3 u4 w4
    have er := u3.symm.trans w3
    have el := (u4 (by decide)).symm.trans (w4 (by decide))
    have es := (u5 (by decide)).symm.trans (w5 (by decide))
    simp only [soN, sgnV, Nat.reduceAdd, decide_eq_decide] at es
    have gb := hb 12 (by decide)
    have ga := ha 12 (by decide)
    simp only [lim] at gb ga
    rcases hj' with rfl | rfl | rfl | rfl | rfl | rfl | rfl | rfl | rfl | rfl | rfl | rfl | rfl | rfl | rfl | rfl | rfl | rfl | rfl | rfl | rfl | rfl | rfl | rfl | rfl | rfl
    · rfl
    · rfl
    · rfl
    · rfl
    · rfl
    · rfl
    · rfl
    · rfl
    · rfl
    · rfl
    · rfl
    · rfl
    · simp only [mid]
      repeat (first | (split <;> simp_all <;> omega) | omega)
    · rfl
    · rfl
    · exact el
    · exact er
    · rfl
    · rfl
    · rfl
    · rfl
    · rfl
    · rfl
    · rfl
    · rfl
    · rfl
  · simp only [roN, loN, Nat.reduceAdd] at u3 w3 u4 w4
    have er := u3.symm.trans w3
    have el := (u4 (by decide)).symm.trans (w4 (by decide))
    have es := (u5 (by decide)).symm.trans (w5 (by decide))
    simp only [soN, sgnV, Nat.reduceAdd, decide_eq_decide] at es
    have gb := hb 12 (by decide)
    have ga := ha 12 (by decide)
    simp only [lim] at gb ga
    rcases hj' with rfl | rfl | rfl | rfl | rfl | rfl | rfl | rfl | rfl | rfl | rfl | rfl | rfl | rfl | rfl | rfl | rfl | rfl | rfl | rfl | rfl | rfl | rfl | rfl | rfl | rfl
    · rfl
    · rfl
    · rfl
    · rfl
    · rfl
    · rfl
    · rfl
    · rfl
    · rfl
    · rfl
    · rfl
    · rfl
    · simp only [mid]
      repeat (first | (split <;> simp_all <;> omega) | omega)
    · exact el
    · exact er
    · rfl
    · rfl
    · rfl
    · rfl
    · rfl
    · rfl
    · rfl
    · rfl
    · rfl
    · rfl
    · rfl
  · simp only [roN, loN, Nat.reduceAdd] at u3 w3 u4 w4
    have er := u3.symm.trans w3
    have el := (u4 (by decide)).symm.trans (w4 (by decide))
    have es := (u5 (by decide)).symm.trans (w5 (by decide))
    simp only [soN, sgnV, Nat.reduceAdd, decide_eq_decide] at es
    have gb := hb 6 (by decide)
    have ga := ha 6 (by decide)
    simp only [lim] at gb ga
    rcases hj' with rfl | rfl | rfl | rfl | rfl | rfl | rfl | rfl | rfl | rfl | rfl | rfl | rfl | rfl | rfl | rfl | rfl | rfl | rfl | rfl | rfl | rfl | rfl | rfl | rfl | rfl
    · rfl
    · rfl
    · rfl
    · rfl
    · rfl
    · rfl
    · simp only [mid]
      repeat (first | (split <;> simp_all <;> omega) | omega)
    · rfl
    · rfl
    · rfl
    · exact el
    · exact er
    · rfl
    · rfl
    · rfl
    · rfl
    · rfl
    · rfl
    · rfl
    · rfl
    · rfl
    · rfl
    · rfl
    · rfl
    · rfl
    · rfl
  · simp only [roN, loN, Nat.reduceAdd] at u3 w3 u4 w4
    have er := u3.symm.trans w3
    have el := (u4 (by decide)).symm.trans (w4 (by decide))
    have es := (u5 (by decide)).symm.trans (w5 (by decide))
    simp only [soN, sgnV, Nat.reduceAdd, decide_eq_decide] at es
    have gb := hb 6 (by decide)
    have ga := ha 6 (by decide)
    simp only [lim] at gb ga
    rcases hj' with rfl | rfl | rfl | rfl | rfl | rfl | rfl | rfl | rfl | rfl | rfl | rfl | rfl | rfl | rfl | rfl | rfl | rfl | rfl | rfl | rfl | rfl | rfl | rfl | rfl | rfl
    · rfl
    · rfl
    · rfl
    · rfl
    · rfl
    · rfl
    · simp only [mid]
      repeat (first | (split <;> simp_all <;> omega) | omega)
    · rfl
    · exact el
    · exact er
    · rfl
    · rfl
    · rfl
    · rfl
    · rfl
    · rfl
    · rfl
    · rfl
    · rfl
    · rfl
    · rfl
    · rfl
    · rfl
    · rfl
    · rfl
    · rfl
  · simp only [roN, loN, Nat.reduceAdd] at u3 w3 u4 w4
    have er := u3.symm.trans w3
    rcases hj' with rfl | rfl | rfl | rfl | rfl | rfl | rfl | rfl | rfl | rfl | rfl | rfl | rfl | rfl | rfl | rfl | rfl | rfl | rfl | rfl | rfl | rfl | rfl | rfl | rfl | rfl
    · rfl
    · rfl
    · rfl
    · rfl
    · rfl
    · rfl
    · rfl
    · exact er
    · rfl
    · rfl
    · rfl
    · rfl
    · rfl
    · rfl
    · rfl
    · rfl
    · rfl
    · rfl
    · rfl
    · rfl
    · rfl
    · rfl
    · rfl
    · rfl
    · rfl
    · rfl
  · simp only [roN, loN, Nat.reduceAdd] at u3 w3 u4 w4
    have er := u3.symm.trans w3
    have el := (u4 (by decide)).symm.trans (w4 (by decide))
    rcases hj' with rfl | rfl | rfl | rfl | rfl | rfl | rfl | rfl | rfl | rfl | rfl | rfl | rfl | rfl | rfl | rfl | rfl | rfl | rfl | rfl | rfl | rfl | rfl | rfl | rfl | rfl
    · rfl
    · rfl
    · rfl
    · rfl
    · exact el
    · exact er
    · rfl
    · rfl
    · rfl
    · rfl
    · rfl
    · rfl
    · rfl
    · rfl
    · rfl
    · rfl
    · rfl
    · rfl
    · rfl
    · rfl
    · rfl
    · rfl
    · rfl
    · rfl
    · rfl
    · rfl
  · simp only [roN, loN, Nat.reduceAdd] at u3 w3 u4 w4
    have er := u3.symm.trans w3
    have el := (u4 (by decide)).symm.trans (w4 (by decide))
    rcases hj' with rfl | rfl | rfl | rfl | rfl | rfl | rfl | rfl | rfl | rfl | rfl | rfl | rfl | rfl | rfl | rfl | rfl | rfl | rfl | rfl | rfl | rfl | rfl | rfl | rfl | rfl
    · rfl
    · rfl
    · exact el
    · exact er
    · rfl
    · rfl
    · rfl
    · rfl
    · rfl
    · rfl
    · rfl
    · rfl
    · rfl
    · rfl
    · rfl
    · rfl
    · rfl
    · rfl
    · rfl
    · rfl
    · rfl
    · rfl
    · rfl
    · rfl
    · rfl
    · rfl
  · simp only [roN, loN, Nat.reduceAdd] at u3 w3 u4 w4
    have er := u3.symm.trans w3
    have el := (u4 (by decide)).symm.trans (w4 (by decide))
    rcases hj' with rfl | rfl | rfl | rfl | rfl | rfl | rfl | rfl | rfl | rfl | rfl | rfl | rfl | rfl | rfl | rfl | rfl | rfl | rfl | rfl | rfl | rfl | rfl | rfl | rfl | rfl
    · exact el
    · exact er
    · rfl
    · rfl
    · rfl
    · rfl
    · rfl
    · rfl
    · rfl
    · rfl
    · rfl
    · rfl
    · rfl
    · rfl
    · rfl
    · rfl
    · rfl
    · rfl
    · rfl
    · rfl
    · rfl
    · rfl
    · rfl
    · rfl
    · rfl
    · rfl
  · simp only [roN, loN, Nat.reduceAdd] at u3 w3 u4 w4
    have er := u3.symm.trans w3
    rcases hj' with rfl | rfl | rfl | rfl | rfl | rfl | rfl | rfl | rfl | rfl | rfl | rfl | rfl | rfl | rfl | rfl | rfl | rfl | rfl | rfl | rfl | rfl | rfl | rfl | rfl | rfl
    · rfl
    · rfl
    · rfl
    · rfl
    · rfl
    · rfl
    · rfl
    · rfl
    · rfl
    · rfl
    · rfl
    · rfl
    · rfl
    · rfl
    · rfl
    · rfl
    · rfl
    · rfl
    · rfl
    · rfl
    · rfl
    · rfl
    · rfl
    · rfl
    · exact er
    · rfl
  · simp only [roN, loN, Nat.reduceAdd] at u3 w3 u4 w4
    have er := u3.symm.trans w3
    rcases hj' with rfl | rfl | rfl | rfl | rfl | rfl | rfl | rfl | rfl | rfl | rfl | rfl | rfl | rfl | rfl | rfl | rfl | rfl | rfl | rfl | rfl | rfl | rfl | rfl | rfl | rfl
    · rfl
    · rfl
    · rfl
    · rfl
    · rfl
    · rfl
    · rfl
    · rfl
    · rfl
    · rfl
    · rfl
    · rfl
    · rfl
    · rfl
    · rfl
    · rfl
    · rfl
    · rfl
    · rfl
    · rfl
    · rfl
    · rfl
    · rfl
    · rfl
    · rfl
    · exact er
theorem mid_zero {a b : Nat → Int} {j : Nat} (hj : j < 26) : mid a b 0 j = a j := by
  have hj' : j = 0 ∨ j = 1 ∨ j = 2 ∨ j = 3 ∨ j = 4 ∨ j = 5 ∨ j = 6 ∨ j = 7 ∨ j = 8 ∨ j = 9 ∨ j = 10 ∨ j = 11 ∨ j = 12 ∨ j = 13 ∨ j = 14 ∨ j = 15 ∨ j = 16 ∨ j = 17 ∨ j = 18 ∨ j = 19 ∨ j = 20 ∨ j = 21 ∨ j = 22 ∨ j = 23 ∨ j = 24 ∨ j = 25 := by omega
  rcases hj' with rfl | rfl | rfl | rfl | rfl | rfl | rfl | rfl | rfl | rfl | rfl | rfl | rfl | rfl | rfl | rfl | rfl | rfl | rfl | rfl | rfl | rfl | rfl | rfl | rfl | rfl <;> rfl
theorem mid_all {a b : Nat → Int} {j : Nat} (hj : j < 26) : mid a b 13 j = b j := by
  have hj' : j = 0 ∨ j = 1 ∨ j = 2 ∨ j = 3 ∨ j = 4 ∨ j = 5 ∨ j = 6 ∨ j = 7 ∨ j = 8 ∨ j = 9 ∨ j = 10 ∨ j = 11 ∨ j = 12 ∨ j = 13 ∨ j = 14 ∨ j = 15 ∨ j = 16 ∨ j = 17 ∨ j = 18 ∨ j = 19 ∨ j = 20 ∨ j = 21 ∨ j = 22 ∨ j = 23 ∨ j = 24 ∨ j = 25 := by omega
  rcases hj' with rfl | rfl | rfl | rfl | rfl | rfl | rfl | rfl | rfl | rfl | rfl | rfl | rfl | rfl | rfl | rfl | rfl | rfl | rfl | rfl | rfl | rfl | rfl | rfl | rfl | rfl <;> rfl
theorem words_fold {d a : Nat → Int} (hd : Good d) (ha : Good a) : ∀ n, n ≤ 13 → ∀ j, j < 26 → foldD d (wordsN a 13) n j = mid d a n j
  | 0, _, j, hj => (mid_zero hj).symm
  | n + 1, hn, j, hj => by
    have ih := words_fold hd ha n (by omega)
    have g : (wordsN a 13).getD n 0 = rowW a (n + 1) := by rw [List.getD_eq_getElem?_getD, wordsN_get a (by omega)]; rfl
    show apD (foldD d (wordsN a 13) n) ((wordsN a 13).getD n 0) j = _
    rw [g]
    exact mid_next hd ha (by omega) ih hj
theorem foldD_app (d : Nat → Int) (l m : List Int) : ∀ n, n ≤ l.length → foldD d (l ++ m) n = foldD d l n
  | 0, _ => rfl
  | n + 1, h => by
    show apD (foldD d (l ++ m) n) ((l ++ m).getD n 0) = apD (foldD d l n) (l.getD n 0)
    rw [foldD_app d l m n (by omega), List.getD_eq_getElem?_getD, List.getD_eq_getElem?_getD, List.getElem?_append_left (by omega)]
theorem chg_fold {a b : Nat → Int} (ha : Good a) (hb : Good b) : ∀ n, n ≤ 13 → ∀ j, j < 26 → foldD a (chgN a b n) (chgN a b n).length j = mid a b n j
  | 0, _, j, hj => (mid_zero hj).symm
  | n + 1, hn, j, hj => by
    have ih := chg_fold ha hb n (by omega)
    unfold chgN
    split
    · rename_i h
      rw [ih j hj]
      exact mid_skip ha hb (by omega) h hj
    · rw [List.length_append]
      show apD (foldD a (chgN a b n ++ [rowW b (n + 1)]) (chgN a b n).length) ((chgN a b n ++ [rowW b (n + 1)]).getD (chgN a b n).length 0) j = _
      rw [foldD_app _ _ _ _ (Nat.le_refl _)]
      have g : (chgN a b n ++ [rowW b (n + 1)]).getD (chgN a b n).length 0 = rowW b (n + 1) := by
        rw [List.getD_eq_getElem?_getD, List.getElem?_append_right (Nat.le_refl _)]; simp
      rw [g]
      exact mid_next ha hb (by omega) ih hj
theorem chg_mem {a b : Nat → Int} : ∀ {n : Nat}, n ≤ 13 → ∀ x ∈ chgN a b n, ∃ r, 1 ≤ r ∧ r ≤ 13 ∧ x = rowW b r
  | 0, _, x, hx => by cases hx
  | n + 1, hn, x, hx => by
    unfold chgN at hx
    split at hx
    · exact chg_mem (by omega) x hx
    · rcases List.mem_append.1 hx with h | h
      · exact chg_mem (by omega) x h
      · simp at h
        exact ⟨n + 1, by omega, by omega, h⟩
theorem chg_word {a b : Nat → Int} (hb : Good b) {k : Nat} (hk : k < (chgN a b 13).length) : (0 ≤ (chgN a b 13).getD k 0 ∧ (chgN a b 13).getD k 0 < 65536) ∧ apE ((chgN a b 13).getD k 0) = 0 := by
  have hm : (chgN a b 13).getD k 0 ∈ chgN a b 13 := by
    rw [List.getD_eq_getElem?_getD, List.getElem?_eq_getElem hk]
    exact List.getElem_mem hk
  obtain ⟨r, h1, h2, e⟩ := chg_mem (Nat.le_refl _) _ hm
  rw [e]
  obtain ⟨w0, _, w2, _⟩ := row_word hb h1 h2
  exact ⟨w0, w2⟩
theorem rowW_congr {a b : Nat → Int} (h : ∀ j, j < 26 → a j = b j) {r : Nat} (h1 : 1 ≤ r) (h13 : r ≤ 13) : rowW a r = rowW b r := by
  have h16 : r = 1 ∨ r = 2 ∨ r = 3 ∨ r = 4 ∨ r = 5 ∨ r = 6 ∨ r = 7 ∨ r = 8 ∨ r = 9 ∨ r = 10 ∨ r = 11 ∨ r = 12 ∨ r = 13 := by omega
  rcases h16 with rfl | rfl | rfl | rfl | rfl | rfl | rfl | rfl | rfl | rfl | rfl | rfl | rfl
  · show ((2048 * 1 + (if a 18 = 2 then 1024 else 0) + (32 * cN (a 22) + cN (a 23)) : Nat) : Int) = ((2048 * 1 + (if b 18 = 2 then 1024 else 0) + (32 * cN (b 22) + cN (b 23)) : Nat) : Int)
    rw [h 22 (by decide), h 23 (by decide), h 18 (by decide)]
  · show ((2048 * 2 + (if a 18 = 1 then 1024 else 0) + (32 * cN (a 20) + cN (a 21)) : Nat) : Int) = ((2048 * 2 + (if b 18 = 1 then 1024 else 0) + (32 * cN (b 20) + cN (b 21)) : Nat) : Int)
    rw [h 20 (by decide), h 21 (by decide), h 18 (by decide)]
  · show ((2048 * 3 + 0 + (32 * cN (a 17) + cN (a 19)) : Nat) : Int) = ((2048 * 3 + 0 + (32 * cN (b 17) + cN (b 19)) : Nat) : Int)
    rw [h 17 (by decide), h 19 (by decide)]
  · show ((2048 * 4 + (if a 12 = 2 then 1024 else 0) + (32 * cN (a 15) + cN (a 16)) : Nat) : Int) = ((2048 * 4 + (if b 12 = 2 then 1024 else 0) + (32 * cN (b 15) + cN (b 16)) : Nat) : Int)
    rw [h 15 (by decide), h 16 (by decide), h 12 (by decide)]
  · show ((2048 * 5 + (if a 12 = 1 then 1024 else 0) + (32 * cN (a 13) + cN (a 14)) : Nat) : Int) = ((2048 * 5 + (if b 12 = 1 then 1024 else 0) + (32 * cN (b 13) + cN (b 14)) : Nat) : Int)
    rw [h 13 (by decide), h 14 (by decide), h 12 (by decide)]
  · show ((2048 * 6 + (if a 6 = 2 then 1024 else 0) + (32 * cN (a 10) + cN (a 11)) : Nat) : Int) = ((2048 * 6 + (if b 6 = 2 then 1024 else 0) + (32 * cN (b 10) + cN (b 11)) : Nat) : Int)
    rw [h 10 (by decide), h 11 (by decide), h 6 (by decide)]
  · show ((2048 * 7 + (if a 6 = 1 then 1024 else 0) + (32 * cN (a 8) + cN (a 9)) : Nat) : Int) = ((2048 * 7 + (if b 6 = 1 then 1024 else 0) + (32 * cN (b 8) + cN (b 9)) : Nat) : Int)
    rw [h 8 (by decide), h 9 (by decide), h 6 (by decide)]
  · show ((2048 * 8 + 0 + (32 * cN 10 + cN (a 7)) : Nat) : Int) = ((2048 * 8 + 0 + (32 * cN 10 + cN (b 7)) : Nat) : Int)
    rw [h 7 (by decide)]
  · show ((2048 * 9 + 0 + (32 * cN (a 4) + cN (a 5)) : Nat) : Int) = ((2048 * 9 + 0 + (32 * cN (b 4) + cN (b 5)) : Nat) : Int)
    rw [h 4 (by decide), h 5 (by decide)]
  · show ((2048 * 10 + 0 + (32 * cN (a 2) + cN (a 3)) : Nat) : Int) = ((2048 * 10 + 0 + (32 * cN (b 2) + cN (b 3)) : Nat) : Int)
    rw [h 2 (by decide), h 3 (by decide)]
  · show ((2048 * 11 + 0 + (32 * cN (a 0) + cN (a 1)) : Nat) : Int) = ((2048 * 11 + 0 + (32 * cN (b 0) + cN (b 1)) : Nat) : Int)
    rw [h 0 (by decide), h 1 (by decide)]
  · show 24576 + a 24 = 24576 + b 24
    rw [h 24 (by decide)]
  · show 26624 + a 25 = 26624 + b 25
    rw [h 25 (by decide)]
theorem chg_nil {a b : Nat → Int} (h : ∀ j, j < 26 → a j = b j) : ∀ n, n ≤ 13 → chgN a b n = []
  | 0, _ => rfl
  | n + 1, hn => by
    unfold chgN
    rw [if_pos (rowW_congr h (by omega) (by omega)), chg_nil h n (by omega)]
set_option maxHeartbeats 4000000 in
theorem shows_law (a0 : Nat → Int) (ha0 : HasL kD a0) (b0 : Nat → Int) (hb0 : HasL kD b0) : callP Try.prog 6 [.agg (aggL a0 kD 0), .agg (aggL b0 kD 0)] (· = .bool true) := by
  have ga := fit_good (kd_wd ha0)
  have gb := fit_good (kd_wd hb0)
  show callP Try.prog 6 [dispA a0, dispA b0] (· = .bool true)
  have cfa := fit_c (d := a0)
  have cfb := fit_c (d := b0)
  generalize fitD a0 = a at ga cfa
  generalize fitD b0 = b at gb cfb
  have cw := words_c ga
  have cs := show_ok (l := wordsN a 13) (fun x hx => by
    obtain ⟨i, hi, e⟩ := List.getElem_of_mem hx
    rw [wordsN_len] at hi
    have g := wordsN_get a hi
    rw [List.getElem?_eq_getElem (by rw [wordsN_len]; exact hi)] at g
    have : x = rowW a (i + 1) := by rw [← e]; exact Option.some.inj g
    rw [this]
    exact (row_word ga (by omega) (by omega)).1) (by rw [wordsN_len]; decide) (fun j hj => by
    rw [wordsN_len] at hj
    rw [List.getD_eq_getElem?_getD, wordsN_get a hj]
    exact (row_word ga (by omega) (by omega)).2.2.1)
  have hfold := words_fold blank_good ga 13 (Nat.le_refl _)
  have hlen := wordsN_len a 13
  rw [hlen, disp_congr (fun j hj => (hfold j hj).trans (mid_all hj))] at cs
  have cs : callP Try.prog 18 [ints .u16 (wordsN a 13)] (· = .tuple [dispA a, .int .i64 0, .int .i64 0]) := cs
  generalize wordsN a 13 = A at hlen cw cs
  have cmay := may_c ga.wd
  rw [ga.may] at cmay
  have cc := changed_c ga gb
  have hcw := fun k (hk : k < (chgN a b 13).length) => chg_word gb hk
  have hcf := chg_fold ga gb 13 (Nat.le_refl _)
  have hcl := chgN_len a b 13
  have hcn := fun h => chg_nil (a := a) (b := b) h 13 (Nat.le_refl _)
  generalize chgN a b 13 = C at cc hcw hcf hcl hcn
  refine callE_def env (fn := Try.f6) rfl (by decide) rfl ?_
  refine draw_tree (picks [0, 1, 2, 3, 4, 5] .done) (by decide +kernel) ?_
  refine ⟨_, ⟨cfa, rfl⟩, ?_⟩
  refine ⟨_, ⟨cfb, rfl⟩, ?_⟩
  refine callT_E cw rfl ?_
  refine callT_E cs rfl ?_
  refine callT_E cmay rfl ?_
  repeat (first | refine branch_true ?_ | refine branch_false ?_ | (refine branch_f' ?_ ?_; focus (simp; done)) | (refine branch_t' ?_ ?_; focus (simp; done)))
  refine callT_E cw rfl ?_
  repeat (first | refine branch_true ?_ | refine branch_false ?_ | (refine branch_f' ?_ ?_; focus (simp; done)) | (refine branch_t' ?_ ?_; focus (simp; done)))
  refine branch_f' (by rw [hlen]; rfl) ?_
  refine callT_E cc rfl ?_
  refine loop_weak (fun i : Nat => slots 81 [(2, .ptr ⟨0, 0, 0⟩), (3, .ptr ⟨1, 0, 0⟩), (5, .ptr ⟨2, 0, 0⟩), (8, ints .u16 C), (9, .int .i64 i)])
    (fun i => [.cells (dcells a), .cells (dcells b), .cells (dcells (foldD a C i))])
    (fun i => i ≤ C.length) (fun i => C.length - i) 0 (Nat.zero_le _) (weak_keep (keep 81 [2, 3, 5, 8, 9]) [0, 1, 2] rfl rfl rfl) ?_
  intro i hi
  have ei : IntKind.i64.wrap ((i : Int) + 1) = ((i + 1 : Nat) : Int) := by rw [wi (by omega) (by omega)]; rfl
  have et : ((i : Int)).toNat = i := Int.toNat_natCast i
  apply branch_intro <;> intro h
  · have h : i < C.length := by simp at h; omega
    have hg := fold_good ga (l := C) i hi fun j hj => (hcw j (by omega)).2
    obtain ⟨w0, w2⟩ := hcw i h
    have ca := apply_c hg.wd hg.may w0.1 w0.2
    rw [w2] at ca
    refine draw_tree (picks [0, 1, 2, 3, 4, 5, 6, 7, 8, 9, 10, 11] .done) (by decide +kernel) ?_
    apply need_intro
    · omega
    refine ⟨_, ⟨(congrArg (fun n => callP Try.prog 10 [dispA (foldD a C i), .int .u16 (C.getD n 0)] (· = _)) et).mpr ca, rfl⟩, ?_⟩
    repeat (first | refine branch_t' (by decide +kernel) ?_ | refine branch_f' (by decide +kernel) ?_)
    refine ⟨i + 1, h, by omega, weak_keep (keep 81 [2, 3, 5, 8, 9]) [0, 1, 2] rfl ?_ rfl⟩
    show [_, _, _, _, _, _, _, _, _, _, _, _, _, _, _, _, _, _, _, _, _, _, _, _, _, _, _, _, _, _, _, _, _, _, _, _, _, _, _, _, _, _, _, _, _, _, _, _, _, _, _, _, _, _, _, _, _, _, _, _, _, _, _, _, _, _, _, _, _, _, _, _, _, _, _, _, _, _, _, _, _] = _
    rw [ei]
    rfl
  · have : i = C.length := by simp at h; omega
    subst this
    have e : ∀ j, j < 26 → foldD a C C.length j = b j := fun j hj => (hcf j hj).trans (mid_all hj)
    have hC0 : C.length = 0 → ∀ j, j < 26 → a j = b j := fun h0 j hj => by
      have := e j hj
      rw [h0] at this
      exact this
    generalize foldD a C C.length = X at e
    refine branch_t' (by simp only [e 0 (by decide), e 1 (by decide), e 2 (by decide), e 3 (by decide), e 4 (by decide), e 5 (by decide), e 6 (by decide), e 7 (by decide), e 8 (by decide), e 9 (by decide), e 10 (by decide), e 11 (by decide), e 12 (by decide), e 13 (by decide), e 14 (by decide), e 15 (by decide), e 16 (by decide), e 17 (by decide), e 18 (by decide), e 19 (by decide), e 20 (by decide), e 21 (by decide), e 22 (by decide), e 23 (by decide), e 24 (by decide), e 25 (by decide), beq_self_eq_true, Bool.and_true]) ?_
    repeat (first | refine branch_true ?_ | refine branch_false ?_ | refine branch_f' (bne_self_eq_false _) ?_ | refine branch_t' (beq_self_eq_true _) ?_ | refine branch_t' (decide_eq_true rfl) ?_)
    by_cases hE : ∀ j, j < 26 → a j = b j
    · have hC := hcn hE
      refine branch_t' (by rw [hC]; simp only [hE 0 (by decide), hE 1 (by decide), hE 2 (by decide), hE 3 (by decide), hE 4 (by decide), hE 5 (by decide), hE 6 (by decide), hE 7 (by decide), hE 8 (by decide), hE 9 (by decide), hE 10 (by decide), hE 11 (by decide), hE 12 (by decide), hE 13 (by decide), hE 14 (by decide), hE 15 (by decide), hE 16 (by decide), hE 17 (by decide), hE 18 (by decide), hE 19 (by decide), hE 20 (by decide), hE 21 (by decide), hE 22 (by decide), hE 23 (by decide), hE 24 (by decide), hE 25 (by decide), beq_self_eq_true, Bool.and_true]; rfl) ?_
      repeat (first | refine branch_true ?_ | refine branch_false ?_ | refine branch_f' (bne_self_eq_false _) ?_ | refine branch_t' (beq_self_eq_true _) ?_ | refine branch_t' (decide_eq_true rfl) ?_)
      refine callT_E works_c rfl ?_
      repeat (first | refine branch_true ?_ | refine branch_false ?_ | refine branch_f' (bne_self_eq_false _) ?_ | refine branch_t' (beq_self_eq_true _) ?_ | refine branch_t' (decide_eq_true rfl) ?_)
      show Eqv _ _
      exact .up (.up (.refl _))
    · have hC : C.length ≠ 0 := fun h0 => hE (hC0 h0)
      have h1 : ((C.length : Int) == 0) = false := by rw [beq_eq_false_iff_ne]; omega
      refine branch_t' (by
        rw [h1, beq_iff_eq]
        refine (Bool.eq_false_iff.2 fun hb => hE fun j hj => ?_).symm
        simp only [Bool.and_eq_true, beq_iff_eq] at hb
        have hj' : j = 0 ∨ j = 1 ∨ j = 2 ∨ j = 3 ∨ j = 4 ∨ j = 5 ∨ j = 6 ∨ j = 7 ∨ j = 8 ∨ j = 9 ∨ j = 10 ∨ j = 11 ∨ j = 12 ∨ j = 13 ∨ j = 14 ∨ j = 15 ∨ j = 16 ∨ j = 17 ∨ j = 18 ∨ j = 19 ∨ j = 20 ∨ j = 21 ∨ j = 22 ∨ j = 23 ∨ j = 24 ∨ j = 25 := by omega
        rcases hj' with rfl | rfl | rfl | rfl | rfl | rfl | rfl | rfl | rfl | rfl | rfl | rfl | rfl | rfl | rfl | rfl | rfl | rfl | rfl | rfl | rfl | rfl | rfl | rfl | rfl | rfl <;> simp [hb]) ?_
      repeat (first | refine branch_true ?_ | refine branch_false ?_ | refine branch_f' (bne_self_eq_false _) ?_ | refine branch_t' (beq_self_eq_true _) ?_ | refine branch_t' (decide_eq_true rfl) ?_)
      refine callT_E works_c rfl ?_
      repeat (first | refine branch_true ?_ | refine branch_false ?_ | refine branch_f' (bne_self_eq_false _) ?_ | refine branch_t' (beq_self_eq_true _) ?_ | refine branch_t' (decide_eq_true rfl) ?_)
      show Eqv _ _
      exact .up (.up (.refl _))
end Go.Proofs
