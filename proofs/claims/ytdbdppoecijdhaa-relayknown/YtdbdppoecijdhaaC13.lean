/- Chapter 27: the law of rows. -/
import Derived.Test.YtdbdppoecijdhaaC12
import Derived.Test.YtdbdppoecijdhaaC11
set_option linter.unusedVariables false
set_option linter.unusedSimpArgs false
/-! Cd. -/
namespace Go.Proofs
open Go.E
set_option maxRecDepth 8000

theorem rcode_bad {x : Int} (hx : 11 ≤ x) : callP Try.prog 24 [.int .u8 x] (· = .tuple [.int .u8 0, .int .i64 3]) := by
  refine callE_def env (fn := Try.f24) rfl (by decide) rfl ?_
  repeat refine stm ?_
  show Eqv _ _
  exact .up (.up (.refl _))
theorem code_any {x : Int} (h0 : 0 ≤ x) : ∃ a e, callP Try.prog 16 [.int .u8 x] (· = .tuple [.int .u8 a, .int .i64 e]) ∧ callP Try.prog 24 [.int .u8 x] (· = .tuple [.int .u8 a, .int .i64 e]) := by
  by_cases h : x < 11
  · obtain ⟨n, rfl⟩ := Int.eq_ofNat_of_zero_le h0
    exact ⟨_, _, code_c (by omega), rcode_c (by omega)⟩
  · exact ⟨_, _, code_bad (by omega), rcode_bad (by omega)⟩
theorem rrow_bad2 {d : Nat → Int} (hm : mayB d = true) {k : Int} (hk : k < 1 ∨ 13 < k) : callP Try.prog 29 [dispA d, .int .i64 k] (· = .tuple [.int .u16 0, .int .i64 3]) := by
  have c := rmay_c (d := d)
  rw [hm] at c
  refine callE_def env (fn := Try.f29) rfl (by decide) rfl ?_
  repeat refine stm ?_
  refine callT_E c rfl ?_
  repeat refine stb ?_
  apply branch_intro <;> intro h1
  · repeat refine stb ?_
    show Eqv _ _
    exact .up (.up (.refl _))
  · repeat refine stb ?_
    have : 13 < k := by simp at h1; omega
    refine branch_t' (decide_eq_true this) ?_
    show Eqv _ _
    exact .up (.up (.refl _))
theorem row_any {d : Nat → Int} (hd : WD d) (k : Int) : ∃ a e, callP Try.prog 12 [dispA d, .int .i64 k] (· = .tuple [.int .u16 a, .int .i64 e]) ∧ callP Try.prog 29 [dispA d, .int .i64 k] (· = .tuple [.int .u16 a, .int .i64 e]) := by
  cases hm : mayB d with
  | false => exact ⟨_, _, row_bad1 hd hm k, rrow_bad1 hm k⟩
  | true =>
    by_cases hk : k < 1 ∨ 13 < k
    · exact ⟨_, _, row_bad2 hd hm hk, rrow_bad2 hm hk⟩
    · obtain ⟨n, rfl⟩ := Int.eq_ofNat_of_zero_le (show 0 ≤ k by omega)
      exact ⟨_, _, row_c hd hm (n := n) (by omega) (by omega), rrow_c (good_of hd hm) (n := n) (by omega) (by omega)⟩
theorem rwords_bad {d : Nat → Int} (hm : mayB d = false) : callP Try.prog 30 [dispA d] (· = ints .u16 []) := by
  have ma := rmay_c (d := d)
  refine callE_def env (fn := Try.f30) rfl (by decide) rfl ?_
  refine loop_weak (fun _ : Nat => slots 26 [(1, .ptr ⟨0, 0, 0⟩), (3, .nilslice), (4, .int .i64 1)])
    (fun i => [.cells (dcells d)])
    (fun i => i ≤ 13) (fun i => 13 - i) 0 (Nat.zero_le _) (weak_keep (keep 26 [1, 3, 4]) [0] rfl rfl rfl) ?_
  intro i hi
  refine branch_true ?_
  repeat refine stb ?_
  refine callT_E ma rfl ?_
  rw [hm]
  repeat refine stb ?_
  show Eqv _ _
  exact nil_ints rfl
theorem rwords_c {d : Nat → Int} (hd : Good d) : callP Try.prog 30 [dispA d] (· = ints .u16 (wordsN d 13)) := by
  have ma := rmay_c (d := d)
  rw [hd.may] at ma
  refine callE_def env (fn := Try.f30) rfl (by decide) rfl ?_
  refine loop_weak (fun i : Nat => slots 26 [(1, .ptr ⟨0, 0, 0⟩), (3, .slice ⟨1, 0, 0⟩ i), (4, .int .i64 ((i + 1 : Nat) : Int))])
    (fun i => [.cells (dcells d), .ints .u16 (wordsN d i)])
    (fun i => i ≤ 13) (fun i => 13 - i) 0 (Nat.zero_le _) ?_ ?_
  · exact (weak_keep (keep 26 [1, 3, 4]) [0] rfl rfl rfl).trans (weak_nil 3 (.ints .u16 []) rfl rfl)
  intro i hi
  have ei : IntKind.i64.wrap (((i + 1 : Nat) : Int) + 1) = ((i + 1 + 1 : Nat) : Int) := by rw [wi (by omega) (by omega)]; rfl
  apply branch_intro <;> intro h
  · have h : i < 13 := by simp at h; omega
    repeat refine stb ?_
    refine callT_E ma rfl ?_
    repeat refine stb ?_
    refine callT_E (rrow_c hd (n := i + 1) (by omega) (by omega)) rfl ?_
    apply choice_l
    apply need_intro
    · show (i + 1) * 2 ≤ _
      omega
    apply need_intro
    · exact ⟨by rw [wordsN_len]; omega, fun j hj => by
        have : j = 0 := by omega
        subst this
        exact ⟨_, rfl⟩⟩
    refine ⟨i + 1, h, by omega, weak_keep (keep 26 [1, 3, 4]) [0, 1] rfl ?_ ?_⟩
    · show [_, _, _, _, _, _, _, _, _, _, _, _, _, _, _, _, _, _, _, _, _, _, _, _, _, _] = _
      rw [ei]
      rfl
    · show [_, Blk.ints .u16 (List.drop 0 (wordsN d i) ++ rowsInts .u16 1 (irow .u16 [rowW d (i + 1)]))] = _
      rw [snoc_row]
      rfl
  · have : i = 13 := by simp at h; omega
    subst this
    repeat refine stb ?_
    apply need_intro
    · show 0 + 13 ≤ (wordsN d 13).length
      rw [wordsN_len]
      omega
    show Eqv _ _
    exact eqv_part (wordsN_len d 13).symm (fun _ _ => rfl)
theorem words_both {d : Nat → Int} (hd : WD d) : ∃ l, l.length ≤ 13 ∧ callP Try.prog 23 [dispA d] (· = ints .u16 l) ∧ callP Try.prog 30 [dispA d] (· = ints .u16 l) := by
  cases hm : mayB d with
  | false => exact ⟨[], by decide, words_bad hd hm, rwords_bad hm⟩
  | true => exact ⟨_, by rw [wordsN_len]; decide, words_c (good_of hd hm), rwords_c (good_of hd hm)⟩
theorem text_both {d : Nat → Int} (hd : WD d) : ∃ s, callP Try.prog 31 [dispA d] (· = .str s) ∧ callP Try.prog 32 [dispA d] (· = .str s) := by
  cases hm : mayB d with
  | false => exact ⟨_, text_bad hd hm, rtext_bad hm⟩
  | true => exact ⟨_, text_c (good_of hd hm), rtext_c (good_of hd hm)⟩

set_option maxHeartbeats 1000000 in
theorem rows_law (d : Nat → Int) (hd : HasL kD d) (x : Int) (hx : 0 ≤ x ∧ x < 256) (k : Int) (hk : -9223372036854775808 ≤ k ∧ k ≤ 9223372036854775807) :
    callP Try.prog 7 [.agg (aggL d kD 0), .int .u8 x, .int .i64 k] (· = .bool true) := by
  have wd := kd_wd hd
  show callP Try.prog 7 [dispA d, .int .u8 x, .int .i64 k] (· = .bool true)
  obtain ⟨a, e, c1, c2⟩ := code_any hx.1
  obtain ⟨W, hW, w1, w2⟩ := words_both wd
  obtain ⟨s, t1, t2⟩ := text_both wd
  obtain ⟨A, E, R⟩ : ∃ (A E : Int → Int), ∀ k, callP Try.prog 12 [dispA d, .int .i64 k] (· = .tuple [.int .u16 (A k), .int .i64 (E k)]) ∧ callP Try.prog 29 [dispA d, .int .i64 k] (· = .tuple [.int .u16 (A k), .int .i64 (E k)]) :=
    ⟨fun k => (row_any wd k).choose, fun k => (row_any wd k).choose_spec.choose, fun k => (row_any wd k).choose_spec.choose_spec⟩
  refine callP_def env (fn := Try.f7) rfl (by decide) ?_
  repeat refine stm ?_
  refine callT_E c1 rfl ?_
  repeat refine stm ?_
  refine callT_E c2 rfl ?_
  repeat refine stm ?_
  refine callT_E (digit_c _) rfl ?_
  repeat refine stm ?_
  refine callT_E (rdigit_c _) rfl ?_
  repeat refine stm ?_
  refine draw_tree (picks (List.range 30) .done) (by decide +kernel) ?_
  repeat refine stm ?_
  refine ⟨_, ⟨may_c wd, rfl⟩, ?_⟩
  repeat refine stm ?_
  refine ⟨_, ⟨rmay_c, rfl⟩, ?_⟩
  repeat refine stm ?_
  refine ⟨_, ⟨clear_c, rfl⟩, ?_⟩
  repeat refine stm ?_
  refine ⟨_, ⟨rclear_c, rfl⟩, ?_⟩
  repeat (first | refine branch_true ?_ | refine branch_false ?_ | (refine branch_f' ?_ ?_; focus (simp; done)) | (refine branch_t' ?_ ?_; focus (simp; done)))
  repeat (first | refine ndD ?_ | refine branch_true ?_ | refine branch_false ?_ | refine brT ?_ | refine brF ?_ | refine brU ?_ | refine brV ?_ | refine loop_unr 3 ?_)
  refine callT_E (R k).1 rfl ?_
  repeat refine stm ?_
  refine callT_E (R k).2 rfl ?_
  repeat (first | refine ndD ?_ | refine branch_true ?_ | refine branch_false ?_ | refine brT ?_ | refine brF ?_ | refine brU ?_ | refine brV ?_ | refine loop_unr 3 ?_)
  refine callT_E (R _).1 rfl ?_
  repeat refine stm ?_
  refine callT_E (R _).2 rfl ?_
  repeat (first | refine ndD ?_ | refine branch_true ?_ | refine branch_false ?_ | refine brT ?_ | refine brF ?_ | refine brU ?_ | refine brV ?_ | refine loop_unr 3 ?_)
  refine draw_tree (picks (List.range 16) .done) (by decide +kernel) ?_
  repeat refine stm ?_
  refine ⟨_, ⟨w1, rfl⟩, ?_⟩
  repeat refine stm ?_
  refine ⟨_, ⟨w2, rfl⟩, ?_⟩
  repeat refine stm ?_
  refine ⟨_, ⟨same_c hW, rfl⟩, ?_⟩
  repeat refine stm ?_
  refine ⟨_, ⟨t1, rfl⟩, ?_⟩
  repeat refine stm ?_
  refine ⟨_, ⟨t2, rfl⟩, ?_⟩
  repeat (first | refine branch_true ?_ | refine branch_false ?_ | (refine branch_f' ?_ ?_; focus (simp; done)) | (refine branch_t' ?_ ?_; focus (simp; done)))
  refine ⟨_, ⟨works_c, rfl⟩, ?_⟩
  repeat refine stm ?_
  exact rfl
end Go.Proofs
