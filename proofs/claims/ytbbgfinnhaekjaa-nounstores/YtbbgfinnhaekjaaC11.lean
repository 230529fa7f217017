/- Chapter 29, part q: the law of words. -/
import Derived.Test.YtbbgfinnhaekjaaC10
set_option linter.unusedVariables false
set_option linter.unusedSimpArgs false
/-! Bf. -/
namespace Go.Proofs
open Go.E
set_option maxRecDepth 8000

theorem storeV_cases (c : Cmp) (v : Int) : (∃ e, storeV c v = .tuple [.nilslice, .int .i64 e]) ∨ (∃ x, storeV c v = .tuple [.ro 2 1 (chunk 2 [.int .i64 c.a, .int .u16 x]), .int .i64 0]) ∨ ∃ x y, storeV c v = .tuple [.ro 2 2 (chunk 2 [.int .i64 c.a, .int .u16 x, .int .i64 (c.a + 1), .int .u16 y]), .int .i64 0] := by
  unfold storeV cellL
  by_cases h1 : validC c = false
  · rw [if_pos h1]; exact .inl ⟨_, rfl⟩
  rw [if_neg h1]
  by_cases h2 : inV v c.k = false
  · rw [if_pos h2]; exact .inl ⟨_, rfl⟩
  rw [if_neg h2]
  have h1t : validC c = true := by simpa using h1
  obtain ⟨_, _, hk⟩ := val_facts2 h1t
  by_cases e1 : c.k = 1
  · rw [if_neg (by omega), if_pos e1]; exact .inr (.inl ⟨_, rfl⟩)
  by_cases e2 : c.k = 2
  · rw [if_neg (by omega), if_neg e1, if_pos e2]; exact .inr (.inl ⟨_, rfl⟩)
  · rw [if_pos (by omega), if_neg e1, if_neg e2]; exact .inr (.inr ⟨_, _, rfl⟩)
set_option maxHeartbeats 16000000 in
theorem words_go (c : Cmp) (hc : c.Ok) (l : List Int) (hlen : l.length ≤ 9223372036854775807) (hl : Words l) (v : Int) : callP Try.prog 8 [cA c, ints .u16 l, .int .i64 v] (· = .bool true) := by
  refine callE_def env (fn := Try.f8) rfl (by decide) rfl ?_
  refine callT_E (valC_c c hc l hlen hl) rfl ?_
  refine callT_E (rvalC_c c hc l hlen hl) rfl ?_
  repeat (first | refine need_intro (by decide) ?_ | refine branch_true ?_ | refine branch_false ?_ | (refine branch_t' (decide_eq_true ?_) ?_; focus omega) | (refine branch_f' (decide_eq_false ?_) ?_; focus omega) | (refine branch_t' (beq_iff_eq.2 ?_) ?_; focus omega) | (refine branch_f' (beq_eq_false_iff_ne.2 ?_) ?_; focus omega) | (refine branch_t' (bne_iff_ne.2 ?_) ?_; focus omega) | (refine branch_f' (bne_eq_false_iff_eq.2 ?_) ?_; focus omega) | refine branch_t' (by assumption) ?_ | refine branch_f' (by assumption) ?_ | refine branch_f' (bne_self_eq_false _) ?_ | refine branch_t' (beq_self_eq_true _) ?_ | (refine branch_f' ?_ ?_; focus (simp; done)) | (refine branch_t' ?_ ?_; focus (simp; done)))
  refine loop_weak (fun j : Nat => slots 102 [(1, ints .u16 l), (3, .ptr ⟨0, 0, 0⟩), (48, .agg [.int .i64 v, .int .i64 (v.tmod 40000), .int .i64 (v.tmod 300000000)]), (49, .int .i64 j)])
    (fun _ => [.cells [.int .u8 c.k, .int .i64 c.a, .int .i64 c.n, .int .i64 c.s]])
    (fun j => j ≤ 3) (fun j => 3 - j) 0 (by decide) (weak_keep (keep 102 [1, 3, 48, 49]) [0] rfl rfl rfl) ?_
  intro j hj
  have h3 : j = 0 ∨ j = 1 ∨ j = 2 ∨ j = 3 := by omega
  rcases h3 with rfl | rfl | rfl | rfl
  · have cs := store_c c hc v
    have rs := rstore_c c hc v
    repeat (first | refine need_intro (by decide) ?_ | refine branch_true ?_ | refine branch_false ?_ | (refine branch_t' (decide_eq_true ?_) ?_; focus omega) | (refine branch_f' (decide_eq_false ?_) ?_; focus omega) | (refine branch_t' (beq_iff_eq.2 ?_) ?_; focus omega) | (refine branch_f' (beq_eq_false_iff_ne.2 ?_) ?_; focus omega) | (refine branch_t' (bne_iff_ne.2 ?_) ?_; focus omega) | (refine branch_f' (bne_eq_false_iff_eq.2 ?_) ?_; focus omega) | refine branch_t' (by assumption) ?_ | refine branch_f' (by assumption) ?_ | refine branch_f' (bne_self_eq_false _) ?_ | refine branch_t' (beq_self_eq_true _) ?_ | (refine branch_f' ?_ ?_; focus (simp; done)) | (refine branch_t' ?_ ?_; focus (simp; done)))
    rcases storeV_cases c v with ⟨e, hS⟩ | ⟨x, hS⟩ | ⟨x, y, hS⟩
    · rw [hS] at cs rs
      refine callT_E cs rfl ?_
      refine callT_E rs rfl ?_
      repeat (first | refine need_intro (by decide) ?_ | refine branch_true ?_ | refine branch_false ?_ | (refine branch_t' (decide_eq_true ?_) ?_; focus omega) | (refine branch_f' (decide_eq_false ?_) ?_; focus omega) | (refine branch_t' (beq_iff_eq.2 ?_) ?_; focus omega) | (refine branch_f' (beq_eq_false_iff_ne.2 ?_) ?_; focus omega) | (refine branch_t' (bne_iff_ne.2 ?_) ?_; focus omega) | (refine branch_f' (bne_eq_false_iff_eq.2 ?_) ?_; focus omega) | refine branch_t' (by assumption) ?_ | refine branch_f' (by assumption) ?_ | refine branch_f' (bne_self_eq_false _) ?_ | refine branch_t' (beq_self_eq_true _) ?_ | (refine branch_f' ?_ ?_; focus (simp; done)) | (refine branch_t' ?_ ?_; focus (simp; done)))
      refine callT_E cells_nil rfl ?_
      repeat (first | refine need_intro (by decide) ?_ | refine branch_true ?_ | refine branch_false ?_ | (refine branch_t' (decide_eq_true ?_) ?_; focus omega) | (refine branch_f' (decide_eq_false ?_) ?_; focus omega) | (refine branch_t' (beq_iff_eq.2 ?_) ?_; focus omega) | (refine branch_f' (beq_eq_false_iff_ne.2 ?_) ?_; focus omega) | (refine branch_t' (bne_iff_ne.2 ?_) ?_; focus omega) | (refine branch_f' (bne_eq_false_iff_eq.2 ?_) ?_; focus omega) | refine branch_t' (by assumption) ?_ | refine branch_f' (by assumption) ?_ | refine branch_f' (bne_self_eq_false _) ?_ | refine branch_t' (beq_self_eq_true _) ?_ | (refine branch_f' ?_ ?_; focus (simp; done)) | (refine branch_t' ?_ ?_; focus (simp; done)))
      exact ⟨1, by decide, by decide, weak_keep (keep 102 [1, 3, 48, 49]) [0] rfl rfl rfl⟩
    · rw [hS] at cs rs
      refine callT_E cs rfl ?_
      refine callT_E rs rfl ?_
      repeat (first | refine need_intro (by decide) ?_ | refine branch_true ?_ | refine branch_false ?_ | (refine branch_t' (decide_eq_true ?_) ?_; focus omega) | (refine branch_f' (decide_eq_false ?_) ?_; focus omega) | (refine branch_t' (beq_iff_eq.2 ?_) ?_; focus omega) | (refine branch_f' (beq_eq_false_iff_ne.2 ?_) ?_; focus omega) | (refine branch_t' (bne_iff_ne.2 ?_) ?_; focus omega) | (refine branch_f' (bne_eq_false_iff_eq.2 ?_) ?_; focus omega) | refine branch_t' (by assumption) ?_ | refine branch_f' (by assumption) ?_ | refine branch_f' (bne_self_eq_false _) ?_ | refine branch_t' (beq_self_eq_true _) ?_ | (refine branch_f' ?_ ?_; focus (simp; done)) | (refine branch_t' ?_ ?_; focus (simp; done)))
      refine callT_E (cells_one c.a x) rfl ?_
      repeat (first | refine need_intro (by decide) ?_ | refine branch_true ?_ | refine branch_false ?_ | (refine branch_t' (decide_eq_true ?_) ?_; focus omega) | (refine branch_f' (decide_eq_false ?_) ?_; focus omega) | (refine branch_t' (beq_iff_eq.2 ?_) ?_; focus omega) | (refine branch_f' (beq_eq_false_iff_ne.2 ?_) ?_; focus omega) | (refine branch_t' (bne_iff_ne.2 ?_) ?_; focus omega) | (refine branch_f' (bne_eq_false_iff_eq.2 ?_) ?_; focus omega) | refine branch_t' (by assumption) ?_ | refine branch_f' (by assumption) ?_ | refine branch_f' (bne_self_eq_false _) ?_ | refine branch_t' (beq_self_eq_true _) ?_ | (refine branch_f' ?_ ?_; focus (simp; done)) | (refine branch_t' ?_ ?_; focus (simp; done)))
      exact ⟨1, by decide, by decide, weak_keep (keep 102 [1, 3, 48, 49]) [0] rfl rfl rfl⟩
    · rw [hS] at cs rs
      refine callT_E cs rfl ?_
      refine callT_E rs rfl ?_
      repeat (first | refine need_intro (by decide) ?_ | refine branch_true ?_ | refine branch_false ?_ | (refine branch_t' (decide_eq_true ?_) ?_; focus omega) | (refine branch_f' (decide_eq_false ?_) ?_; focus omega) | (refine branch_t' (beq_iff_eq.2 ?_) ?_; focus omega) | (refine branch_f' (beq_eq_false_iff_ne.2 ?_) ?_; focus omega) | (refine branch_t' (bne_iff_ne.2 ?_) ?_; focus omega) | (refine branch_f' (bne_eq_false_iff_eq.2 ?_) ?_; focus omega) | refine branch_t' (by assumption) ?_ | refine branch_f' (by assumption) ?_ | refine branch_f' (bne_self_eq_false _) ?_ | refine branch_t' (beq_self_eq_true _) ?_ | (refine branch_f' ?_ ?_; focus (simp; done)) | (refine branch_t' ?_ ?_; focus (simp; done)))
      refine callT_E (cells_two c.a x (c.a + 1) y) rfl ?_
      repeat (first | refine need_intro (by decide) ?_ | refine branch_true ?_ | refine branch_false ?_ | (refine branch_t' (decide_eq_true ?_) ?_; focus omega) | (refine branch_f' (decide_eq_false ?_) ?_; focus omega) | (refine branch_t' (beq_iff_eq.2 ?_) ?_; focus omega) | (refine branch_f' (beq_eq_false_iff_ne.2 ?_) ?_; focus omega) | (refine branch_t' (bne_iff_ne.2 ?_) ?_; focus omega) | (refine branch_f' (bne_eq_false_iff_eq.2 ?_) ?_; focus omega) | refine branch_t' (by assumption) ?_ | refine branch_f' (by assumption) ?_ | refine branch_f' (bne_self_eq_false _) ?_ | refine branch_t' (beq_self_eq_true _) ?_ | (refine branch_f' ?_ ?_; focus (simp; done)) | (refine branch_t' ?_ ?_; focus (simp; done)))
      exact ⟨1, by decide, by decide, weak_keep (keep 102 [1, 3, 48, 49]) [0] rfl rfl rfl⟩
  · have cs := store_c c hc (v.tmod 40000)
    have rs := rstore_c c hc (v.tmod 40000)
    repeat (first | refine need_intro (by decide) ?_ | refine branch_true ?_ | refine branch_false ?_ | (refine branch_t' (decide_eq_true ?_) ?_; focus omega) | (refine branch_f' (decide_eq_false ?_) ?_; focus omega) | (refine branch_t' (beq_iff_eq.2 ?_) ?_; focus omega) | (refine branch_f' (beq_eq_false_iff_ne.2 ?_) ?_; focus omega) | (refine branch_t' (bne_iff_ne.2 ?_) ?_; focus omega) | (refine branch_f' (bne_eq_false_iff_eq.2 ?_) ?_; focus omega) | refine branch_t' (by assumption) ?_ | refine branch_f' (by assumption) ?_ | refine branch_f' (bne_self_eq_false _) ?_ | refine branch_t' (beq_self_eq_true _) ?_ | (refine branch_f' ?_ ?_; focus (simp; done)) | (refine branch_t' ?_ ?_; focus (simp; done)))
    rcases storeV_cases c (v.tmod 40000) with ⟨e, hS⟩ | ⟨x, hS⟩ | ⟨x, y, hS⟩
    · rw [hS] at cs rs
      refine callT_E cs rfl ?_
      refine callT_E rs rfl ?_
      repeat (first | refine need_intro (by decide) ?_ | refine branch_true ?_ | refine branch_false ?_ | (refine branch_t' (decide_eq_true ?_) ?_; focus omega) | (refine branch_f' (decide_eq_false ?_) ?_; focus omega) | (refine branch_t' (beq_iff_eq.2 ?_) ?_; focus omega) | (refine branch_f' (beq_eq_false_iff_ne.2 ?_) ?_; focus omega) | (refine branch_t' (bne_iff_ne.2 ?_) ?_; focus omega) | (refine branch_f' (bne_eq_false_iff_eq.2 ?_) ?_; focus omega) | refine branch_t' (by assumption) ?_ | refine branch_f' (by assumption) ?_ | refine branch_f' (bne_self_eq_false _) ?_ | refine branch_t' (beq_self_eq_true _) ?_ | (refine branch_f' ?_ ?_; focus (simp; done)) | (refine branch_t' ?_ ?_; focus (simp; done)))
      refine callT_E cells_nil rfl ?_
      repeat (first | refine need_intro (by decide) ?_ | refine branch_true ?_ | refine branch_false ?_ | (refine branch_t' (decide_eq_true ?_) ?_; focus omega) | (refine branch_f' (decide_eq_false ?_) ?_; focus omega) | (refine branch_t' (beq_iff_eq.2 ?_) ?_; focus omega) | (refine branch_f' (beq_eq_false_iff_ne.2 ?_) ?_; focus omega) | (refine branch_t' (bne_iff_ne.2 ?_) ?_; focus omega) | (refine branch_f' (bne_eq_false_iff_eq.2 ?_) ?_; focus omega) | refine branch_t' (by assumption) ?_ | refine branch_f' (by assumption) ?_ | refine branch_f' (bne_self_eq_false _) ?_ | refine branch_t' (beq_self_eq_true _) ?_ | (refine branch_f' ?_ ?_; focus (simp; done)) | (refine branch_t' ?_ ?_; focus (simp; done)))
      exact ⟨2, by decide, by decide, weak_keep (keep 102 [1, 3, 48, 49]) [0] rfl rfl rfl⟩
    · rw [hS] at cs rs
      refine callT_E cs rfl ?_
      refine callT_E rs rfl ?_
      repeat (first | refine need_intro (by decide) ?_ | refine branch_true ?_ | refine branch_false ?_ | (refine branch_t' (decide_eq_true ?_) ?_; focus omega) | (refine branch_f' (decide_eq_false ?_) ?_; focus omega) | (refine branch_t' (beq_iff_eq.2 ?_) ?_; focus omega) | (refine branch_f' (beq_eq_false_iff_ne.2 ?_) ?_; focus omega) | (refine branch_t' (bne_iff_ne.2 ?_) ?_; focus omega) | (refine branch_f' (bne_eq_false_iff_eq.2 ?_) ?_; focus omega) | refine branch_t' (by assumption) ?_ | refine branch_f' (by assumption) ?_ | refine branch_f' (bne_self_eq_false _) ?_ | refine branch_t' (beq_self_eq_true _) ?_ | (refine branch_f' ?_ ?_; focus (simp; done)) | (refine branch_t' ?_ ?_; focus (simp; done)))
      refine callT_E (cells_one c.a x) rfl ?_
      repeat (first | refine need_intro (by decide) ?_ | refine branch_true ?_ | refine branch_false ?_ | (refine branch_t' (decide_eq_true ?_) ?_; focus omega) | (refine branch_f' (decide_eq_false ?_) ?_; focus omega) | (refine branch_t' (beq_iff_eq.2 ?_) ?_; focus omega) | (refine branch_f' (beq_eq_false_iff_ne.2 ?_) ?_; focus omega) | (refine branch_t' (bne_iff_ne.2 ?_) ?_; focus omega) | (refine branch_f' (bne_eq_false_iff_eq.2 ?_) ?_; focus omega) | refine branch_t' (by assumption) ?_ | refine branch_f' (by assumption) ?_ | refine branch_f' (bne_self_eq_false _) ?_ | refine branch_t' (beq_self_eq_true _) ?_ | (refine branch_f' ?_ ?_; focus (simp; done)) | (refine branch_t' ?_ ?_; focus (simp; done)))
      exact ⟨2, by decide, by decide, weak_keep (keep 102 [1, 3, 48, 49]) [0] rfl rfl rfl⟩
    · rw [hS] at cs rs
      refine callT_E cs rfl ?_
      refine callT_E rs rfl ?_
      repeat (first | refine need_intro (by decide) ?_ | refine branch_true ?_ | refine branch_false ?_ | (refine branch_t' (decide_eq_true ?_) ?_; focus omega) | (refine branch_f' (decide_eq_false ?_) ?_; focus omega) | (refine branch_t' (beq_iff_eq.2 ?_) ?_; focus omega) | (refine branch_f' (beq_eq_false_iff_ne.2 ?_) ?_; focus omega) | (refine branch_t' (bne_iff_ne.2 ?_) ?_; focus omega) | (refine branch_f' (bne_eq_false_iff_eq.2 ?_) ?_; focus omega) | refine branch_t' (by assumption) ?_ | refine branch_f' (by assumption) ?_ | refine branch_f' (bne_self_eq_false _) ?_ | refine branch_t' (beq_self_eq_true _) ?_ | (refine branch_f' ?_ ?_; focus (simp; done)) | (refine branch_t' ?_ ?_; focus (simp; done)))
      refine callT_E (cells_two c.a x (c.a + 1) y) rfl ?_
      repeat (first | refine need_intro (by decide) ?_ | refine branch_true ?_ | refine branch_false ?_ | (refine branch_t' (decide_eq_true ?_) ?_; focus omega) | (refine branch_f' (decide_eq_false ?_) ?_; focus omega) | (refine branch_t' (beq_iff_eq.2 ?_) ?_; focus omega) | (refine branch_f' (beq_eq_false_iff_ne.2 ?_) ?_; focus omega) | (refine branch_t' (bne_iff_ne.2 ?_) ?_; focus omega) | (refine branch_f' (bne_eq_false_iff_eq.2 ?_) ?_; focus omega) | refine branch_t' (by assumption) ?_ | refine branch_f' (by assumption) ?_ | refine branch_f' (bne_self_eq_false _) ?_ | refine branch_t' (beq_self_eq_true _) ?_ | (refine branch_f' ?_ ?_; focus (simp; done)) | (refine branch_t' ?_ ?_; focus (simp; done)))
      exact ⟨2, by decide, by decide, weak_keep (keep 102 [1, 3, 48, 49]) [0] rfl rfl rfl⟩
  · have cs := store_c c hc (v.tmod 300000000)
    have rs := rstore_c c hc (v.tmod 300000000)
    repeat (first | refine need_intro (by decide) ?_ | refine branch_true ?_ | refine branch_false ?_ | (refine branch_t' (decide_eq_true ?_) ?_; focus omega) | (refine branch_f' (decide_eq_false ?_) ?_; focus omega) | (refine branch_t' (beq_iff_eq.2 ?_) ?_; focus omega) | (refine branch_f' (beq_eq_false_iff_ne.2 ?_) ?_; focus omega) | (refine branch_t' (bne_iff_ne.2 ?_) ?_; focus omega) | (refine branch_f' (bne_eq_false_iff_eq.2 ?_) ?_; focus omega) | refine branch_t' (by assumption) ?_ | refine branch_f' (by assumption) ?_ | refine branch_f' (bne_self_eq_false _) ?_ | refine branch_t' (beq_self_eq_true _) ?_ | (refine branch_f' ?_ ?_; focus (simp; done)) | (refine branch_t' ?_ ?_; focus (simp; done)))
    rcases storeV_cases c (v.tmod 300000000) with ⟨e, hS⟩ | ⟨x, hS⟩ | ⟨x, y, hS⟩
    · rw [hS] at cs rs
      refine callT_E cs rfl ?_
      refine callT_E rs rfl ?_
      repeat (first | refine need_intro (by decide) ?_ | refine branch_true ?_ | refine branch_false ?_ | (refine branch_t' (decide_eq_true ?_) ?_; focus omega) | (refine branch_f' (decide_eq_false ?_) ?_; focus omega) | (refine branch_t' (beq_iff_eq.2 ?_) ?_; focus omega) | (refine branch_f' (beq_eq_false_iff_ne.2 ?_) ?_; focus omega) | (refine branch_t' (bne_iff_ne.2 ?_) ?_; focus omega) | (refine branch_f' (bne_eq_false_iff_eq.2 ?_) ?_; focus omega) | refine branch_t' (by assumption) ?_ | refine branch_f' (by assumption) ?_ | refine branch_f' (bne_self_eq_false _) ?_ | refine branch_t' (beq_self_eq_true _) ?_ | (refine branch_f' ?_ ?_; focus (simp; done)) | (refine branch_t' ?_ ?_; focus (simp; done)))
      refine callT_E cells_nil rfl ?_
      repeat (first | refine need_intro (by decide) ?_ | refine branch_true ?_ | refine branch_false ?_ | (refine branch_t' (decide_eq_true ?_) ?_; focus omega) | (refine branch_f' (decide_eq_false ?_) ?_; focus omega) | (refine branch_t' (beq_iff_eq.2 ?_) ?_; focus omega) | (refine branch_f' (beq_eq_false_iff_ne.2 ?_) ?_; focus omega) | (refine branch_t' (bne_iff_ne.2 ?_) ?_; focus omega) | (refine branch_f' (bne_eq_false_iff_eq.2 ?_) ?_; focus omega) | refine branch_t' (by assumption) ?_ | refine branch_f' (by assumption) ?_ | refine branch_f' (bne_self_eq_false _) ?_ | refine branch_t' (beq_self_eq_true _) ?_ | (refine branch_f' ?_ ?_; focus (simp; done)) | (refine branch_t' ?_ ?_; focus (simp; done)))
      exact ⟨3, by decide, by decide, weak_keep (keep 102 [1, 3, 48, 49]) [0] rfl rfl rfl⟩
    · rw [hS] at cs rs
      refine callT_E cs rfl ?_
      refine callT_E rs rfl ?_
      repeat (first | refine need_intro (by decide) ?_ | refine branch_true ?_ | refine branch_false ?_ | (refine branch_t' (decide_eq_true ?_) ?_; focus omega) | (refine branch_f' (decide_eq_false ?_) ?_; focus omega) | (refine branch_t' (beq_iff_eq.2 ?_) ?_; focus omega) | (refine branch_f' (beq_eq_false_iff_ne.2 ?_) ?_; focus omega) | (refine branch_t' (bne_iff_ne.2 ?_) ?_; focus omega) | (refine branch_f' (bne_eq_false_iff_eq.2 ?_) ?_; focus omega) | refine branch_t' (by assumption) ?_ | refine branch_f' (by assumption) ?_ | refine branch_f' (bne_self_eq_false _) ?_ | refine branch_t' (beq_self_eq_true _) ?_ | (refine branch_f' ?_ ?_; focus (simp; done)) | (refine branch_t' ?_ ?_; focus (simp; done)))
      refine callT_E (cells_one c.a x) rfl ?_
      repeat (first | refine need_intro (by decide) ?_ | refine branch_true ?_ | refine branch_false ?_ | (refine branch_t' (decide_eq_true ?_) ?_; focus omega) | (refine branch_f' (decide_eq_false ?_) ?_; focus omega) | (refine branch_t' (beq_iff_eq.2 ?_) ?_; focus omega) | (refine branch_f' (beq_eq_false_iff_ne.2 ?_) ?_; focus omega) | (refine branch_t' (bne_iff_ne.2 ?_) ?_; focus omega) | (refine branch_f' (bne_eq_false_iff_eq.2 ?_) ?_; focus omega) | refine branch_t' (by assumption) ?_ | refine branch_f' (by assumption) ?_ | refine branch_f' (bne_self_eq_false _) ?_ | refine branch_t' (beq_self_eq_true _) ?_ | (refine branch_f' ?_ ?_; focus (simp; done)) | (refine branch_t' ?_ ?_; focus (simp; done)))
      exact ⟨3, by decide, by decide, weak_keep (keep 102 [1, 3, 48, 49]) [0] rfl rfl rfl⟩
    · rw [hS] at cs rs
      refine callT_E cs rfl ?_
      refine callT_E rs rfl ?_
      repeat (first | refine need_intro (by decide) ?_ | refine branch_true ?_ | refine branch_false ?_ | (refine branch_t' (decide_eq_true ?_) ?_; focus omega) | (refine branch_f' (decide_eq_false ?_) ?_; focus omega) | (refine branch_t' (beq_iff_eq.2 ?_) ?_; focus omega) | (refine branch_f' (beq_eq_false_iff_ne.2 ?_) ?_; focus omega) | (refine branch_t' (bne_iff_ne.2 ?_) ?_; focus omega) | (refine branch_f' (bne_eq_false_iff_eq.2 ?_) ?_; focus omega) | refine branch_t' (by assumption) ?_ | refine branch_f' (by assumption) ?_ | refine branch_f' (bne_self_eq_false _) ?_ | refine branch_t' (beq_self_eq_true _) ?_ | (refine branch_f' ?_ ?_; focus (simp; done)) | (refine branch_t' ?_ ?_; focus (simp; done)))
      refine callT_E (cells_two c.a x (c.a + 1) y) rfl ?_
      repeat (first | refine need_intro (by decide) ?_ | refine branch_true ?_ | refine branch_false ?_ | (refine branch_t' (decide_eq_true ?_) ?_; focus omega) | (refine branch_f' (decide_eq_false ?_) ?_; focus omega) | (refine branch_t' (beq_iff_eq.2 ?_) ?_; focus omega) | (refine branch_f' (beq_eq_false_iff_ne.2 ?_) ?_; focus omega) | (refine branch_t' (bne_iff_ne.2 ?_) ?_; focus omega) | (refine branch_f' (bne_eq_false_iff_eq.2 ?_) ?_; focus omega) | refine branch_t' (by assumption) ?_ | refine branch_f' (by assumption) ?_ | refine branch_f' (bne_self_eq_false _) ?_ | refine branch_t' (beq_self_eq_true _) ?_ | (refine branch_f' ?_ ?_; focus (simp; done)) | (refine branch_t' ?_ ?_; focus (simp; done)))
      exact ⟨3, by decide, by decide, weak_keep (keep 102 [1, 3, 48, 49]) [0] rfl rfl rfl⟩
  · repeat (first | refine need_intro (by decide) ?_ | refine branch_true ?_ | refine branch_false ?_ | (refine branch_t' (decide_eq_true ?_) ?_; focus omega) | (refine branch_f' (decide_eq_false ?_) ?_; focus omega) | (refine branch_t' (beq_iff_eq.2 ?_) ?_; focus omega) | (refine branch_f' (beq_eq_false_iff_ne.2 ?_) ?_; focus omega) | (refine branch_t' (bne_iff_ne.2 ?_) ?_; focus omega) | (refine branch_f' (bne_eq_false_iff_eq.2 ?_) ?_; focus omega) | refine branch_t' (by assumption) ?_ | refine branch_f' (by assumption) ?_ | refine branch_f' (bne_self_eq_false _) ?_ | refine branch_t' (beq_self_eq_true _) ?_ | (refine branch_f' ?_ ?_; focus (simp; done)) | (refine branch_t' ?_ ?_; focus (simp; done)))
    refine loop_weak (fun j : Nat => slots 102 [(1, ints .u16 l), (3, .ptr ⟨0, 0, 0⟩), (74, .agg [.bool false, .bool true]), (75, .int .i64 j)])
      (fun _ => [.cells [.int .u8 c.k, .int .i64 c.a, .int .i64 c.n, .int .i64 c.s]])
      (fun j => j ≤ 2) (fun j => 2 - j) 0 (by decide) (weak_keep (keep 102 [1, 3, 74, 75]) [0] rfl rfl rfl) ?_
    intro j hj
    have h3 : j = 0 ∨ j = 1 ∨ j = 2 := by omega
    rcases h3 with rfl | rfl | rfl
    · repeat (first | refine need_intro (by decide) ?_ | refine branch_true ?_ | refine branch_false ?_ | (refine branch_t' (decide_eq_true ?_) ?_; focus omega) | (refine branch_f' (decide_eq_false ?_) ?_; focus omega) | (refine branch_t' (beq_iff_eq.2 ?_) ?_; focus omega) | (refine branch_f' (beq_eq_false_iff_ne.2 ?_) ?_; focus omega) | (refine branch_t' (bne_iff_ne.2 ?_) ?_; focus omega) | (refine branch_f' (bne_eq_false_iff_eq.2 ?_) ?_; focus omega) | refine branch_t' (by assumption) ?_ | refine branch_f' (by assumption) ?_ | refine branch_f' (bne_self_eq_false _) ?_ | refine branch_t' (beq_self_eq_true _) ?_ | (refine branch_f' ?_ ?_; focus (simp; done)) | (refine branch_t' ?_ ?_; focus (simp; done)))
      refine callT_E (showC_c c hc l hlen hl false) rfl ?_
      refine callT_E (rshowC_c c hc l hlen hl false) rfl ?_
      repeat (first | refine need_intro (by decide) ?_ | refine branch_true ?_ | refine branch_false ?_ | (refine branch_t' (decide_eq_true ?_) ?_; focus omega) | (refine branch_f' (decide_eq_false ?_) ?_; focus omega) | (refine branch_t' (beq_iff_eq.2 ?_) ?_; focus omega) | (refine branch_f' (beq_eq_false_iff_ne.2 ?_) ?_; focus omega) | (refine branch_t' (bne_iff_ne.2 ?_) ?_; focus omega) | (refine branch_f' (bne_eq_false_iff_eq.2 ?_) ?_; focus omega) | refine branch_t' (by assumption) ?_ | refine branch_f' (by assumption) ?_ | refine branch_f' (bne_self_eq_false _) ?_ | refine branch_t' (beq_self_eq_true _) ?_ | (refine branch_f' ?_ ?_; focus (simp; done)) | (refine branch_t' ?_ ?_; focus (simp; done)))
      exact ⟨1, by decide, by decide, weak_keep (keep 102 [1, 3, 74, 75]) [0] rfl rfl rfl⟩
    · repeat (first | refine need_intro (by decide) ?_ | refine branch_true ?_ | refine branch_false ?_ | (refine branch_t' (decide_eq_true ?_) ?_; focus omega) | (refine branch_f' (decide_eq_false ?_) ?_; focus omega) | (refine branch_t' (beq_iff_eq.2 ?_) ?_; focus omega) | (refine branch_f' (beq_eq_false_iff_ne.2 ?_) ?_; focus omega) | (refine branch_t' (bne_iff_ne.2 ?_) ?_; focus omega) | (refine branch_f' (bne_eq_false_iff_eq.2 ?_) ?_; focus omega) | refine branch_t' (by assumption) ?_ | refine branch_f' (by assumption) ?_ | refine branch_f' (bne_self_eq_false _) ?_ | refine branch_t' (beq_self_eq_true _) ?_ | (refine branch_f' ?_ ?_; focus (simp; done)) | (refine branch_t' ?_ ?_; focus (simp; done)))
      refine callT_E (showC_c c hc l hlen hl true) rfl ?_
      refine callT_E (rshowC_c c hc l hlen hl true) rfl ?_
      repeat (first | refine need_intro (by decide) ?_ | refine branch_true ?_ | refine branch_false ?_ | (refine branch_t' (decide_eq_true ?_) ?_; focus omega) | (refine branch_f' (decide_eq_false ?_) ?_; focus omega) | (refine branch_t' (beq_iff_eq.2 ?_) ?_; focus omega) | (refine branch_f' (beq_eq_false_iff_ne.2 ?_) ?_; focus omega) | (refine branch_t' (bne_iff_ne.2 ?_) ?_; focus omega) | (refine branch_f' (bne_eq_false_iff_eq.2 ?_) ?_; focus omega) | refine branch_t' (by assumption) ?_ | refine branch_f' (by assumption) ?_ | refine branch_f' (bne_self_eq_false _) ?_ | refine branch_t' (beq_self_eq_true _) ?_ | (refine branch_f' ?_ ?_; focus (simp; done)) | (refine branch_t' ?_ ?_; focus (simp; done)))
      exact ⟨2, by decide, by decide, weak_keep (keep 102 [1, 3, 74, 75]) [0] rfl rfl rfl⟩
    · repeat (first | refine need_intro (by decide) ?_ | refine branch_true ?_ | refine branch_false ?_ | (refine branch_t' (decide_eq_true ?_) ?_; focus omega) | (refine branch_f' (decide_eq_false ?_) ?_; focus omega) | (refine branch_t' (beq_iff_eq.2 ?_) ?_; focus omega) | (refine branch_f' (beq_eq_false_iff_ne.2 ?_) ?_; focus omega) | (refine branch_t' (bne_iff_ne.2 ?_) ?_; focus omega) | (refine branch_f' (bne_eq_false_iff_eq.2 ?_) ?_; focus omega) | refine branch_t' (by assumption) ?_ | refine branch_f' (by assumption) ?_ | refine branch_f' (bne_self_eq_false _) ?_ | refine branch_t' (beq_self_eq_true _) ?_ | (refine branch_f' ?_ ?_; focus (simp; done)) | (refine branch_t' ?_ ?_; focus (simp; done)))
      refine callT_E works_c rfl ?_
      repeat (first | refine need_intro (by decide) ?_ | refine branch_true ?_ | refine branch_false ?_ | (refine branch_t' (decide_eq_true ?_) ?_; focus omega) | (refine branch_f' (decide_eq_false ?_) ?_; focus omega) | (refine branch_t' (beq_iff_eq.2 ?_) ?_; focus omega) | (refine branch_f' (beq_eq_false_iff_ne.2 ?_) ?_; focus omega) | (refine branch_t' (bne_iff_ne.2 ?_) ?_; focus omega) | (refine branch_f' (bne_eq_false_iff_eq.2 ?_) ?_; focus omega) | refine branch_t' (by assumption) ?_ | refine branch_f' (by assumption) ?_ | refine branch_f' (bne_self_eq_false _) ?_ | refine branch_t' (beq_self_eq_true _) ?_ | (refine branch_f' ?_ ?_; focus (simp; done)) | (refine branch_t' ?_ ?_; focus (simp; done)))
      show Eqv _ _
      exact .up (.up (.refl _))
theorem words_law (f : Nat → Int) (hf : HasL [.u8, .i64, .i64, .i64] f) (l : List Int) (hlen : l.length ≤ maxLen) (hl : ∀ x ∈ l, 0 ≤ x ∧ x < 65536) (v : Int) (_ : -9223372036854775808 ≤ v ∧ v ≤ 9223372036854775807) :
    callP Try.prog 8 [.agg (aggL f [.u8, .i64, .i64, .i64] 0), ints .u16 l, .int .i64 v] (· = .bool true) :=
  words_go ⟨f 0, f 1, f 2, f 3⟩ (cmp_of hf) l (Nat.le_trans hlen (by decide)) hl v
end Go.Proofs
