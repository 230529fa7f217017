/- Chapter 29, part r: the law of stores. -/
import Derived.Test.YtbbgfinnhaekjaaC11
set_option linter.unusedVariables false
set_option linter.unusedSimpArgs false
/-! Bg. -/
namespace Go.Proofs
open Go.E
set_option maxRecDepth 8000

def aV (x : Int) : Int := IntKind.i64.wrap ((IntKind.u64.wrap x).tmod 40)
theorem aV_b (x : Int) : 0 ≤ aV x ∧ aV x ≤ 39 := by
  have h := u64_b x
  have h2 := Int.emod_nonneg (IntKind.u64.wrap x) (b := 40) (by decide)
  have h3 := Int.emod_lt_of_pos (IntKind.u64.wrap x) (b := 40) (by decide)
  unfold aV
  rw [Int.tmod_eq_emod_of_nonneg h.1, wi (by omega) (by omega)]
  omega
def kV (x : Int) : Int := IntKind.u8.wrap (1 + x.tmod 3)
theorem kV_b {x : Int} (h : 0 ≤ x ∧ x < 256) : kV x = 1 ∨ kV x = 2 ∨ kV x = 3 := by
  unfold kV
  rw [Int.tmod_eq_emod_of_nonneg h.1, wu8 (by omega) (by omega)]
  omega
theorem tmod_sym {v m : Int} (hm : 0 < m) : -m < v.tmod m ∧ v.tmod m < m := by
  rcases Int.lt_or_le v 0 with h | h
  · have e : v.tmod m = -((-v).tmod m) := by rw [Int.neg_tmod, Int.neg_neg]
    have h1 := Int.emod_nonneg (-v) (b := m) (by omega)
    have h2 := Int.emod_lt_of_pos (-v) (b := m) hm
    rw [e, Int.tmod_eq_emod_of_nonneg (by omega)]
    omega
  · have h1 := Int.emod_nonneg v (b := m) (by omega)
    have h2 := Int.emod_lt_of_pos v (b := m) hm
    rw [Int.tmod_eq_emod_of_nonneg h]
    omega
theorem zero_words : Words (List.replicate 42 0) := fun x hx => by
  obtain ⟨_, rfl⟩ := List.mem_replicate.1 hx
  decide
theorem set_words {l : List Int} (h : Words l) (i : Nat) {x : Int} (hx : 0 ≤ x ∧ x < 65536) : Words (l.set i x) := fun y hy => by
  rcases List.mem_or_eq_of_mem_set hy with h1 | h1
  · exact h y h1
  · rw [h1]; exact hx
theorem getD_set_self {l : List Int} {i : Nat} {x : Int} (h : i < l.length) : (l.set i x).getD i 0 = x := by
  rw [List.getD_eq_getElem?_getD, List.getElem?_set_self h]; rfl
theorem getD_set_ne {l : List Int} {i j : Nat} {x : Int} (h : i ≠ j) : (l.set i x).getD j 0 = l.getD j 0 := by
  rw [List.getD_eq_getElem?_getD, List.getElem?_set_ne h, ← List.getD_eq_getElem?_getD]
theorem val_ok {c : Cmp} {L : List Int} (h1 : validC c = true) (h2 : c.a ≤ 39) (hL : L.length = 42) : valV c L = if c.k = 1 then (L.getD c.a.toNat 0 % 32768, 0) else if c.k = 2 then (wordV (L.getD c.a.toNat 0), 0) else (valD (L.getD c.a.toNat 0) (L.getD (c.a.toNat + 1) 0), 0) := by
  have hs : sizeV c.k = 1 ∨ sizeV c.k = 2 := by unfold sizeV; split <;> simp
  rw [valV, if_neg (by rw [h1]; decide), if_neg (by rw [hL]; omega)]
set_option maxHeartbeats 16000000 in
theorem stores_go (k a n s : Int) (hk : 0 ≤ k ∧ k < 256) (v : Int) : callP Try.prog 9 [.agg [.int .u8 k, .int .i64 a, .int .i64 n, .int .i64 s], .int .i64 v] (· = .bool true) := by
  have hA := aV_b a
  have hN := nV_b n
  have hS := sV_b s
  have w0 : IntKind.i64.wrap (aV a + ((0 : Nat) : Int)) = aV a := by
    rw [show ((0 : Nat) : Int) = 0 from rfl, Int.add_zero]
    exact wi (by omega) (by omega)
  have w1 : IntKind.i64.wrap (aV a + ((1 : Nat) : Int)) = aV a + 1 := by
    rw [show ((1 : Nat) : Int) = 1 from rfl]
    exact wi (by omega) (by omega)
  refine callE_def env (fn := Try.f9) rfl (by decide) rfl ?_
  repeat (refine need_intro (by decide) ?_)
  rcases kV_b hk with h1 | h1 | h1
  · obtain ⟨x, hx⟩ : ∃ x : Int, (if IntKind.i64.wrap (0 - v.tmod 32768) > v.tmod 32768 then IntKind.i64.wrap (0 - v.tmod 32768) else v.tmod 32768) = x := ⟨_, rfl⟩
    have hv := tmod_sym (v := v) (m := 32768) (by decide)
    have hxb : 0 ≤ x ∧ x ≤ 32767 := by
      rw [← hx, wi (x := 0 - v.tmod 32768) (by omega) (by omega)]
      split <;> omega
    obtain ⟨c, hc⟩ : ∃ c : Cmp, c = ⟨kV k, aV a, 0, 0⟩ := ⟨_, rfl⟩
    have ck : c.k = 1 := by rw [hc]; exact h1
    have ca : c.a = aV a := by rw [hc]
    have ok : c.Ok := by rw [hc]; exact ⟨by show 0 ≤ kV k ∧ kV k < 256; omega, by show _ ≤ aV a ∧ aV a ≤ _; omega, by show (-9223372036854775808 : Int) ≤ 0 ∧ (0 : Int) ≤ 9223372036854775807; decide, by show (-9223372036854775808 : Int) ≤ 0 ∧ (0 : Int) ≤ 9223372036854775807; decide⟩
    have cv : validC c = true := decide_eq_true ⟨by omega, by rw [ck, show sizeV 1 = 1 from rfl]; omega, .inl ⟨ck, by rw [hc], by rw [hc]⟩⟩
    have ci : inV x c.k = true := by rw [ck]; exact decide_eq_true (show 0 ≤ x ∧ x ≤ 32767 from hxb)
    obtain ⟨L, hL⟩ : ∃ L : List Int, (List.replicate 42 0).set (aV a).toNat x = L := ⟨_, rfl⟩
    have hLl : L.length = 42 := by rw [← hL, List.length_set, List.length_replicate]
    have hLw : Words L := by rw [← hL]; exact set_words zero_words _ (by omega)
    have g0 : L.getD c.a.toNat 0 = x := by rw [← hL, ca]; exact getD_set_self (by rw [List.length_replicate]; omega)
    have val := val_ok cv (by omega) hLl
    rw [if_pos ck, g0, show x % 32768 = x by omega] at val
    have cst := store_c c ok x
    rw [storeV, if_neg (by rw [cv]; decide), if_neg (by rw [ci]; decide), if_neg (by omega), cellL, if_pos ck, ca] at cst
    have cval := valC_c c ok L (by rw [hLl]; decide) hLw
    rw [val] at cval
    have cs0 := showC_c c ok L (by rw [hLl]; decide) hLw false
    rw [show showV c L false = (0, digF 8 (x % 32768), 0) by rw [showV, val, if_neg (fun c => c rfl), if_pos (.inr ck), g0]] at cs0
    have cs1 := showC_c c ok L (by rw [hLl]; decide) hLw true
    rw [show showV c L true = (0, digF 8 (x % 32768), 0) by rw [showV, val, if_neg (fun c => c rfl), if_pos (.inr ck), g0]] at cs1
    have coct := octal_c (x := x) (by omega)
    have cst' : ∀ z, z = x → callP Try.prog 30 [cA ⟨kV k, aV a, 0, 0⟩, .int .i64 z] (· = .tuple [.ro 2 1 (chunk 2 [.int .i64 (aV a), .int .u16 x]), .int .i64 0]) := by
      rintro _ rfl
      rw [← hc]; exact cst
    subst hc
    have hL' : (List.replicate 42 0).set (aV a).toNat x = L := hL
    have h1' : IntKind.u8.wrap (1 + k.tmod 3) = 1 := h1
    repeat (first | refine need_intro (by decide) ?_ | refine branch_true ?_ | refine branch_false ?_ | (refine branch_t' (decide_eq_true ?_) ?_; focus omega) | (refine branch_f' (decide_eq_false ?_) ?_; focus omega) | (refine branch_t' (beq_iff_eq.2 ?_) ?_; focus omega) | (refine branch_f' (beq_eq_false_iff_ne.2 ?_) ?_; focus omega) | (refine branch_t' (bne_iff_ne.2 ?_) ?_; focus omega) | (refine branch_f' (bne_eq_false_iff_eq.2 ?_) ?_; focus omega) | refine branch_t' (by assumption) ?_ | refine branch_f' (by assumption) ?_ | refine branch_f' (bne_self_eq_false _) ?_ | refine branch_t' (beq_self_eq_true _) ?_ | (refine branch_f' ?_ ?_; focus (simp; done)) | (refine branch_t' ?_ ?_; focus (simp; done)))
    apply choice_r
    refine callT_E (cst' _ hx) rfl ?_
    repeat (first | refine need_intro (by decide) ?_ | refine branch_true ?_ | refine branch_false ?_ | (refine branch_t' (decide_eq_true ?_) ?_; focus omega) | (refine branch_f' (decide_eq_false ?_) ?_; focus omega) | (refine branch_t' (beq_iff_eq.2 ?_) ?_; focus omega) | (refine branch_f' (beq_eq_false_iff_ne.2 ?_) ?_; focus omega) | (refine branch_t' (bne_iff_ne.2 ?_) ?_; focus omega) | (refine branch_f' (bne_eq_false_iff_eq.2 ?_) ?_; focus omega) | refine branch_t' (by assumption) ?_ | refine branch_f' (by assumption) ?_ | refine branch_f' (bne_self_eq_false _) ?_ | refine branch_t' (beq_self_eq_true _) ?_ | (refine branch_f' ?_ ?_; focus (simp; done)) | (refine branch_t' ?_ ?_; focus (simp; done)))
    refine loop_inv (keep 177 [1, 2, 5, 6, 7, 9]) (fun i : Nat => slots 177 [(1, .int .i64 x), (2, .ptr ⟨0, 0, 0⟩), (5, .int .i64 1), (6, .slice ⟨1, 0, 0⟩ 42), (7, .ro 2 1 (chunk 2 [.int .i64 (aV a), .int .u16 x])), (9, .int .i64 i)])
      (fun i => [.cells [.int .u8 (kV k), .int .i64 (aV a), .int .i64 0, .int .i64 0], .ints .u16 (if i = 0 then List.replicate 42 0 else L)]) (fun i => i ≤ 1) (fun i => 1 - i) 0 (by decide) (by show [_, _, _, _, _, _, _, _, _, _, _, _, _, _, _, _, _, _, _, _, _, _, _, _, _, _, _, _, _, _, _, _, _, _, _, _, _, _, _, _, _, _, _, _, _, _, _, _, _, _, _, _, _, _, _, _, _, _, _, _, _, _, _, _, _, _, _, _, _, _, _, _, _, _, _, _, _, _, _, _, _, _, _, _, _, _, _, _, _, _, _, _, _, _, _, _, _, _, _, _, _, _, _, _, _, _, _, _, _, _, _, _, _, _, _, _, _, _, _, _, _, _, _, _, _, _, _, _, _, _, _, _, _, _, _, _, _, _, _, _, _, _, _, _, _, _, _, _, _, _, _, _, _, _, _, _, _, _, _, _, _, _, _, _, _, _, _, _, _, _, _, _, _, _, _, _, _] = _; rw [hx]; rfl) rfl ?_
    intro i hi
    rcases (show i = 0 ∨ i = 1 by omega) with rfl | rfl
    · repeat (first | refine need_intro (by decide) ?_ | refine branch_true ?_ | refine branch_false ?_ | (refine branch_t' (decide_eq_true ?_) ?_; focus omega) | (refine branch_f' (decide_eq_false ?_) ?_; focus omega) | (refine branch_t' (beq_iff_eq.2 ?_) ?_; focus omega) | (refine branch_f' (beq_eq_false_iff_ne.2 ?_) ?_; focus omega) | (refine branch_t' (bne_iff_ne.2 ?_) ?_; focus omega) | (refine branch_f' (bne_eq_false_iff_eq.2 ?_) ?_; focus omega) | refine branch_t' (by assumption) ?_ | refine branch_f' (by assumption) ?_ | refine branch_f' (bne_self_eq_false _) ?_ | refine branch_t' (beq_self_eq_true _) ?_ | (refine branch_f' ?_ ?_; focus (simp; done)) | (refine branch_t' ?_ ?_; focus (simp; done)))
      refine draw_tree (picks [0, 1, 2, 3, 4, 5, 6, 7, 8, 9, 10, 11, 12, 13, 14, 15, 16, 17] .done) (by decide +kernel) ?_
      repeat (first | refine need_intro (by decide) ?_ | refine branch_true ?_ | refine branch_false ?_ | (refine branch_t' (decide_eq_true ?_) ?_; focus omega) | (refine branch_f' (decide_eq_false ?_) ?_; focus omega) | (refine branch_t' (beq_iff_eq.2 ?_) ?_; focus omega) | (refine branch_f' (beq_eq_false_iff_ne.2 ?_) ?_; focus omega) | (refine branch_t' (bne_iff_ne.2 ?_) ?_; focus omega) | (refine branch_f' (bne_eq_false_iff_eq.2 ?_) ?_; focus omega) | refine branch_t' (by assumption) ?_ | refine branch_f' (by assumption) ?_ | refine branch_f' (bne_self_eq_false _) ?_ | refine branch_t' (beq_self_eq_true _) ?_ | (refine branch_f' ?_ ?_; focus (simp; done)) | (refine branch_t' ?_ ?_; focus (simp; done)))
      refine draw_tree (picks [0, 1, 2, 3, 4, 5, 6, 7, 8, 9, 10, 11, 12] .done) (by decide +kernel) ?_
      repeat (first | refine need_intro (by decide) ?_ | refine branch_true ?_ | refine branch_false ?_ | (refine branch_t' (decide_eq_true ?_) ?_; focus omega) | (refine branch_f' (decide_eq_false ?_) ?_; focus omega) | (refine branch_t' (beq_iff_eq.2 ?_) ?_; focus omega) | (refine branch_f' (beq_eq_false_iff_ne.2 ?_) ?_; focus omega) | (refine branch_t' (bne_iff_ne.2 ?_) ?_; focus omega) | (refine branch_f' (bne_eq_false_iff_eq.2 ?_) ?_; focus omega) | refine branch_t' (by assumption) ?_ | refine branch_f' (by assumption) ?_ | refine branch_f' (bne_self_eq_false _) ?_ | refine branch_t' (beq_self_eq_true _) ?_ | (refine branch_f' ?_ ?_; focus (simp; done)) | (refine branch_t' ?_ ?_; focus (simp; done)))
      apply need_intro
      · omega
      apply need_intro
      · show 0 + (aV a).toNat + 0 < (List.replicate 42 (0 : Int)).length
        rw [List.length_replicate]; omega
      refine ⟨1, by decide, by decide, rfl, ?_⟩
      show [_, Blk.ints _ ((List.replicate 42 0).set (0 + (aV a).toNat + 0) x)] = _
      rw [show 0 + (aV a).toNat + 0 = (aV a).toNat by omega, hL']
      rfl
    · repeat (first | refine need_intro (by decide) ?_ | refine branch_true ?_ | refine branch_false ?_ | (refine branch_t' (decide_eq_true ?_) ?_; focus omega) | (refine branch_f' (decide_eq_false ?_) ?_; focus omega) | (refine branch_t' (beq_iff_eq.2 ?_) ?_; focus omega) | (refine branch_f' (beq_eq_false_iff_ne.2 ?_) ?_; focus omega) | (refine branch_t' (bne_iff_ne.2 ?_) ?_; focus omega) | (refine branch_f' (bne_eq_false_iff_eq.2 ?_) ?_; focus omega) | refine branch_t' (by assumption) ?_ | refine branch_f' (by assumption) ?_ | refine branch_f' (bne_self_eq_false _) ?_ | refine branch_t' (beq_self_eq_true _) ?_ | (refine branch_f' ?_ ?_; focus (simp; done)) | (refine branch_t' ?_ ?_; focus (simp; done)))
      refine callT_freeze 1 (keep 177 [1, 2, 6, 7]) rfl rfl (Nat.zero_le _) ⟨by show 0 + 42 ≤ L.length; rw [hLl]; exact Nat.le_refl 42, by show 0 + 42 ≤ L.length; rw [hLl]; exact Nat.le_refl 42, trivial⟩ ?_
      refine callT_arg (args' := [cA ⟨kV k, aV a, 0, 0⟩, ints .u16 L]) (.cons (Eqv.same _) (.cons (eqv_part hLl.symm fun _ _ => rfl) .nil)) ?_
      refine callT_E cval rfl ?_
      repeat (first | refine need_intro (by decide) ?_ | refine branch_true ?_ | refine branch_false ?_ | (refine branch_t' (decide_eq_true ?_) ?_; focus omega) | (refine branch_f' (decide_eq_false ?_) ?_; focus omega) | (refine branch_t' (beq_iff_eq.2 ?_) ?_; focus omega) | (refine branch_f' (beq_eq_false_iff_ne.2 ?_) ?_; focus omega) | (refine branch_t' (bne_iff_ne.2 ?_) ?_; focus omega) | (refine branch_f' (bne_eq_false_iff_eq.2 ?_) ?_; focus omega) | refine branch_t' (by assumption) ?_ | refine branch_f' (by assumption) ?_ | refine branch_f' (bne_self_eq_false _) ?_ | refine branch_t' (beq_self_eq_true _) ?_ | (refine branch_f' ?_ ?_; focus (simp; done)) | (refine branch_t' ?_ ?_; focus (simp; done)))
      refine callT_arg (args' := [cA ⟨kV k, aV a, 0, 0⟩, ints .u16 L, .bool false]) (.cons (Eqv.same _) (.cons (eqv_part hLl.symm fun _ _ => rfl) (.cons (Eqv.same _) .nil))) ?_
      refine callT_E cs0 rfl ?_
      repeat (first | refine need_intro (by decide) ?_ | refine branch_true ?_ | refine branch_false ?_ | (refine branch_t' (decide_eq_true ?_) ?_; focus omega) | (refine branch_f' (decide_eq_false ?_) ?_; focus omega) | (refine branch_t' (beq_iff_eq.2 ?_) ?_; focus omega) | (refine branch_f' (beq_eq_false_iff_ne.2 ?_) ?_; focus omega) | (refine branch_t' (bne_iff_ne.2 ?_) ?_; focus omega) | (refine branch_f' (bne_eq_false_iff_eq.2 ?_) ?_; focus omega) | refine branch_t' (by assumption) ?_ | refine branch_f' (by assumption) ?_ | refine branch_f' (bne_self_eq_false _) ?_ | refine branch_t' (beq_self_eq_true _) ?_ | (refine branch_f' ?_ ?_; focus (simp; done)) | (refine branch_t' ?_ ?_; focus (simp; done)))
      refine callT_arg (args' := [cA ⟨kV k, aV a, 0, 0⟩, ints .u16 L, .bool true]) (.cons (Eqv.same _) (.cons (eqv_part hLl.symm fun _ _ => rfl) (.cons (Eqv.same _) .nil))) ?_
      refine callT_E cs1 rfl ?_
      repeat (first | refine need_intro (by decide) ?_ | refine branch_true ?_ | refine branch_false ?_ | (refine branch_t' (decide_eq_true ?_) ?_; focus omega) | (refine branch_f' (decide_eq_false ?_) ?_; focus omega) | (refine branch_t' (beq_iff_eq.2 ?_) ?_; focus omega) | (refine branch_f' (beq_eq_false_iff_ne.2 ?_) ?_; focus omega) | (refine branch_t' (bne_iff_ne.2 ?_) ?_; focus omega) | (refine branch_f' (bne_eq_false_iff_eq.2 ?_) ?_; focus omega) | refine branch_t' (by assumption) ?_ | refine branch_f' (by assumption) ?_ | refine branch_f' (bne_self_eq_false _) ?_ | refine branch_t' (beq_self_eq_true _) ?_ | (refine branch_f' ?_ ?_; focus (simp; done)) | (refine branch_t' ?_ ?_; focus (simp; done)))
      refine draw_tree (picks [0, 1, 2, 3, 4, 5, 6, 7, 8, 9, 10, 11, 12, 13, 14, 15, 16, 17, 18, 19] .done) (by decide +kernel) ?_
      repeat (first | refine need_intro (by decide) ?_ | refine branch_true ?_ | refine branch_false ?_ | (refine branch_t' (decide_eq_true ?_) ?_; focus omega) | (refine branch_f' (decide_eq_false ?_) ?_; focus omega) | (refine branch_t' (beq_iff_eq.2 ?_) ?_; focus omega) | (refine branch_f' (beq_eq_false_iff_ne.2 ?_) ?_; focus omega) | (refine branch_t' (bne_iff_ne.2 ?_) ?_; focus omega) | (refine branch_f' (bne_eq_false_iff_eq.2 ?_) ?_; focus omega) | refine branch_t' (by assumption) ?_ | refine branch_f' (by assumption) ?_ | refine branch_f' (bne_self_eq_false _) ?_ | refine branch_t' (beq_self_eq_true _) ?_ | (refine branch_f' ?_ ?_; focus (simp; done)) | (refine branch_t' ?_ ?_; focus (simp; done)))
      refine ⟨_, ⟨coct, rfl⟩, ?_⟩
      repeat (first | refine need_intro (by decide) ?_ | refine branch_true ?_ | refine branch_false ?_ | (refine branch_t' (decide_eq_true ?_) ?_; focus omega) | (refine branch_f' (decide_eq_false ?_) ?_; focus omega) | (refine branch_t' (beq_iff_eq.2 ?_) ?_; focus omega) | (refine branch_f' (beq_eq_false_iff_ne.2 ?_) ?_; focus omega) | (refine branch_t' (bne_iff_ne.2 ?_) ?_; focus omega) | (refine branch_f' (bne_eq_false_iff_eq.2 ?_) ?_; focus omega) | refine branch_t' (by assumption) ?_ | refine branch_f' (by assumption) ?_ | refine branch_f' (bne_self_eq_false _) ?_ | refine branch_t' (beq_self_eq_true _) ?_ | (refine branch_f' ?_ ?_; focus (simp; done)) | (refine branch_t' ?_ ?_; focus (simp; done)))
      refine callT_E works_c rfl ?_
      repeat (first | refine need_intro (by decide) ?_ | refine branch_true ?_ | refine branch_false ?_ | (refine branch_t' (decide_eq_true ?_) ?_; focus omega) | (refine branch_f' (decide_eq_false ?_) ?_; focus omega) | (refine branch_t' (beq_iff_eq.2 ?_) ?_; focus omega) | (refine branch_f' (beq_eq_false_iff_ne.2 ?_) ?_; focus omega) | (refine branch_t' (bne_iff_ne.2 ?_) ?_; focus omega) | (refine branch_f' (bne_eq_false_iff_eq.2 ?_) ?_; focus omega) | refine branch_t' (by assumption) ?_ | refine branch_f' (by assumption) ?_ | refine branch_f' (bne_self_eq_false _) ?_ | refine branch_t' (beq_self_eq_true _) ?_ | (refine branch_f' ?_ ?_; focus (simp; done)) | (refine branch_t' ?_ ?_; focus (simp; done)))
      show Eqv _ _
      exact .up (.up (.refl _))
  · have hv := tmod_sym (v := v) (m := 16384) (by decide)
    obtain ⟨c, hc⟩ : ∃ c : Cmp, c = ⟨kV k, aV a, nV n, sV s⟩ := ⟨_, rfl⟩
    have ck : c.k = 2 := by rw [hc]; exact h1
    have ca : c.a = aV a := by rw [hc]
    have ok : c.Ok := by rw [hc]; exact ⟨by show 0 ≤ kV k ∧ kV k < 256; omega, by show _ ≤ aV a ∧ aV a ≤ _; omega, by show _ ≤ nV n ∧ nV n ≤ _; omega, by show _ ≤ sV s ∧ sV s ≤ _; omega⟩
    have cv : validC c = true := decide_eq_true ⟨by omega, by rw [ck, show sizeV 2 = 1 from rfl]; omega, .inr ⟨by omega, by rw [hc]; exact ⟨hN.1, hN.2, hS.1, hS.2⟩⟩⟩
    have ci : inV (v.tmod 16384) c.k = true := by rw [ck]; exact decide_eq_true (show -16383 ≤ (v.tmod 16384) ∧ (v.tmod 16384) ≤ 16383 by omega)
    have hx : 0 ≤ wOf (v.tmod 16384) ∧ wOf (v.tmod 16384) ≤ 32767 := by unfold wOf; split <;> omega
    have hback : wordV (wOf (v.tmod 16384)) = (v.tmod 16384) := by unfold wordV wOf; split <;> split <;> omega
    generalize hX : wOf (v.tmod 16384) = x at *
    obtain ⟨L, hL⟩ : ∃ L : List Int, (List.replicate 42 0).set (aV a).toNat x = L := ⟨_, rfl⟩
    have hLl : L.length = 42 := by rw [← hL, List.length_set, List.length_replicate]
    have hLw : Words L := by rw [← hL]; exact set_words zero_words _ (by omega)
    have g0 : L.getD c.a.toNat 0 = x := by rw [← hL, ca]; exact getD_set_self (by rw [List.length_replicate]; omega)
    have val := val_ok cv (by omega) hLl
    rw [if_neg (by omega), if_pos ck, g0, hback] at val
    have cst := store_c c ok (v.tmod 16384)
    rw [storeV, if_neg (by rw [cv]; decide), if_neg (by rw [ci]; decide), if_neg (by omega), cellL, if_neg (by omega), if_pos ck, ca, hX] at cst
    have cval := valC_c c ok L (by rw [hLl]; decide) hLw
    rw [val] at cval
    have cs0 := showC_c c ok L (by rw [hLl]; decide) hLw false
    rw [show showV c L false = decV (v.tmod 16384) c by rw [showV, val, if_neg (fun c => c rfl), if_neg (by simp [ck])]] at cs0
    have cs1 := showC_c c ok L (by rw [hLl]; decide) hLw true
    rw [show showV c L true = (0, digF 8 (x % 32768), 0) by rw [showV, val, if_neg (fun c => c rfl), if_pos (.inl rfl), g0]] at cs1
    have coct := octal_c (x := x) (by omega)
    have dec := decimal_c (v.tmod 16384) c ok
    subst hc
    have h1' : IntKind.u8.wrap (1 + k.tmod 3) = 2 := h1
    repeat (first | refine need_intro (by decide) ?_ | refine branch_true ?_ | refine branch_false ?_ | (refine branch_t' (decide_eq_true ?_) ?_; focus omega) | (refine branch_f' (decide_eq_false ?_) ?_; focus omega) | (refine branch_t' (beq_iff_eq.2 ?_) ?_; focus omega) | (refine branch_f' (beq_eq_false_iff_ne.2 ?_) ?_; focus omega) | (refine branch_t' (bne_iff_ne.2 ?_) ?_; focus omega) | (refine branch_f' (bne_eq_false_iff_eq.2 ?_) ?_; focus omega) | refine branch_t' (by assumption) ?_ | refine branch_f' (by assumption) ?_ | refine branch_f' (bne_self_eq_false _) ?_ | refine branch_t' (beq_self_eq_true _) ?_ | (refine branch_f' ?_ ?_; focus (simp; done)) | (refine branch_t' ?_ ?_; focus (simp; done)))
    apply choice_r
    refine callT_E cst rfl ?_
    repeat (first | refine need_intro (by decide) ?_ | refine branch_true ?_ | refine branch_false ?_ | (refine branch_t' (decide_eq_true ?_) ?_; focus omega) | (refine branch_f' (decide_eq_false ?_) ?_; focus omega) | (refine branch_t' (beq_iff_eq.2 ?_) ?_; focus omega) | (refine branch_f' (beq_eq_false_iff_ne.2 ?_) ?_; focus omega) | (refine branch_t' (bne_iff_ne.2 ?_) ?_; focus omega) | (refine branch_f' (bne_eq_false_iff_eq.2 ?_) ?_; focus omega) | refine branch_t' (by assumption) ?_ | refine branch_f' (by assumption) ?_ | refine branch_f' (bne_self_eq_false _) ?_ | refine branch_t' (beq_self_eq_true _) ?_ | (refine branch_f' ?_ ?_; focus (simp; done)) | (refine branch_t' ?_ ?_; focus (simp; done)))
    refine loop_inv (keep 177 [1, 2, 5, 6, 7, 9]) (fun i : Nat => slots 177 [(1, .int .i64 (v.tmod 16384)), (2, .ptr ⟨0, 0, 0⟩), (5, .int .i64 1), (6, .slice ⟨1, 0, 0⟩ 42), (7, .ro 2 1 (chunk 2 [.int .i64 (aV a), .int .u16 x])), (9, .int .i64 i)])
      (fun i => [.cells [.int .u8 (kV k), .int .i64 (aV a), .int .i64 (nV n), .int .i64 (sV s)], .ints .u16 (if i = 0 then List.replicate 42 0 else L)]) (fun i => i ≤ 1) (fun i => 1 - i) 0 (by decide) rfl rfl ?_
    intro i hi
    rcases (show i = 0 ∨ i = 1 by omega) with rfl | rfl
    · repeat (first | refine need_intro (by decide) ?_ | refine branch_true ?_ | refine branch_false ?_ | (refine branch_t' (decide_eq_true ?_) ?_; focus omega) | (refine branch_f' (decide_eq_false ?_) ?_; focus omega) | (refine branch_t' (beq_iff_eq.2 ?_) ?_; focus omega) | (refine branch_f' (beq_eq_false_iff_ne.2 ?_) ?_; focus omega) | (refine branch_t' (bne_iff_ne.2 ?_) ?_; focus omega) | (refine branch_f' (bne_eq_false_iff_eq.2 ?_) ?_; focus omega) | refine branch_t' (by assumption) ?_ | refine branch_f' (by assumption) ?_ | refine branch_f' (bne_self_eq_false _) ?_ | refine branch_t' (beq_self_eq_true _) ?_ | (refine branch_f' ?_ ?_; focus (simp; done)) | (refine branch_t' ?_ ?_; focus (simp; done)))
      refine draw_tree (picks [0, 1, 2, 3, 4, 5, 6, 7, 8, 9, 10, 11, 12, 13, 14, 15, 16, 17] .done) (by decide +kernel) ?_
      repeat (first | refine need_intro (by decide) ?_ | refine branch_true ?_ | refine branch_false ?_ | (refine branch_t' (decide_eq_true ?_) ?_; focus omega) | (refine branch_f' (decide_eq_false ?_) ?_; focus omega) | (refine branch_t' (beq_iff_eq.2 ?_) ?_; focus omega) | (refine branch_f' (beq_eq_false_iff_ne.2 ?_) ?_; focus omega) | (refine branch_t' (bne_iff_ne.2 ?_) ?_; focus omega) | (refine branch_f' (bne_eq_false_iff_eq.2 ?_) ?_; focus omega) | refine branch_t' (by assumption) ?_ | refine branch_f' (by assumption) ?_ | refine branch_f' (bne_self_eq_false _) ?_ | refine branch_t' (beq_self_eq_true _) ?_ | (refine branch_f' ?_ ?_; focus (simp; done)) | (refine branch_t' ?_ ?_; focus (simp; done)))
      refine draw_tree (picks [0, 1, 2, 3, 4, 5, 6, 7, 8, 9, 10, 11, 12] .done) (by decide +kernel) ?_
      repeat (first | refine need_intro (by decide) ?_ | refine branch_true ?_ | refine branch_false ?_ | (refine branch_t' (decide_eq_true ?_) ?_; focus omega) | (refine branch_f' (decide_eq_false ?_) ?_; focus omega) | (refine branch_t' (beq_iff_eq.2 ?_) ?_; focus omega) | (refine branch_f' (beq_eq_false_iff_ne.2 ?_) ?_; focus omega) | (refine branch_t' (bne_iff_ne.2 ?_) ?_; focus omega) | (refine branch_f' (bne_eq_false_iff_eq.2 ?_) ?_; focus omega) | refine branch_t' (by assumption) ?_ | refine branch_f' (by assumption) ?_ | refine branch_f' (bne_self_eq_false _) ?_ | refine branch_t' (beq_self_eq_true _) ?_ | (refine branch_f' ?_ ?_; focus (simp; done)) | (refine branch_t' ?_ ?_; focus (simp; done)))
      apply need_intro
      · omega
      apply need_intro
      · show 0 + (aV a).toNat + 0 < (List.replicate 42 (0 : Int)).length
        rw [List.length_replicate]; omega
      refine ⟨1, by decide, by decide, rfl, ?_⟩
      show [_, Blk.ints _ ((List.replicate 42 0).set (0 + (aV a).toNat + 0) x)] = _
      rw [show 0 + (aV a).toNat + 0 = (aV a).toNat by omega, hL]
      rfl
    · repeat (first | refine need_intro (by decide) ?_ | refine branch_true ?_ | refine branch_false ?_ | (refine branch_t' (decide_eq_true ?_) ?_; focus omega) | (refine branch_f' (decide_eq_false ?_) ?_; focus omega) | (refine branch_t' (beq_iff_eq.2 ?_) ?_; focus omega) | (refine branch_f' (beq_eq_false_iff_ne.2 ?_) ?_; focus omega) | (refine branch_t' (bne_iff_ne.2 ?_) ?_; focus omega) | (refine branch_f' (bne_eq_false_iff_eq.2 ?_) ?_; focus omega) | refine branch_t' (by assumption) ?_ | refine branch_f' (by assumption) ?_ | refine branch_f' (bne_self_eq_false _) ?_ | refine branch_t' (beq_self_eq_true _) ?_ | (refine branch_f' ?_ ?_; focus (simp; done)) | (refine branch_t' ?_ ?_; focus (simp; done)))
      refine callT_freeze 1 (keep 177 [1, 2, 6, 7]) rfl rfl (Nat.zero_le _) ⟨by show 0 + 42 ≤ L.length; rw [hLl]; exact Nat.le_refl 42, by show 0 + 42 ≤ L.length; rw [hLl]; exact Nat.le_refl 42, trivial⟩ ?_
      refine callT_arg (args' := [cA ⟨kV k, aV a, nV n, sV s⟩, ints .u16 L]) (.cons (Eqv.same _) (.cons (eqv_part hLl.symm fun _ _ => rfl) .nil)) ?_
      refine callT_E cval rfl ?_
      repeat (first | refine need_intro (by decide) ?_ | refine branch_true ?_ | refine branch_false ?_ | (refine branch_t' (decide_eq_true ?_) ?_; focus omega) | (refine branch_f' (decide_eq_false ?_) ?_; focus omega) | (refine branch_t' (beq_iff_eq.2 ?_) ?_; focus omega) | (refine branch_f' (beq_eq_false_iff_ne.2 ?_) ?_; focus omega) | (refine branch_t' (bne_iff_ne.2 ?_) ?_; focus omega) | (refine branch_f' (bne_eq_false_iff_eq.2 ?_) ?_; focus omega) | refine branch_t' (by assumption) ?_ | refine branch_f' (by assumption) ?_ | refine branch_f' (bne_self_eq_false _) ?_ | refine branch_t' (beq_self_eq_true _) ?_ | (refine branch_f' ?_ ?_; focus (simp; done)) | (refine branch_t' ?_ ?_; focus (simp; done)))
      refine callT_arg (args' := [cA ⟨kV k, aV a, nV n, sV s⟩, ints .u16 L, .bool false]) (.cons (Eqv.same _) (.cons (eqv_part hLl.symm fun _ _ => rfl) (.cons (Eqv.same _) .nil))) ?_
      refine callT_E cs0 rfl ?_
      repeat (first | refine need_intro (by decide) ?_ | refine branch_true ?_ | refine branch_false ?_ | (refine branch_t' (decide_eq_true ?_) ?_; focus omega) | (refine branch_f' (decide_eq_false ?_) ?_; focus omega) | (refine branch_t' (beq_iff_eq.2 ?_) ?_; focus omega) | (refine branch_f' (beq_eq_false_iff_ne.2 ?_) ?_; focus omega) | (refine branch_t' (bne_iff_ne.2 ?_) ?_; focus omega) | (refine branch_f' (bne_eq_false_iff_eq.2 ?_) ?_; focus omega) | refine branch_t' (by assumption) ?_ | refine branch_f' (by assumption) ?_ | refine branch_f' (bne_self_eq_false _) ?_ | refine branch_t' (beq_self_eq_true _) ?_ | (refine branch_f' ?_ ?_; focus (simp; done)) | (refine branch_t' ?_ ?_; focus (simp; done)))
      refine callT_arg (args' := [cA ⟨kV k, aV a, nV n, sV s⟩, ints .u16 L, .bool true]) (.cons (Eqv.same _) (.cons (eqv_part hLl.symm fun _ _ => rfl) (.cons (Eqv.same _) .nil))) ?_
      refine callT_E cs1 rfl ?_
      repeat (first | refine need_intro (by decide) ?_ | refine branch_true ?_ | refine branch_false ?_ | (refine branch_t' (decide_eq_true ?_) ?_; focus omega) | (refine branch_f' (decide_eq_false ?_) ?_; focus omega) | (refine branch_t' (beq_iff_eq.2 ?_) ?_; focus omega) | (refine branch_f' (beq_eq_false_iff_ne.2 ?_) ?_; focus omega) | (refine branch_t' (bne_iff_ne.2 ?_) ?_; focus omega) | (refine branch_f' (bne_eq_false_iff_eq.2 ?_) ?_; focus omega) | refine branch_t' (by assumption) ?_ | refine branch_f' (by assumption) ?_ | refine branch_f' (bne_self_eq_false _) ?_ | refine branch_t' (beq_self_eq_true _) ?_ | (refine branch_f' ?_ ?_; focus (simp; done)) | (refine branch_t' ?_ ?_; focus (simp; done)))
      refine draw_tree (picks [0, 1, 2, 3, 4, 5, 6, 7, 8, 9, 10, 11, 12, 13, 14, 15, 16, 17, 18, 19] .done) (by decide +kernel) ?_
      repeat (first | refine need_intro (by decide) ?_ | refine branch_true ?_ | refine branch_false ?_ | (refine branch_t' (decide_eq_true ?_) ?_; focus omega) | (refine branch_f' (decide_eq_false ?_) ?_; focus omega) | (refine branch_t' (beq_iff_eq.2 ?_) ?_; focus omega) | (refine branch_f' (beq_eq_false_iff_ne.2 ?_) ?_; focus omega) | (refine branch_t' (bne_iff_ne.2 ?_) ?_; focus omega) | (refine branch_f' (bne_eq_false_iff_eq.2 ?_) ?_; focus omega) | refine branch_t' (by assumption) ?_ | refine branch_f' (by assumption) ?_ | refine branch_f' (bne_self_eq_false _) ?_ | refine branch_t' (beq_self_eq_true _) ?_ | (refine branch_f' ?_ ?_; focus (simp; done)) | (refine branch_t' ?_ ?_; focus (simp; done)))
      refine ⟨_, ⟨coct, rfl⟩, ?_⟩
      repeat (first | refine need_intro (by decide) ?_ | refine branch_true ?_ | refine branch_false ?_ | (refine branch_t' (decide_eq_true ?_) ?_; focus omega) | (refine branch_f' (decide_eq_false ?_) ?_; focus omega) | (refine branch_t' (beq_iff_eq.2 ?_) ?_; focus omega) | (refine branch_f' (beq_eq_false_iff_ne.2 ?_) ?_; focus omega) | (refine branch_t' (bne_iff_ne.2 ?_) ?_; focus omega) | (refine branch_f' (bne_eq_false_iff_eq.2 ?_) ?_; focus omega) | refine branch_t' (by assumption) ?_ | refine branch_f' (by assumption) ?_ | refine branch_f' (bne_self_eq_false _) ?_ | refine branch_t' (beq_self_eq_true _) ?_ | (refine branch_f' ?_ ?_; focus (simp; done)) | (refine branch_t' ?_ ?_; focus (simp; done)))
      refine callT_E dec rfl ?_
      repeat (first | refine need_intro (by decide) ?_ | refine branch_true ?_ | refine branch_false ?_ | (refine branch_t' (decide_eq_true ?_) ?_; focus omega) | (refine branch_f' (decide_eq_false ?_) ?_; focus omega) | (refine branch_t' (beq_iff_eq.2 ?_) ?_; focus omega) | (refine branch_f' (beq_eq_false_iff_ne.2 ?_) ?_; focus omega) | (refine branch_t' (bne_iff_ne.2 ?_) ?_; focus omega) | (refine branch_f' (bne_eq_false_iff_eq.2 ?_) ?_; focus omega) | refine branch_t' (by assumption) ?_ | refine branch_f' (by assumption) ?_ | refine branch_f' (bne_self_eq_false _) ?_ | refine branch_t' (beq_self_eq_true _) ?_ | (refine branch_f' ?_ ?_; focus (simp; done)) | (refine branch_t' ?_ ?_; focus (simp; done)))
      refine callT_E works_c rfl ?_
      repeat (first | refine need_intro (by decide) ?_ | refine branch_true ?_ | refine branch_false ?_ | (refine branch_t' (decide_eq_true ?_) ?_; focus omega) | (refine branch_f' (decide_eq_false ?_) ?_; focus omega) | (refine branch_t' (beq_iff_eq.2 ?_) ?_; focus omega) | (refine branch_f' (beq_eq_false_iff_ne.2 ?_) ?_; focus omega) | (refine branch_t' (bne_iff_ne.2 ?_) ?_; focus omega) | (refine branch_f' (bne_eq_false_iff_eq.2 ?_) ?_; focus omega) | refine branch_t' (by assumption) ?_ | refine branch_f' (by assumption) ?_ | refine branch_f' (bne_self_eq_false _) ?_ | refine branch_t' (beq_self_eq_true _) ?_ | (refine branch_f' ?_ ?_; focus (simp; done)) | (refine branch_t' ?_ ?_; focus (simp; done)))
      show Eqv _ _
      exact .up (.up (.refl _))
  · have hv := tmod_sym (v := v) (m := 268435456) (by decide)
    obtain ⟨c, hc⟩ : ∃ c : Cmp, c = ⟨kV k, aV a, nV n, sV s⟩ := ⟨_, rfl⟩
    have ck : c.k = 3 := by rw [hc]; exact h1
    have ca : c.a = aV a := by rw [hc]
    have ok : c.Ok := by rw [hc]; exact ⟨by show 0 ≤ kV k ∧ kV k < 256; omega, by show _ ≤ aV a ∧ aV a ≤ _; omega, by show _ ≤ nV n ∧ nV n ≤ _; omega, by show _ ≤ sV s ∧ sV s ≤ _; omega⟩
    have cv : validC c = true := decide_eq_true ⟨by omega, by rw [ck, show sizeV 3 = 2 from rfl]; omega, .inr ⟨by omega, by rw [hc]; exact ⟨hN.1, hN.2, hS.1, hS.2⟩⟩⟩
    have hfit : Fit (v.tmod 268435456) := ⟨by omega, by omega⟩
    have ci : inV (v.tmod 268435456) c.k = true := by rw [ck]; exact decide_eq_true (show -268435455 ≤ (v.tmod 268435456) ∧ (v.tmod 268435456) ≤ 268435455 by omega)
    have hx0 := hi_w hfit
    have hy0 := lo_w hfit
    have hx : 0 ≤ hiD (v.tmod 268435456) ∧ hiD (v.tmod 268435456) ≤ 32767 := by unfold hiD; split <;> omega
    have hy : 0 ≤ loD (v.tmod 268435456) ∧ loD (v.tmod 268435456) ≤ 32767 := by unfold loD; split <;> omega
    have hback := val_dbl hfit
    generalize hX : hiD (v.tmod 268435456) = x at *
    generalize hY : loD (v.tmod 268435456) = y at *
    obtain ⟨L1, hL1⟩ : ∃ L : List Int, (List.replicate 42 0).set (aV a).toNat x = L := ⟨_, rfl⟩
    have hL1l : L1.length = 42 := by rw [← hL1, List.length_set, List.length_replicate]
    have hL1w : Words L1 := by rw [← hL1]; exact set_words zero_words _ (by omega)
    obtain ⟨L, hL⟩ : ∃ L : List Int, L1.set ((aV a).toNat + 1) y = L := ⟨_, rfl⟩
    have hLl : L.length = 42 := by rw [← hL, List.length_set, hL1l]
    have hLw : Words L := by rw [← hL]; exact set_words hL1w _ (by omega)
    have g0 : L.getD c.a.toNat 0 = x := by rw [← hL, ca, getD_set_ne (by omega), ← hL1]; exact getD_set_self (by rw [List.length_replicate]; omega)
    have g1 : L.getD (c.a.toNat + 1) 0 = y := by rw [← hL, ca]; exact getD_set_self (by rw [hL1l]; omega)
    have val := val_ok cv (by omega) hLl
    rw [if_neg (by omega), if_neg (by omega), g0, g1, hback] at val
    have cst := store_c c ok (v.tmod 268435456)
    rw [storeV, if_neg (by rw [cv]; decide), if_neg (by rw [ci]; decide), if_pos ck, cellL, if_neg (by omega), if_neg (by omega), ca, hX, hY] at cst
    have cval := valC_c c ok L (by rw [hLl]; decide) hLw
    rw [val] at cval
    have cs0 := showC_c c ok L (by rw [hLl]; decide) hLw false
    rw [show showV c L false = decV (v.tmod 268435456) c by rw [showV, val, if_neg (fun c => c rfl), if_neg (by simp [ck])]] at cs0
    have cs1 := showC_c c ok L (by rw [hLl]; decide) hLw true
    rw [show showV c L true = (0, digF 8 (x % 32768), 0) by rw [showV, val, if_neg (fun c => c rfl), if_pos (.inl rfl), g0]] at cs1
    have coct := octal_c (x := x) (by omega)
    have dec := decimal_c (v.tmod 268435456) c ok
    subst hc
    have h1' : IntKind.u8.wrap (1 + k.tmod 3) = 3 := h1
    repeat (first | refine need_intro (by decide) ?_ | refine branch_true ?_ | refine branch_false ?_ | (refine branch_t' (decide_eq_true ?_) ?_; focus omega) | (refine branch_f' (decide_eq_false ?_) ?_; focus omega) | (refine branch_t' (beq_iff_eq.2 ?_) ?_; focus omega) | (refine branch_f' (beq_eq_false_iff_ne.2 ?_) ?_; focus omega) | (refine branch_t' (bne_iff_ne.2 ?_) ?_; focus omega) | (refine branch_f' (bne_eq_false_iff_eq.2 ?_) ?_; focus omega) | refine branch_t' (by assumption) ?_ | refine branch_f' (by assumption) ?_ | refine branch_f' (bne_self_eq_false _) ?_ | refine branch_t' (beq_self_eq_true _) ?_ | (refine branch_f' ?_ ?_; focus (simp; done)) | (refine branch_t' ?_ ?_; focus (simp; done)))
    apply choice_r
    refine callT_E cst rfl ?_
    repeat (first | refine need_intro (by decide) ?_ | refine branch_true ?_ | refine branch_false ?_ | (refine branch_t' (decide_eq_true ?_) ?_; focus omega) | (refine branch_f' (decide_eq_false ?_) ?_; focus omega) | (refine branch_t' (beq_iff_eq.2 ?_) ?_; focus omega) | (refine branch_f' (beq_eq_false_iff_ne.2 ?_) ?_; focus omega) | (refine branch_t' (bne_iff_ne.2 ?_) ?_; focus omega) | (refine branch_f' (bne_eq_false_iff_eq.2 ?_) ?_; focus omega) | refine branch_t' (by assumption) ?_ | refine branch_f' (by assumption) ?_ | refine branch_f' (bne_self_eq_false _) ?_ | refine branch_t' (beq_self_eq_true _) ?_ | (refine branch_f' ?_ ?_; focus (simp; done)) | (refine branch_t' ?_ ?_; focus (simp; done)))
    refine loop_inv (keep 177 [1, 2, 5, 6, 7, 9]) (fun i : Nat => slots 177 [(1, .int .i64 (v.tmod 268435456)), (2, .ptr ⟨0, 0, 0⟩), (5, .int .i64 2), (6, .slice ⟨1, 0, 0⟩ 42), (7, .ro 2 2 (chunk 2 [.int .i64 (aV a), .int .u16 x, .int .i64 (aV a + 1), .int .u16 y])), (9, .int .i64 i)])
      (fun i => [.cells [.int .u8 (kV k), .int .i64 (aV a), .int .i64 (nV n), .int .i64 (sV s)], .ints .u16 (if i = 0 then List.replicate 42 0 else if i = 1 then L1 else L)]) (fun i => i ≤ 2) (fun i => 2 - i) 0 (by decide) rfl rfl ?_
    intro i hi
    rcases (show i = 0 ∨ i = 1 ∨ i = 2 by omega) with rfl | rfl | rfl
    · repeat (first | refine need_intro (by decide) ?_ | refine branch_true ?_ | refine branch_false ?_ | (refine branch_t' (decide_eq_true ?_) ?_; focus omega) | (refine branch_f' (decide_eq_false ?_) ?_; focus omega) | (refine branch_t' (beq_iff_eq.2 ?_) ?_; focus omega) | (refine branch_f' (beq_eq_false_iff_ne.2 ?_) ?_; focus omega) | (refine branch_t' (bne_iff_ne.2 ?_) ?_; focus omega) | (refine branch_f' (bne_eq_false_iff_eq.2 ?_) ?_; focus omega) | refine branch_t' (by assumption) ?_ | refine branch_f' (by assumption) ?_ | refine branch_f' (bne_self_eq_false _) ?_ | refine branch_t' (beq_self_eq_true _) ?_ | (refine branch_f' ?_ ?_; focus (simp; done)) | (refine branch_t' ?_ ?_; focus (simp; done)))
      refine draw_tree (picks [0, 1, 2, 3, 4, 5, 6, 7, 8, 9, 10, 11, 12, 13, 14, 15, 16, 17] .done) (by decide +kernel) ?_
      repeat (first | refine need_intro (by decide) ?_ | refine branch_true ?_ | refine branch_false ?_ | (refine branch_t' (decide_eq_true ?_) ?_; focus omega) | (refine branch_f' (decide_eq_false ?_) ?_; focus omega) | (refine branch_t' (beq_iff_eq.2 ?_) ?_; focus omega) | (refine branch_f' (beq_eq_false_iff_ne.2 ?_) ?_; focus omega) | (refine branch_t' (bne_iff_ne.2 ?_) ?_; focus omega) | (refine branch_f' (bne_eq_false_iff_eq.2 ?_) ?_; focus omega) | refine branch_t' (by assumption) ?_ | refine branch_f' (by assumption) ?_ | refine branch_f' (bne_self_eq_false _) ?_ | refine branch_t' (beq_self_eq_true _) ?_ | (refine branch_f' ?_ ?_; focus (simp; done)) | (refine branch_t' ?_ ?_; focus (simp; done)))
      refine draw_tree (picks [0, 1, 2, 3, 4, 5, 6, 7, 8, 9, 10, 11, 12] .done) (by decide +kernel) ?_
      repeat (first | refine need_intro (by decide) ?_ | refine branch_true ?_ | refine branch_false ?_ | (refine branch_t' (decide_eq_true ?_) ?_; focus omega) | (refine branch_f' (decide_eq_false ?_) ?_; focus omega) | (refine branch_t' (beq_iff_eq.2 ?_) ?_; focus omega) | (refine branch_f' (beq_eq_false_iff_ne.2 ?_) ?_; focus omega) | (refine branch_t' (bne_iff_ne.2 ?_) ?_; focus omega) | (refine branch_f' (bne_eq_false_iff_eq.2 ?_) ?_; focus omega) | refine branch_t' (by assumption) ?_ | refine branch_f' (by assumption) ?_ | refine branch_f' (bne_self_eq_false _) ?_ | refine branch_t' (beq_self_eq_true _) ?_ | (refine branch_f' ?_ ?_; focus (simp; done)) | (refine branch_t' ?_ ?_; focus (simp; done)))
      apply need_intro
      · omega
      apply need_intro
      · show 0 + (aV a).toNat + 0 < (List.replicate 42 (0 : Int)).length
        rw [List.length_replicate]; omega
      refine ⟨1, by decide, by decide, rfl, ?_⟩
      show [_, Blk.ints _ ((List.replicate 42 0).set (0 + (aV a).toNat + 0) x)] = _
      rw [show 0 + (aV a).toNat + 0 = (aV a).toNat by omega, hL1]
      rfl
    · repeat (first | refine need_intro (by decide) ?_ | refine branch_true ?_ | refine branch_false ?_ | (refine branch_t' (decide_eq_true ?_) ?_; focus omega) | (refine branch_f' (decide_eq_false ?_) ?_; focus omega) | (refine branch_t' (beq_iff_eq.2 ?_) ?_; focus omega) | (refine branch_f' (beq_eq_false_iff_ne.2 ?_) ?_; focus omega) | (refine branch_t' (bne_iff_ne.2 ?_) ?_; focus omega) | (refine branch_f' (bne_eq_false_iff_eq.2 ?_) ?_; focus omega) | refine branch_t' (by assumption) ?_ | refine branch_f' (by assumption) ?_ | refine branch_f' (bne_self_eq_false _) ?_ | refine branch_t' (beq_self_eq_true _) ?_ | (refine branch_f' ?_ ?_; focus (simp; done)) | (refine branch_t' ?_ ?_; focus (simp; done)))
      refine draw_tree (picks [0, 1, 2, 3, 4, 5, 6, 7, 8, 9, 10, 11, 12, 13, 14, 15, 16, 17] .done) (by decide +kernel) ?_
      repeat (first | refine need_intro (by decide) ?_ | refine branch_true ?_ | refine branch_false ?_ | (refine branch_t' (decide_eq_true ?_) ?_; focus omega) | (refine branch_f' (decide_eq_false ?_) ?_; focus omega) | (refine branch_t' (beq_iff_eq.2 ?_) ?_; focus omega) | (refine branch_f' (beq_eq_false_iff_ne.2 ?_) ?_; focus omega) | (refine branch_t' (bne_iff_ne.2 ?_) ?_; focus omega) | (refine branch_f' (bne_eq_false_iff_eq.2 ?_) ?_; focus omega) | refine branch_t' (by assumption) ?_ | refine branch_f' (by assumption) ?_ | refine branch_f' (bne_self_eq_false _) ?_ | refine branch_t' (beq_self_eq_true _) ?_ | (refine branch_f' ?_ ?_; focus (simp; done)) | (refine branch_t' ?_ ?_; focus (simp; done)))
      refine draw_tree (picks [0, 1, 2, 3, 4, 5, 6, 7, 8, 9, 10, 11, 12] .done) (by decide +kernel) ?_
      repeat (first | refine need_intro (by decide) ?_ | refine branch_true ?_ | refine branch_false ?_ | (refine branch_t' (decide_eq_true ?_) ?_; focus omega) | (refine branch_f' (decide_eq_false ?_) ?_; focus omega) | (refine branch_t' (beq_iff_eq.2 ?_) ?_; focus omega) | (refine branch_f' (beq_eq_false_iff_ne.2 ?_) ?_; focus omega) | (refine branch_t' (bne_iff_ne.2 ?_) ?_; focus omega) | (refine branch_f' (bne_eq_false_iff_eq.2 ?_) ?_; focus omega) | refine branch_t' (by assumption) ?_ | refine branch_f' (by assumption) ?_ | refine branch_f' (bne_self_eq_false _) ?_ | refine branch_t' (beq_self_eq_true _) ?_ | (refine branch_f' ?_ ?_; focus (simp; done)) | (refine branch_t' ?_ ?_; focus (simp; done)))
      apply need_intro
      · omega
      apply need_intro
      · show 0 + (aV a + 1).toNat + 0 < L1.length
        rw [hL1l]; omega
      refine ⟨2, by decide, by decide, rfl, ?_⟩
      show [_, Blk.ints _ (L1.set (0 + (aV a + 1).toNat + 0) y)] = _
      rw [show 0 + (aV a + 1).toNat + 0 = (aV a).toNat + 1 by omega, hL]
      rfl
    · repeat (first | refine need_intro (by decide) ?_ | refine branch_true ?_ | refine branch_false ?_ | (refine branch_t' (decide_eq_true ?_) ?_; focus omega) | (refine branch_f' (decide_eq_false ?_) ?_; focus omega) | (refine branch_t' (beq_iff_eq.2 ?_) ?_; focus omega) | (refine branch_f' (beq_eq_false_iff_ne.2 ?_) ?_; focus omega) | (refine branch_t' (bne_iff_ne.2 ?_) ?_; focus omega) | (refine branch_f' (bne_eq_false_iff_eq.2 ?_) ?_; focus omega) | refine branch_t' (by assumption) ?_ | refine branch_f' (by assumption) ?_ | refine branch_f' (bne_self_eq_false _) ?_ | refine branch_t' (beq_self_eq_true _) ?_ | (refine branch_f' ?_ ?_; focus (simp; done)) | (refine branch_t' ?_ ?_; focus (simp; done)))
      refine callT_freeze 1 (keep 177 [1, 2, 6, 7]) rfl rfl (Nat.zero_le _) ⟨by show 0 + 42 ≤ L.length; rw [hLl]; exact Nat.le_refl 42, by show 0 + 42 ≤ L.length; rw [hLl]; exact Nat.le_refl 42, trivial⟩ ?_
      refine callT_arg (args' := [cA ⟨kV k, aV a, nV n, sV s⟩, ints .u16 L]) (.cons (Eqv.same _) (.cons (eqv_part hLl.symm fun _ _ => rfl) .nil)) ?_
      refine callT_E cval rfl ?_
      repeat (first | refine need_intro (by decide) ?_ | refine branch_true ?_ | refine branch_false ?_ | (refine branch_t' (decide_eq_true ?_) ?_; focus omega) | (refine branch_f' (decide_eq_false ?_) ?_; focus omega) | (refine branch_t' (beq_iff_eq.2 ?_) ?_; focus omega) | (refine branch_f' (beq_eq_false_iff_ne.2 ?_) ?_; focus omega) | (refine branch_t' (bne_iff_ne.2 ?_) ?_; focus omega) | (refine branch_f' (bne_eq_false_iff_eq.2 ?_) ?_; focus omega) | refine branch_t' (by assumption) ?_ | refine branch_f' (by assumption) ?_ | refine branch_f' (bne_self_eq_false _) ?_ | refine branch_t' (beq_self_eq_true _) ?_ | (refine branch_f' ?_ ?_; focus (simp; done)) | (refine branch_t' ?_ ?_; focus (simp; done)))
      refine callT_arg (args' := [cA ⟨kV k, aV a, nV n, sV s⟩, ints .u16 L, .bool false]) (.cons (Eqv.same _) (.cons (eqv_part hLl.symm fun _ _ => rfl) (.cons (Eqv.same _) .nil))) ?_
      refine callT_E cs0 rfl ?_
      repeat (first | refine need_intro (by decide) ?_ | refine branch_true ?_ | refine branch_false ?_ | (refine branch_t' (decide_eq_true ?_) ?_; focus omega) | (refine branch_f' (decide_eq_false ?_) ?_; focus omega) | (refine branch_t' (beq_iff_eq.2 ?_) ?_; focus omega) | (refine branch_f' (beq_eq_false_iff_ne.2 ?_) ?_; focus omega) | (refine branch_t' (bne_iff_ne.2 ?_) ?_; focus omega) | (refine branch_f' (bne_eq_false_iff_eq.2 ?_) ?_; focus omega) | refine branch_t' (by assumption) ?_ | refine branch_f' (by assumption) ?_ | refine branch_f' (bne_self_eq_false _) ?_ | refine branch_t' (beq_self_eq_true _) ?_ | (refine branch_f' ?_ ?_; focus (simp; done)) | (refine branch_t' ?_ ?_; focus (simp; done)))
      refine callT_arg (args' := [cA ⟨kV k, aV a, nV n, sV s⟩, ints .u16 L, .bool true]) (.cons (Eqv.same _) (.cons (eqv_part hLl.symm fun _ _ => rfl) (.cons (Eqv.same _) .nil))) ?_
      refine callT_E cs1 rfl ?_
      repeat (first | refine need_intro (by decide) ?_ | refine branch_true ?_ | refine branch_false ?_ | (refine branch_t' (decide_eq_true ?_) ?_; focus omega) | (refine branch_f' (decide_eq_false ?_) ?_; focus omega) | (refine branch_t' (beq_iff_eq.2 ?_) ?_; focus omega) | (refine branch_f' (beq_eq_false_iff_ne.2 ?_) ?_; focus omega) | (refine branch_t' (bne_iff_ne.2 ?_) ?_; focus omega) | (refine branch_f' (bne_eq_false_iff_eq.2 ?_) ?_; focus omega) | refine branch_t' (by assumption) ?_ | refine branch_f' (by assumption) ?_ | refine branch_f' (bne_self_eq_false _) ?_ | refine branch_t' (beq_self_eq_true _) ?_ | (refine branch_f' ?_ ?_; focus (simp; done)) | (refine branch_t' ?_ ?_; focus (simp; done)))
      refine draw_tree (picks [0, 1, 2, 3, 4, 5, 6, 7, 8, 9, 10, 11, 12, 13, 14, 15, 16, 17, 18, 19] .done) (by decide +kernel) ?_
      repeat (first | refine need_intro (by decide) ?_ | refine branch_true ?_ | refine branch_false ?_ | (refine branch_t' (decide_eq_true ?_) ?_; focus omega) | (refine branch_f' (decide_eq_false ?_) ?_; focus omega) | (refine branch_t' (beq_iff_eq.2 ?_) ?_; focus omega) | (refine branch_f' (beq_eq_false_iff_ne.2 ?_) ?_; focus omega) | (refine branch_t' (bne_iff_ne.2 ?_) ?_; focus omega) | (refine branch_f' (bne_eq_false_iff_eq.2 ?_) ?_; focus omega) | refine branch_t' (by assumption) ?_ | refine branch_f' (by assumption) ?_ | refine branch_f' (bne_self_eq_false _) ?_ | refine branch_t' (beq_self_eq_true _) ?_ | (refine branch_f' ?_ ?_; focus (simp; done)) | (refine branch_t' ?_ ?_; focus (simp; done)))
      refine ⟨_, ⟨coct, rfl⟩, ?_⟩
      repeat (first | refine need_intro (by decide) ?_ | refine branch_true ?_ | refine branch_false ?_ | (refine branch_t' (decide_eq_true ?_) ?_; focus omega) | (refine branch_f' (decide_eq_false ?_) ?_; focus omega) | (refine branch_t' (beq_iff_eq.2 ?_) ?_; focus omega) | (refine branch_f' (beq_eq_false_iff_ne.2 ?_) ?_; focus omega) | (refine branch_t' (bne_iff_ne.2 ?_) ?_; focus omega) | (refine branch_f' (bne_eq_false_iff_eq.2 ?_) ?_; focus omega) | refine branch_t' (by assumption) ?_ | refine branch_f' (by assumption) ?_ | refine branch_f' (bne_self_eq_false _) ?_ | refine branch_t' (beq_self_eq_true _) ?_ | (refine branch_f' ?_ ?_; focus (simp; done)) | (refine branch_t' ?_ ?_; focus (simp; done)))
      refine callT_E dec rfl ?_
      repeat (first | refine need_intro (by decide) ?_ | refine branch_true ?_ | refine branch_false ?_ | (refine branch_t' (decide_eq_true ?_) ?_; focus omega) | (refine branch_f' (decide_eq_false ?_) ?_; focus omega) | (refine branch_t' (beq_iff_eq.2 ?_) ?_; focus omega) | (refine branch_f' (beq_eq_false_iff_ne.2 ?_) ?_; focus omega) | (refine branch_t' (bne_iff_ne.2 ?_) ?_; focus omega) | (refine branch_f' (bne_eq_false_iff_eq.2 ?_) ?_; focus omega) | refine branch_t' (by assumption) ?_ | refine branch_f' (by assumption) ?_ | refine branch_f' (bne_self_eq_false _) ?_ | refine branch_t' (beq_self_eq_true _) ?_ | (refine branch_f' ?_ ?_; focus (simp; done)) | (refine branch_t' ?_ ?_; focus (simp; done)))
      refine callT_E works_c rfl ?_
      repeat (first | refine need_intro (by decide) ?_ | refine branch_true ?_ | refine branch_false ?_ | (refine branch_t' (decide_eq_true ?_) ?_; focus omega) | (refine branch_f' (decide_eq_false ?_) ?_; focus omega) | (refine branch_t' (beq_iff_eq.2 ?_) ?_; focus omega) | (refine branch_f' (beq_eq_false_iff_ne.2 ?_) ?_; focus omega) | (refine branch_t' (bne_iff_ne.2 ?_) ?_; focus omega) | (refine branch_f' (bne_eq_false_iff_eq.2 ?_) ?_; focus omega) | refine branch_t' (by assumption) ?_ | refine branch_f' (by assumption) ?_ | refine branch_f' (bne_self_eq_false _) ?_ | refine branch_t' (beq_self_eq_true _) ?_ | (refine branch_f' ?_ ?_; focus (simp; done)) | (refine branch_t' ?_ ?_; focus (simp; done)))
      show Eqv _ _
      exact .up (.up (.refl _))
theorem stores_law (f : Nat → Int) (hf : HasL [.u8, .i64, .i64, .i64] f) (v : Int) (_ : -9223372036854775808 ≤ v ∧ v ≤ 9223372036854775807) :
    callP Try.prog 9 [.agg (aggL f [.u8, .i64, .i64, .i64] 0), .int .i64 v] (· = .bool true) :=
  stores_go (f 0) (f 1) (f 2) (f 3) (has_u8 (hf 0 (by decide))) v
end Go.Proofs
