/- Chapter 30: the law Valid, walked. -/
import Derived.Test.YtblgcojannjmcaaC49
set_option linter.unusedVariables false
set_option linter.unusedSimpArgs false
/-! Xe. -/
namespace Go.Proofs
open Go.E
set_option maxRecDepth 8000

theorem share {α β : Type} {C : α → β → Prop} {ok : α → Prop} {G : Prop} (k : β) (main : (∀ a, ok a → C a k) → G) (hK : ∀ a, ok a → C a k) : G := main hK
def six : List Int := [5, 6, 7, 32767, 1, 2]
theorem six_w : Words six := by
  intro x hx
  simp only [six, List.mem_cons, List.not_mem_nil, or_false] at hx
  rcases hx with rfl | rfl | rfl | rfl | rfl | rfl <;> decide
abbrev vS (N : Nns) (ks ms : List Int) (i : Nat) : List AVal := slots 187 [(0, N.A), (1, ints .u8 ks), (2, ints .u16 ms), (7, .ptr ⟨0, 0, 0⟩), (9, .int .i64 i)]
/-- Press and Ask at every argument. -/
def pressX (p : Pan) (k : Int) : Pan × Req × Int := if isK k = true then ((pressV p k).1, (pressV p k).2, 0) else (Pan.zero, Req.z, 2)
theorem press_x {p : Pan} (h : Good p) {k : Int} (hk : 0 ≤ k) : callP Try.prog 10 [p.A, .int .u8 k] (· = .tuple [(pressX p k).1.A, (pressX p k).2.1.A, .int .i64 (pressX p k).2.2]) := by
  unfold pressX
  split
  · rename_i hi; exact press_ok p h.ok h.may k hi
  · rename_i hi; exact press_key p k hk (by simpa using hi)
theorem press_xg {p : Pan} (h : Good p) {k : Int} (he : (pressX p k).2.2 = 0) : Good (pressX p k).1 := by
  unfold pressX at he ⊢
  split at he
  · rename_i hi; rw [if_pos hi]; exact (press_good p k h hi).1
  · exact absurd he (by decide)
def askX (p : Pan) (v n : Int) : Pan × Req × Int := if suit p.N v n = true then ((askP p v n).1, (askP p v n).2, 0) else (Pan.zero, Req.z, 7)
theorem ask_x {p : Pan} (h : Good p) (v n : Int) : callP Try.prog 19 [p.A, .int .i64 v, .int .i64 n] (· = .tuple [(askX p v n).1.A, (askX p v n).2.1.A, .int .i64 (askX p v n).2.2]) := by
  unfold askX
  split
  · rename_i hi; exact ask_ok p h.ok ((may_iff p).2 h.may) v n hi
  · rename_i hi; exact ask_no p h.ok ((may_iff p).2 h.may) v n (by simpa using hi)
theorem ask_xg {p : Pan} (h : Good p) {v n : Int} (he : (askX p v n).2.2 = 0) : Good (askX p v n).1 := by
  unfold askX at he ⊢
  split at he
  · rename_i hi; rw [if_pos hi]; exact (ask_good h hi).1
  · exact absurd he (by decide)
def vbI (j : Int) : Int := if j = 0 then 6 else if j = 1 then 16 else if j = 2 then 21 else if j = 3 then 25 else if j = 4 then 1 else 4
theorem idx6 {c : Int} (hc : 0 ≤ c ∧ c < 65536) : 0 ≤ (IntKind.i64.wrap ((IntKind.i64.wrap c).tdiv 8)).tmod 6 ∧ (IntKind.i64.wrap ((IntKind.i64.wrap c).tdiv 8)).tmod 6 < 6 := by
  rw [wi (x := c) (by omega) (by omega), Int.tdiv_eq_ediv_of_nonneg hc.1, wi (x := c / 8) (by omega) (by omega), Int.tmod_eq_emod_of_nonneg (by omega)]
  omega
theorem idx8 {c : Int} (hc : 0 ≤ c ∧ c < 65536) : 3 ≤ IntKind.i64.wrap (3 + (IntKind.i64.wrap ((IntKind.i64.wrap c).tdiv 8)).tmod 8) ∧ IntKind.i64.wrap (3 + (IntKind.i64.wrap ((IntKind.i64.wrap c).tdiv 8)).tmod 8) ≤ 10 := by
  rw [wi (x := c) (by omega) (by omega), Int.tdiv_eq_ediv_of_nonneg hc.1, wi (x := c / 8) (by omega) (by omega), Int.tmod_eq_emod_of_nonneg (by omega), wi (x := 3 + c / 8 % 8) (by omega) (by omega)]
  omega
theorem idxN {c : Int} (hc : 0 ≤ c ∧ c < 65536) {n : Nat} (hn : 0 < n) : 0 ≤ (IntKind.i64.wrap ((IntKind.i64.wrap c).tdiv 48)).tmod n ∧ (IntKind.i64.wrap ((IntKind.i64.wrap c).tdiv 48)).tmod n < n := by
  rw [wi (x := c) (by omega) (by omega), Int.tdiv_eq_ediv_of_nonneg hc.1, wi (x := c / 48) (by omega) (by omega), Int.tmod_eq_emod_of_nonneg (by omega)]
  exact ⟨Int.emod_nonneg _ (by omega), Int.emod_lt_of_pos _ (by omega)⟩
set_option maxHeartbeats 16000000 in
theorem valid_go (N : Nns) (hN : N.Ok) (l : List Int) (hl : ∀ x ∈ l, 0 ≤ x ∧ x < 256) (ms : List Int) (hms : ms.length ≤ 9223372036854775807) (hm6 : ∀ x ∈ ms, 0 ≤ x ∧ x < 65536) : callP Try.prog 7 [N.A, ints .u8 l, ints .u16 ms] (· = .bool true) := by
  have hC := hN.cut
  have hk := capN_le 60 l.length
  refine callE_def env (fn := Try.f7) rfl (by decide) rfl ?_
  repeat refine stp ?_
  refine draw_tree (picks (List.range 12) .done) (by decide +kernel) ?_
  apply need_intro
  · exact capN_i 20 N.n
  apply need_intro
  · exact capN_i 60 l.length
  repeat refine stp ?_
  cases hm : (N.cut 20).may with
  | false =>
    refine callT_E (new_no (N.cut 20) hC hm) rfl ?_
    repeat refine stp ?_
    have em := nmay (N.cut 20) hC
    rw [hm] at em
    refine callT_E em rfl ?_
    repeat refine stp ?_
    refine callT_E works_c rfl ?_
    repeat refine stp ?_
    show Eqv _ _
    exact .up (.up (.refl _))
  | true =>
    refine callT_E (new_ok (N.cut 20) hC hm) rfl ?_
    repeat refine stp ?_
    refine loop_weak (fun s : Nat × Pan => vS (N.cut 20) (l.take (capN 60 l.length)) ms s.1) (fun s => [.cells s.2.L])
      (fun s => s.1 ≤ capN 60 l.length ∧ Good s.2) (fun s => capN 60 l.length - s.1) (0, newP (N.cut 20)) ⟨Nat.zero_le _, new_good _ hC hm⟩
      ((weak_keep (tm' := slots 187 [(0, (N.cut 20).A), (1, .ro 1 (capN 60 l.length) (fun i => irow .u8 l (0 + i))), (2, ints .u16 ms), (7, .ptr ⟨0, 0, 0⟩), (9, .int .i64 0)]) (keep 187 [0, 1, 2, 7, 9]) [0] rfl rfl rfl).trans (weak_slot 1 (eqv_take hk.1) rfl)) ?_
    rintro ⟨i, p⟩ ⟨hi, hp⟩
    dsimp only at hi hp
    have hlen : (l.take (capN 60 l.length)).length = capN 60 l.length := by rw [List.length_take]; omega
    have hx : ∀ j, j < (l.take (capN 60 l.length)).length → 0 ≤ (l.take (capN 60 l.length)).getD j 0 ∧ (l.take (capN 60 l.length)).getD j 0 < 256 := fun j hj => hl _ (List.mem_of_mem_take (getD_mem hj))
    generalize l.take (capN 60 l.length) = ks at *
    generalize N.cut 20 = M at *
    by_cases hin : i = capN 60 l.length
    · repeat refine stp ?_
      refine callT_E (may_g hp) rfl ?_
      repeat refine stp ?_
      refine callT_E works_c rfl ?_
      repeat refine stp ?_
      show Eqv _ _
      exact .up (.up (.refl _))
    have hlt : i < ks.length := by omega
    have hb := hx i hlt
    clear hx
    generalize hxk : ks.getD i 0 = x at hb
    have e1 : IntKind.i64.wrap ((i : Int) + 1) = ((i + 1 : Nat) : Int) := by rw [wi (by omega) (by omega)]; rfl
    apply share (C := fun (q : Pan) k => callT Try.prog 0 30 [q.D.A] (vS M ks ms i) [.cells q.L] k) (ok := Good)
    · intro K
      repeat refine stp ?_
      refine draw_treeW (picks (List.range 10) (.fork 10 11 (picks [11, 12, 13, 14] .done) (picks [10, 12, 13, 14] .done))) (by decide +kernel) ?_
      repeat refine stp ?_
      conv => whnf
      simp only [Int.toNat_natCast, hxk]
      repeat refine stp ?_
      refine ⟨_, ⟨press_x hp hb.1, rfl⟩, ?_⟩
      repeat refine stp ?_
      refine ⟨end_weak (weak_keep (tm' := slots 187 [(0, M.A), (1, ints .u8 ks), (2, ints .u16 ms), (7, .ptr ⟨0, 0, 0⟩), (9, .int .i64 i), (10, .ptr ⟨1, 0, 0⟩), (12, .int .i64 (pressX p x).2.2)]) (H' := [.cells p.L, .cells (pressX p x).1.L]) (keep 187 [0, 1, 2, 7, 9, 10, 12]) [0, 1] rfl rfl rfl) ?k, end_weak (weak_keep (tm' := slots 187 [(0, M.A), (1, ints .u8 ks), (2, ints .u16 ms), (7, .ptr ⟨0, 0, 0⟩), (9, .int .i64 i), (10, .ptr ⟨1, 0, 0⟩), (12, .int .i64 (pressX p x).2.2)]) (H' := [.cells p.L, .cells (pressX p x).1.L]) (keep 187 [0, 1, 2, 7, 9, 10, 12]) [0, 2] rfl rfl rfl) ?k⟩
      have hX := fun h => press_xg (k := x) hp h
      generalize pressX p x = X at hX ⊢
      repeat refine stp ?_
      apply branch_intro <;> intro he0
      · have hg := hX (eq_of_beq he0)
        repeat refine stp ?_
        by_cases hi2 : i < ms.length
        · have hc := hm6 _ (getD_mem hi2)
          generalize hcc : ms.getD i 0 = c at hc
          have h6 := idx6 hc
          repeat refine stp ?_
          conv => whnf
          simp only [Int.toNat_natCast, hcc]
          repeat refine stp ?_
          apply branch_intro <;> intro h8
          · skip
            repeat refine stp ?_
            apply choice_r
            repeat refine stp ?_
            refine callT_part [2] rfl (fill_c _ hg.ok ((may_iff _).2 hg.may) six six_w (by decide)) ?_
            rintro v H' ⟨rfl, rfl⟩ x G hx hG
            subst hx hG
            repeat refine stp ?_
            exact callT_weak rfl (weak_keep (true :: keep 187 [0, 1, 2, 7, 9]) [0] rfl rfl rfl) (K _ (fill_good _ six hg))
          · repeat refine stp ?_
            apply branch_intro <;> intro h81
            · skip
              repeat refine stp ?_
              refine partW_at rfl (show _ = some (AVal.int .i64 (vbI ((IntKind.i64.wrap ((IntKind.i64.wrap c).tdiv 8)).tmod 6))) from ?_) ?_
              · rcases (show (IntKind.i64.wrap ((IntKind.i64.wrap c).tdiv 8)).tmod 6 = 0 ∨ (IntKind.i64.wrap ((IntKind.i64.wrap c).tdiv 8)).tmod 6 = 1 ∨ (IntKind.i64.wrap ((IntKind.i64.wrap c).tdiv 8)).tmod 6 = 2 ∨ (IntKind.i64.wrap ((IntKind.i64.wrap c).tdiv 8)).tmod 6 = 3 ∨ (IntKind.i64.wrap ((IntKind.i64.wrap c).tdiv 8)).tmod 6 = 4 ∨ (IntKind.i64.wrap ((IntKind.i64.wrap c).tdiv 8)).tmod 6 = 5 by omega) with e | e | e | e | e | e <;> rw [e] <;> rfl
              repeat refine stp ?_
              apply branch_intro <;> intro hn
              · have hn' : 0 < M.n := by simp at hn; omega
                have hN := idxN hc hn'
                repeat refine stp ?_
                conv => whnf
                repeat refine stp ?_
                refine callT_E (ask_x hg _ _) rfl ?_
                repeat refine stp ?_
                apply branch_intro <;> intro he
                · repeat refine stp ?_
                  exact callT_weak rfl (weak_keep (true :: keep 187 [0, 1, 2, 7, 9]) [0] rfl rfl rfl) (K _ (ask_xg hg (eq_of_beq he)))
                · repeat refine stp ?_
                  exact callT_weak rfl (weak_keep (true :: keep 187 [0, 1, 2, 7, 9]) [0] rfl rfl rfl) (K _ hg)
              · repeat refine stp ?_
                refine callT_E (ask_x hg _ _) rfl ?_
                repeat refine stp ?_
                apply branch_intro <;> intro he
                · repeat refine stp ?_
                  exact callT_weak rfl (weak_keep (true :: keep 187 [0, 1, 2, 7, 9]) [0] rfl rfl rfl) (K _ (ask_xg hg (eq_of_beq he)))
                · repeat refine stp ?_
                  exact callT_weak rfl (weak_keep (true :: keep 187 [0, 1, 2, 7, 9]) [0] rfl rfl rfl) (K _ hg)
            · repeat refine stp ?_
              apply branch_intro <;> intro h82
              · skip
                repeat refine stp ?_
                refine partW_at rfl (show _ = some (AVal.int .i64 (vbI ((IntKind.i64.wrap ((IntKind.i64.wrap c).tdiv 8)).tmod 6))) from ?_) ?_
                · rcases (show (IntKind.i64.wrap ((IntKind.i64.wrap c).tdiv 8)).tmod 6 = 0 ∨ (IntKind.i64.wrap ((IntKind.i64.wrap c).tdiv 8)).tmod 6 = 1 ∨ (IntKind.i64.wrap ((IntKind.i64.wrap c).tdiv 8)).tmod 6 = 2 ∨ (IntKind.i64.wrap ((IntKind.i64.wrap c).tdiv 8)).tmod 6 = 3 ∨ (IntKind.i64.wrap ((IntKind.i64.wrap c).tdiv 8)).tmod 6 = 4 ∨ (IntKind.i64.wrap ((IntKind.i64.wrap c).tdiv 8)).tmod 6 = 5 by omega) with e | e | e | e | e | e <;> rw [e] <;> rfl
                repeat refine stp ?_
                apply branch_intro <;> intro hn
                · have hn' : 0 < M.n := by simp at hn; omega
                  have hN := idxN hc hn'
                  repeat refine stp ?_
                  conv => whnf
                  repeat refine stp ?_
                  refine callT_E (ask_x hg _ _) rfl ?_
                  repeat refine stp ?_
                  apply branch_intro <;> intro he
                  · repeat refine stp ?_
                    exact callT_weak rfl (weak_keep (true :: keep 187 [0, 1, 2, 7, 9]) [0] rfl rfl rfl) (K _ (ask_xg hg (eq_of_beq he)))
                  · repeat refine stp ?_
                    exact callT_weak rfl (weak_keep (true :: keep 187 [0, 1, 2, 7, 9]) [0] rfl rfl rfl) (K _ hg)
                · repeat refine stp ?_
                  refine callT_E (ask_x hg _ _) rfl ?_
                  repeat refine stp ?_
                  apply branch_intro <;> intro he
                  · repeat refine stp ?_
                    exact callT_weak rfl (weak_keep (true :: keep 187 [0, 1, 2, 7, 9]) [0] rfl rfl rfl) (K _ (ask_xg hg (eq_of_beq he)))
                  · repeat refine stp ?_
                    exact callT_weak rfl (weak_keep (true :: keep 187 [0, 1, 2, 7, 9]) [0] rfl rfl rfl) (K _ hg)
              · repeat refine stp ?_
                apply branch_intro <;> intro h83
                · repeat refine stp ?_
                  refine callT_E (light_ok _ hg.ok ((may_iff _).2 hg.may) _ _ (idx8 hc)) rfl ?_
                  repeat refine stp ?_
                  exact callT_weak rfl (weak_keep (true :: keep 187 [0, 1, 2, 7, 9]) [0] rfl rfl rfl) (K _ (light_good hg (idx8 hc) _))
                · repeat refine stp ?_
                  exact callT_weak rfl (weak_keep (true :: keep 187 [0, 1, 2, 7, 9]) [0] rfl rfl rfl) (K _ hg)
        · skip
          repeat refine stp ?_
          apply choice_r
          repeat refine stp ?_
          refine callT_part [2] rfl (fill_c _ hg.ok ((may_iff _).2 hg.may) six six_w (by decide)) ?_
          rintro v H' ⟨rfl, rfl⟩ x G hx hG
          subst hx hG
          repeat refine stp ?_
          exact callT_weak rfl (weak_keep (true :: keep 187 [0, 1, 2, 7, 9]) [0] rfl rfl rfl) (K _ (fill_good _ six hg))
      · have hg := hp
        repeat refine stp ?_
        by_cases hi2 : i < ms.length
        · have hc := hm6 _ (getD_mem hi2)
          generalize hcc : ms.getD i 0 = c at hc
          have h6 := idx6 hc
          repeat refine stp ?_
          conv => whnf
          simp only [Int.toNat_natCast, hcc]
          repeat refine stp ?_
          apply branch_intro <;> intro h8
          · skip
            repeat refine stp ?_
            apply choice_r
            repeat refine stp ?_
            refine callT_part [2] rfl (fill_c _ hg.ok ((may_iff _).2 hg.may) six six_w (by decide)) ?_
            rintro v H' ⟨rfl, rfl⟩ x G hx hG
            subst hx hG
            repeat refine stp ?_
            exact callT_weak rfl (weak_keep (true :: keep 187 [0, 1, 2, 7, 9]) [0] rfl rfl rfl) (K _ (fill_good _ six hg))
          · repeat refine stp ?_
            apply branch_intro <;> intro h81
            · skip
              repeat refine stp ?_
              refine partW_at rfl (show _ = some (AVal.int .i64 (vbI ((IntKind.i64.wrap ((IntKind.i64.wrap c).tdiv 8)).tmod 6))) from ?_) ?_
              · rcases (show (IntKind.i64.wrap ((IntKind.i64.wrap c).tdiv 8)).tmod 6 = 0 ∨ (IntKind.i64.wrap ((IntKind.i64.wrap c).tdiv 8)).tmod 6 = 1 ∨ (IntKind.i64.wrap ((IntKind.i64.wrap c).tdiv 8)).tmod 6 = 2 ∨ (IntKind.i64.wrap ((IntKind.i64.wrap c).tdiv 8)).tmod 6 = 3 ∨ (IntKind.i64.wrap ((IntKind.i64.wrap c).tdiv 8)).tmod 6 = 4 ∨ (IntKind.i64.wrap ((IntKind.i64.wrap c).tdiv 8)).tmod 6 = 5 by omega) with e | e | e | e | e | e <;> rw [e] <;> rfl
              repeat refine stp ?_
              apply branch_intro <;> intro hn
              · have hn' : 0 < M.n := by simp at hn; omega
                have hN := idxN hc hn'
                repeat refine stp ?_
                conv => whnf
                repeat refine stp ?_
                refine callT_E (ask_x hg _ _) rfl ?_
                repeat refine stp ?_
                apply branch_intro <;> intro he
                · repeat refine stp ?_
                  exact callT_weak rfl (weak_keep (true :: keep 187 [0, 1, 2, 7, 9]) [0] rfl rfl rfl) (K _ (ask_xg hg (eq_of_beq he)))
                · repeat refine stp ?_
                  exact callT_weak rfl (weak_keep (true :: keep 187 [0, 1, 2, 7, 9]) [0] rfl rfl rfl) (K _ hg)
              · repeat refine stp ?_
                refine callT_E (ask_x hg _ _) rfl ?_
                repeat refine stp ?_
                apply branch_intro <;> intro he
                · repeat refine stp ?_
                  exact callT_weak rfl (weak_keep (true :: keep 187 [0, 1, 2, 7, 9]) [0] rfl rfl rfl) (K _ (ask_xg hg (eq_of_beq he)))
                · repeat refine stp ?_
                  exact callT_weak rfl (weak_keep (true :: keep 187 [0, 1, 2, 7, 9]) [0] rfl rfl rfl) (K _ hg)
            · repeat refine stp ?_
              apply branch_intro <;> intro h82
              · skip
                repeat refine stp ?_
                refine partW_at rfl (show _ = some (AVal.int .i64 (vbI ((IntKind.i64.wrap ((IntKind.i64.wrap c).tdiv 8)).tmod 6))) from ?_) ?_
                · rcases (show (IntKind.i64.wrap ((IntKind.i64.wrap c).tdiv 8)).tmod 6 = 0 ∨ (IntKind.i64.wrap ((IntKind.i64.wrap c).tdiv 8)).tmod 6 = 1 ∨ (IntKind.i64.wrap ((IntKind.i64.wrap c).tdiv 8)).tmod 6 = 2 ∨ (IntKind.i64.wrap ((IntKind.i64.wrap c).tdiv 8)).tmod 6 = 3 ∨ (IntKind.i64.wrap ((IntKind.i64.wrap c).tdiv 8)).tmod 6 = 4 ∨ (IntKind.i64.wrap ((IntKind.i64.wrap c).tdiv 8)).tmod 6 = 5 by omega) with e | e | e | e | e | e <;> rw [e] <;> rfl
                repeat refine stp ?_
                apply branch_intro <;> intro hn
                · have hn' : 0 < M.n := by simp at hn; omega
                  have hN := idxN hc hn'
                  repeat refine stp ?_
                  conv => whnf
                  repeat refine stp ?_
                  refine callT_E (ask_x hg _ _) rfl ?_
                  repeat refine stp ?_
                  apply branch_intro <;> intro he
                  · repeat refine stp ?_
                    exact callT_weak rfl (weak_keep (true :: keep 187 [0, 1, 2, 7, 9]) [0] rfl rfl rfl) (K _ (ask_xg hg (eq_of_beq he)))
                  · repeat refine stp ?_
                    exact callT_weak rfl (weak_keep (true :: keep 187 [0, 1, 2, 7, 9]) [0] rfl rfl rfl) (K _ hg)
                · repeat refine stp ?_
                  refine callT_E (ask_x hg _ _) rfl ?_
                  repeat refine stp ?_
                  apply branch_intro <;> intro he
                  · repeat refine stp ?_
                    exact callT_weak rfl (weak_keep (true :: keep 187 [0, 1, 2, 7, 9]) [0] rfl rfl rfl) (K _ (ask_xg hg (eq_of_beq he)))
                  · repeat refine stp ?_
                    exact callT_weak rfl (weak_keep (true :: keep 187 [0, 1, 2, 7, 9]) [0] rfl rfl rfl) (K _ hg)
              · repeat refine stp ?_
                apply branch_intro <;> intro h83
                · repeat refine stp ?_
                  refine callT_E (light_ok _ hg.ok ((may_iff _).2 hg.may) _ _ (idx8 hc)) rfl ?_
                  repeat refine stp ?_
                  exact callT_weak rfl (weak_keep (true :: keep 187 [0, 1, 2, 7, 9]) [0] rfl rfl rfl) (K _ (light_good hg (idx8 hc) _))
                · repeat refine stp ?_
                  exact callT_weak rfl (weak_keep (true :: keep 187 [0, 1, 2, 7, 9]) [0] rfl rfl rfl) (K _ hg)
        · skip
          repeat refine stp ?_
          apply choice_r
          repeat refine stp ?_
          refine callT_part [2] rfl (fill_c _ hg.ok ((may_iff _).2 hg.may) six six_w (by decide)) ?_
          rintro v H' ⟨rfl, rfl⟩ x G hx hG
          subst hx hG
          repeat refine stp ?_
          exact callT_weak rfl (weak_keep (true :: keep 187 [0, 1, 2, 7, 9]) [0] rfl rfl rfl) (K _ (fill_good _ six hg))
    · rintro q hq
      have hD := hq.pre.D
      have ew := words_d hD
      have es := show_d hD
      have em := may_g hq
      have ef := flashes_g hq
      have er := free_g hq
      have fin : ∀ (a b : Bool), flash q = a → waits q = b → callP Try.prog 21 [q.A] (· = .bool a) ∧ callP Try.prog 20 [q.A] (· = .bool b) := fun a b h1 h2 => by
        rw [← h1, ← h2]; exact ⟨ef, er⟩
      clear ef er
      cases hA : q.asked with
      | true =>
        obtain ⟨ef, er⟩ := fin true false (by simp [flash, hA]) (by simp [waits, hA])
        by_cases hv : q.av = 0
        · skip
          refine callT_E ew rfl ?_
          repeat refine stp ?_
          refine callT_E es rfl ?_
          repeat refine stp ?_
          refine draw_tree (picks (List.range 43) .done) (by decide +kernel) ?_
          repeat refine stp ?_
          refine ⟨_, ⟨em, rfl⟩, ?_⟩
          repeat refine stp ?_
          refine ⟨_, ⟨ef, rfl⟩, ?_⟩
          repeat refine stp ?_
          refine ⟨_, ⟨er, rfl⟩, ?_⟩
          repeat refine stp ?_
          refine ⟨(i + 1, q), ⟨by show i + 1 ≤ capN 60 l.length; omega, hq⟩, by show capN 60 l.length - (i + 1) < capN 60 l.length - i; omega, weak_keep (keep 187 [0, 1, 2, 7, 9]) [0] rfl ?_ rfl⟩
          show [_, _, _, _, _, _, _, _, _, _, _, _, _, _, _, _, _, _, _, _, _, _, _, _, _, _, _, _, _, _, _, _, _, _, _, _, _, _, _, _, _, _, _, _, _, _, _, _, _, _, _, _, _, _, _, _, _, _, _, _, _, _, _, _, _, _, _, _, _, _, _, _, _, _, _, _, _, _, _, _, _, _, _, _, _, _, _, _, _, _, _, _, _, _, _, _, _, _, _, _, _, _, _, _, _, _, _, _, _, _, _, _, _, _, _, _, _, _, _, _, _, _, _, _, _, _, _, _, _, _, _, _, _, _, _, _, _, _, _, _, _, _, _, _, _, _, _, _, _, _, _, _, _, _, _, _, _, _, _, _, _, _, _, _, _, _, _, _, _, _, _, _, _, _, _, _, _, _, _, _, _, _, _, _, _, _, _] = _
          rw [e1]
          rfl
        · skip
          refine callT_E ew rfl ?_
          repeat refine stp ?_
          refine callT_E es rfl ?_
          repeat refine stp ?_
          refine draw_tree (picks (List.range 43) .done) (by decide +kernel) ?_
          repeat refine stp ?_
          refine ⟨_, ⟨em, rfl⟩, ?_⟩
          repeat refine stp ?_
          refine ⟨_, ⟨ef, rfl⟩, ?_⟩
          repeat refine stp ?_
          refine ⟨_, ⟨er, rfl⟩, ?_⟩
          repeat refine stp ?_
          refine ⟨(i + 1, q), ⟨by show i + 1 ≤ capN 60 l.length; omega, hq⟩, by show capN 60 l.length - (i + 1) < capN 60 l.length - i; omega, weak_keep (keep 187 [0, 1, 2, 7, 9]) [0] rfl ?_ rfl⟩
          show [_, _, _, _, _, _, _, _, _, _, _, _, _, _, _, _, _, _, _, _, _, _, _, _, _, _, _, _, _, _, _, _, _, _, _, _, _, _, _, _, _, _, _, _, _, _, _, _, _, _, _, _, _, _, _, _, _, _, _, _, _, _, _, _, _, _, _, _, _, _, _, _, _, _, _, _, _, _, _, _, _, _, _, _, _, _, _, _, _, _, _, _, _, _, _, _, _, _, _, _, _, _, _, _, _, _, _, _, _, _, _, _, _, _, _, _, _, _, _, _, _, _, _, _, _, _, _, _, _, _, _, _, _, _, _, _, _, _, _, _, _, _, _, _, _, _, _, _, _, _, _, _, _, _, _, _, _, _, _, _, _, _, _, _, _, _, _, _, _, _, _, _, _, _, _, _, _, _, _, _, _, _, _, _, _, _, _] = _
          rw [e1]
          rfl
      | false =>
        by_cases hv : q.av = 0
        · by_cases h3 : q.st = 3
          · obtain ⟨ef, er⟩ := fin true false (by simp [flash, hA, h3]) (by simp [waits, hA, hv])
            refine callT_E ew rfl ?_
            repeat refine stp ?_
            refine callT_E es rfl ?_
            repeat refine stp ?_
            refine draw_tree (picks (List.range 43) .done) (by decide +kernel) ?_
            repeat refine stp ?_
            refine ⟨_, ⟨em, rfl⟩, ?_⟩
            repeat refine stp ?_
            refine ⟨_, ⟨ef, rfl⟩, ?_⟩
            repeat refine stp ?_
            refine ⟨_, ⟨er, rfl⟩, ?_⟩
            repeat refine stp ?_
            refine ⟨(i + 1, q), ⟨by show i + 1 ≤ capN 60 l.length; omega, hq⟩, by show capN 60 l.length - (i + 1) < capN 60 l.length - i; omega, weak_keep (keep 187 [0, 1, 2, 7, 9]) [0] rfl ?_ rfl⟩
            show [_, _, _, _, _, _, _, _, _, _, _, _, _, _, _, _, _, _, _, _, _, _, _, _, _, _, _, _, _, _, _, _, _, _, _, _, _, _, _, _, _, _, _, _, _, _, _, _, _, _, _, _, _, _, _, _, _, _, _, _, _, _, _, _, _, _, _, _, _, _, _, _, _, _, _, _, _, _, _, _, _, _, _, _, _, _, _, _, _, _, _, _, _, _, _, _, _, _, _, _, _, _, _, _, _, _, _, _, _, _, _, _, _, _, _, _, _, _, _, _, _, _, _, _, _, _, _, _, _, _, _, _, _, _, _, _, _, _, _, _, _, _, _, _, _, _, _, _, _, _, _, _, _, _, _, _, _, _, _, _, _, _, _, _, _, _, _, _, _, _, _, _, _, _, _, _, _, _, _, _, _, _, _, _, _, _, _] = _
            rw [e1]
            rfl
          · by_cases h4 : q.st = 4
            · obtain ⟨ef, er⟩ := fin true false (by simp [flash, hA, h4]) (by simp [waits, hA, hv])
              refine callT_E ew rfl ?_
              repeat refine stp ?_
              refine callT_E es rfl ?_
              repeat refine stp ?_
              refine draw_tree (picks (List.range 43) .done) (by decide +kernel) ?_
              repeat refine stp ?_
              refine ⟨_, ⟨em, rfl⟩, ?_⟩
              repeat refine stp ?_
              refine ⟨_, ⟨ef, rfl⟩, ?_⟩
              repeat refine stp ?_
              refine ⟨_, ⟨er, rfl⟩, ?_⟩
              repeat refine stp ?_
              refine ⟨(i + 1, q), ⟨by show i + 1 ≤ capN 60 l.length; omega, hq⟩, by show capN 60 l.length - (i + 1) < capN 60 l.length - i; omega, weak_keep (keep 187 [0, 1, 2, 7, 9]) [0] rfl ?_ rfl⟩
              show [_, _, _, _, _, _, _, _, _, _, _, _, _, _, _, _, _, _, _, _, _, _, _, _, _, _, _, _, _, _, _, _, _, _, _, _, _, _, _, _, _, _, _, _, _, _, _, _, _, _, _, _, _, _, _, _, _, _, _, _, _, _, _, _, _, _, _, _, _, _, _, _, _, _, _, _, _, _, _, _, _, _, _, _, _, _, _, _, _, _, _, _, _, _, _, _, _, _, _, _, _, _, _, _, _, _, _, _, _, _, _, _, _, _, _, _, _, _, _, _, _, _, _, _, _, _, _, _, _, _, _, _, _, _, _, _, _, _, _, _, _, _, _, _, _, _, _, _, _, _, _, _, _, _, _, _, _, _, _, _, _, _, _, _, _, _, _, _, _, _, _, _, _, _, _, _, _, _, _, _, _, _, _, _, _, _, _] = _
              rw [e1]
              rfl
            · obtain ⟨ef, er⟩ := fin false false (by simp [flash, hA, h3, h4]) (by simp [waits, hA, hv])
              refine callT_E ew rfl ?_
              repeat refine stp ?_
              refine callT_E es rfl ?_
              repeat refine stp ?_
              refine draw_tree (picks (List.range 43) .done) (by decide +kernel) ?_
              repeat refine stp ?_
              refine ⟨_, ⟨em, rfl⟩, ?_⟩
              repeat refine stp ?_
              refine ⟨_, ⟨ef, rfl⟩, ?_⟩
              repeat refine stp ?_
              refine ⟨_, ⟨er, rfl⟩, ?_⟩
              repeat refine stp ?_
              refine ⟨(i + 1, q), ⟨by show i + 1 ≤ capN 60 l.length; omega, hq⟩, by show capN 60 l.length - (i + 1) < capN 60 l.length - i; omega, weak_keep (keep 187 [0, 1, 2, 7, 9]) [0] rfl ?_ rfl⟩
              show [_, _, _, _, _, _, _, _, _, _, _, _, _, _, _, _, _, _, _, _, _, _, _, _, _, _, _, _, _, _, _, _, _, _, _, _, _, _, _, _, _, _, _, _, _, _, _, _, _, _, _, _, _, _, _, _, _, _, _, _, _, _, _, _, _, _, _, _, _, _, _, _, _, _, _, _, _, _, _, _, _, _, _, _, _, _, _, _, _, _, _, _, _, _, _, _, _, _, _, _, _, _, _, _, _, _, _, _, _, _, _, _, _, _, _, _, _, _, _, _, _, _, _, _, _, _, _, _, _, _, _, _, _, _, _, _, _, _, _, _, _, _, _, _, _, _, _, _, _, _, _, _, _, _, _, _, _, _, _, _, _, _, _, _, _, _, _, _, _, _, _, _, _, _, _, _, _, _, _, _, _, _, _, _, _, _, _] = _
              rw [e1]
              rfl
        · by_cases h3 : q.st = 3
          · obtain ⟨ef, er⟩ := fin true true (by simp [flash, hA, h3]) (by simp [waits, hA, hv])
            refine callT_E ew rfl ?_
            repeat refine stp ?_
            refine callT_E es rfl ?_
            repeat refine stp ?_
            refine draw_tree (picks (List.range 43) .done) (by decide +kernel) ?_
            repeat refine stp ?_
            refine ⟨_, ⟨em, rfl⟩, ?_⟩
            repeat refine stp ?_
            refine ⟨_, ⟨ef, rfl⟩, ?_⟩
            repeat refine stp ?_
            refine ⟨_, ⟨er, rfl⟩, ?_⟩
            repeat refine stp ?_
            refine ⟨(i + 1, q), ⟨by show i + 1 ≤ capN 60 l.length; omega, hq⟩, by show capN 60 l.length - (i + 1) < capN 60 l.length - i; omega, weak_keep (keep 187 [0, 1, 2, 7, 9]) [0] rfl ?_ rfl⟩
            show [_, _, _, _, _, _, _, _, _, _, _, _, _, _, _, _, _, _, _, _, _, _, _, _, _, _, _, _, _, _, _, _, _, _, _, _, _, _, _, _, _, _, _, _, _, _, _, _, _, _, _, _, _, _, _, _, _, _, _, _, _, _, _, _, _, _, _, _, _, _, _, _, _, _, _, _, _, _, _, _, _, _, _, _, _, _, _, _, _, _, _, _, _, _, _, _, _, _, _, _, _, _, _, _, _, _, _, _, _, _, _, _, _, _, _, _, _, _, _, _, _, _, _, _, _, _, _, _, _, _, _, _, _, _, _, _, _, _, _, _, _, _, _, _, _, _, _, _, _, _, _, _, _, _, _, _, _, _, _, _, _, _, _, _, _, _, _, _, _, _, _, _, _, _, _, _, _, _, _, _, _, _, _, _, _, _, _] = _
            rw [e1]
            rfl
          · by_cases h4 : q.st = 4
            · obtain ⟨ef, er⟩ := fin true true (by simp [flash, hA, h4]) (by simp [waits, hA, hv])
              refine callT_E ew rfl ?_
              repeat refine stp ?_
              refine callT_E es rfl ?_
              repeat refine stp ?_
              refine draw_tree (picks (List.range 43) .done) (by decide +kernel) ?_
              repeat refine stp ?_
              refine ⟨_, ⟨em, rfl⟩, ?_⟩
              repeat refine stp ?_
              refine ⟨_, ⟨ef, rfl⟩, ?_⟩
              repeat refine stp ?_
              refine ⟨_, ⟨er, rfl⟩, ?_⟩
              repeat refine stp ?_
              refine ⟨(i + 1, q), ⟨by show i + 1 ≤ capN 60 l.length; omega, hq⟩, by show capN 60 l.length - (i + 1) < capN 60 l.length - i; omega, weak_keep (keep 187 [0, 1, 2, 7, 9]) [0] rfl ?_ rfl⟩
              show [_, _, _, _, _, _, _, _, _, _, _, _, _, _, _, _, _, _, _, _, _, _, _, _, _, _, _, _, _, _, _, _, _, _, _, _, _, _, _, _, _, _, _, _, _, _, _, _, _, _, _, _, _, _, _, _, _, _, _, _, _, _, _, _, _, _, _, _, _, _, _, _, _, _, _, _, _, _, _, _, _, _, _, _, _, _, _, _, _, _, _, _, _, _, _, _, _, _, _, _, _, _, _, _, _, _, _, _, _, _, _, _, _, _, _, _, _, _, _, _, _, _, _, _, _, _, _, _, _, _, _, _, _, _, _, _, _, _, _, _, _, _, _, _, _, _, _, _, _, _, _, _, _, _, _, _, _, _, _, _, _, _, _, _, _, _, _, _, _, _, _, _, _, _, _, _, _, _, _, _, _, _, _, _, _, _, _] = _
              rw [e1]
              rfl
            · obtain ⟨ef, er⟩ := fin false true (by simp [flash, hA, h3, h4]) (by simp [waits, hA, hv])
              refine callT_E ew rfl ?_
              repeat refine stp ?_
              refine callT_E es rfl ?_
              repeat refine stp ?_
              refine draw_tree (picks (List.range 43) .done) (by decide +kernel) ?_
              repeat refine stp ?_
              refine ⟨_, ⟨em, rfl⟩, ?_⟩
              repeat refine stp ?_
              refine ⟨_, ⟨ef, rfl⟩, ?_⟩
              repeat refine stp ?_
              refine ⟨_, ⟨er, rfl⟩, ?_⟩
              repeat refine stp ?_
              refine ⟨(i + 1, q), ⟨by show i + 1 ≤ capN 60 l.length; omega, hq⟩, by show capN 60 l.length - (i + 1) < capN 60 l.length - i; omega, weak_keep (keep 187 [0, 1, 2, 7, 9]) [0] rfl ?_ rfl⟩
              show [_, _, _, _, _, _, _, _, _, _, _, _, _, _, _, _, _, _, _, _, _, _, _, _, _, _, _, _, _, _, _, _, _, _, _, _, _, _, _, _, _, _, _, _, _, _, _, _, _, _, _, _, _, _, _, _, _, _, _, _, _, _, _, _, _, _, _, _, _, _, _, _, _, _, _, _, _, _, _, _, _, _, _, _, _, _, _, _, _, _, _, _, _, _, _, _, _, _, _, _, _, _, _, _, _, _, _, _, _, _, _, _, _, _, _, _, _, _, _, _, _, _, _, _, _, _, _, _, _, _, _, _, _, _, _, _, _, _, _, _, _, _, _, _, _, _, _, _, _, _, _, _, _, _, _, _, _, _, _, _, _, _, _, _, _, _, _, _, _, _, _, _, _, _, _, _, _, _, _, _, _, _, _, _, _, _, _] = _
              rw [e1]
              rfl
end Go.Proofs
/-! Xf. -/
namespace Go.Proofs
open Go.E
set_option maxRecDepth 8000

theorem valid_law (n : Nat) (num : Nat → Int) (m : Nat → Nat) (D : Nat → Nat → Nat → Int) (hn : n ≤ maxLen)
    (hw : ∀ i, i < n → IntKind.i64.has (num i) ∧ m i ≤ maxLen ∧ ∀ j, j < m i → HasL [.u8, .i64, .i64, .i64] (D i j)) (hm : ∀ i, i < n → m i * 32 ≤ 140737488355328)
    (l : List Int) (_ : l.length ≤ maxLen) (hl : ∀ x ∈ l, 0 ≤ x ∧ x < 256) (ms : List Int) (hs : ms.length ≤ maxLen) (hx : ∀ x ∈ ms, 0 ≤ x ∧ x < 65536) :
    callP Try.prog 7 [.ro 2 n (fun i => [.int .i64 (num i), .ro 4 (m i) (fun j => aggL (D i j) [.u8, .i64, .i64, .i64] 0)]), ints .u8 l, ints .u16 ms] (· = .bool true) :=
  valid_go (argN n num m D) (argN_ok hn hw hm) l hl ms hs hx
end Go.Proofs
