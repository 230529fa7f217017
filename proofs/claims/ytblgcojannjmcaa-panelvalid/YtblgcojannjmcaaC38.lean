/- Chapter 30: Ask. -/
import Derived.Test.YtblgcojannjmcaaC37
set_option linter.unusedVariables false
set_option linter.unusedSimpArgs false
/-! Uc. -/
namespace Go.Proofs
open Go.E
set_option maxRecDepth 8000

theorem done_n (p : Pan) (k n : Int) (h : 0 ≤ p.D.st ∧ p.D.st < 2048) : callN Try.prog 33 [.ptr ⟨0, 0, 0⟩] [.cells (deskL p k n .nilslice)] fun v H' => v = .tuple [(litV p).A, .agg [.int .u8 k, .int .i64 n, .nilslice], .int .i64 0] ∧ H' = [.cells (deskL (litV p) k n .nilslice)] := by
  unfold litV
  rw [← stat5i p h]
  refine callN_end [0] ?_
  refine callN_def env (fn := Try.f33) 1 rfl rfl (by decide) ?_
  repeat refine stp ?_
  refine draw_tree (picks (List.range 19) .done) (by decide +kernel) ?_
  refine ⟨_, ⟨lights_c p, rfl⟩, ?_⟩
  repeat refine stp ?_
  refine draw_tree (picks (List.range 7) (.fork 7 8 (picks [8, 9, 10] .done) (picks [7, 9, 10] .done))) (by decide +kernel) ?_
  constructor <;>
  · exact ⟨rfl, Eqv.same _, EqvH.refl _⟩
theorem find_num {N : Nns} (hm : N.may = true) {n : Int} {i : Nat} (h : N.find n = some i) : 1 ≤ n ∧ n ≤ 99 := by
  have := find_lt h
  have := (may_good hm this.1).1
  omega
theorem fit_num {v : Int} {m : Nat} (h : fits (vrb v) m = true) : (1 ≤ v ∧ v ≤ 99) ∧ ((vrb v).k = 1 ∨ (vrb v).k = 2 ∨ (vrb v).k = 3) := by
  have hk : (vrb v).k = 1 ∨ (vrb v).k = 2 ∨ (vrb v).k = 3 := by
    have := of_decide_eq_true h
    omega
  refine ⟨?_, hk⟩
  by_cases hn : v ∈ ([1, 2, 3, 4, 5, 6, 11, 12, 13, 14, 15, 16, 21, 22, 23, 24, 25, 32, 33, 34, 35, 37] : List Int)
  · simp only [List.mem_cons, List.not_mem_nil, or_false] at hn
    omega
  · rw [show vrb v = .z by
      simp only [List.mem_cons, not_or] at hn
      simp [vrb, hn]] at hk
    simp [Vrb.z] at hk
theorem suit_num {N : Nns} (hm : N.may = true) {v n : Int} (h : suit N v n = true) : (1 ≤ v ∧ v ≤ 99) ∧ (1 ≤ n ∧ n ≤ 99) ∧ ((vrb v).k = 1 ∨ (vrb v).k = 2 ∨ (vrb v).k = 3) := by
  obtain ⟨i, hf, hfit⟩ := suit_find h
  exact ⟨(fit_num hfit).1, find_num hm hf, (fit_num hfit).2⟩
def askP (p : Pan) (v n : Int) : Pan × Req :=
  if p.st = 0 ∨ p.asked = true then (litV (askV { p with av := v, aq := n }).1, (askV { p with av := v, aq := n }).2) else (litV { p with av := v, aq := n }, .z)
theorem ask_no (p : Pan) (hp : p.Ok) (hm : mayV p = true) (v n : Int) (hs : suit p.N v n = false) : callP Try.prog 19 [p.A, .int .i64 v, .int .i64 n] (· = .tuple [Pan.zero.A, Req.z.A, .int .i64 7]) := by
  have em := pmay_c p hp
  rw [hm] at em
  cases hf : p.N.find n with
  | none =>
    refine callE_def env (fn := Try.f19) rfl (by decide) rfl ?_
    repeat refine stp ?_
    refine callT_E em rfl ?_
    repeat refine stp ?_
    refine callT_E (suits_none hp.N.toOk hf) rfl ?_
    repeat refine stp ?_
    show Eqv (.tuple [_, _, _]) _
    exact .tuple (.cons zero_eqv (.cons reqz_eqv (.cons (.up (.refl _)) .nil)))
  | some i =>
    have e := suits_some hp.N.toOk (v := v) hf
    rw [suit_some hf] at hs
    rw [hs] at e
    refine callE_def env (fn := Try.f19) rfl (by decide) rfl ?_
    repeat refine stp ?_
    refine callT_E em rfl ?_
    repeat refine stp ?_
    refine callT_E e rfl ?_
    repeat refine stp ?_
    show Eqv (.tuple [_, _, _]) _
    exact .tuple (.cons zero_eqv (.cons reqz_eqv (.cons (.up (.refl _)) .nil)))
set_option maxHeartbeats 4000000 in
theorem ask_ok (p : Pan) (hp : p.Ok) (hm : mayV p = true) (v n : Int) (hs : suit p.N v n = true) : callP Try.prog 19 [p.A, .int .i64 v, .int .i64 n] (· = .tuple [(askP p v n).1.A, (askP p v n).2.A, .int .i64 0]) := by
  have em := pmay_c p hp
  have hM := (may_iff p).1 hm
  rw [hm] at em
  have hst : 0 ≤ p.D.st ∧ p.D.st < 2048 := ⟨hp.D.2.2.1, (disp_st hM.D).2⟩
  obtain ⟨hv, hn, hk⟩ := suit_num hM.N hs
  obtain ⟨i, hf, hfit⟩ := suit_find hs
  have e := suits_some hp.N.toOk (v := v) hf
  rw [hfit] at e
  have eo := own_c p hp.N
  by_cases hc : p.st = 0 ∨ p.asked = true
  · rw [askP, if_pos hc]
    by_cases h3 : (vrb v).k = 3
    · have es := show_l { p with av := v, aq := n } (by dsimp only; omega) (by dsimp only; omega) h3
      have ed := done_n (askV { p with av := v, aq := n }).1 0 0 (by rw [ask_eq, exec_st]; exact hst)
      rw [show (askV { p with av := v, aq := n }).2 = .z by rw [ask_eq, execV, if_pos h3]]
      by_cases h0 : p.st = 0
      · skip
        refine callE_def env (fn := Try.f19) rfl (by decide) rfl ?_
        repeat refine stp ?_
        refine callT_E em rfl ?_
        repeat refine stp ?_
        refine callT_E e rfl ?_
        repeat refine stp ?_
        refine callT_E eo rfl ?_
        repeat refine stp ?_
        refine callT_part [5] rfl es ?_
        rintro v H' ⟨rfl, rfl⟩ x G hx hG
        subst hx hG
        repeat refine stp ?_
        refine callT_part [5] rfl ed ?_
        rintro v H' ⟨rfl, rfl⟩ x G hx hG
        subst hx hG
        repeat refine stp ?_
        show Eqv (.tuple [_, _, _]) _
        exact .tuple (.cons (.up (.refl _)) (.cons reqz_eqv (.cons (.up (.refl _)) .nil)))
      · have ha : p.asked = true := hc.resolve_left h0
        refine callE_def env (fn := Try.f19) rfl (by decide) rfl ?_
        repeat refine stp ?_
        refine callT_E em rfl ?_
        repeat refine stp ?_
        refine callT_E e rfl ?_
        repeat refine stp ?_
        refine callT_E eo rfl ?_
        repeat refine stp ?_
        refine callT_part [5] rfl es ?_
        rintro v H' ⟨rfl, rfl⟩ x G hx hG
        subst hx hG
        repeat refine stp ?_
        refine callT_part [5] rfl ed ?_
        rintro v H' ⟨rfl, rfl⟩ x G hx hG
        subst hx hG
        repeat refine stp ?_
        show Eqv (.tuple [_, _, _]) _
        exact .tuple (.cons (.up (.refl _)) (.cons reqz_eqv (.cons (.up (.refl _)) .nil)))
    · have es := show_s { p with av := v, aq := n } (by dsimp only; omega) (by dsimp only; omega) h3
      have ed := done_n (askV { p with av := v, aq := n }).1 1 0 (by rw [ask_eq, exec_st]; exact hst)
      rw [show (askV { p with av := v, aq := n }).2 = ⟨1, 0, []⟩ by rw [ask_eq, execV, if_neg h3]]
      by_cases h0 : p.st = 0
      · skip
        refine callE_def env (fn := Try.f19) rfl (by decide) rfl ?_
        repeat refine stp ?_
        refine callT_E em rfl ?_
        repeat refine stp ?_
        refine callT_E e rfl ?_
        repeat refine stp ?_
        refine callT_E eo rfl ?_
        repeat refine stp ?_
        refine callT_part [5] rfl es ?_
        rintro v H' ⟨rfl, rfl⟩ x G hx hG
        subst hx hG
        repeat refine stp ?_
        refine callT_part [5] rfl ed ?_
        rintro v H' ⟨rfl, rfl⟩ x G hx hG
        subst hx hG
        repeat refine stp ?_
        show Eqv (.tuple [_, _, _]) _
        exact .tuple (.cons (.up (.refl _)) (.cons (.agg (.cons (.refl _) (.cons (.refl _) (.cons (.nil _ _) .nil)))) (.cons (.up (.refl _)) .nil)))
      · have ha : p.asked = true := hc.resolve_left h0
        refine callE_def env (fn := Try.f19) rfl (by decide) rfl ?_
        repeat refine stp ?_
        refine callT_E em rfl ?_
        repeat refine stp ?_
        refine callT_E e rfl ?_
        repeat refine stp ?_
        refine callT_E eo rfl ?_
        repeat refine stp ?_
        refine callT_part [5] rfl es ?_
        rintro v H' ⟨rfl, rfl⟩ x G hx hG
        subst hx hG
        repeat refine stp ?_
        refine callT_part [5] rfl ed ?_
        rintro v H' ⟨rfl, rfl⟩ x G hx hG
        subst hx hG
        repeat refine stp ?_
        show Eqv (.tuple [_, _, _]) _
        exact .tuple (.cons (.up (.refl _)) (.cons (.agg (.cons (.refl _) (.cons (.refl _) (.cons (.nil _ _) .nil)))) (.cons (.up (.refl _)) .nil)))
  · rw [askP, if_neg hc]
    have h0 : p.st ≠ 0 := fun h => hc (.inl h)
    have ha : p.asked = false := by simpa using fun h => hc (.inr h)
    have ed := done_n { p with av := v, aq := n } 0 0 hst
    refine callE_def env (fn := Try.f19) rfl (by decide) rfl ?_
    repeat refine stp ?_
    refine callT_E em rfl ?_
    repeat refine stp ?_
    refine callT_E e rfl ?_
    repeat refine stp ?_
    refine callT_E eo rfl ?_
    repeat refine stp ?_
    refine callT_part [5] rfl ed ?_
    rintro v H' ⟨rfl, rfl⟩ x G hx hG
    subst hx hG
    repeat refine stp ?_
    show Eqv (.tuple [_, _, _]) _
    exact .tuple (.cons (.up (.refl _)) (.cons reqz_eqv (.cons (.up (.refl _)) .nil)))
end Go.Proofs
