/- Chapter 30: the law Refuses, plain: what a refused key changes. -/
import Derived.Test.YtblgcojannjmcaaC44
import Derived.Test.YtblgcojannjmcaaE5
set_option linter.unusedVariables false
set_option linter.unusedSimpArgs false
/-! Ya. -/
namespace Go.Proofs
open Go.E
set_option maxRecDepth 8000

theorem key_st2 {p q : Pan} {r : Req} {k : Int} (h : keyV p k = some (q, r)) : q.D.st = p.D.st ∨ q.D.st = resetV p.D.st := by
  have fin : q.D.st = p.D.st → q.D.st = p.D.st ∨ q.D.st = resetV p.D.st := .inl
  have hbeg : ∀ s, (beginV p s).D.st = p.D.st := fun s => by
    unfold beginV
    split <;> rfl
  unfold keyV at h
  split at h
  · obtain ⟨x, hx, e⟩ := Option.map_eq_some_iff.1 h
    cases e
    exact fin (digit_st hx)
  split at h
  · obtain ⟨x, hx, e⟩ := Option.map_eq_some_iff.1 h
    cases e
    unfold signV at hx
    split at hx
    · cases hx
    · cases hx; exact fin (setR_st _ _ _)
  split at h
  · split at h
    · cases h
    · cases h; exact fin (hbeg _)
  split at h
  · exact fin (enter_st h)
  split at h
  · obtain ⟨x, hx, e⟩ := Option.map_eq_some_iff.1 h
    cases e
    unfold clearV at hx
    split at hx
    · cases hx
    split at hx
    · cases hx; exact fin (setR_st _ _ _)
    split at hx <;> (cases hx; exact fin rfl)
  split at h
  · split at h
    · cases h
    · simp only [Option.some.injEq] at h
      have := exec_st { p with vb := p.av, nn := p.aq, asked := true, D := { p.D with v0 := p.av / 10, v1 := p.av % 10, n0 := p.aq / 10, n1 := p.aq % 10 } } p.av p.aq
      rw [← ask_eq, h] at this
      exact fin this
  split at h
  · cases h
    exact .inr rfl
  · split at h
    · cases h; exact fin rfl
    · cases h
theorem lit_st (p : Pan) : (litV p).D.st = p.D.st - p.D.st % 2 - 4 * (p.D.st / 4 % 2) + lights p := rfl
theorem lit_w (p : Pan) : (litV p).D.st / 2 % 2 = p.D.st / 2 % 2 := by
  obtain ⟨l, hl, e⟩ := lights_in p
  rw [lit_st, e]
  simp only [List.mem_cons, List.not_mem_nil, or_false] at hl
  omega
theorem lights_g {p : Pan} (h : Good p) : lights p = p.D.st % 2 + 4 * (p.D.st / 4 % 2) := by
  have h1 := h.may.fl
  have h2 := h.may.wt
  unfold lights
  rw [h1, h2]
  cases flash p <;> cases waits p <;> rfl
/-- A refused key turns operator error on, and does nothing else. -/
theorem refused {p : Pan} (h : Good p) {k : Int} (hk : keyV p k = none) (hw : p.D.st / 2 % 2 = 0) : pressV p k = ({ p with D := { p.D with st := p.D.st + 2 } }, .z) := by
  rw [pressV, hk]
  have hl := lights_g h
  have e : (wrongV p).D.st - (wrongV p).D.st % 2 - 4 * ((wrongV p).D.st / 4 % 2) + lights (wrongV p) = p.D.st + 2 := by
    rw [show lights (wrongV p) = lights p from rfl, hl]
    show p.D.st - 2 * (p.D.st / 2 % 2) + 2 - (p.D.st - 2 * (p.D.st / 2 % 2) + 2) % 2 - 4 * ((p.D.st - 2 * (p.D.st / 2 % 2) + 2) / 4 % 2) + _ = _
    omega
  show (litV (wrongV p), Req.z) = _
  unfold litV
  rw [e]
  rfl
theorem wrong_on {p : Pan} (h : Good p) {k : Int} (h1 : (pressV p k).1.D.st / 2 % 2 = 1) (h2 : ¬p.D.st / 2 % 2 = 1) : pressV p k = ({ p with D := { p.D with st := p.D.st + 2 } }, .z) := by
  have h3 : p.D.st / 2 % 2 = 0 := by omega
  cases hk : keyV p k with
  | none => exact refused h hk h3
  | some z =>
    obtain ⟨q, r⟩ := z
    rw [pressV, hk] at h1
    have h1 : (litV q).D.st / 2 % 2 = 1 := h1
    rw [lit_w] at h1
    rcases key_st2 hk with e | e
    · rw [e] at h1; omega
    · rw [e, resetV] at h1; omega
theorem reset_w (p : Pan) : (pressV p 18).1.D.st / 2 % 2 = 0 ∧ (pressV p 18).1.st = p.st ∧ (pressV p 18).1.cnt = p.cnt := by
  refine ⟨?_, rfl, rfl⟩
  show (litV { p with D := { p.D with st := resetV p.D.st, li := 0 } }).D.st / 2 % 2 = 0
  rw [lit_w]
  show resetV p.D.st / 2 % 2 = 0
  unfold resetV
  omega
/-- The first nouns. -/
def capN (c n : Nat) : Nat := Int.toNat (if (c : Int) < (n : Int) then (c : Int) else (n : Int)) - 0
theorem capN_le (c n : Nat) : capN c n ≤ n ∧ capN c n ≤ c := by
  unfold capN
  split <;> omega
def Nns.cut (N : Nns) (c : Nat) : Nns := ⟨capN c N.n, fun i => N.num (0 + i), fun i => N.m (0 + i), fun i j => N.cm (0 + i) j⟩
theorem Nns.Ok.cut {N : Nns} (h : N.Ok) : (N.cut 20).OkP := by
  have hc := capN_le 20 N.n
  exact ⟨⟨by have := h.n; show capN 20 N.n ≤ _; omega, fun i (hi : i < capN 20 N.n) => h.m (0 + i) (by omega), fun i (hi : i < capN 20 N.n) j hj => h.c (0 + i) (by omega) j hj⟩, by show capN 20 N.n ≤ 1000; omega⟩
theorem capN_i (c n : Nat) : 0 ≤ (if (c : Int) < (n : Int) then (c : Int) else (n : Int)) ∧ (if (c : Int) < (n : Int) then (c : Int) else (n : Int)) ≤ n := by
  split <;> omega
theorem eqv_take {kk : IntKind} {l : List Int} {m : Nat} (h : m ≤ l.length) : Eqv (.ro 1 m (fun i => irow kk l (0 + i))) (ints kk (l.take m)) := by
  refine eqv_part (by simp; omega) fun i hi => ?_
  have : i < m := by omega
  simp [irow, List.getElem?_take, this]
theorem getD_mem {l : List Int} {i : Nat} (h : i < l.length) : l.getD i 0 ∈ l := by
  rw [List.getD_eq_getElem?_getD, List.getElem?_eq_getElem h]
  exact List.getElem_mem _
end Go.Proofs
/-! Yb. -/
namespace Go.Proofs
open Go.E
set_option maxRecDepth 8000

set_option maxHeartbeats 16000000 in
theorem refuses_go (N : Nns) (hN : N.Ok) (l : List Int) (hl : ∀ x ∈ l, 0 ≤ x ∧ x < 256) : callP Try.prog 3 [N.A, ints .u8 l] (· = .bool true) := by
  have hC := hN.cut
  have hk := capN_le 60 l.length
  refine callE_def env (fn := Try.f3) rfl (by decide) rfl ?_
  repeat refine stp ?_
  refine draw_tree (picks (List.range 12) .done) (by decide +kernel) ?_
  apply need_intro
  · exact capN_i 20 N.n
  apply need_intro
  · exact capN_i 60 l.length
  repeat refine stp ?_
  cases hm : (N.cut 20).may with
  | false =>
    refine callT_E (new_no (N.cut 20) hC hm) rfl ?_
    repeat refine stp ?_
    refine callT_E works_c rfl ?_
    repeat refine stp ?_
    show Eqv _ _
    exact .up (.up (.refl _))
  | true =>
    refine callT_E (new_ok (N.cut 20) hC hm) rfl ?_
    repeat refine stp ?_
    refine loop_weak (fun s : Nat × Pan => slots 207 [(1, ints .u8 (l.take (capN 60 l.length))), (5, .ptr ⟨0, 0, 0⟩), (7, .int .i64 s.1)]) (fun s => [.cells s.2.L])
      (fun s => s.1 ≤ capN 60 l.length ∧ Good s.2) (fun s => capN 60 l.length - s.1) (0, newP (N.cut 20)) ⟨Nat.zero_le _, new_good _ hC hm⟩
      ((weak_keep (tm' := slots 207 [(1, .ro 1 (capN 60 l.length) (fun i => irow .u8 l (0 + i))), (5, .ptr ⟨0, 0, 0⟩), (7, .int .i64 0)]) (keep 207 [1, 5, 7]) [0] rfl rfl rfl).trans (weak_slot 1 (eqv_take hk.1) rfl)) ?_
    rintro ⟨i, p⟩ ⟨hi, hp⟩
    dsimp only at hi hp
    have hlen : (l.take (capN 60 l.length)).length = capN 60 l.length := by rw [List.length_take]; omega
    by_cases hin : i = capN 60 l.length
    · repeat refine stp ?_
      refine callT_E works_c rfl ?_
      repeat refine stp ?_
      show Eqv _ _
      exact .up (.up (.refl _))
    have hlt : i < (l.take (capN 60 l.length)).length := by omega
    generalize hx : (l.take (capN 60 l.length)).getD i 0 = x
    have hb : 0 ≤ x ∧ x < 256 := by
      rw [← hx]
      exact hl _ (List.mem_of_mem_take (getD_mem hlt))
    have e1 : IntKind.i64.wrap ((i : Int) + 1) = ((i + 1 : Nat) : Int) := by rw [wi (by omega) (by omega)]; rfl
    cases hk : isK x with
    | false =>
      have ep := press_key p x hb.1 hk
      have ec := kcode_no hb.1 hk
      repeat refine stp ?_
      refine draw_treeW (picks (List.range 10) (.fork 10 11 (picks [11, 12, 13, 14] .done) (picks [10, 12, 13, 14] .done))) (by decide +kernel) ?_
      repeat refine stp ?_
      conv => whnf
      simp only [Int.toNat_natCast, hx]
      repeat refine stp ?_
      refine ⟨_, ⟨ep, rfl⟩, ?_⟩
      repeat refine stp ?_
      refine ⟨end_weak (weak_keep (tm' := slots 207 [(1, ints .u8 (l.take (capN 60 l.length))), (5, .ptr ⟨0, 0, 0⟩), (7, .int .i64 i), (8, .ptr ⟨1, 0, 0⟩), (9, .ptr ⟨2, 0, 0⟩), (10, .int .i64 2)]) (H' := [.cells p.L, .cells Pan.zero.L, .cells Req.z.L]) (keep 207 [1, 5, 7, 8, 9, 10]) [0, 1, 2] rfl rfl rfl) ?k, end_weak (weak_keep (tm' := slots 207 [(1, ints .u8 (l.take (capN 60 l.length))), (5, .ptr ⟨0, 0, 0⟩), (7, .int .i64 i), (8, .ptr ⟨1, 0, 0⟩), (9, .ptr ⟨2, 0, 0⟩), (10, .int .i64 2)]) (H' := [.cells p.L, .cells Pan.zero.L, .cells Req.z.L]) (keep 207 [1, 5, 7, 8, 9, 10]) [0, 2, 1] rfl rfl rfl) ?k⟩
      repeat refine stp ?_
      conv => whnf
      simp only [Int.toNat_natCast, hx]
      repeat refine stp ?_
      refine callT_E ec rfl ?_
      repeat refine stp ?_
      refine ⟨(i + 1, p), ⟨by show i + 1 ≤ capN 60 l.length; omega, hp⟩, by show capN 60 l.length - (i + 1) < capN 60 l.length - i; omega, weak_keep (keep 207 [1, 5, 7]) [0] rfl ?_ rfl⟩
      show [_, _, _, _, _, _, _, _, _, _, _, _, _, _, _, _, _, _, _, _, _, _, _, _, _, _, _, _, _, _, _, _, _, _, _, _, _, _, _, _, _, _, _, _, _, _, _, _, _, _, _, _, _, _, _, _, _, _, _, _, _, _, _, _, _, _, _, _, _, _, _, _, _, _, _, _, _, _, _, _, _, _, _, _, _, _, _, _, _, _, _, _, _, _, _, _, _, _, _, _, _, _, _, _, _, _, _, _, _, _, _, _, _, _, _, _, _, _, _, _, _, _, _, _, _, _, _, _, _, _, _, _, _, _, _, _, _, _, _, _, _, _, _, _, _, _, _, _, _, _, _, _, _, _, _, _, _, _, _, _, _, _, _, _, _, _, _, _, _, _, _, _, _, _, _, _, _, _, _, _, _, _, _, _, _, _, _, _, _, _, _, _, _, _, _, _, _, _, _, _, _, _, _, _, _, _, _] = _
      rw [e1]
      rfl
    | true =>
      have ep := press_ok p hp.ok hp.may x hk
      have hg := (press_good p x hp hk).1
      have hst : 0 ≤ p.D.st ∧ p.D.st < 2048 := hp.pre.D.st
      have hsx := hg.pre.D.st
      have wp := wrong_c p hst
      have wx := wrong_c _ hsx
      have er := press_ok _ hg.ok hg.may 18 rfl
      have hr := (press_good _ 18 hg rfl).1
      have hsr := hr.pre.D.st
      have wr := wrong_c _ hsr
      obtain ⟨r1, r2, r3⟩ := reset_w (pressV p x).1
      rw [r1] at wr
      by_cases h1 : (pressV p x).1.D.st / 2 % 2 = 1
      · by_cases h2 : p.D.st / 2 % 2 = 1
        · rw [h1] at wx
          rw [h2] at wp
          repeat refine stp ?_
          refine draw_treeW (picks (List.range 10) (.fork 10 11 (picks [11, 12, 13, 14] .done) (picks [10, 12, 13, 14] .done))) (by decide +kernel) ?_
          repeat refine stp ?_
          conv => whnf
          simp only [Int.toNat_natCast, hx]
          repeat refine stp ?_
          refine ⟨_, ⟨ep, rfl⟩, ?_⟩
          repeat refine stp ?_
          refine ⟨end_weak (weak_keep (tm' := slots 207 [(1, ints .u8 (l.take (capN 60 l.length))), (5, .ptr ⟨0, 0, 0⟩), (7, .int .i64 i), (8, .ptr ⟨1, 0, 0⟩), (9, .ptr ⟨2, 0, 0⟩), (10, .int .i64 0)]) (H' := [.cells p.L, .cells (pressV p x).1.L, .cells (pressV p x).2.L]) (keep 207 [1, 5, 7, 8, 9, 10]) [0, 1, 2] rfl rfl rfl) ?k1, end_weak (weak_keep (tm' := slots 207 [(1, ints .u8 (l.take (capN 60 l.length))), (5, .ptr ⟨0, 0, 0⟩), (7, .int .i64 i), (8, .ptr ⟨1, 0, 0⟩), (9, .ptr ⟨2, 0, 0⟩), (10, .int .i64 0)]) (H' := [.cells p.L, .cells (pressV p x).1.L, .cells (pressV p x).2.L]) (keep 207 [1, 5, 7, 8, 9, 10]) [0, 2, 1] rfl rfl rfl) ?k1⟩
          repeat refine stp ?_
          refine callT_E wx rfl ?_
          repeat refine stp ?_
          refine callT_E wp rfl ?_
          repeat refine stp ?_
          refine callT_E er rfl ?_
          repeat refine stp ?_
          refine callT_E wr rfl ?_
          repeat refine stp ?_
          apply branch_intro <;> intro h3
          · repeat refine stp ?_
            refine ⟨(i + 1, _), ⟨by show i + 1 ≤ capN 60 l.length; omega, hr⟩, by show capN 60 l.length - (i + 1) < capN 60 l.length - i; omega, weak_keep (keep 207 [1, 5, 7]) [0] rfl ?_ rfl⟩
            show [_, _, _, _, _, _, _, _, _, _, _, _, _, _, _, _, _, _, _, _, _, _, _, _, _, _, _, _, _, _, _, _, _, _, _, _, _, _, _, _, _, _, _, _, _, _, _, _, _, _, _, _, _, _, _, _, _, _, _, _, _, _, _, _, _, _, _, _, _, _, _, _, _, _, _, _, _, _, _, _, _, _, _, _, _, _, _, _, _, _, _, _, _, _, _, _, _, _, _, _, _, _, _, _, _, _, _, _, _, _, _, _, _, _, _, _, _, _, _, _, _, _, _, _, _, _, _, _, _, _, _, _, _, _, _, _, _, _, _, _, _, _, _, _, _, _, _, _, _, _, _, _, _, _, _, _, _, _, _, _, _, _, _, _, _, _, _, _, _, _, _, _, _, _, _, _, _, _, _, _, _, _, _, _, _, _, _, _, _, _, _, _, _, _, _, _, _, _, _, _, _, _, _, _, _, _, _] = _
            rw [e1]
            rfl
          · repeat refine stp ?_
            refine ⟨(i + 1, _), ⟨by show i + 1 ≤ capN 60 l.length; omega, hg⟩, by show capN 60 l.length - (i + 1) < capN 60 l.length - i; omega, weak_keep (keep 207 [1, 5, 7]) [0] rfl ?_ rfl⟩
            show [_, _, _, _, _, _, _, _, _, _, _, _, _, _, _, _, _, _, _, _, _, _, _, _, _, _, _, _, _, _, _, _, _, _, _, _, _, _, _, _, _, _, _, _, _, _, _, _, _, _, _, _, _, _, _, _, _, _, _, _, _, _, _, _, _, _, _, _, _, _, _, _, _, _, _, _, _, _, _, _, _, _, _, _, _, _, _, _, _, _, _, _, _, _, _, _, _, _, _, _, _, _, _, _, _, _, _, _, _, _, _, _, _, _, _, _, _, _, _, _, _, _, _, _, _, _, _, _, _, _, _, _, _, _, _, _, _, _, _, _, _, _, _, _, _, _, _, _, _, _, _, _, _, _, _, _, _, _, _, _, _, _, _, _, _, _, _, _, _, _, _, _, _, _, _, _, _, _, _, _, _, _, _, _, _, _, _, _, _, _, _, _, _, _, _, _, _, _, _, _, _, _, _, _, _, _, _] = _
            rw [e1]
            rfl
        · have ew := wrong_on hp h1 h2
          have h2' : p.D.st / 2 % 2 = 0 := by omega
          rw [h2'] at wp
          rw [ew] at ep hg wx er hr wr r2 r3 h1
          have h1' : (p.D.st + 2) / 2 % 2 = 1 := h1
          have wx : callP Try.prog 12 [({ p with D := { p.D with st := p.D.st + 2 } } : Pan).A] (· = .bool (decide ((p.D.st + 2) / 2 % 2 = 1))) := wx
          rw [h1'] at wx
          have hwr : (p.D.st + 2 != IntKind.u16.wrap (p.D.st + 2)) = false := by rw [wu16 (by omega) (by omega)]; exact bne_self_eq_false _
          repeat refine stp ?_
          refine draw_treeW (picks (List.range 10) (.fork 10 11 (picks [11, 12, 13, 14] .done) (picks [10, 12, 13, 14] .done))) (by decide +kernel) ?_
          repeat refine stp ?_
          conv => whnf
          simp only [Int.toNat_natCast, hx]
          repeat refine stp ?_
          refine ⟨_, ⟨ep, rfl⟩, ?_⟩
          repeat refine stp ?_
          refine ⟨end_weak (weak_keep (tm' := slots 207 [(1, ints .u8 (l.take (capN 60 l.length))), (5, .ptr ⟨0, 0, 0⟩), (7, .int .i64 i), (8, .ptr ⟨1, 0, 0⟩), (9, .ptr ⟨2, 0, 0⟩), (10, .int .i64 0)]) (H' := [.cells p.L, .cells ({ p with D := { p.D with st := p.D.st + 2 } } : Pan).L, .cells Req.z.L]) (keep 207 [1, 5, 7, 8, 9, 10]) [0, 1, 2] rfl rfl rfl) ?k2, end_weak (weak_keep (tm' := slots 207 [(1, ints .u8 (l.take (capN 60 l.length))), (5, .ptr ⟨0, 0, 0⟩), (7, .int .i64 i), (8, .ptr ⟨1, 0, 0⟩), (9, .ptr ⟨2, 0, 0⟩), (10, .int .i64 0)]) (H' := [.cells p.L, .cells ({ p with D := { p.D with st := p.D.st + 2 } } : Pan).L, .cells Req.z.L]) (keep 207 [1, 5, 7, 8, 9, 10]) [0, 2, 1] rfl rfl rfl) ?k2⟩
          repeat refine stp ?_
          refine callT_E wx rfl ?_
          repeat refine stp ?_
          refine callT_E wp rfl ?_
          repeat refine stp ?_
          refine callT_E er rfl ?_
          repeat refine stp ?_
          refine callT_E wr rfl ?_
          repeat refine stp ?_
          apply branch_intro <;> intro h3
          · repeat refine stp ?_
            refine ⟨(i + 1, _), ⟨by show i + 1 ≤ capN 60 l.length; omega, hr⟩, by show capN 60 l.length - (i + 1) < capN 60 l.length - i; omega, weak_keep (keep 207 [1, 5, 7]) [0] rfl ?_ rfl⟩
            show [_, _, _, _, _, _, _, _, _, _, _, _, _, _, _, _, _, _, _, _, _, _, _, _, _, _, _, _, _, _, _, _, _, _, _, _, _, _, _, _, _, _, _, _, _, _, _, _, _, _, _, _, _, _, _, _, _, _, _, _, _, _, _, _, _, _, _, _, _, _, _, _, _, _, _, _, _, _, _, _, _, _, _, _, _, _, _, _, _, _, _, _, _, _, _, _, _, _, _, _, _, _, _, _, _, _, _, _, _, _, _, _, _, _, _, _, _, _, _, _, _, _, _, _, _, _, _, _, _, _, _, _, _, _, _, _, _, _, _, _, _, _, _, _, _, _, _, _, _, _, _, _, _, _, _, _, _, _, _, _, _, _, _, _, _, _, _, _, _, _, _, _, _, _, _, _, _, _, _, _, _, _, _, _, _, _, _, _, _, _, _, _, _, _, _, _, _, _, _, _, _, _, _, _, _, _, _] = _
            rw [e1]
            rfl
          · repeat refine stp ?_
            refine ⟨(i + 1, _), ⟨by show i + 1 ≤ capN 60 l.length; omega, hg⟩, by show capN 60 l.length - (i + 1) < capN 60 l.length - i; omega, weak_keep (keep 207 [1, 5, 7]) [0] rfl ?_ rfl⟩
            show [_, _, _, _, _, _, _, _, _, _, _, _, _, _, _, _, _, _, _, _, _, _, _, _, _, _, _, _, _, _, _, _, _, _, _, _, _, _, _, _, _, _, _, _, _, _, _, _, _, _, _, _, _, _, _, _, _, _, _, _, _, _, _, _, _, _, _, _, _, _, _, _, _, _, _, _, _, _, _, _, _, _, _, _, _, _, _, _, _, _, _, _, _, _, _, _, _, _, _, _, _, _, _, _, _, _, _, _, _, _, _, _, _, _, _, _, _, _, _, _, _, _, _, _, _, _, _, _, _, _, _, _, _, _, _, _, _, _, _, _, _, _, _, _, _, _, _, _, _, _, _, _, _, _, _, _, _, _, _, _, _, _, _, _, _, _, _, _, _, _, _, _, _, _, _, _, _, _, _, _, _, _, _, _, _, _, _, _, _, _, _, _, _, _, _, _, _, _, _, _, _, _, _, _, _, _, _] = _
            rw [e1]
            rfl
      · have h1' : (pressV p x).1.D.st / 2 % 2 = 0 := by omega
        rw [h1'] at wx
        repeat refine stp ?_
        refine draw_treeW (picks (List.range 10) (.fork 10 11 (picks [11, 12, 13, 14] .done) (picks [10, 12, 13, 14] .done))) (by decide +kernel) ?_
        repeat refine stp ?_
        conv => whnf
        simp only [Int.toNat_natCast, hx]
        repeat refine stp ?_
        refine ⟨_, ⟨ep, rfl⟩, ?_⟩
        repeat refine stp ?_
        refine ⟨end_weak (weak_keep (tm' := slots 207 [(1, ints .u8 (l.take (capN 60 l.length))), (5, .ptr ⟨0, 0, 0⟩), (7, .int .i64 i), (8, .ptr ⟨1, 0, 0⟩), (9, .ptr ⟨2, 0, 0⟩), (10, .int .i64 0)]) (H' := [.cells p.L, .cells (pressV p x).1.L, .cells (pressV p x).2.L]) (keep 207 [1, 5, 7, 8, 9, 10]) [0, 1, 2] rfl rfl rfl) ?k3, end_weak (weak_keep (tm' := slots 207 [(1, ints .u8 (l.take (capN 60 l.length))), (5, .ptr ⟨0, 0, 0⟩), (7, .int .i64 i), (8, .ptr ⟨1, 0, 0⟩), (9, .ptr ⟨2, 0, 0⟩), (10, .int .i64 0)]) (H' := [.cells p.L, .cells (pressV p x).1.L, .cells (pressV p x).2.L]) (keep 207 [1, 5, 7, 8, 9, 10]) [0, 2, 1] rfl rfl rfl) ?k3⟩
        repeat refine stp ?_
        refine callT_E wx rfl ?_
        repeat refine stp ?_
        refine callT_E er rfl ?_
        repeat refine stp ?_
        refine callT_E wr rfl ?_
        repeat refine stp ?_
        apply branch_intro <;> intro h3
        · repeat refine stp ?_
          refine ⟨(i + 1, _), ⟨by show i + 1 ≤ capN 60 l.length; omega, hr⟩, by show capN 60 l.length - (i + 1) < capN 60 l.length - i; omega, weak_keep (keep 207 [1, 5, 7]) [0] rfl ?_ rfl⟩
          show [_, _, _, _, _, _, _, _, _, _, _, _, _, _, _, _, _, _, _, _, _, _, _, _, _, _, _, _, _, _, _, _, _, _, _, _, _, _, _, _, _, _, _, _, _, _, _, _, _, _, _, _, _, _, _, _, _, _, _, _, _, _, _, _, _, _, _, _, _, _, _, _, _, _, _, _, _, _, _, _, _, _, _, _, _, _, _, _, _, _, _, _, _, _, _, _, _, _, _, _, _, _, _, _, _, _, _, _, _, _, _, _, _, _, _, _, _, _, _, _, _, _, _, _, _, _, _, _, _, _, _, _, _, _, _, _, _, _, _, _, _, _, _, _, _, _, _, _, _, _, _, _, _, _, _, _, _, _, _, _, _, _, _, _, _, _, _, _, _, _, _, _, _, _, _, _, _, _, _, _, _, _, _, _, _, _, _, _, _, _, _, _, _, _, _, _, _, _, _, _, _, _, _, _, _, _, _] = _
          rw [e1]
          rfl
        · repeat refine stp ?_
          refine ⟨(i + 1, _), ⟨by show i + 1 ≤ capN 60 l.length; omega, hg⟩, by show capN 60 l.length - (i + 1) < capN 60 l.length - i; omega, weak_keep (keep 207 [1, 5, 7]) [0] rfl ?_ rfl⟩
          show [_, _, _, _, _, _, _, _, _, _, _, _, _, _, _, _, _, _, _, _, _, _, _, _, _, _, _, _, _, _, _, _, _, _, _, _, _, _, _, _, _, _, _, _, _, _, _, _, _, _, _, _, _, _, _, _, _, _, _, _, _, _, _, _, _, _, _, _, _, _, _, _, _, _, _, _, _, _, _, _, _, _, _, _, _, _, _, _, _, _, _, _, _, _, _, _, _, _, _, _, _, _, _, _, _, _, _, _, _, _, _, _, _, _, _, _, _, _, _, _, _, _, _, _, _, _, _, _, _, _, _, _, _, _, _, _, _, _, _, _, _, _, _, _, _, _, _, _, _, _, _, _, _, _, _, _, _, _, _, _, _, _, _, _, _, _, _, _, _, _, _, _, _, _, _, _, _, _, _, _, _, _, _, _, _, _, _, _, _, _, _, _, _, _, _, _, _, _, _, _, _, _, _, _, _, _, _] = _
          rw [e1]
          rfl
end Go.Proofs
/-! Yc. -/
namespace Go.Proofs
open Go.E
set_option maxRecDepth 8000

theorem cmp_of {f : Nat → Int} (h : HasL [.u8, .i64, .i64, .i64] f) : Cmp.Ok ⟨f 0, f 1, f 2, f 3⟩ :=
  ⟨has_u8 (h 0 (by decide)), has_i64 (h 1 (by decide)), has_i64 (h 2 (by decide)), has_i64 (h 3 (by decide))⟩
def argN (n : Nat) (num : Nat → Int) (m : Nat → Nat) (D : Nat → Nat → Nat → Int) : Nns := ⟨n, num, m, fun i j => ⟨D i j 0, D i j 1, D i j 2, D i j 3⟩⟩
theorem argN_ok {n : Nat} {num : Nat → Int} {m : Nat → Nat} {D : Nat → Nat → Nat → Int} (hn : n ≤ maxLen)
    (hw : ∀ i, i < n → IntKind.i64.has (num i) ∧ m i ≤ maxLen ∧ ∀ j, j < m i → HasL [.u8, .i64, .i64, .i64] (D i j)) (hm : ∀ i, i < n → m i * 32 ≤ 140737488355328) : (argN n num m D).Ok :=
  ⟨hn, hm, fun i hi j hj => cmp_of ((hw i hi).2.2 j hj)⟩
theorem refuses_law (n : Nat) (num : Nat → Int) (m : Nat → Nat) (D : Nat → Nat → Nat → Int) (hn : n ≤ maxLen)
    (hw : ∀ i, i < n → IntKind.i64.has (num i) ∧ m i ≤ maxLen ∧ ∀ j, j < m i → HasL [.u8, .i64, .i64, .i64] (D i j)) (hm : ∀ i, i < n → m i * 32 ≤ 140737488355328)
    (l : List Int) (_ : l.length ≤ maxLen) (hl : ∀ x ∈ l, 0 ≤ x ∧ x < 256) :
    callP Try.prog 3 [.ro 2 n (fun i => [.int .i64 (num i), .ro 4 (m i) (fun j => aggL (D i j) [.u8, .i64, .i64, .i64] 0)]), ints .u8 l] (· = .bool true) :=
  refuses_go (argN n num m D) (argN_ok hn hw hm) l hl
end Go.Proofs
