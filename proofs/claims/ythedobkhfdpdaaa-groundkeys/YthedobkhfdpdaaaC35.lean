/- Chapter 30: what validity says; every key at a valid panel. -/
import Derived.Test.YthedobkhfdpdaaaC33
import Derived.Test.YthedobkhfdpdaaaC34
import Derived.Test.YthedobkhfdpdaaaC19
import Derived.Test.YthedobkhfdpdaaaC20
import Derived.Test.YthedobkhfdpdaaaC21
import Derived.Test.YthedobkhfdpdaaaC12
import Derived.Test.YthedobkhfdpdaaaC17
set_option linter.unusedVariables false
set_option linter.unusedSimpArgs false
namespace Go.Proofs
open Go.E
set_option maxRecDepth 8000
structure MayF (p : Pan) : Prop where
  N : p.N.may = true
  D : Rl.mayB p.D.f = true
  vb : 0 ≤ p.vb ∧ p.vb ≤ 99
  nn : 0 ≤ p.nn ∧ p.nn ≤ 99
  an : 0 ≤ p.an ∧ p.an ≤ 99
  av : 0 ≤ p.av ∧ p.av ≤ 99
  aq : 0 ≤ p.aq ∧ p.aq ≤ 99
  entry : entryV p = true
  act : p.act.k ≤ 2
  ask : p.asked = true → p.av ≠ 0
  suit : p.av ≠ 0 → suit p.N p.av p.aq = true
  fl : p.D.st % 2 = if flash p = true then 1 else 0
  wt : p.D.st / 4 % 2 = if waits p = true then 1 else 0
theorem may_iff (p : Pan) : mayV p = true ↔ MayF p := by
  unfold mayV small
  simp only [Bool.and_eq_true, decide_eq_true_eq, Bool.not_eq_true', Bool.and_eq_false_iff, Bool.or_eq_true, beq_iff_eq, beq_eq_false_iff_ne]
  constructor
  · rintro ⟨⟨⟨⟨⟨⟨⟨h1, h2⟩, ⟨⟨⟨⟨a1, a2⟩, a3⟩, a4⟩, a5⟩⟩, h4⟩, h5⟩, h6⟩, h7⟩, h8, h9⟩
    exact ⟨h1, h2, a1, a2, a3, a4, a5, h4, h5, fun ha => by rcases h6 with h | h; exact h; (rw [h] at ha; cases ha), fun ha => by rcases h7 with h | h; exact absurd h ha; exact h, h8, h9⟩
  · intro h
    refine ⟨⟨⟨⟨⟨⟨⟨h.N, h.D⟩, ⟨⟨⟨⟨h.vb, h.nn⟩, h.an⟩, h.av⟩, h.aq⟩⟩, h.entry⟩, h.act⟩, ?_⟩, ?_⟩, h.fl, h.wt⟩
    · cases ha : p.asked with
      | true => exact .inl (h.ask ha)
      | false => exact .inr rfl
    · by_cases ha : p.av = 0
      · exact .inl ha
      · exact .inr (h.suit ha)
theorem suit_find {N : Nns} {v n : Int} (h : suit N v n = true) : ∃ i, N.find n = some i ∧ fits (vrb v) (N.m i) = true := by
  cases hf : N.find n with
  | none => rw [suit_none hf] at h; cases h
  | some i => exact ⟨i, rfl, by rw [← suit_some hf]; exact h⟩
theorem may_good {N : Nns} (h : N.may = true) {i : Nat} (hi : i < N.n) : (1 ≤ N.num i ∧ N.num i ≤ 99 ∧ 1 ≤ N.m i ∧ N.m i ≤ 3) ∧ ∀ j, j < N.m i → validC (N.cm i j) = true := by
  have hg : ∀ k, k < N.n → goodI N.num N.m N.cm k = true := fun k hk => List.all_eq_true.1 (show (List.range N.n).all (goodI N.num N.m N.cm) = true from h) k (List.mem_range.2 hk)
  have pos : ∀ k, k < N.n → 1 ≤ N.num k := by
    intro k
    induction k with
    | zero =>
      intro hk
      have := hg 0 hk
      simp only [goodI, if_pos, Bool.and_eq_true, decide_eq_true_eq] at this
      omega
    | succ k ih =>
      intro hk
      have h1 := ih (by omega)
      have := hg (k + 1) hk
      simp only [goodI, Bool.and_eq_true, decide_eq_true_eq] at this
      rw [if_neg (by omega), Nat.add_sub_cancel] at this
      omega
  have := hg i hi
  simp only [goodI, Bool.and_eq_true, decide_eq_true_eq, List.all_eq_true, List.mem_range] at this
  exact ⟨⟨pos i hi, this.1.2.1, this.1.2.2.1, this.1.2.2.2⟩, this.2⟩
structure DataF (p : Pan) (i : Nat) : Prop where
  d : Dat p i
  fit : fits (vrb p.vb) (p.N.m i) = true
  k : (vrb p.vb).k = 3
  c : (vrb p.vb).c p.cmp = true
  cnt : 0 ≤ p.cnt ∧ p.cnt ≤ 5
  s : p.ty.s ≤ 2
  va : ∀ j, j < p.N.m i → validC (p.N.cm i j) = true
theorem data_f {p : Pan} (h : MayF p) (h3 : p.st = 3) : ∃ i, DataF p i := by
  have he := h.entry
  rw [entry3 h3] at he
  simp only [data, Bool.and_eq_true, decide_eq_true_eq] at he
  obtain ⟨⟨⟨⟨⟨⟨h1, h2⟩, h4⟩, h5⟩, h6⟩, h7⟩, _⟩ := he
  obtain ⟨i, hf, hfit⟩ := suit_find h1
  refine ⟨i, ⟨hf, h4, ?_⟩, hfit, h2, h5, h6, h7, (may_good h.N (find_lt hf).1).2⟩
  have hm := of_decide_eq_true hfit
  have hm : ((vrb p.vb).c0 = true → 0 < p.N.m i) ∧ ((vrb p.vb).c1 = true → 1 < p.N.m i) ∧ ((vrb p.vb).c2 = true → 2 < p.N.m i) := by
    rcases hm with ⟨a, _⟩ | ⟨_, b⟩
    · omega
    · exact b
  unfold Vrb.c at h5
  rcases (show p.cmp = 0 ∨ p.cmp = 1 ∨ p.cmp = 2 by omega) with e | e | e <;> rw [e] at h5 ⊢
  · have := hm.1 h5; omega
  · have := hm.2.1 h5; omega
  · have := hm.2.2 h5; omega
theorem vrb_k (n : Int) : 0 ≤ (vrb n).k ∧ (vrb n).k ≤ 8 := vrb_all (fun w => 0 ≤ w.k ∧ w.k ≤ 8) (by decide) (by decide) n
theorem enter_c (p : Pan) (hp : p.Ok) (hm : MayF p) (k : Int) : callN Try.prog 51 [.ptr ⟨0, 0, 0⟩, .int .u8 k] [.cells (desk0 p)] (KeyOut (enterV p)) := by
  by_cases h3 : p.st = 3
  · obtain ⟨i, hd⟩ := data_f hm h3
    exact enter_load p k h3 (load_run p hp i hd.d hd.va hd.fit hd.k hd.c h3)
  by_cases h2 : p.st ≠ 0 ∧ p.cnt ≠ 2
  · exact enter_no p k h3 h2
  by_cases h4 : p.st = 4
  · exact enter_prog p k h4 (by omega)
  have hr : Rdy p := ⟨h3, h4, h2⟩
  have hk := vrb_k p.vb
  by_cases k0 : (vrb p.vb).k = 0
  · exact enter_none p k hr (.inl k0)
  by_cases k4 : (vrb p.vb).k = 4
  · exact enter_a4 p k hr k4
  by_cases k5 : (vrb p.vb).k = 5
  · exact enter_a5 p k hr k5
  by_cases k6 : (vrb p.vb).k = 6
  · exact enter_a6 p k hr k6
  by_cases k7 : (vrb p.vb).k = 7
  · exact enter_lamps p k hr k7
  by_cases k8 : (vrb p.vb).k = 8
  · exact enter_open p k hr k8
  cases hs : suit p.N p.vb p.nn with
  | false => exact enter_unfit p k hp.N.toOk hr (by omega) hs
  | true =>
    obtain ⟨i, hf, hfit⟩ := suit_find hs
    by_cases k3 : (vrb p.vb).k = 3
    · exact enter_ld p k hp.N.toOk hr k3 i hf hfit
    · exact enter_show p k hp.N.toOk hr (by omega) i hf hfit
theorem key_lift {f : FuncId} {args : List AVal} {p : Pan} {m : Option Pan} (h : match m with
    | some q => callN Try.prog f args [.cells (desk0 p)] fun v H' => v = .bool true ∧ H' = [.cells (desk0 q)]
    | none => ∃ q, callN Try.prog f args [.cells (desk0 p)] fun v H' => v = .bool false ∧ H' = [.cells (desk0 q)]) :
    callN Try.prog f args [.cells (desk0 p)] (KeyOut (m.map fun q => (q, .z))) := by
  cases m with
  | none => obtain ⟨q, h⟩ := h; exact key_none rfl h
  | some q => exact key_some (r := .z) rfl rfl h
theorem comp_is (p : Pan) (hN : p.N.Ok) (i : Nat) (hd : Dat p i) : CompIs p (compV p) := comp_c p hN i hd
theorem digit_all (p : Pan) (hp : p.Ok) (hm : MayF p) (k : Int) (hk : 1 ≤ k ∧ k ≤ 10) : callN Try.prog 48 [.ptr ⟨0, 0, 0⟩, .int .u8 k] [.cells (desk0 p)] (KeyOut ((digitV p (k - 1)).map fun q => (q, .z))) := by
  refine key_lift ?_
  have hu : IntKind.u8.wrap (k - 1) = k - 1 := wu8 (by omega) (by omega)
  by_cases h0 : p.st = 0
  · rw [digitV, if_pos h0]
    exact ⟨p, digit_no p k (.inl h0)⟩
  by_cases h3 : p.st = 3
  · obtain ⟨i, hd⟩ := data_f hm h3
    have hc := comp_is p hp.N.toOk i hd.d
    rw [digitV, if_neg h0, if_pos h3]
    by_cases hb : p.cnt = 5 ∨ (compV p).k = 1 ∧ (p.ty.s ≠ 0 ∨ k - 1 > 7) ∨ (compV p).k ≠ 1 ∧ p.ty.s = 0
    · rw [if_pos hb]
      exact ⟨p, digit_bad p k _ hc h3 (by rw [hu]; exact hb)⟩
    · rw [if_neg hb]
      have hcn := hd.cnt
      have hc2 := hd.d.c
      have hb2 : ¬((compV p).k = 1 ∧ (p.ty.s ≠ 0 ∨ k - 1 > 7) ∨ (compV p).k ≠ 1 ∧ p.ty.s = 0) := fun h => hb (.inr h)
      rcases (show p.cnt = 0 ∨ p.cnt = 1 ∨ p.cnt = 2 ∨ p.cnt = 3 ∨ p.cnt = 4 by omega) with e | e | e | e | e
      · have := digit_d0 p k (k - 1) hk rfl _ hc h3 e hc2 hb2
        simp only [Shw.set, e]
        exact this
      · have := digit_d1 p k (k - 1) hk rfl _ hc h3 e hc2 hb2
        simp only [Shw.set, e]
        exact this
      · have := digit_d2 p k (k - 1) hk rfl _ hc h3 e hc2 hb2
        simp only [Shw.set, e]
        exact this
      · have := digit_d3 p k (k - 1) hk rfl _ hc h3 e hc2 hb2
        simp only [Shw.set, e]
        exact this
      · have := digit_d4 p k (k - 1) hk rfl _ hc h3 e hc2 hb2
        simp only [Shw.set, e]
        exact this
  by_cases h2 : p.cnt = 2
  · rw [digitV, if_neg h0, if_neg h3, if_pos h2]
    exact ⟨p, digit_no p k (.inr ⟨h3, h2⟩)⟩
  have he := hm.entry
  by_cases h1 : p.st = 1
  · rw [entryV, if_neg h0, if_pos h1] at he
    have he := of_decide_eq_true he
    rw [digitV, if_neg h0, if_neg h3, if_neg h2, if_pos h1]
    rcases (show p.cnt = 0 ∨ p.cnt = 1 by omega) with e | e
    · have := digit_v0 p k (k - 1) hk rfl h1 e hm.vb
      simp only [e]
      exact this
    · have := digit_v1 p k (k - 1) hk rfl h1 e hm.vb
      simp only [e]
      exact this
  · have h24 : p.st = 2 ∨ p.st = 4 := by
      apply Classical.byContradiction
      intro hn
      rw [entryV, if_neg h0, if_neg h1, if_neg hn, if_neg h3] at he
      cases he
    rw [entryV, if_neg h0, if_neg h1, if_pos h24] at he
    have he := of_decide_eq_true he
    rw [digitV, if_neg h0, if_neg h3, if_neg h2, if_neg h1]
    rcases (show p.cnt = 0 ∨ p.cnt = 1 by omega) with e | e
    · have := digit_n0 p k (k - 1) hk rfl ⟨h0, h1, h3⟩ e hm.nn
      simp only [e]
      exact this
    · have := digit_n1 p k (k - 1) hk rfl ⟨h0, h1, h3⟩ e hm.nn
      simp only [e]
      exact this
theorem key_all (p : Pan) (hp : p.Ok) (hm : MayF p) (k : Int) (hk : 1 ≤ k ∧ k ≤ 19) : callN Try.prog 29 [.ptr ⟨0, 0, 0⟩, .int .u8 k] [.cells (desk0 p)] (KeyOut (keyV p k)) := by
  unfold keyV
  by_cases k1 : k ≤ 10
  · rw [if_pos k1]
    exact press_0 p k ⟨hk.1, k1⟩ _ (digit_all p hp hm k ⟨hk.1, k1⟩)
  rw [if_neg k1]
  by_cases k2 : k ≤ 12
  · rw [if_pos k2]
    refine press_1 p k ⟨by omega, k2⟩ _ (key_lift ?_)
    by_cases h : p.st ≠ 3 ∨ p.cnt ≠ 0 ∨ p.ty.s ≠ 0
    · rw [signV, if_pos (by rcases h with h | h | h; exact .inl h; exact .inr (.inl h); exact .inr (.inr (.inl h)))]
      exact ⟨p, sign_no p k h⟩
    · have h3 : p.st = 3 := by omega
      obtain ⟨i, hd⟩ := data_f hm h3
      have hc := comp_is p hp.N.toOk i hd.d
      by_cases hc1 : (compV p).k = 1
      · rw [signV, if_pos (.inr (.inr (.inr hc1)))]
        exact ⟨p, sign_oct p k _ hc h3 (by omega) (by omega) hc1⟩
      · rw [signV, if_neg (by omega)]
        exact sign_c p k (by omega) _ hc h3 (by omega) (by omega) hc1 hd.d.c
  rw [if_neg k2]
  by_cases k3 : k ≤ 14
  · rw [if_pos k3]
    refine press_2 p k ⟨by omega, k3⟩ _ ?_
    by_cases h : p.cnt = 1 ∧ (p.st = 1 ∨ p.st = 2)
    · rw [if_pos h]
      exact key_none rfl (begin_no p k h)
    · rw [if_neg h]
      exact key_some (r := .z) rfl rfl (begin_c p k (by omega) h)
  rw [if_neg k3]
  by_cases k4 : k = 15
  · rw [if_pos k4]
    exact press_3 p k ⟨by omega, by omega⟩ _ (enter_c p hp hm k)
  rw [if_neg k4]
  by_cases k5 : k = 16
  · rw [if_pos k5]
    refine press_4 p k ⟨by omega, by omega⟩ _ (key_lift ?_)
    by_cases h0 : p.st = 0
    · rw [clearV, if_pos h0]
      have he := hm.entry
      rw [entryV, if_pos h0] at he
      exact ⟨_, clear_no p h0 (of_decide_eq_true he) k⟩
    · by_cases h3 : p.st = 3
      · obtain ⟨i, hd⟩ := data_f hm h3
        rw [clearV, if_neg h0, if_pos h3]
        exact clear_d3 p h3 hd.d.c k
      · by_cases h1 : p.st = 1
        · rw [clearV, if_neg h0, if_neg h3, if_pos h1]
          exact clear_v p h1 k
        · rw [clearV, if_neg h0, if_neg h3, if_neg h1]
          exact clear_n p h0 h1 h3 k
  rw [if_neg k5]
  by_cases k6 : k = 17
  · rw [if_pos k6]
    refine press_5 p k ⟨by omega, by omega⟩ _ ?_
    by_cases h : p.av = 0 ∨ p.asked = true
    · rw [if_pos h]
      exact key_none rfl (release_no p h k)
    · rw [if_neg h]
      have h0 : p.av ≠ 0 := fun e => h (.inl e)
      have ha : p.asked = false := by
        cases hb : p.asked with
        | false => rfl
        | true => exact absurd (.inr hb) h
      by_cases hk3 : (vrb p.av).k = 3
      · refine key_some (r := .z) (q := (askV p).1) (by rw [ask_eq, execV, if_pos hk3]) rfl (release_l p hm.av hm.aq hk3 h0 ha k)
      · refine key_some (r := ⟨1, 0, []⟩) (q := (askV p).1) (by rw [ask_eq, execV, if_neg hk3]) rfl (release_s p hm.av hm.aq hk3 h0 ha k)
  rw [if_neg k6]
  by_cases k7 : k = 18
  · rw [if_pos k7]
    exact press_6 p k ⟨by omega, by omega⟩ _ (key_some (r := .z) rfl rfl (reset_c p ⟨hp.D.2.2.1, (disp_st hm.D).2⟩ k))
  rw [if_neg k7]
  refine press_7 p k ⟨by omega, by omega⟩ _ ?_
  by_cases h : p.asked = true ∧ p.av ≠ 0
  · rw [if_pos h]
    exact key_some (r := ⟨4, 0, []⟩) rfl rfl (proceed_c p h.1 h.2 k)
  · rw [if_neg h]
    exact key_none rfl (proceed_no p h k)
end Go.Proofs
namespace Go.Proofs
open Go.E
set_option maxRecDepth 8000
abbrev zL : List AVal := [.nilslice, .int .u8 0, .int .i64 0, .int .i64 0, .int .u8 0, .int .u8 0, .int .u8 0, .int .u8 0, .int .u8 0, .int .u8 0, .int .i64 0, .int .i64 0, .int .u8 0, .int .u8 0, .int .u8 0, .int .u8 0, .int .u8 0, .int .u8 0, .int .u8 0, .int .u8 0, .int .u8 0, .int .u8 0, .int .u8 0, .int .u8 0, .int .u8 0, .int .u8 0, .int .u8 0, .int .u8 0, .int .u8 0, .int .u8 0, .int .u8 0, .bool false, .bool false, .bool false, .bool false, .int .i64 0, .int .i64 0, .int .i64 0, .bool false, .int .u8 0, .int .u8 0, .int .u8 0, .int .u8 0, .int .u8 0, .int .u8 0, .int .u8 0, .int .u8 0, .int .u8 0, .int .u8 0, .int .u8 0, .int .u8 0, .int .u8 0, .int .u8 0, .int .u8 0, .int .u8 0, .int .u8 0, .int .u8 0, .int .u8 0, .int .u8 0, .int .u8 0, .int .u8 0, .int .u8 0, .int .u8 0, .int .u16 0, .int .u16 0]
theorem eqvL0_refl (l : List AVal) : EqvL Eqv0 l l := by
  induction l with
  | nil => exact .nil
  | cons a r ih => exact .cons (.refl a) ih
set_option maxHeartbeats 8000000 in
theorem own_c (p : Pan) (hN : p.N.OkP) : callP Try.prog 14 [p.A] (· = p.A) := by
  have hn := hN.few
  refine callE_def env (fn := Try.f14) rfl (by decide) rfl ?_
  repeat refine stp ?_
  apply choice_r
  refine loop_weak (fun s : Nat × (Nat → List AVal) => slots 30 [(1, .ptr ⟨0, 0, 0⟩), (2, .ptr ⟨1, 0, 0⟩), (3, .slice ⟨2, 0, 0⟩ s.1), (11, p.N.A), (12, .int .i64 p.N.n), (13, .int .i64 s.1)]) (fun s => [.cells p.L, .cells zL, .rows 2 s.1 s.2])
    (fun s => s.1 ≤ p.N.n ∧ ∀ j, j < s.1 → s.2 j = nrow p.N.num p.N.m (fun i j => cmpL (p.N.cm i j)) j) (fun s => p.N.n - s.1) (0, fun _ => [.int .i64 0, .nilslice]) ⟨Nat.zero_le _, fun j hj => absurd hj (by omega)⟩ (weak_keep (keep 30 [1, 2, 3, 11, 12, 13]) [0, 1, 2] rfl rfl rfl) ?_
  rintro ⟨i, f⟩ ⟨hi, hf⟩
  dsimp only at hi hf
  by_cases hin : i = p.N.n
  · subst hin
    repeat refine stp ?_
    show Eqv (.agg (.ro 2 p.N.n f :: p.L.tail)) p.A
    exact .up (.agg (.cons (.ro hf) (eqvL0_refl _)))
  have hlt : i < p.N.n := by omega
  have hm := hN.m i hlt
  repeat refine stp ?_
  conv => whnf
  simp only [Int.toNat_natCast]
  refine draw_tree (picks (List.range 10) .done) (by decide +kernel) ?_
  apply need_intro
  · show p.N.m i * 32 ≤ 2 ^ 47
    omega
  apply choice_l
  repeat refine stp ?_
  apply choice_l
  repeat refine stp ?_
  apply need_intro
  · show (i + 1) * 32 ≤ 2 ^ 47
    omega
  repeat refine stp ?_
  refine ⟨(i + 1, catRows i (fun j => f (0 + j)) (chunk 2 [.int .i64 (p.N.num i), .ro 4 (p.N.m i) (fun j => cmpL (p.N.cm i j))])), ⟨by show i + 1 ≤ p.N.n; omega, fun j hj => ?_⟩, by show p.N.n - (i + 1) < p.N.n - i; omega, weak_keep (keep 30 [1, 2, 3, 11, 12, 13]) [0, 1, 2] rfl ?_ rfl⟩
  · show catRows i (fun j => f (0 + j)) _ j = _
    have hj : j < i + 1 := hj
    unfold catRows
    by_cases h : j < i
    · rw [if_pos h]
      show f (0 + j) = _
      rw [Nat.zero_add]
      exact hf j h
    · obtain rfl : j = i := by omega
      rw [if_neg h, Nat.sub_self]
      rfl
  · show [_, _, _, _, _, _, _, _, _, _, _, _, _, _, _, _, _, _, _, _, _, _, _, _, _, _, _, _, _, _] = _
    have e3 : IntKind.i64.wrap ((i : Int) + 1) = ((i + 1 : Nat) : Int) := by rw [wi (by omega) (by omega)]; rfl
    rw [e3]
    rfl
end Go.Proofs
