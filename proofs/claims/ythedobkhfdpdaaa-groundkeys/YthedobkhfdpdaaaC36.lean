/- Chapter 30: the panel is given back. -/
import Derived.Test.YthedobkhfdpdaaaC35
import Derived.Test.YthedobkhfdpdaaaC22
set_option linter.unusedVariables false
set_option linter.unusedSimpArgs false
namespace Go.Proofs
open Go.E
set_option maxRecDepth 8000
theorem stat5 : ∀ n : Nat, n < 2048 → ∀ l : Nat, l ∈ [0, 1, 4, 5] → IntKind.u16.wrap ((BitVec.ofInt IntKind.u16.bits (IntKind.u16.wrap ((BitVec.ofInt IntKind.u16.bits (n : Int) &&& ~~~ BitVec.ofInt IntKind.u16.bits 5).toNat : Int)) ||| BitVec.ofInt IntKind.u16.bits (l : Int)).toNat : Int) =
    ((n - n % 2 - 4 * (n / 4 % 2) + l : Nat) : Int) := by decide +kernel
theorem lights_in (p : Pan) : ∃ l : Nat, l ∈ [0, 1, 4, 5] ∧ lights p = l := by
  unfold lights
  cases flash p <;> cases waits p
  · exact ⟨0, by decide, rfl⟩
  · exact ⟨4, by decide, rfl⟩
  · exact ⟨1, by decide, rfl⟩
  · exact ⟨5, by decide, rfl⟩
theorem stat5i (p : Pan) (h : 0 ≤ p.D.st ∧ p.D.st < 2048) : IntKind.u16.wrap ((BitVec.ofInt IntKind.u16.bits (IntKind.u16.wrap ((BitVec.ofInt IntKind.u16.bits p.D.st &&& ~~~ BitVec.ofInt IntKind.u16.bits 5).toNat : Int)) ||| BitVec.ofInt IntKind.u16.bits (lights p)).toNat : Int) =
    p.D.st - p.D.st % 2 - 4 * (p.D.st / 4 % 2) + lights p := by
  obtain ⟨n, hn⟩ : ∃ n : Nat, p.D.st = n := ⟨p.D.st.toNat, by omega⟩
  obtain ⟨l, hl, e⟩ := lights_in p
  rw [hn, e, stat5 n (by omega) l hl]
  omega
abbrev Req.zA : AVal := .agg [.int .u8 0, .int .i64 0, .nilslice]
theorem done_r (p : Pan) (r : Req) (h : 0 ≤ p.D.st ∧ p.D.st < 2048) : callN Try.prog 30 [.ptr ⟨0, 0, 0⟩] [.cells (deskR p r)] fun v H' => v = .tuple [(litV p).A, r.A, .int .i64 0] ∧ H' = [.cells (deskR (litV p) r)] := by
  unfold litV
  rw [← stat5i p h]
  refine callN_end [0] ?_
  refine callN_def env (fn := Try.f30) 1 rfl rfl (by decide) ?_
  repeat refine stp ?_
  refine draw_tree (picks (List.range 19) .done) (by decide +kernel) ?_
  refine ⟨_, ⟨lights_c p, rfl⟩, ?_⟩
  repeat refine stp ?_
  refine draw_tree (picks (List.range 7) (.fork 7 8 (picks [8, 9, 10] .done) (picks [7, 9, 10] .done))) (by decide +kernel) ?_
  constructor <;>
  · exact ⟨rfl, Eqv.same _, EqvH.refl _⟩
theorem done_z (p : Pan) (h : 0 ≤ p.D.st ∧ p.D.st < 2048) : callN Try.prog 30 [.ptr ⟨0, 0, 0⟩] [.cells (desk0 p)] fun v H' => v = .tuple [(litV p).A, Req.zA, .int .i64 0] ∧ H' = [.cells (desk0 (litV p))] := by
  unfold litV
  rw [← stat5i p h]
  refine callN_end [0] ?_
  refine callN_def env (fn := Try.f30) 1 rfl rfl (by decide) ?_
  repeat refine stp ?_
  refine draw_tree (picks (List.range 19) .done) (by decide +kernel) ?_
  refine ⟨_, ⟨lights_c p, rfl⟩, ?_⟩
  repeat refine stp ?_
  refine draw_tree (picks (List.range 7) (.fork 7 8 (picks [8, 9, 10] .done) (picks [7, 9, 10] .done))) (by decide +kernel) ?_
  constructor <;>
  · exact ⟨rfl, Eqv.same _, EqvH.refl _⟩
end Go.Proofs
namespace Go.Proofs
open Go.E
set_option maxRecDepth 8000
def isK (n : Int) : Bool := decide (1 ≤ n ∧ n ≤ 19)
def codeL : List Int := [16, 1, 2, 3, 4, 5, 6, 7, 8, 9, 26, 27, 17, 31, 28, 30, 25, 18, 20]
theorem kvalid_c {n : Int} (hn : 0 ≤ n) : callP Try.prog 16 [.int .u8 n] (· = .bool (isK n)) := by
  refine callE_def env (fn := Try.f16) rfl (by decide) rfl ?_
  unfold isK
  by_cases h0 : n = 0
  · rw [decide_eq_false (by omega)]
    repeat refine stp ?_
    show Eqv _ _
    exact .up (.up (.refl _))
  · by_cases h1 : n ≤ 19
    · rw [decide_eq_true (by omega)]
      repeat refine stp ?_
      show Eqv (.bool (decide (n ≤ 19))) _
      rw [decide_eq_true h1]
      exact .up (.up (.refl _))
    · rw [decide_eq_false (by omega)]
      repeat refine stp ?_
      show Eqv (.bool (decide (n ≤ 19))) _
      rw [decide_eq_false h1]
      exact .up (.up (.refl _))
theorem kcodes_c : callP Try.prog 17 [] (· = .agg (codeL.map (AVal.int .i64))) := by
  refine callE_def env (fn := Try.f17) rfl (by decide) rfl ?_
  repeat refine stp ?_
  show Eqv _ _
  exact .up (.up (.refl _))
def codeK (n : Int) : Int := codeL.getD (n.toNat - 1) 0
set_option maxHeartbeats 4000000 in
theorem kcode_c {n : Int} (h : isK n = true) : callP Try.prog 6 [.int .u8 n] (· = .tuple [.int .i64 (codeK n), .int .i64 0]) := by
  have hb := of_decide_eq_true h
  have hv := kvalid_c (n := n) (by omega)
  rw [h] at hv
  refine callE_def env (fn := Try.f6) rfl (by decide) rfl ?_
  refine callT_E hv rfl ?_
  repeat refine stp ?_
  refine callT_E kcodes_c rfl ?_
  rcases (show n = 1 ∨ n = 2 ∨ n = 3 ∨ n = 4 ∨ n = 5 ∨ n = 6 ∨ n = 7 ∨ n = 8 ∨ n = 9 ∨ n = 10 ∨ n = 11 ∨ n = 12 ∨ n = 13 ∨ n = 14 ∨ n = 15 ∨ n = 16 ∨ n = 17 ∨ n = 18 ∨ n = 19 by omega) with e | e | e | e | e | e | e | e | e | e | e | e | e | e | e | e | e | e | e <;> subst e
  all_goals
    repeat refine stp ?_
    show Eqv _ _
    exact .up (.up (.refl _))
theorem setR_st (D : Dsp) (i : Int) (x : Shw) : (D.setR i x).st = D.st := by
  unfold Dsp.setR
  split
  · rfl
  · split <;> rfl
theorem resetV_b {s : Int} (h : 0 ≤ s ∧ s < 2048) : 0 ≤ resetV s ∧ resetV s < 2048 := by
  unfold resetV
  omega
theorem exec_st (p : Pan) (v n : Int) : (execV p v n).1.D.st = p.D.st := by
  unfold execV
  split <;> rfl
theorem digit_st {p q : Pan} {d : Int} (h : digitV p d = some q) : q.D.st = p.D.st := by
  unfold digitV at h
  split at h
  · cases h
  · split at h
    · split at h
      · cases h
      · cases h; exact setR_st _ _ _
    · split at h
      · cases h
      · split at h
        · cases h; simp only; split <;> rfl
        · cases h; simp only; split <;> rfl
theorem load_st {p q : Pan} {r : Req} (h : loadV p = some (q, r)) : q.D.st = p.D.st := by
  have hs : ∀ i x, (p.setL i x).D = p.D := fun i x => by
    unfold Pan.setL
    split
    · rfl
    · split <;> rfl
  unfold loadV at h
  split at h
  · simp only at h
    split at h
    · simp only [Option.some.injEq, Prod.mk.injEq] at h
      rw [← h.1]
      exact congrArg Dsp.st (hs _ _)
    · split at h
      · simp only [Option.some.injEq, Prod.mk.injEq] at h
        rw [← h.1]
        rfl
      · cases h
  · cases h
theorem enter_st {p q : Pan} {r : Req} (h : enterV p = some (q, r)) : q.D.st = p.D.st := by
  unfold enterV at h
  split at h
  · exact load_st h
  split at h
  · cases h
  split at h
  · cases h; rfl
  simp only at h
  split at h
  · split at h
    · simp only [Option.some.injEq] at h
      have := exec_st { p with asked := false } p.vb p.nn
      rw [h] at this
      exact this
    · cases h
  split at h
  · split at h
    · cases h
    · cases h; rfl
  split at h
  · split at h
    · cases h
    · cases h; rfl
  split at h
  · split at h
    · cases h
    · cases h; rfl
  split at h
  · cases h; rfl
  split at h
  · cases h; rfl
  · cases h
theorem key_st {p q : Pan} {r : Req} {k : Int} (hp : 0 ≤ p.D.st ∧ p.D.st < 2048) (h : keyV p k = some (q, r)) : 0 ≤ q.D.st ∧ q.D.st < 2048 := by
  have fin : q.D.st = p.D.st → 0 ≤ q.D.st ∧ q.D.st < 2048 := fun e => by rw [e]; exact hp
  have hbeg : ∀ s, (beginV p s).D.st = p.D.st := fun s => by
    unfold beginV
    split <;> rfl
  unfold keyV at h
  split at h
  · obtain ⟨x, hx, e⟩ := Option.map_eq_some_iff.1 h
    cases e
    exact fin (digit_st hx)
  split at h
  · obtain ⟨x, hx, e⟩ := Option.map_eq_some_iff.1 h
    cases e
    unfold signV at hx
    split at hx
    · cases hx
    · cases hx; exact fin (setR_st _ _ _)
  split at h
  · split at h
    · cases h
    · cases h; exact fin (hbeg _)
  split at h
  · exact fin (enter_st h)
  split at h
  · obtain ⟨x, hx, e⟩ := Option.map_eq_some_iff.1 h
    cases e
    unfold clearV at hx
    split at hx
    · cases hx
    split at hx
    · cases hx; exact fin (setR_st _ _ _)
    split at hx <;> (cases hx; exact fin rfl)
  split at h
  · split at h
    · cases h
    · simp only [Option.some.injEq] at h
      have := exec_st { p with vb := p.av, nn := p.aq, asked := true, D := { p.D with v0 := p.av / 10, v1 := p.av % 10, n0 := p.aq / 10, n1 := p.aq % 10 } } p.av p.aq
      rw [← ask_eq, h] at this
      exact fin this
  split at h
  · cases h
    exact resetV_b hp
  · split at h
    · cases h; exact fin rfl
    · cases h
theorem or2 : ∀ n : Nat, n < 2048 → IntKind.u16.wrap ((BitVec.ofInt IntKind.u16.bits (n : Int) ||| BitVec.ofInt IntKind.u16.bits 2).toNat : Int) = ((n - 2 * (n / 2 % 2) + 2 : Nat) : Int) := by decide +kernel
theorem or2i {x : Int} (h : 0 ≤ x ∧ x < 2048) : IntKind.u16.wrap ((BitVec.ofInt IntKind.u16.bits x ||| BitVec.ofInt IntKind.u16.bits 2).toNat : Int) = x - 2 * (x / 2 % 2) + 2 := by
  obtain ⟨n, rfl⟩ : ∃ n : Nat, x = n := ⟨x.toNat, by omega⟩
  rw [or2 n (by omega)]
  omega
set_option maxHeartbeats 8000000 in
theorem press_ok (p : Pan) (hp : p.Ok) (hm : MayF p) (k : Int) (hk : isK k = true) : callP Try.prog 21 [p.A, .int .u8 k] (· = .tuple [(pressV p k).1.A, (pressV p k).2.A, .int .i64 0]) := by
  have hb := of_decide_eq_true hk
  have st : 0 ≤ p.D.st ∧ p.D.st < 2048 := ⟨hp.D.2.2.1, (disp_st hm.D).2⟩
  have ec := kcode_c hk
  have em := pmay_c p hp
  rw [(may_iff p).2 hm] at em
  have eo := own_c p hp.N
  have ek := key_all p hp hm k hb
  cases hv : keyV p k with
  | some z =>
    obtain ⟨q, r⟩ := z
    have hs := key_st st hv
    rw [hv] at ek
    rw [show pressV p k = (litV q, r) by rw [pressV, hv]]
    refine callE_def env (fn := Try.f21) rfl (by decide) rfl ?_
    refine callT_E ec rfl ?_
    repeat refine stp ?_
    refine callT_E em rfl ?_
    repeat refine stp ?_
    refine callT_E eo rfl ?_
    repeat refine stp ?_
    refine callT_part [3] rfl ek ?_
    rintro v H' ⟨rfl, rfl⟩ x G hx hG
    obtain rfl : x = .bool true := hx
    obtain rfl : G = [.cells p.L, .cells zL, .cells [.int .u8 0, .int .i64 0, .nilslice], .cells (deskR q r), .cells p.L] := hG
    repeat refine stp ?_
    refine callT_part [3] rfl (done_r q r hs) ?_
    rintro v H' ⟨rfl, rfl⟩ x G hx hG
    obtain rfl : x = .tuple [(litV q).A, r.A, .int .i64 0] := hx
    obtain rfl : G = [.cells p.L, .cells zL, .cells [.int .u8 0, .int .i64 0, .nilslice], .cells (deskR (litV q) r), .cells p.L] := hG
    repeat refine stp ?_
    show Eqv _ _
    exact .up (.up (.refl _))
  | none =>
    rw [hv] at ek
    rw [show pressV p k = (litV (wrongV p), .z) by rw [pressV, hv]]
    have hs : 0 ≤ (wrongV p).D.st ∧ (wrongV p).D.st < 2048 := by
      show 0 ≤ p.D.st - 2 * (p.D.st / 2 % 2) + 2 ∧ p.D.st - 2 * (p.D.st / 2 % 2) + 2 < 2048
      omega
    have ew : wrongV p = { p with D := { p.D with st := IntKind.u16.wrap ((BitVec.ofInt IntKind.u16.bits p.D.st ||| BitVec.ofInt IntKind.u16.bits 2).toNat : Int) } } := by
      rw [or2i st]; rfl
    have ed := done_z _ hs
    rw [ew] at ed ⊢
    refine callE_def env (fn := Try.f21) rfl (by decide) rfl ?_
    refine callT_E ec rfl ?_
    repeat refine stp ?_
    refine callT_E em rfl ?_
    repeat refine stp ?_
    refine callT_E eo rfl ?_
    repeat refine stp ?_
    refine callT_part [3] rfl ek ?_
    rintro v H' ⟨rfl, q, rfl⟩ x G hx hG
    obtain rfl : x = .bool false := hx
    obtain rfl : G = [.cells p.L, .cells zL, .cells [.int .u8 0, .int .i64 0, .nilslice], .cells (desk0 q), .cells p.L] := hG
    repeat refine stp ?_
    refine callT_part [3] rfl ed ?_
    rintro v H' ⟨rfl, rfl⟩ x G hx hG
    subst hx hG
    repeat refine stp ?_
    show Eqv (.tuple [_, Req.zA, _]) _
    exact .tuple (.cons (.up (.refl _)) (.cons (.agg (.cons (.refl _) (.cons (.refl _) (.cons (.nil _ _) .nil)))) (.cons (.up (.refl _)) .nil)))
end Go.Proofs
