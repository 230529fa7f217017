/- Chapter 30: the law Known: what is typed. -/
import Derived.Test.YtblgcojannjmcaaC44
set_option linter.unusedVariables false
set_option linter.unusedSimpArgs false
/-! Uj. -/
namespace Go.Proofs
open Go.E
set_option maxRecDepth 8000

def t1 : ByteArray := ⟨#[86, 50, 49, 78, 52, 51, 69, 43]⟩
def t2 : ByteArray := ⟨#[86, 50, 49, 78, 52, 51, 69, 49, 50, 69]⟩
def t3 : ByteArray := ⟨#[86, 51, 55, 69, 48, 54, 69]⟩
def t4 : ByteArray := ⟨#[86, 49, 78]⟩
def t5 : ByteArray := ⟨#[86, 51, 53, 69]⟩
def K1 : PlS := typS tabN t1 []
def K2 : PlS := typS tabN t2 []
def K3 : PlS := typS tabN t3 []
def K4 : PlS := typS tabN t4 []
def K5 : PlS := typS tabN t5 []
def wrongB (p : Pan) : Bool := decide (p.D.st / 2 % 2 = 1)
def flashB (p : Pan) : Bool := decide (p.D.st % 2 = 1)
theorem K1_f : rsL K1.rs = [] ∧ wrongB K1.p = true ∧ flashB K1.p = true ∧ K1.p.st = 3 ∧ 0 ≤ K1.p.D.st ∧ K1.p.D.st < 2048 := by decide +kernel
theorem K2_f : rsL K2.rs = [(2, 0, [(65, 10)])] := by decide +kernel
theorem K3_f : rsL K3.rs = [(3, 6, [])] ∧ K3.p.st = 0 ∧ K3.p.D.n0 = 10 ∧ K3.p.D.n1 = 10 := by decide +kernel
theorem K4_f : rsL K4.rs = [] ∧ wrongB K4.p = true ∧ K4.p.st = 1 ∧ K4.p.cnt = 1 ∧ K4.p.D.v0 = 1 ∧ K4.p.D.v1 = 10 ∧ 0 ≤ K4.p.D.st ∧ K4.p.D.st < 2048 := by decide +kernel
theorem K5_f : rsL K5.rs = [] ∧ K5.p.D.li = 2047 ∧ K5.p.D.r2.s = 1 ∧ K5.p.D.r2.a = 8 ∧ K5.p.D.r2.b = 8 ∧ K5.p.D.r2.c = 8 ∧ K5.p.D.r2.d = 8 ∧ K5.p.D.r2.e = 8 := by decide +kernel
theorem words_nil : Words [] := fun x hx => by cases hx
theorem typed_k (t : ByteArray) (ht : (parse t).2.2 = 0) (l : List (Int × Int × List (Int × Int))) (h : rsL (typS tabN t []).rs = l) :
    callP Try.prog 13 [tabN.A, .str t, .nilslice] (· = .tuple [(typS tabN t []).p.A, reqsA (l.map fun x => ⟨x.1, x.2.1, x.2.2⟩), ints .u16 (typS tabN t []).l, .bool true]) := by
  have e := typed_ok tabN tab_ok tab_may t ht [] words_nil (by decide)
  rw [rs_eq h] at e
  exact callP_arg (.cons (Eqv.same _) (.cons (Eqv.same _) (.cons (.up (.up (.nil 1 _))) .nil))) e
theorem typed_good (t : ByteArray) : Good (typS tabN t []).p :=
  (play_inv (s := ⟨newP tabN, [], []⟩) ⟨new_good tabN tab_ok tab_may, words_nil⟩ (parse_key t)).p
/-- The panel with lamps tested, after RSET. -/
def P5 : Pan := (pressV K5.p 18).1
theorem P5_f : P5.D.li = 0 ∧ suit P5.N 24 20 = false ∧ suit P5.N 6 21 = false ∧ suit P5.N 37 20 = false := by decide +kernel
theorem K5_good : Good K5.p := typed_good t5
theorem P5_good : Good P5 := (press_good K5.p 18 K5_good rfl).1
theorem zero_good : Good Pan.zero := by
  refine ⟨⟨⟨⟨by decide, fun i hi => absurd hi (by simp [Pan.zero, Nns.none]), fun i hi => absurd hi (by simp [Pan.zero, Nns.none])⟩, by decide⟩, z_b, z_i, z_i, z6_ok, z_i, z_i, z6_ok, z6_ok, z6_ok, z_b, z_i, z_i, z_i, ?_⟩, (may_iff _).1 (by decide +kernel)⟩
  exact Dsp.G.wd ⟨by decide, by decide, by decide, by decide, by decide, by decide, z6_g, z6_g, z6_g, by decide, by decide⟩
end Go.Proofs
namespace Go.E
theorem callP_arg1 {P : Program} {f : FuncId} {v v0 : AVal} {R : AVal → Prop} (hd : ∀ (c : Cx) (u : Value), VRel c v u → VRel c v0 u) (h : callP P f [v0] R) : callP P f [v] R := by
  unfold callP at h ⊢
  rw [callN_iff] at h ⊢
  refine ⟨h.1, fun c us h1 hg h2 h3 => h.2 c us h1 hg h2 ?_⟩
  obtain ⟨hl, hr⟩ := h3
  refine ⟨hl, fun i x y h4 h5 => ?_⟩
  match i, h4 with
  | 0, h4 =>
    have h4 : some v0 = some x := h4
    cases h4
    exact hd c y (hr 0 v y rfl h5)
  | i + 1, h4 => cases h4
theorem ro_nils {c : Cx} {sz sz' n : Nat} {a : AVal} {row : Nat → List AVal} {f : Nat → List AVal} (hf : ∀ i, i < n → f i = [a, .nilslice]) {u : Value}
    (hv : VRel c (.ro sz n f) u) : VRel c (.ro sz n fun _ => [a, .ro sz' 0 row]) u := by
  cases hv with
  | closed hr =>
    cases hr with
    | roNil A k => exact .closed (.roNil A k)
    | ro hc hx hb hlen hin hrel =>
      refine .closed (.ro hc hx hb (fun i hi => by have := hlen i hi; rw [hf i hi] at this; exact this) hin (fun i hi j v u h1 h2 => ?_))
      match j, h1 with
      | 0, h1 => exact hrel i hi 0 v u (by rw [hf i hi]; exact h1) h2
      | 1, h1 =>
        have h1 : some _ = some v := h1
        cases h1
        have := hrel i hi 1 .nilslice u (by rw [hf i hi]; rfl) h2
        cases this
        exact .roNil _ _
      | j + 2, h1 => cases h1
end Go.E
/-! Uk. -/
namespace Go.Proofs
open Go.E
set_option maxRecDepth 8000

def oneN : Nns := ⟨1, fun _ => 0, fun _ => 0, fun _ _ => ⟨0, 0, 0, 0⟩⟩
theorem one_ok : oneN.OkP := ⟨⟨by decide, fun i _ => by show 0 * 32 ≤ 140737488355328; decide, fun i _ j hj => absurd hj (Nat.not_lt_zero j)⟩, by decide⟩
theorem new_one : callP Try.prog 8 [.ro 2 1 (chunk 2 [.int .i64 0, .nilslice])] (· = .tuple [Pan.zero.A, .int .i64 2]) := by
  refine callP_arg1 (fun c u h => ?_) (new_no oneN one_ok (by decide +kernel))
  have h2 := ro_nils (n := 1) (sz := 2) (f := chunk 2 [.int .i64 0, .nilslice]) (sz' := 4) (row := fun _ => cmpL ⟨0, 0, 0, 0⟩) (a := .int .i64 0) (fun i hi => match i, hi with | 0, _ => rfl) h
  exact h2
def Q5 : Pan := { P5 with D := { P5.D with st := 1 } }
theorem Q5_ok : Q5.Ok := { P5_good.ok with D := Dsp.G.wd { P5_good.pre.D with st := ⟨by decide, by decide⟩ } }
theorem Q5_may : mayV Q5 = false := by decide +kernel
theorem press_zero : callP Try.prog 10 [.agg zL, .int .u8 13] (· = .tuple [(pressV Pan.zero 13).1.A, (pressV Pan.zero 13).2.A, .int .i64 0]) :=
  callP_arg (.cons (.up zero_eqv) (.cons (Eqv.same _) .nil)) (press_ok Pan.zero zero_good.ok zero_good.may 13 rfl)
theorem may_zero : callP Try.prog 26 [.agg zL] (· = .bool true) := by
  have e := pmay_c Pan.zero zero_good.ok
  rw [(may_iff Pan.zero).2 zero_good.may] at e
  exact callP_arg (.cons (.up zero_eqv) .nil) e
theorem may_q5 : callP Try.prog 26 [Q5.A] (· = .bool false) := by
  have e := pmay_c Q5 Q5_ok
  rw [Q5_may] at e
  exact e
set_option maxHeartbeats 16000000 in
theorem known_law : callP Try.prog 6 [] (· = .bool true) := by
  obtain ⟨a1, a2, a3, a4, a5, a6⟩ := K1_f
  obtain ⟨c1, c2, c3, c4⟩ := K3_f
  obtain ⟨d1, d2, d3, d4, d5, d6, d7, d8⟩ := K4_f
  obtain ⟨f1, f2, f3, f4, f5, f6, f7, f8⟩ := K5_f
  obtain ⟨p1, p2, p3, p4⟩ := P5_f
  have e1 := typed_k t1 (by decide +kernel) _ a1
  have e2 := typed_k t2 (by decide +kernel) _ K2_f
  have e3 := typed_k t3 (by decide +kernel) _ c1
  have e4 := typed_k t4 (by decide +kernel) _ d1
  have e5 := typed_k t5 (by decide +kernel) _ f1
  have w1 := wrong_c K1.p ⟨a5, a6⟩
  have l1 := flashes_c K1.p ⟨a5, a6⟩
  have w4 := wrong_c K4.p ⟨d7, d8⟩
  rw [show decide (K1.p.D.st / 2 % 2 = 1) = true from a2] at w1
  rw [show decide (K1.p.D.st % 2 = 1) = true from a3] at l1
  rw [show decide (K4.p.D.st / 2 % 2 = 1) = true from d2] at w4
  have pr := press_ok K5.p K5_good.ok K5_good.may 18 rfl
  have hm := (may_iff P5).2 P5_good.may
  refine callE_def env (fn := Try.f6) rfl (by decide) rfl ?_
  refine callT_E table_c rfl ?_
  repeat (first | refine ndD ?_ | refine ndS ?_ | refine branch_true ?_ | refine branch_false ?_ | refine brT ?_ | refine brF ?_ | refine brD ?_ | refine brE ?_ | refine brU ?_ | refine brV ?_)
  refine callT_E e1 rfl ?_
  repeat (first | refine ndD ?_ | refine ndS ?_ | refine branch_true ?_ | refine branch_false ?_ | refine brT ?_ | refine brF ?_ | refine brD ?_ | refine brE ?_ | refine brU ?_ | refine brV ?_)
  refine callT_E w1 rfl ?_
  repeat (first | refine ndD ?_ | refine ndS ?_ | refine branch_true ?_ | refine branch_false ?_ | refine brT ?_ | refine brF ?_ | refine brD ?_ | refine brE ?_ | refine brU ?_ | refine brV ?_)
  refine callT_E l1 rfl ?_
  repeat (first | refine ndD ?_ | refine ndS ?_ | refine branch_true ?_ | refine branch_false ?_ | refine brT ?_ | refine brF ?_ | refine brD ?_ | refine brE ?_ | refine brU ?_ | refine brV ?_)
  refine callT_E table_c rfl ?_
  repeat (first | refine ndD ?_ | refine ndS ?_ | refine branch_true ?_ | refine branch_false ?_ | refine brT ?_ | refine brF ?_ | refine brD ?_ | refine brE ?_ | refine brU ?_ | refine brV ?_)
  refine callT_E e2 rfl ?_
  repeat (first | refine ndD ?_ | refine ndS ?_ | refine branch_true ?_ | refine branch_false ?_ | refine brT ?_ | refine brF ?_ | refine brD ?_ | refine brE ?_ | refine brU ?_ | refine brV ?_)
  refine callT_E table_c rfl ?_
  repeat (first | refine ndD ?_ | refine ndS ?_ | refine branch_true ?_ | refine branch_false ?_ | refine brT ?_ | refine brF ?_ | refine brD ?_ | refine brE ?_ | refine brU ?_ | refine brV ?_)
  refine callT_E e3 rfl ?_
  repeat (first | refine ndD ?_ | refine ndS ?_ | refine branch_true ?_ | refine branch_false ?_ | refine brT ?_ | refine brF ?_ | refine brD ?_ | refine brE ?_ | refine brU ?_ | refine brV ?_)
  refine callT_E table_c rfl ?_
  repeat (first | refine ndD ?_ | refine ndS ?_ | refine branch_true ?_ | refine branch_false ?_ | refine brT ?_ | refine brF ?_ | refine brD ?_ | refine brE ?_ | refine brU ?_ | refine brV ?_)
  refine callT_E e4 rfl ?_
  repeat (first | refine ndD ?_ | refine ndS ?_ | refine branch_true ?_ | refine branch_false ?_ | refine brT ?_ | refine brF ?_ | refine brD ?_ | refine brE ?_ | refine brU ?_ | refine brV ?_)
  refine callT_E w4 rfl ?_
  repeat (first | refine ndD ?_ | refine ndS ?_ | refine branch_true ?_ | refine branch_false ?_ | refine brT ?_ | refine brF ?_ | refine brD ?_ | refine brE ?_ | refine brU ?_ | refine brV ?_)
  refine callT_E table_c rfl ?_
  repeat (first | refine ndD ?_ | refine ndS ?_ | refine branch_true ?_ | refine branch_false ?_ | refine brT ?_ | refine brF ?_ | refine brD ?_ | refine brE ?_ | refine brU ?_ | refine brV ?_)
  refine callT_E e5 rfl ?_
  repeat (first | refine ndD ?_ | refine ndS ?_ | refine branch_true ?_ | refine branch_false ?_ | refine brT ?_ | refine brF ?_ | refine brD ?_ | refine brE ?_ | refine brU ?_ | refine brV ?_)
  refine callT_E pr rfl ?_
  repeat (first | refine ndD ?_ | refine ndS ?_ | refine branch_true ?_ | refine branch_false ?_ | refine brT ?_ | refine brF ?_ | refine brD ?_ | refine brE ?_ | refine brU ?_ | refine brV ?_)
  apply choice_l
  refine callT_E new_one rfl ?_
  repeat (first | refine ndD ?_ | refine ndS ?_ | refine branch_true ?_ | refine branch_false ?_ | refine brT ?_ | refine brF ?_ | refine brD ?_ | refine brE ?_ | refine brU ?_ | refine brV ?_)
  refine callT_E press_zero rfl ?_
  repeat (first | refine ndD ?_ | refine ndS ?_ | refine branch_true ?_ | refine branch_false ?_ | refine brT ?_ | refine brF ?_ | refine brD ?_ | refine brE ?_ | refine brU ?_ | refine brV ?_)
  refine callT_E (ask_no P5 P5_good.ok hm 24 20 p2) rfl ?_
  repeat (first | refine ndD ?_ | refine ndS ?_ | refine branch_true ?_ | refine branch_false ?_ | refine brT ?_ | refine brF ?_ | refine brD ?_ | refine brE ?_ | refine brU ?_ | refine brV ?_)
  refine callT_E (ask_no P5 P5_good.ok hm 6 21 p3) rfl ?_
  repeat (first | refine ndD ?_ | refine ndS ?_ | refine branch_true ?_ | refine branch_false ?_ | refine brT ?_ | refine brF ?_ | refine brD ?_ | refine brE ?_ | refine brU ?_ | refine brV ?_)
  refine callT_E (ask_no P5 P5_good.ok hm 37 20 p4) rfl ?_
  repeat (first | refine ndD ?_ | refine ndS ?_ | refine branch_true ?_ | refine branch_false ?_ | refine brT ?_ | refine brF ?_ | refine brD ?_ | refine brE ?_ | refine brU ?_ | refine brV ?_)
  refine callT_E (program_no P5 P5_good.ok hm 100 rfl) rfl ?_
  repeat (first | refine ndD ?_ | refine ndS ?_ | refine branch_true ?_ | refine branch_false ?_ | refine brT ?_ | refine brF ?_ | refine brD ?_ | refine brE ?_ | refine brU ?_ | refine brV ?_)
  refine callT_E (light_no P5 P5_good.ok hm 2 true (by decide)) rfl ?_
  repeat (first | refine ndD ?_ | refine ndS ?_ | refine branch_true ?_ | refine branch_false ?_ | refine brT ?_ | refine brF ?_ | refine brD ?_ | refine brE ?_ | refine brU ?_ | refine brV ?_)
  refine callT_E (light_no P5 P5_good.ok hm 11 true (by decide)) rfl ?_
  repeat (first | refine ndD ?_ | refine ndS ?_ | refine branch_true ?_ | refine branch_false ?_ | refine brT ?_ | refine brF ?_ | refine brD ?_ | refine brE ?_ | refine brU ?_ | refine brV ?_)
  refine callT_E (program_ok P5 P5_good.ok hm 63 rfl) rfl ?_
  repeat (first | refine ndD ?_ | refine ndS ?_ | refine branch_true ?_ | refine branch_false ?_ | refine brT ?_ | refine brF ?_ | refine brD ?_ | refine brE ?_ | refine brU ?_ | refine brV ?_)
  refine callT_E (program_inv Q5 Q5_ok Q5_may 1) rfl ?_
  repeat (first | refine ndD ?_ | refine ndS ?_ | refine branch_true ?_ | refine branch_false ?_ | refine brT ?_ | refine brF ?_ | refine brD ?_ | refine brE ?_ | refine brU ?_ | refine brV ?_)
  refine callT_E may_q5 rfl ?_
  repeat (first | refine ndD ?_ | refine ndS ?_ | refine branch_true ?_ | refine branch_false ?_ | refine brT ?_ | refine brF ?_ | refine brD ?_ | refine brE ?_ | refine brU ?_ | refine brV ?_)
  refine callT_E may_zero rfl ?_
  repeat (first | refine ndD ?_ | refine ndS ?_ | refine branch_true ?_ | refine branch_false ?_ | refine brT ?_ | refine brF ?_ | refine brD ?_ | refine brE ?_ | refine brU ?_ | refine brV ?_)
  refine callT_E works_c rfl ?_
  repeat (first | refine ndD ?_ | refine ndS ?_ | refine branch_true ?_ | refine branch_false ?_ | refine brT ?_ | refine brF ?_ | refine brD ?_ | refine brE ?_ | refine brU ?_ | refine brV ?_)
  show Eqv _ _
  exact .up (.up (.refl _))
end Go.Proofs
