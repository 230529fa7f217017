/- Chapter 30: the panel works. -/
import Derived.Test.YtblgcojannjmcaaC43
set_option linter.unusedVariables false
set_option linter.unusedSimpArgs false
/-! Ui. -/
namespace Go.Proofs
open Go.E
set_option maxRecDepth 8000

def s1 : ByteArray := ⟨#[86, 50, 49, 78, 50, 48, 69, 43, 48, 57, 48, 48, 48, 69]⟩
def s2 : ByteArray := ⟨#[86, 48, 54, 78, 50, 48, 69]⟩
def z70 : List Int := List.replicate 70 0
theorem tab_ok : tabN.OkP := by
  refine ⟨⟨by decide, fun i hi => by show 1 * 32 ≤ 140737488355328; decide, fun i hi j hj => ?_⟩, by decide⟩
  show Cmp.Ok (if i = 0 then _ else _)
  split
  · exact ⟨by decide, by decide, by decide, by decide⟩
  · exact ⟨by decide, by decide, by decide, by decide⟩
theorem tab_may : tabN.may = true := by decide +kernel
theorem words_rep (n : Nat) : Words (List.replicate n 0) := fun x hx => by
  rw [List.eq_of_mem_replicate hx]; decide
def rsL (rs : List Req) : List (Int × Int × List (Int × Int)) := rs.map fun r => (r.k, r.n, r.c)
theorem rs_eq {rs : List Req} {l : List (Int × Int × List (Int × Int))} (h : rsL rs = l) : rs = l.map fun x => ⟨x.1, x.2.1, x.2.2⟩ := by
  subst h
  induction rs with
  | nil => rfl
  | cons r rs ih => rw [rsL, List.map_cons, List.map_cons]; exact congrArg _ ih
def S1 : PlS := typS tabN s1 z70
theorem parse_1 : parse s1 = ([13, 3, 2, 14, 3, 1, 15, 11, 1, 10, 1, 1, 1, 15], 0, 0) := by decide +kernel
theorem S1_rs : rsL S1.rs = [(2, 0, [(64, 4096)])] := by decide +kernel
theorem S1_l : S1.l = z70.set 64 4096 := by decide +kernel
theorem S1_D : S1.p.D.st = 0 ∧ S1.p.D.v0 = 2 ∧ S1.p.D.v1 = 1 ∧ S1.p.D.r0.s = 1 ∧ S1.p.D.r0.a = 0 ∧ S1.p.D.r0.b = 9 ∧ S1.p.D.r0.c = 0 ∧ S1.p.D.r0.d = 0 ∧ S1.p.D.r0.e = 0 := by decide +kernel
def S2 : PlS := typS tabN s2 (z70.set 64 4096)
theorem parse_2 : parse s2 = ([13, 1, 7, 14, 3, 1, 15], 0, 0) := by decide +kernel
theorem S2_rs : rsL S2.rs = [(1, 0, [])] := by decide +kernel
theorem S2_D : S2.p.D.r0.s = 1 ∧ S2.p.D.r0.a = 0 ∧ S2.p.D.r0.b = 9 ∧ S2.p.D.r0.c = 0 ∧ S2.p.D.r0.d = 0 ∧ S2.p.D.r0.e = 0 ∧ S2.p.D.r1.s = 0 ∧ S2.p.D.r1.a = 10 ∧ S2.p.D.r1.b = 10 ∧ S2.p.D.r1.c = 10 ∧ S2.p.D.r1.d = 10 ∧ S2.p.D.r1.e = 10 := by decide +kernel
theorem typed_1 : callP Try.prog 13 [tabN.A, .str s1, .ro 1 70 fun _ => [.int .u16 0]] (· = .tuple [S1.p.A, reqsA [⟨2, 0, [(64, 4096)]⟩], ints .u16 (z70.set 64 4096), .bool true]) := by
  have e := typed_ok tabN tab_ok tab_may s1 (by rw [parse_1]) z70 (words_rep 70) (by decide)
  have h1 := rs_eq S1_rs
  have h2 := S1_l
  unfold S1 at h1 h2
  rw [h1, h2] at e
  refine callP_arg (.cons (Eqv.same _) (.cons (Eqv.same _) (.cons (.up (.up (.ro fun i hi => ?_))) .nil))) e
  show _ = [AVal.int _ ((List.replicate 70 0).getD i 0)]
  rw [List.getD_eq_getElem?_getD, List.getElem?_replicate, if_pos hi]
  rfl
theorem words_1 : Words (z70.set 64 4096) := by
  intro x hx
  rcases List.mem_or_eq_of_mem_set hx with h | h
  · exact words_rep 70 x h
  · subst h; decide
theorem typed_2 : callP Try.prog 13 [tabN.A, .str s2, ints .u16 (z70.set 64 4096)] (· = .tuple [S2.p.A, reqsA [⟨1, 0, []⟩], ints .u16 S2.l, .bool true]) := by
  have e := typed_ok tabN tab_ok tab_may s2 (by rw [parse_2]) (z70.set 64 4096) words_1 (by rw [List.length_set]; decide)
  have h1 := rs_eq S2_rs
  unfold S2 at h1
  rw [h1] at e
  exact e
set_option maxHeartbeats 4000000 in
theorem works_c : callP Try.prog 9 [] (· = .bool true) := by
  have e1 := typed_1
  have e2 := typed_2
  have hD := S1_D
  have ef := flashes_c S1.p (by rw [hD.1]; decide)
  have ew := wrong_c S1.p (by rw [hD.1]; decide)
  rw [hD.1] at ef ew
  obtain ⟨d1, d2, d3, d4, d5, d6, d7, d8, d9⟩ := hD
  obtain ⟨f1, f2, f3, f4, f5, f6, g1, g2, g3, g4, g5, g6⟩ := S2_D
  refine callE_def env (fn := Try.f9) rfl (by decide) rfl ?_
  refine draw_tree (picks [0] (.fork 1 8 (picks [2, 3, 4, 5, 6, 7, 8, 9, 10, 11, 12] .done) (picks [1, 2, 3, 4, 5, 6, 7, 9, 10, 11, 12] .done))) (by decide +kernel) ?_
  refine ⟨_, ⟨table_c, rfl⟩, ?_⟩
  constructor
  · repeat refine stp ?_
    apply choice_l
    refine ⟨_, ⟨e1, rfl⟩, ?_⟩
    repeat refine stp ?_
    refine callT_E ef rfl ?_
    repeat refine stp ?_
    refine callT_E ew rfl ?_
    repeat refine stp ?_
    refine callT_E table_c rfl ?_
    repeat refine stp ?_
    refine callT_E e2 rfl ?_
    repeat refine stp ?_
    refine draw_tree (picks (List.range 33) .done) (by decide +kernel) ?_
    repeat refine stp ?_
    refine ⟨_, ⟨clear_d, rfl⟩, ?_⟩
    repeat refine stp ?_
    show Eqv (.bool _) _
    simp [f1, f2, f3, f4, f5, f6, g1, g2, g3, g4, g5, g6]
    exact .up (.up (.refl _))
  · repeat refine stp ?_
    apply choice_l
    refine ⟨_, ⟨e1, rfl⟩, ?_⟩
    repeat refine stp ?_
    refine callT_E ef rfl ?_
    repeat refine stp ?_
    refine callT_E ew rfl ?_
    repeat refine stp ?_
    refine callT_E table_c rfl ?_
    repeat refine stp ?_
    refine callT_E e2 rfl ?_
    repeat refine stp ?_
    refine draw_tree (picks (List.range 33) .done) (by decide +kernel) ?_
    repeat refine stp ?_
    refine ⟨_, ⟨clear_d, rfl⟩, ?_⟩
    repeat refine stp ?_
    show Eqv (.bool _) _
    simp [f1, f2, f3, f4, f5, f6, g1, g2, g3, g4, g5, g6]
    exact .up (.up (.refl _))
end Go.Proofs
