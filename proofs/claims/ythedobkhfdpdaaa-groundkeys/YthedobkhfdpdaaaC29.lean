/- Chapter 30: a component is entered. -/
import Derived.Test.YthedobkhfdpdaaaC22
set_option linter.unusedVariables false
set_option linter.unusedSimpArgs false
namespace Go.Proofs
open Go.E
set_option maxRecDepth 8000
set_option maxHeartbeats 16000000 in
theorem load_gd0 (N : Nns) (vb nn : Int) (ty : Shw) (cnt : Int) (l0 l1 l2 : Shw) (act : Vrb) (an av aq : Int) (asked : Bool) (D : Dsp) (o : Bool) (i : Nat)
    (hN : N.Ok) (hf : N.find nn = some i) (hm : 2 < N.m i) (hw : vrb vb = ⟨3, o, true, true, true⟩) (hty : ty.Ok) (hk : (N.cm i 2).k ≠ 1) (hl0 : l0.Ok) (hl1 : l1.Ok) (hva : ∀ j, j < N.m i → validC (N.cm i j) = true) (g0 : okV l0 5 (N.cm i 0) = false) (hv : okV ty cnt (N.cm i 2) = true) :
    callN Try.prog 64 [.ptr ⟨0, 0, 0⟩] [.cells (desk0 (⟨N, 3, vb, nn, ty, cnt, 2, l0, l1, l2, act, an, av, aq, asked, D⟩ : Pan))] fun x H' => x = .bool false ∧ H' = [.cells (desk0 ⟨N, 3, vb, nn, ty, cnt, 2, l0, l1, ty, act, an, av, aq, asked, D⟩)] := by
  have hr := find_lt hf
  have w1 : IntKind.i64.wrap (0 + 1) = 1 := by decide
  have w2 : IntKind.i64.wrap (IntKind.i64.wrap (0 + 1) + 1) = 2 := by decide
  have ok : ∀ j, j < N.m i → (N.cm i j).Ok := fun j hj => hN.c i hr.1 j hj
  have e := suits_some hN (v := vb) hf
  rw [hw] at e
  have nb : (!okV ty cnt (N.cm i 2)) = false := by rw [hv]; rfl
  have q1 : CompIs (⟨N, 3, vb, nn, ty, cnt, 2, l0, l1, l2, act, an, av, aq, asked, D⟩ : Pan) (N.cm i 2) := by
    have := comp_c (⟨N, 3, vb, nn, ty, cnt, 2, l0, l1, l2, act, an, av, aq, asked, D⟩ : Pan) hN i ⟨hf, ⟨show (0 : Int) ≤ 2 by decide, show (2 : Int) ≤ 2 by decide⟩, show (2 : Int) < (N.m i : Int) by omega⟩
    rwa [show compV (⟨N, 3, vb, nn, ty, cnt, 2, l0, l1, l2, act, an, av, aq, asked, D⟩ : Pan) = N.cm i 2 by rw [compV]; show (match N.find nn with | some i => N.cm i _ | none => _) = _; rw [hf]; rfl] at this
  have q2 : CompIs (⟨N, 3, vb, nn, ty, cnt, 2, l0, l1, ty, act, an, av, aq, asked, D⟩ : Pan) (N.cm i 2) := by
    have := comp_c (⟨N, 3, vb, nn, ty, cnt, 2, l0, l1, ty, act, an, av, aq, asked, D⟩ : Pan) hN i ⟨hf, ⟨show (0 : Int) ≤ 2 by decide, show (2 : Int) ≤ 2 by decide⟩, show (2 : Int) < (N.m i : Int) by omega⟩
    rwa [show compV (⟨N, 3, vb, nn, ty, cnt, 2, l0, l1, ty, act, an, av, aq, asked, D⟩ : Pan) = N.cm i 2 by rw [compV]; show (match N.find nn with | some i => N.cm i _ | none => _) = _; rw [hf]; rfl] at this
  have b0 : (!okV l0 5 (N.cm i 0)) = true := by rw [g0]; rfl
  refine callN_end [0] ?_
  refine callN_def env (fn := Try.f64) 1 rfl rfl (by decide) ?_
  refine draw_tree (picks (List.range 20) (.fork 20 21 (picks [21, 22, 23, 24] .done) (picks [20, 22, 23, 24] .done))) (by decide +kernel) ?_
  refine ⟨_, ⟨e, rfl⟩, ?_⟩
  repeat refine stp ?_
  refine ⟨draw_weak (weak_keep (tm' := slots 178 [(0, .ptr ⟨0, 0, 0⟩), (2, .bool false), (3, .ptr ⟨1, 0, 0⟩), (4, .ptr ⟨2, 0, 0⟩)]) (H' := [.cells (desk0 (⟨N, 3, vb, nn, ty, cnt, 2, l0, l1, l2, act, an, av, aq, asked, D⟩ : Pan)), .cells (Vrb.L ⟨3, o, true, true, true⟩), .cells [.int .i64 nn, .ro 4 (N.m i) (fun j => cmpL (N.cm i j))]]) (keep 178 [0, 2, 3, 4]) [0, 1, 2] rfl rfl rfl) ?k, draw_weak (weak_keep (tm' := slots 178 [(0, .ptr ⟨0, 0, 0⟩), (2, .bool false), (3, .ptr ⟨1, 0, 0⟩), (4, .ptr ⟨2, 0, 0⟩)]) (H' := [.cells (desk0 (⟨N, 3, vb, nn, ty, cnt, 2, l0, l1, l2, act, an, av, aq, asked, D⟩ : Pan)), .cells (Vrb.L ⟨3, o, true, true, true⟩), .cells [.int .i64 nn, .ro 4 (N.m i) (fun j => cmpL (N.cm i j))]]) (keep 178 [0, 2, 3, 4]) [0, 2, 1] rfl rfl rfl) ?k⟩
  refine draw_tree (picks (List.range 18) .done) (by decide +kernel) ?_
  refine ⟨_, readN_of [0] rfl rfl (fun _ => rfl) q1 (fun _ => rfl), ?_⟩
  repeat refine stp ?_
  refine ⟨_, ⟨value_p ty hty cnt (N.cm i 2) (ok 2 (by omega)), rfl⟩, ?_⟩
  repeat refine stp ?_
  refine draw_tree (picks (List.range 16) .done) (by decide +kernel) ?_
  repeat refine stp ?_
  refine callT_part [0] rfl q2 ?_
  rintro v H' ⟨rfl, rfl⟩ x G hx hG
  obtain rfl : x = cA (N.cm i 2) := hx
  obtain rfl : G = [.cells (desk0 (⟨N, 3, vb, nn, ty, cnt, 2, l0, l1, ty, act, an, av, aq, asked, D⟩ : Pan)), .cells (Vrb.L ⟨3, o, true, true, true⟩), .cells [.int .i64 nn, .ro 4 (N.m i) (fun j => cmpL (N.cm i j))]] := hG
  repeat refine stp ?_
  repeat' (first | refine stp ?_ | refine loop_unr 4 ?_)
  refine draw_tree (picks (List.range 18) .done) (by decide +kernel) ?_
  repeat refine stp ?_
  refine ⟨_, ⟨value_p l0 hl0 5 (N.cm i 0) (ok 0 (by omega)), rfl⟩, ?_⟩
  repeat' (first | refine stp ?_ | refine loop_unr 4 ?_)
  exact ⟨rfl, Eqv.same _, EqvH.refl _⟩
set_option maxHeartbeats 16000000 in
theorem load_gd1 (N : Nns) (vb nn : Int) (ty : Shw) (cnt : Int) (l0 l1 l2 : Shw) (act : Vrb) (an av aq : Int) (asked : Bool) (D : Dsp) (o : Bool) (i : Nat)
    (hN : N.Ok) (hf : N.find nn = some i) (hm : 2 < N.m i) (hw : vrb vb = ⟨3, o, true, true, true⟩) (hty : ty.Ok) (hk : (N.cm i 2).k ≠ 1) (hl0 : l0.Ok) (hl1 : l1.Ok) (hva : ∀ j, j < N.m i → validC (N.cm i j) = true) (g0 : okV l0 5 (N.cm i 0) = true) (g1 : okV l1 5 (N.cm i 1) = false) (hv : okV ty cnt (N.cm i 2) = true) :
    callN Try.prog 64 [.ptr ⟨0, 0, 0⟩] [.cells (desk0 (⟨N, 3, vb, nn, ty, cnt, 2, l0, l1, l2, act, an, av, aq, asked, D⟩ : Pan))] fun x H' => x = .bool false ∧ H' = [.cells (desk0 ⟨N, 3, vb, nn, ty, cnt, 2, l0, l1, ty, act, an, av, aq, asked, D⟩)] := by
  have hr := find_lt hf
  have w1 : IntKind.i64.wrap (0 + 1) = 1 := by decide
  have w2 : IntKind.i64.wrap (IntKind.i64.wrap (0 + 1) + 1) = 2 := by decide
  have ok : ∀ j, j < N.m i → (N.cm i j).Ok := fun j hj => hN.c i hr.1 j hj
  have e := suits_some hN (v := vb) hf
  rw [hw] at e
  have nb : (!okV ty cnt (N.cm i 2)) = false := by rw [hv]; rfl
  have q1 : CompIs (⟨N, 3, vb, nn, ty, cnt, 2, l0, l1, l2, act, an, av, aq, asked, D⟩ : Pan) (N.cm i 2) := by
    have := comp_c (⟨N, 3, vb, nn, ty, cnt, 2, l0, l1, l2, act, an, av, aq, asked, D⟩ : Pan) hN i ⟨hf, ⟨show (0 : Int) ≤ 2 by decide, show (2 : Int) ≤ 2 by decide⟩, show (2 : Int) < (N.m i : Int) by omega⟩
    rwa [show compV (⟨N, 3, vb, nn, ty, cnt, 2, l0, l1, l2, act, an, av, aq, asked, D⟩ : Pan) = N.cm i 2 by rw [compV]; show (match N.find nn with | some i => N.cm i _ | none => _) = _; rw [hf]; rfl] at this
  have q2 : CompIs (⟨N, 3, vb, nn, ty, cnt, 2, l0, l1, ty, act, an, av, aq, asked, D⟩ : Pan) (N.cm i 2) := by
    have := comp_c (⟨N, 3, vb, nn, ty, cnt, 2, l0, l1, ty, act, an, av, aq, asked, D⟩ : Pan) hN i ⟨hf, ⟨show (0 : Int) ≤ 2 by decide, show (2 : Int) ≤ 2 by decide⟩, show (2 : Int) < (N.m i : Int) by omega⟩
    rwa [show compV (⟨N, 3, vb, nn, ty, cnt, 2, l0, l1, ty, act, an, av, aq, asked, D⟩ : Pan) = N.cm i 2 by rw [compV]; show (match N.find nn with | some i => N.cm i _ | none => _) = _; rw [hf]; rfl] at this
  have k0 := val_facts2 (hva 0 (by omega))
  have s0 := store_p (N.cm i 0) (ok 0 (by omega)) (rawV l0 5 (N.cm i 0)) (hva 0 (by omega)) (ent_in hl0 g0 (hva 0 (by omega)))
  have b0 : (!okV l0 5 (N.cm i 0)) = false := by rw [g0]; rfl
  have b1 : (!okV l1 5 (N.cm i 1)) = true := by rw [g1]; rfl
  refine callN_end [0] ?_
  refine callN_def env (fn := Try.f64) 1 rfl rfl (by decide) ?_
  refine draw_tree (picks (List.range 20) (.fork 20 21 (picks [21, 22, 23, 24] .done) (picks [20, 22, 23, 24] .done))) (by decide +kernel) ?_
  refine ⟨_, ⟨e, rfl⟩, ?_⟩
  repeat refine stp ?_
  refine ⟨draw_weak (weak_keep (tm' := slots 178 [(0, .ptr ⟨0, 0, 0⟩), (2, .bool false), (3, .ptr ⟨1, 0, 0⟩), (4, .ptr ⟨2, 0, 0⟩)]) (H' := [.cells (desk0 (⟨N, 3, vb, nn, ty, cnt, 2, l0, l1, l2, act, an, av, aq, asked, D⟩ : Pan)), .cells (Vrb.L ⟨3, o, true, true, true⟩), .cells [.int .i64 nn, .ro 4 (N.m i) (fun j => cmpL (N.cm i j))]]) (keep 178 [0, 2, 3, 4]) [0, 1, 2] rfl rfl rfl) ?k, draw_weak (weak_keep (tm' := slots 178 [(0, .ptr ⟨0, 0, 0⟩), (2, .bool false), (3, .ptr ⟨1, 0, 0⟩), (4, .ptr ⟨2, 0, 0⟩)]) (H' := [.cells (desk0 (⟨N, 3, vb, nn, ty, cnt, 2, l0, l1, l2, act, an, av, aq, asked, D⟩ : Pan)), .cells (Vrb.L ⟨3, o, true, true, true⟩), .cells [.int .i64 nn, .ro 4 (N.m i) (fun j => cmpL (N.cm i j))]]) (keep 178 [0, 2, 3, 4]) [0, 2, 1] rfl rfl rfl) ?k⟩
  refine draw_tree (picks (List.range 18) .done) (by decide +kernel) ?_
  refine ⟨_, readN_of [0] rfl rfl (fun _ => rfl) q1 (fun _ => rfl), ?_⟩
  repeat refine stp ?_
  refine ⟨_, ⟨value_p ty hty cnt (N.cm i 2) (ok 2 (by omega)), rfl⟩, ?_⟩
  repeat refine stp ?_
  refine draw_tree (picks (List.range 16) .done) (by decide +kernel) ?_
  repeat refine stp ?_
  refine callT_part [0] rfl q2 ?_
  rintro v H' ⟨rfl, rfl⟩ x G hx hG
  obtain rfl : x = cA (N.cm i 2) := hx
  obtain rfl : G = [.cells (desk0 (⟨N, 3, vb, nn, ty, cnt, 2, l0, l1, ty, act, an, av, aq, asked, D⟩ : Pan)), .cells (Vrb.L ⟨3, o, true, true, true⟩), .cells [.int .i64 nn, .ro 4 (N.m i) (fun j => cmpL (N.cm i j))]] := hG
  repeat refine stp ?_
  repeat' (first | refine stp ?_ | refine loop_unr 4 ?_)
  refine draw_tree (picks (List.range 18) .done) (by decide +kernel) ?_
  repeat refine stp ?_
  refine ⟨_, ⟨value_p l0 hl0 5 (N.cm i 0) (ok 0 (by omega)), rfl⟩, ?_⟩
  repeat' (first | refine stp ?_ | refine loop_unr 4 ?_)
  refine callT_E s0 rfl ?_
  repeat refine stp ?_
  apply need_intro
  · exact room16 (by have := cellN_le (N.cm i 0); omega)
  apply choice_r
  repeat' (first | refine stp ?_ | refine loop_unr 4 ?_)
  refine draw_tree (picks (List.range 18) .done) (by decide +kernel) ?_
  repeat refine stp ?_
  refine ⟨_, ⟨value_p l1 hl1 5 (N.cm i 1) (ok 1 (by omega)), rfl⟩, ?_⟩
  repeat' (first | refine stp ?_ | refine loop_unr 4 ?_)
  exact ⟨rfl, Eqv.same _, EqvH.refl _⟩
set_option maxHeartbeats 16000000 in
theorem load_gd2 (N : Nns) (vb nn : Int) (ty : Shw) (cnt : Int) (l0 l1 l2 : Shw) (act : Vrb) (an av aq : Int) (asked : Bool) (D : Dsp) (o : Bool) (i : Nat)
    (hN : N.Ok) (hf : N.find nn = some i) (hm : 2 < N.m i) (hw : vrb vb = ⟨3, o, true, true, true⟩) (hty : ty.Ok) (hk : (N.cm i 2).k ≠ 1) (hl0 : l0.Ok) (hl1 : l1.Ok) (hva : ∀ j, j < N.m i → validC (N.cm i j) = true) (g0 : okV l0 5 (N.cm i 0) = true) (g1 : okV l1 5 (N.cm i 1) = true) (g2 : okV ty 5 (N.cm i 2) = false) (hv : okV ty cnt (N.cm i 2) = true) :
    callN Try.prog 64 [.ptr ⟨0, 0, 0⟩] [.cells (desk0 (⟨N, 3, vb, nn, ty, cnt, 2, l0, l1, l2, act, an, av, aq, asked, D⟩ : Pan))] fun x H' => x = .bool false ∧ H' = [.cells (desk0 ⟨N, 3, vb, nn, ty, cnt, 2, l0, l1, ty, act, an, av, aq, asked, D⟩)] := by
  have hr := find_lt hf
  have w1 : IntKind.i64.wrap (0 + 1) = 1 := by decide
  have w2 : IntKind.i64.wrap (IntKind.i64.wrap (0 + 1) + 1) = 2 := by decide
  have ok : ∀ j, j < N.m i → (N.cm i j).Ok := fun j hj => hN.c i hr.1 j hj
  have e := suits_some hN (v := vb) hf
  rw [hw] at e
  have nb : (!okV ty cnt (N.cm i 2)) = false := by rw [hv]; rfl
  have q1 : CompIs (⟨N, 3, vb, nn, ty, cnt, 2, l0, l1, l2, act, an, av, aq, asked, D⟩ : Pan) (N.cm i 2) := by
    have := comp_c (⟨N, 3, vb, nn, ty, cnt, 2, l0, l1, l2, act, an, av, aq, asked, D⟩ : Pan) hN i ⟨hf, ⟨show (0 : Int) ≤ 2 by decide, show (2 : Int) ≤ 2 by decide⟩, show (2 : Int) < (N.m i : Int) by omega⟩
    rwa [show compV (⟨N, 3, vb, nn, ty, cnt, 2, l0, l1, l2, act, an, av, aq, asked, D⟩ : Pan) = N.cm i 2 by rw [compV]; show (match N.find nn with | some i => N.cm i _ | none => _) = _; rw [hf]; rfl] at this
  have q2 : CompIs (⟨N, 3, vb, nn, ty, cnt, 2, l0, l1, ty, act, an, av, aq, asked, D⟩ : Pan) (N.cm i 2) := by
    have := comp_c (⟨N, 3, vb, nn, ty, cnt, 2, l0, l1, ty, act, an, av, aq, asked, D⟩ : Pan) hN i ⟨hf, ⟨show (0 : Int) ≤ 2 by decide, show (2 : Int) ≤ 2 by decide⟩, show (2 : Int) < (N.m i : Int) by omega⟩
    rwa [show compV (⟨N, 3, vb, nn, ty, cnt, 2, l0, l1, ty, act, an, av, aq, asked, D⟩ : Pan) = N.cm i 2 by rw [compV]; show (match N.find nn with | some i => N.cm i _ | none => _) = _; rw [hf]; rfl] at this
  have k0 := val_facts2 (hva 0 (by omega))
  have s0 := store_p (N.cm i 0) (ok 0 (by omega)) (rawV l0 5 (N.cm i 0)) (hva 0 (by omega)) (ent_in hl0 g0 (hva 0 (by omega)))
  have b0 : (!okV l0 5 (N.cm i 0)) = false := by rw [g0]; rfl
  have k1 := val_facts2 (hva 1 (by omega))
  have s1 := store_p (N.cm i 1) (ok 1 (by omega)) (rawV l1 5 (N.cm i 1)) (hva 1 (by omega)) (ent_in hl1 g1 (hva 1 (by omega)))
  have b1 : (!okV l1 5 (N.cm i 1)) = false := by rw [g1]; rfl
  have b2 : (!okV ty 5 (N.cm i 2)) = true := by rw [g2]; rfl
  refine callN_end [0] ?_
  refine callN_def env (fn := Try.f64) 1 rfl rfl (by decide) ?_
  refine draw_tree (picks (List.range 20) (.fork 20 21 (picks [21, 22, 23, 24] .done) (picks [20, 22, 23, 24] .done))) (by decide +kernel) ?_
  refine ⟨_, ⟨e, rfl⟩, ?_⟩
  repeat refine stp ?_
  refine ⟨draw_weak (weak_keep (tm' := slots 178 [(0, .ptr ⟨0, 0, 0⟩), (2, .bool false), (3, .ptr ⟨1, 0, 0⟩), (4, .ptr ⟨2, 0, 0⟩)]) (H' := [.cells (desk0 (⟨N, 3, vb, nn, ty, cnt, 2, l0, l1, l2, act, an, av, aq, asked, D⟩ : Pan)), .cells (Vrb.L ⟨3, o, true, true, true⟩), .cells [.int .i64 nn, .ro 4 (N.m i) (fun j => cmpL (N.cm i j))]]) (keep 178 [0, 2, 3, 4]) [0, 1, 2] rfl rfl rfl) ?k, draw_weak (weak_keep (tm' := slots 178 [(0, .ptr ⟨0, 0, 0⟩), (2, .bool false), (3, .ptr ⟨1, 0, 0⟩), (4, .ptr ⟨2, 0, 0⟩)]) (H' := [.cells (desk0 (⟨N, 3, vb, nn, ty, cnt, 2, l0, l1, l2, act, an, av, aq, asked, D⟩ : Pan)), .cells (Vrb.L ⟨3, o, true, true, true⟩), .cells [.int .i64 nn, .ro 4 (N.m i) (fun j => cmpL (N.cm i j))]]) (keep 178 [0, 2, 3, 4]) [0, 2, 1] rfl rfl rfl) ?k⟩
  refine draw_tree (picks (List.range 18) .done) (by decide +kernel) ?_
  refine ⟨_, readN_of [0] rfl rfl (fun _ => rfl) q1 (fun _ => rfl), ?_⟩
  repeat refine stp ?_
  refine ⟨_, ⟨value_p ty hty cnt (N.cm i 2) (ok 2 (by omega)), rfl⟩, ?_⟩
  repeat refine stp ?_
  refine draw_tree (picks (List.range 16) .done) (by decide +kernel) ?_
  repeat refine stp ?_
  refine callT_part [0] rfl q2 ?_
  rintro v H' ⟨rfl, rfl⟩ x G hx hG
  obtain rfl : x = cA (N.cm i 2) := hx
  obtain rfl : G = [.cells (desk0 (⟨N, 3, vb, nn, ty, cnt, 2, l0, l1, ty, act, an, av, aq, asked, D⟩ : Pan)), .cells (Vrb.L ⟨3, o, true, true, true⟩), .cells [.int .i64 nn, .ro 4 (N.m i) (fun j => cmpL (N.cm i j))]] := hG
  repeat refine stp ?_
  repeat' (first | refine stp ?_ | refine loop_unr 4 ?_)
  refine draw_tree (picks (List.range 18) .done) (by decide +kernel) ?_
  repeat refine stp ?_
  refine ⟨_, ⟨value_p l0 hl0 5 (N.cm i 0) (ok 0 (by omega)), rfl⟩, ?_⟩
  repeat' (first | refine stp ?_ | refine loop_unr 4 ?_)
  refine callT_E s0 rfl ?_
  repeat refine stp ?_
  apply need_intro
  · exact room16 (by have := cellN_le (N.cm i 0); omega)
  apply choice_r
  repeat' (first | refine stp ?_ | refine loop_unr 4 ?_)
  refine draw_tree (picks (List.range 18) .done) (by decide +kernel) ?_
  repeat refine stp ?_
  refine ⟨_, ⟨value_p l1 hl1 5 (N.cm i 1) (ok 1 (by omega)), rfl⟩, ?_⟩
  repeat' (first | refine stp ?_ | refine loop_unr 4 ?_)
  refine callT_E s1 rfl ?_
  repeat refine stp ?_
  apply need_intro
  · exact room16 (by have := cellN_le (N.cm i 0); have := cellN_le (N.cm i 1);  omega)
  repeat' (first | refine stp ?_ | refine loop_unr 4 ?_)
  refine draw_tree (picks (List.range 18) .done) (by decide +kernel) ?_
  repeat refine stp ?_
  refine ⟨_, ⟨value_p ty hty 5 (N.cm i 2) (ok 2 (by omega)), rfl⟩, ?_⟩
  repeat' (first | refine stp ?_ | refine loop_unr 4 ?_)
  exact ⟨rfl, Eqv.same _, EqvH.refl _⟩
end Go.Proofs
