/- Chapter 33: Exact's closures. -/
import Derived.Test.YtpgeapbmdljllaaC9
import Derived.Test.YtpgeapbmdljllaaE5
set_option linter.unusedVariables false
set_option linter.unusedSimpArgs false
/-! Eh. -/
namespace Go.Proofs.N13
open Go.E
set_option maxRecDepth 8000

theorem mulD_comm (x y : Dy) : mulD x y = mulD y x := by
  unfold mulD
  rw [Nat.mul_comm, Int.add_comm, show (x.neg != y.neg) = (y.neg != x.neg) by cases x.neg <;> cases y.neg <;> rfl]
theorem dadd_x {x y : Dy} (cx : x.Canon) (cy : y.Canon) (wx : x.within = true) (wy : y.within = true) (wz : (plusD x y).within = true) : callP Try.prog 65 [dyA x, dyA y] (· = .tuple [dyA (plusD x y), .int .i64 0]) := by
  have h := dadd_c x.neg y.neg (ArgD.of wx) (ArgD.of wy)
  rwa [canonD_self cx, canonD_self cy, opV_ok wx wy, resV_in wz] at h
theorem dsub_x {x y : Dy} (cx : x.Canon) (cy : y.Canon) (wx : x.within = true) (wy : y.within = true) (wz : (subD x y).within = true) : callP Try.prog 67 [dyA x, dyA y] (· = .tuple [dyA (subD x y), .int .i64 0]) := by
  have h := dsub_c x.neg y.neg (ArgD.of wx) (ArgD.of wy)
  rwa [canonD_self cx, canonD_self cy, opV_ok wx wy, resV_in wz] at h
theorem dmul_x {x y : Dy} (cx : x.Canon) (cy : y.Canon) (wx : x.within = true) (wy : y.within = true) (wz : (mulD x y).within = true) : callP Try.prog 63 [dyA x, dyA y] (· = .tuple [dyA (mulD x y), .int .i64 0]) := by
  have h := dmul_c x.neg y.neg (ArgD.of wx) (ArgD.of wy)
  rwa [canonD_self cx, canonD_self cy, opV_ok wx wy, resV_in wz] at h
theorem dpw_x {n : Nat} (hn : n ≤ 100) : callP Try.prog 62 [.int .i64 1, .int .i64 (IntKind.i64.wrap (0 - (n : Int)))] (· = .tuple [dyA (pwD n), .int .i64 0]) := by
  have h := dof_c (n := 1) (e := -(n : Int)) (by decide) (by omega)
  have w : (canonD false 1 (-(n : Int))).within = true := (pwD_bd n).within (by omega) (by omega) (by omega)
  rw [show decide ((1 : Int) < 0) = false from rfl, show (1 : Int).natAbs = 1 from rfl, resV_in w] at h
  rw [show IntKind.i64.wrap (0 - (n : Int)) = -(n : Int) by rw [wi (by omega) (by omega)]; omega]
  exact h

/-- The boxes of the error and of keep. -/
abbrev eB : Blk := .cells [.int .i64 0]
abbrev kB (e : Nat) : Blk := .cells [.fn (.func 60) [] [.ptr ⟨e, 0, 0⟩]]
theorem keep_n (x : Dy) : callN Try.prog 60 [dyA x, .int .i64 0, .ptr ⟨0, 0, 0⟩] [eB] fun v H' => v = dyA x ∧ H' = [eB] := by
  refine callN_end [0] ?_
  refine callN_def env (fn := Try.f60) 1 rfl rfl (by decide) ?_
  repeat refine stp ?_
  exact ⟨rfl, Eqv.same _, EqvH.refl _⟩
theorem scaled_n {x : Dy} {n : Nat} (hn : n ≤ 100) (cx : x.Canon) (wx : x.within = true) (wz : (mulD (pwD n) x).within = true) :
    callN Try.prog 61 [dyA x, .int .i64 n, .ptr ⟨1, 0, 0⟩] [eB, kB 0] fun v H' => v = dyA (mulD (pwD n) x) ∧ H' = [eB, kB 0] := by
  have w := (pwD_bd n).within (by omega) (by omega) (by omega)
  have m := dmul_x cx (pwD_bd n).canon wx w (by rw [mulD_comm]; exact wz)
  rw [mulD_comm] at m
  refine callN_end [0, 1] ?_
  refine callN_def env (fn := Try.f61) 2 rfl rfl (by decide) ?_
  repeat refine stp ?_
  refine callT_E (dpw_x hn) rfl ?_
  repeat refine stp ?_
  refine draw_tree (picks (List.range 11) .done) (by decide +kernel) ?_
  repeat refine stp ?_
  refine ⟨_, readN_of [0] rfl rfl (fun _ => rfl) (keep_n (pwD n)) (fun _ => rfl), ?_⟩
  repeat refine stp ?_
  refine ⟨_, ⟨m, rfl⟩, ?_⟩
  repeat refine stp ?_
  refine ⟨_, readN_of [0] rfl rfl (fun _ => rfl) (keep_n _) (fun _ => rfl), ?_⟩
  repeat refine stp ?_
  exact ⟨rfl, Eqv.same _, EqvH.refl _⟩
theorem field_n {G k x : Dy} {g : Nat → Int} {k0 k1 p : Int} {i : Nat} (hi : i < 3) (wg : ∀ j, j < 6 → 0 ≤ g j ∧ g j < 65536) (w0 : 0 ≤ k0 ∧ k0 < 65536) (w1 : 0 ≤ k1 ∧ k1 < 65536)
    (eG : G = dblD (g (2 * i)) (g (2 * i + 1))) (ek : k = dblD k0 k1) (cx : x.Canon) (wx : x.within = true) (wm : (mulD k x).within = true) (wz : (axG G k x).within = true) :
    callN Try.prog 66 [dyA x, .ptr ⟨1, 0, 0⟩, .ptr ⟨2, 0, 0⟩, .ptr ⟨3, 0, 0⟩] [eB, kB 0, .cells (gcells g k0 k1 p), .cells [.int .i64 i]] fun v H' => v = dyA (axG G k x) ∧ H' = [eB, kB 0, .cells (gcells g k0 k1 p), .cells [.int .i64 i]] := by
  have hG : Bd 28 0 G := by rw [eG]; exact dbl_bd _ _
  have hk : Bd 28 0 k := by rw [ek]; exact dbl_bd _ _
  have vG := hG.within (by decide) (by decide) (by decide)
  have vk := hk.within (by decide) (by decide) (by decide)
  have m := dmul_x hk.canon cx vk wx wm
  have s := dsub_x hG.canon (mulD_canon k x) vG wm wz
  have dk := double_c w0 w1
  rw [← ek] at dk
  refine callN_end [0, 1, 2, 3] ?_
  refine callN_def env (fn := Try.f66) 4 rfl rfl (by decide) ?_
  repeat refine stp ?_
  refine draw_tree (picks (List.range 20) .done) (by decide +kernel) ?_
  match i, hi with
  | 0, _ =>
    have dg := double_c (wg 0 (by decide)) (wg 1 (by decide))
    rw [show dblD (g 0) (g 1) = G from eG.symm] at dg
    repeat refine stp ?_
    refine ⟨_, ⟨dg, rfl⟩, ?_⟩
    repeat refine stp ?_
    refine ⟨_, ⟨dk, rfl⟩, ?_⟩
    repeat refine stp ?_
    refine ⟨_, ⟨m, rfl⟩, ?_⟩
    repeat refine stp ?_
    refine ⟨_, readN_of [0] rfl rfl (fun _ => rfl) (keep_n _) (fun _ => rfl), ?_⟩
    repeat refine stp ?_
    refine ⟨_, ⟨s, rfl⟩, ?_⟩
    repeat refine stp ?_
    refine ⟨_, readN_of [0] rfl rfl (fun _ => rfl) (keep_n _) (fun _ => rfl), ?_⟩
    repeat refine stp ?_
    exact ⟨rfl, Eqv.same _, EqvH.refl _⟩
  | 1, _ =>
    have dg := double_c (wg 2 (by decide)) (wg 3 (by decide))
    rw [show dblD (g 2) (g 3) = G from eG.symm] at dg
    repeat refine stp ?_
    refine ⟨_, ⟨dg, rfl⟩, ?_⟩
    repeat refine stp ?_
    refine ⟨_, ⟨dk, rfl⟩, ?_⟩
    repeat refine stp ?_
    refine ⟨_, ⟨m, rfl⟩, ?_⟩
    repeat refine stp ?_
    refine ⟨_, readN_of [0] rfl rfl (fun _ => rfl) (keep_n _) (fun _ => rfl), ?_⟩
    repeat refine stp ?_
    refine ⟨_, ⟨s, rfl⟩, ?_⟩
    repeat refine stp ?_
    refine ⟨_, readN_of [0] rfl rfl (fun _ => rfl) (keep_n _) (fun _ => rfl), ?_⟩
    repeat refine stp ?_
    exact ⟨rfl, Eqv.same _, EqvH.refl _⟩
  | 2, _ =>
    have dg := double_c (wg 4 (by decide)) (wg 5 (by decide))
    rw [show dblD (g 4) (g 5) = G from eG.symm] at dg
    repeat refine stp ?_
    refine ⟨_, ⟨dg, rfl⟩, ?_⟩
    repeat refine stp ?_
    refine ⟨_, ⟨dk, rfl⟩, ?_⟩
    repeat refine stp ?_
    refine ⟨_, ⟨m, rfl⟩, ?_⟩
    repeat refine stp ?_
    refine ⟨_, readN_of [0] rfl rfl (fun _ => rfl) (keep_n _) (fun _ => rfl), ?_⟩
    repeat refine stp ?_
    refine ⟨_, ⟨s, rfl⟩, ?_⟩
    repeat refine stp ?_
    refine ⟨_, readN_of [0] rfl rfl (fun _ => rfl) (keep_n _) (fun _ => rfl), ?_⟩
    repeat refine stp ?_
    exact ⟨rfl, Eqv.same _, EqvH.refl _⟩

/-- The cells of a number. -/
abbrev dyC (x : Dy) : List AVal := [.bool x.neg, ints .u32 (limbsOf x.m), .int .i64 x.e]
theorem add_n {a b c d : Dy} (ca : a.Canon) (cb : b.Canon) (cc : c.Canon) (cd : d.Canon) (wa : a.within = true) (wb : b.within = true) (wc : c.within = true) (wd : d.within = true)
    (w1 : (plusD a b).within = true) (w2 : (plusD (plusD a b) c).within = true) (w3 : (plusD (plusD (plusD a b) c) d).within = true) :
    callN Try.prog 64 [.ro 3 4 (chunk 3 (dyC a ++ dyC b ++ dyC c ++ dyC d)), .ptr ⟨1, 0, 0⟩] [eB, kB 0] fun v H' => v = dyA (plusD (plusD (plusD a b) c) d) ∧ H' = [eB, kB 0] := by
  have z0 := dadd_x (x := .zero) (y := a) (.inl rfl) ca zero_within wa (by rw [show plusD .zero a = a from if_pos rfl]; exact wa)
  rw [show plusD .zero a = a from if_pos rfl] at z0
  have z1 := dadd_x ca cb wa wb w1
  have z2 := dadd_x (plusD_canon ca cb) cc w1 wc w2
  have z3 := dadd_x (plusD_canon (plusD_canon ca cb) cc) cd w2 wd w3
  refine callN_end [0, 1] ?_
  refine callN_def env (fn := Try.f64) 2 rfl rfl (by decide) ?_
  repeat (first | refine stp ?_ | refine loop_unr 5 ?_)
  refine draw_tree (picks (List.range 8) .done) (by decide +kernel) ?_
  repeat refine stp ?_
  refine ⟨_, ⟨callP_arg (.cons (.up eqv_dyZ) (.cons (.up (.up (.refl _))) .nil)) z0, rfl⟩, ?_⟩
  repeat refine stp ?_
  refine ⟨_, readN_of [0] rfl rfl (fun _ => rfl) (keep_n _) (fun _ => rfl), ?_⟩
  repeat (first | refine stp ?_ | refine loop_unr 5 ?_)
  refine draw_tree (picks (List.range 8) .done) (by decide +kernel) ?_
  repeat refine stp ?_
  refine ⟨_, ⟨z1, rfl⟩, ?_⟩
  repeat refine stp ?_
  refine ⟨_, readN_of [0] rfl rfl (fun _ => rfl) (keep_n _) (fun _ => rfl), ?_⟩
  repeat (first | refine stp ?_ | refine loop_unr 5 ?_)
  refine draw_tree (picks (List.range 8) .done) (by decide +kernel) ?_
  repeat refine stp ?_
  refine ⟨_, ⟨z2, rfl⟩, ?_⟩
  repeat refine stp ?_
  refine ⟨_, readN_of [0] rfl rfl (fun _ => rfl) (keep_n _) (fun _ => rfl), ?_⟩
  repeat (first | refine stp ?_ | refine loop_unr 5 ?_)
  refine draw_tree (picks (List.range 8) .done) (by decide +kernel) ?_
  repeat refine stp ?_
  refine ⟨_, ⟨z3, rfl⟩, ?_⟩
  repeat refine stp ?_
  refine ⟨_, readN_of [0] rfl rfl (fun _ => rfl) (keep_n _) (fun _ => rfl), ?_⟩
  repeat (first | refine stp ?_ | refine loop_unr 5 ?_)
  exact ⟨rfl, Eqv.same _, EqvH.refl _⟩
end Go.Proofs.N13
