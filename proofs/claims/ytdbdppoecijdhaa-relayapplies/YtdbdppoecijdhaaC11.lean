/- Chapter 27, part s: the reference: digits, halves, put, Row. -/
import Derived.Test.YtdbdppoecijdhaaC10
set_option linter.unusedVariables false
set_option linter.unusedSimpArgs false
/-! Bb. -/
namespace Go.Proofs
open Go.E
set_option maxRecDepth 8000

theorem rdig1 {d : Nat → Int} : callP Try.prog 40 [dispA d, .int .i64 1] (· = .tuple [.int .u8 (d 22), .int .u8 (d 23)]) := by
  refine callE_def env (fn := Try.f40) rfl (by decide) rfl ?_
  repeat (first | refine branch_t' (by decide +kernel) ?_ | refine branch_f' (by decide +kernel) ?_)
  refine draw_tree (picks [0, 1, 2, 3, 4, 5, 6, 7, 8, 9, 10, 11] .done) (by decide +kernel) ?_
  repeat (refine need_intro (by decide) ?_)
  show Eqv _ _
  exact .up (.up (.refl _))
theorem rhalf1 : callP Try.prog 37 [.int .i64 1] (· = .tuple [.int .i64 (2), .int .u8 2]) := by
  refine callE_def env (fn := Try.f37) rfl (by decide) rfl ?_
  repeat (first | refine branch_t' (by decide +kernel) ?_ | refine branch_f' (by decide +kernel) ?_)
  show Eqv _ _
  exact .up (.up (.refl _))
theorem rput1 {d : Nat → Int} {x y : Int} : callP Try.prog 38 [dispA d, .int .i64 1, .int .u8 x, .int .u8 y] (· = dispA (upd (upd d 22 x) 23 y)) := by
  refine callE_def env (fn := Try.f38) rfl (by decide) rfl ?_
  repeat (first | refine branch_t' (by decide +kernel) ?_ | refine branch_f' (by decide +kernel) ?_)
  repeat (refine need_intro (by decide) ?_)
  show Eqv _ _
  exact .up (.up (.refl _))
theorem rdig2 {d : Nat → Int} : callP Try.prog 40 [dispA d, .int .i64 2] (· = .tuple [.int .u8 (d 20), .int .u8 (d 21)]) := by
  refine callE_def env (fn := Try.f40) rfl (by decide) rfl ?_
  repeat (first | refine branch_t' (by decide +kernel) ?_ | refine branch_f' (by decide +kernel) ?_)
  refine draw_tree (picks [0, 1, 2, 3, 4, 5, 6, 7, 8, 9, 10, 11] .done) (by decide +kernel) ?_
  repeat (refine need_intro (by decide) ?_)
  show Eqv _ _
  exact .up (.up (.refl _))
theorem rhalf2 : callP Try.prog 37 [.int .i64 2] (· = .tuple [.int .i64 (2), .int .u8 1]) := by
  refine callE_def env (fn := Try.f37) rfl (by decide) rfl ?_
  repeat (first | refine branch_t' (by decide +kernel) ?_ | refine branch_f' (by decide +kernel) ?_)
  show Eqv _ _
  exact .up (.up (.refl _))
theorem rput2 {d : Nat → Int} {x y : Int} : callP Try.prog 38 [dispA d, .int .i64 2, .int .u8 x, .int .u8 y] (· = dispA (upd (upd d 20 x) 21 y)) := by
  refine callE_def env (fn := Try.f38) rfl (by decide) rfl ?_
  repeat (first | refine branch_t' (by decide +kernel) ?_ | refine branch_f' (by decide +kernel) ?_)
  repeat (refine need_intro (by decide) ?_)
  show Eqv _ _
  exact .up (.up (.refl _))
theorem rdig3 {d : Nat → Int} : callP Try.prog 40 [dispA d, .int .i64 3] (· = .tuple [.int .u8 (d 17), .int .u8 (d 19)]) := by
  refine callE_def env (fn := Try.f40) rfl (by decide) rfl ?_
  repeat (first | refine branch_t' (by decide +kernel) ?_ | refine branch_f' (by decide +kernel) ?_)
  refine draw_tree (picks [0, 1, 2, 3, 4, 5, 6, 7, 8, 9, 10, 11] .done) (by decide +kernel) ?_
  repeat (refine need_intro (by decide) ?_)
  show Eqv _ _
  exact .up (.up (.refl _))
theorem rhalf3 : callP Try.prog 37 [.int .i64 3] (· = .tuple [.int .i64 (-1), .int .u8 0]) := by
  refine callE_def env (fn := Try.f37) rfl (by decide) rfl ?_
  repeat (first | refine branch_t' (by decide +kernel) ?_ | refine branch_f' (by decide +kernel) ?_)
  show Eqv _ _
  exact .up (.up (.refl _))
theorem rput3 {d : Nat → Int} {x y : Int} : callP Try.prog 38 [dispA d, .int .i64 3, .int .u8 x, .int .u8 y] (· = dispA (upd (upd d 17 x) 19 y)) := by
  refine callE_def env (fn := Try.f38) rfl (by decide) rfl ?_
  repeat (first | refine branch_t' (by decide +kernel) ?_ | refine branch_f' (by decide +kernel) ?_)
  repeat (refine need_intro (by decide) ?_)
  show Eqv _ _
  exact .up (.up (.refl _))
theorem rdig4 {d : Nat → Int} : callP Try.prog 40 [dispA d, .int .i64 4] (· = .tuple [.int .u8 (d 15), .int .u8 (d 16)]) := by
  refine callE_def env (fn := Try.f40) rfl (by decide) rfl ?_
  repeat (first | refine branch_t' (by decide +kernel) ?_ | refine branch_f' (by decide +kernel) ?_)
  refine draw_tree (picks [0, 1, 2, 3, 4, 5, 6, 7, 8, 9, 10, 11] .done) (by decide +kernel) ?_
  repeat (refine need_intro (by decide) ?_)
  show Eqv _ _
  exact .up (.up (.refl _))
theorem rhalf4 : callP Try.prog 37 [.int .i64 4] (· = .tuple [.int .i64 (1), .int .u8 2]) := by
  refine callE_def env (fn := Try.f37) rfl (by decide) rfl ?_
  repeat (first | refine branch_t' (by decide +kernel) ?_ | refine branch_f' (by decide +kernel) ?_)
  show Eqv _ _
  exact .up (.up (.refl _))
theorem rput4 {d : Nat → Int} {x y : Int} : callP Try.prog 38 [dispA d, .int .i64 4, .int .u8 x, .int .u8 y] (· = dispA (upd (upd d 15 x) 16 y)) := by
  refine callE_def env (fn := Try.f38) rfl (by decide) rfl ?_
  repeat (first | refine branch_t' (by decide +kernel) ?_ | refine branch_f' (by decide +kernel) ?_)
  repeat (refine need_intro (by decide) ?_)
  show Eqv _ _
  exact .up (.up (.refl _))
theorem rdig5 {d : Nat → Int} : callP Try.prog 40 [dispA d, .int .i64 5] (· = .tuple [.int .u8 (d 13), .int .u8 (d 14)]) := by
  refine callE_def env (fn := Try.f40) rfl (by decide) rfl ?_
  repeat (first | refine branch_t' (by decide +kernel) ?_ | refine branch_f' (by decide +kernel) ?_)
  refine draw_tree (picks [0, 1, 2, 3, 4, 5, 6, 7, 8, 9, 10, 11] .done) (by decide +kernel) ?_
  repeat (refine need_intro (by decide) ?_)
  show Eqv _ _
  exact .up (.up (.refl _))
theorem rhalf5 : callP Try.prog 37 [.int .i64 5] (· = .tuple [.int .i64 (1), .int .u8 1]) := by
  refine callE_def env (fn := Try.f37) rfl (by decide) rfl ?_
  repeat (first | refine branch_t' (by decide +kernel) ?_ | refine branch_f' (by decide +kernel) ?_)
  show Eqv _ _
  exact .up (.up (.refl _))
theorem rput5 {d : Nat → Int} {x y : Int} : callP Try.prog 38 [dispA d, .int .i64 5, .int .u8 x, .int .u8 y] (· = dispA (upd (upd d 13 x) 14 y)) := by
  refine callE_def env (fn := Try.f38) rfl (by decide) rfl ?_
  repeat (first | refine branch_t' (by decide +kernel) ?_ | refine branch_f' (by decide +kernel) ?_)
  repeat (refine need_intro (by decide) ?_)
  show Eqv _ _
  exact .up (.up (.refl _))
theorem rdig6 {d : Nat → Int} : callP Try.prog 40 [dispA d, .int .i64 6] (· = .tuple [.int .u8 (d 10), .int .u8 (d 11)]) := by
  refine callE_def env (fn := Try.f40) rfl (by decide) rfl ?_
  repeat (first | refine branch_t' (by decide +kernel) ?_ | refine branch_f' (by decide +kernel) ?_)
  refine draw_tree (picks [0, 1, 2, 3, 4, 5, 6, 7, 8, 9, 10, 11] .done) (by decide +kernel) ?_
  repeat (refine need_intro (by decide) ?_)
  show Eqv _ _
  exact .up (.up (.refl _))
theorem rhalf6 : callP Try.prog 37 [.int .i64 6] (· = .tuple [.int .i64 (0), .int .u8 2]) := by
  refine callE_def env (fn := Try.f37) rfl (by decide) rfl ?_
  repeat (first | refine branch_t' (by decide +kernel) ?_ | refine branch_f' (by decide +kernel) ?_)
  show Eqv _ _
  exact .up (.up (.refl _))
theorem rput6 {d : Nat → Int} {x y : Int} : callP Try.prog 38 [dispA d, .int .i64 6, .int .u8 x, .int .u8 y] (· = dispA (upd (upd d 10 x) 11 y)) := by
  refine callE_def env (fn := Try.f38) rfl (by decide) rfl ?_
  repeat (first | refine branch_t' (by decide +kernel) ?_ | refine branch_f' (by decide +kernel) ?_)
  repeat (refine need_intro (by decide) ?_)
  show Eqv _ _
  exact .up (.up (.refl _))
theorem rdig7 {d : Nat → Int} : callP Try.prog 40 [dispA d, .int .i64 7] (· = .tuple [.int .u8 (d 8), .int .u8 (d 9)]) := by
  refine callE_def env (fn := Try.f40) rfl (by decide) rfl ?_
  repeat (first | refine branch_t' (by decide +kernel) ?_ | refine branch_f' (by decide +kernel) ?_)
  refine draw_tree (picks [0, 1, 2, 3, 4, 5, 6, 7, 8, 9, 10, 11] .done) (by decide +kernel) ?_
  repeat (refine need_intro (by decide) ?_)
  show Eqv _ _
  exact .up (.up (.refl _))
theorem rhalf7 : callP Try.prog 37 [.int .i64 7] (· = .tuple [.int .i64 (0), .int .u8 1]) := by
  refine callE_def env (fn := Try.f37) rfl (by decide) rfl ?_
  repeat (first | refine branch_t' (by decide +kernel) ?_ | refine branch_f' (by decide +kernel) ?_)
  show Eqv _ _
  exact .up (.up (.refl _))
theorem rput7 {d : Nat → Int} {x y : Int} : callP Try.prog 38 [dispA d, .int .i64 7, .int .u8 x, .int .u8 y] (· = dispA (upd (upd d 8 x) 9 y)) := by
  refine callE_def env (fn := Try.f38) rfl (by decide) rfl ?_
  repeat (first | refine branch_t' (by decide +kernel) ?_ | refine branch_f' (by decide +kernel) ?_)
  repeat (refine need_intro (by decide) ?_)
  show Eqv _ _
  exact .up (.up (.refl _))
theorem rdig8 {d : Nat → Int} : callP Try.prog 40 [dispA d, .int .i64 8] (· = .tuple [.int .u8 (10), .int .u8 (d 7)]) := by
  refine callE_def env (fn := Try.f40) rfl (by decide) rfl ?_
  repeat (first | refine branch_t' (by decide +kernel) ?_ | refine branch_f' (by decide +kernel) ?_)
  refine draw_tree (picks [0, 1, 2, 3, 4, 5, 6] .done) (by decide +kernel) ?_
  repeat (refine need_intro (by decide) ?_)
  show Eqv _ _
  exact .up (.up (.refl _))
theorem rhalf8 : callP Try.prog 37 [.int .i64 8] (· = .tuple [.int .i64 (-1), .int .u8 0]) := by
  refine callE_def env (fn := Try.f37) rfl (by decide) rfl ?_
  repeat (first | refine branch_t' (by decide +kernel) ?_ | refine branch_f' (by decide +kernel) ?_)
  show Eqv _ _
  exact .up (.up (.refl _))
theorem rput8 {d : Nat → Int} {x y : Int} : callP Try.prog 38 [dispA d, .int .i64 8, .int .u8 x, .int .u8 y] (· = dispA (upd d 7 y)) := by
  refine callE_def env (fn := Try.f38) rfl (by decide) rfl ?_
  repeat (first | refine branch_t' (by decide +kernel) ?_ | refine branch_f' (by decide +kernel) ?_)
  repeat (refine need_intro (by decide) ?_)
  show Eqv _ _
  exact .up (.up (.refl _))
theorem rdig9 {d : Nat → Int} : callP Try.prog 40 [dispA d, .int .i64 9] (· = .tuple [.int .u8 (d 4), .int .u8 (d 5)]) := by
  refine callE_def env (fn := Try.f40) rfl (by decide) rfl ?_
  repeat (first | refine branch_t' (by decide +kernel) ?_ | refine branch_f' (by decide +kernel) ?_)
  refine draw_tree (picks [0, 1, 2, 3, 4, 5, 6, 7] .done) (by decide +kernel) ?_
  repeat (refine need_intro (by decide) ?_)
  show Eqv _ _
  exact .up (.up (.refl _))
theorem rhalf9 : callP Try.prog 37 [.int .i64 9] (· = .tuple [.int .i64 (-1), .int .u8 0]) := by
  refine callE_def env (fn := Try.f37) rfl (by decide) rfl ?_
  repeat (first | refine branch_t' (by decide +kernel) ?_ | refine branch_f' (by decide +kernel) ?_)
  show Eqv _ _
  exact .up (.up (.refl _))
theorem rput9 {d : Nat → Int} {x y : Int} : callP Try.prog 38 [dispA d, .int .i64 9, .int .u8 x, .int .u8 y] (· = dispA (upd (upd d 4 x) 5 y)) := by
  refine callE_def env (fn := Try.f38) rfl (by decide) rfl ?_
  repeat (first | refine branch_t' (by decide +kernel) ?_ | refine branch_f' (by decide +kernel) ?_)
  repeat (refine need_intro (by decide) ?_)
  show Eqv _ _
  exact .up (.up (.refl _))
theorem rdig10 {d : Nat → Int} : callP Try.prog 40 [dispA d, .int .i64 10] (· = .tuple [.int .u8 (d 2), .int .u8 (d 3)]) := by
  refine callE_def env (fn := Try.f40) rfl (by decide) rfl ?_
  repeat (first | refine branch_t' (by decide +kernel) ?_ | refine branch_f' (by decide +kernel) ?_)
  refine draw_tree (picks [0, 1, 2, 3, 4, 5, 6, 7] .done) (by decide +kernel) ?_
  repeat (refine need_intro (by decide) ?_)
  show Eqv _ _
  exact .up (.up (.refl _))
theorem rhalf10 : callP Try.prog 37 [.int .i64 10] (· = .tuple [.int .i64 (-1), .int .u8 0]) := by
  refine callE_def env (fn := Try.f37) rfl (by decide) rfl ?_
  repeat (first | refine branch_t' (by decide +kernel) ?_ | refine branch_f' (by decide +kernel) ?_)
  show Eqv _ _
  exact .up (.up (.refl _))
theorem rput10 {d : Nat → Int} {x y : Int} : callP Try.prog 38 [dispA d, .int .i64 10, .int .u8 x, .int .u8 y] (· = dispA (upd (upd d 2 x) 3 y)) := by
  refine callE_def env (fn := Try.f38) rfl (by decide) rfl ?_
  repeat (first | refine branch_t' (by decide +kernel) ?_ | refine branch_f' (by decide +kernel) ?_)
  repeat (refine need_intro (by decide) ?_)
  show Eqv _ _
  exact .up (.up (.refl _))
theorem rdig11 {d : Nat → Int} : callP Try.prog 40 [dispA d, .int .i64 11] (· = .tuple [.int .u8 (d 0), .int .u8 (d 1)]) := by
  refine callE_def env (fn := Try.f40) rfl (by decide) rfl ?_
  repeat (first | refine branch_t' (by decide +kernel) ?_ | refine branch_f' (by decide +kernel) ?_)
  refine draw_tree (picks [0, 1, 2, 3, 4, 5, 6, 7] .done) (by decide +kernel) ?_
  repeat (refine need_intro (by decide) ?_)
  show Eqv _ _
  exact .up (.up (.refl _))
theorem rhalf11 : callP Try.prog 37 [.int .i64 11] (· = .tuple [.int .i64 (-1), .int .u8 0]) := by
  refine callE_def env (fn := Try.f37) rfl (by decide) rfl ?_
  repeat (first | refine branch_t' (by decide +kernel) ?_ | refine branch_f' (by decide +kernel) ?_)
  show Eqv _ _
  exact .up (.up (.refl _))
theorem rput11 {d : Nat → Int} {x y : Int} : callP Try.prog 38 [dispA d, .int .i64 11, .int .u8 x, .int .u8 y] (· = dispA (upd (upd d 0 x) 1 y)) := by
  refine callE_def env (fn := Try.f38) rfl (by decide) rfl ?_
  repeat (first | refine branch_t' (by decide +kernel) ?_ | refine branch_f' (by decide +kernel) ?_)
  repeat (refine need_intro (by decide) ?_)
  show Eqv _ _
  exact .up (.up (.refl _))
theorem rrow_bad1 {d : Nat → Int} (hm : mayB d = false) (k : Int) : callP Try.prog 29 [dispA d, .int .i64 k] (· = .tuple [.int .u16 0, .int .i64 2]) := by
  have c := rmay_c (d := d)
  rw [hm] at c
  refine callE_def env (fn := Try.f29) rfl (by decide) rfl ?_
  refine callT_E c rfl ?_
  repeat (first | refine branch_true ?_ | refine branch_false ?_ | refine branch_f' (bne_self_eq_false _) ?_ | refine branch_t' (beq_self_eq_true _) ?_ | refine branch_t' (decide_eq_true rfl) ?_)
  show Eqv _ _
  exact .up (.up (.refl _))
theorem rrow_val {n a b : Nat} (hn : n < 16) (ha : a < 32) (hb : b < 32) : IntKind.i64.wrap (IntKind.i64.wrap (IntKind.i64.wrap ((n : Int) * 2048) + IntKind.i64.wrap (IntKind.i64.wrap (a : Int) * 32)) + IntKind.i64.wrap (b : Int)) = ((2048 * n + (32 * a + b) : Nat) : Int) := by
  rw [wi (x := (a : Int)) (by omega) (by omega), wi (x := (b : Int)) (by omega) (by omega), wi (x := (n : Int) * 2048) (by omega) (by omega), wi (x := (a : Int) * 32) (by omega) (by omega), wi (x := (n : Int) * 2048 + (a : Int) * 32) (by omega) (by omega), wi (by omega) (by omega)]
  omega
theorem rcode_d {x : Int} (h0 : 0 ≤ x) (h : x < 11) : callP Try.prog 24 [.int .u8 x] (· = .tuple [.int .u8 (cN x), .int .i64 0]) := by
  obtain ⟨n, rfl⟩ := Int.eq_ofNat_of_zero_le h0
  rw [cN_of]
  exact rcode_c (by omega)
set_option maxHeartbeats 1000000 in
theorem rrow1 {d : Nat → Int} (hd : Good d) : callP Try.prog 29 [dispA d, .int .i64 1] (· = .tuple [.int .u16 (rowW d 1), .int .i64 0]) := by
  have c := rmay_c (d := d)
  rw [hd.may] at c
  have g2 := hd 23 (by decide)
  simp only [lim] at g2
  have g1 := hd 22 (by decide)
  simp only [lim] at g1
  have c1 := rcode_d g1.1 g1.2
  have c2 := rcode_d g2.1 g2.2
  have b1 := cN_b (d 22)
  have b2 := cN_b (d 23)
  have ev := rrow_val (n := 1) (by decide) b1 b2
  refine callE_def env (fn := Try.f29) rfl (by decide) rfl ?_
  refine callT_E c rfl ?_
  repeat (first | refine branch_t' (by decide +kernel) ?_ | refine branch_f' (by decide +kernel) ?_)
  refine callT_E rdig1 rfl ?_
  refine callT_E c1 rfl ?_
  refine callT_E c2 rfl ?_
  refine callT_E rhalf1 rfl ?_
  repeat (first | refine branch_t' (by decide +kernel) ?_ | refine branch_f' (by decide +kernel) ?_)
  repeat (refine need_intro (by decide) ?_)
  repeat (first | refine branch_true ?_ | refine branch_false ?_ | refine branch_f' (bne_self_eq_false _) ?_ | refine branch_t' (beq_self_eq_true _) ?_ | refine branch_t' (decide_eq_true rfl) ?_)
  repeat (refine need_intro (by decide) ?_)
  apply branch_intro <;> intro hb
  · show Eqv (.tuple [.int .u16 _, _]) _
    refine eqv_of_eq (congrArg (fun x => AVal.tuple [.int .u16 x, .int .i64 0]) ?_)
    have hs : bitN d 0 = 1024 := if_pos (by simpa using hb)
    show IntKind.u16.wrap (IntKind.i64.wrap (IntKind.i64.wrap (IntKind.i64.wrap (IntKind.i64.wrap (((1 : Nat) : Int) * 2048) + IntKind.i64.wrap (IntKind.i64.wrap (cN (d 22) : Int) * 32)) + IntKind.i64.wrap (cN (d 23) : Int)) + 1024)) = ((2048 * 1 + bitN d 0 + (32 * cN (d 22) + cN (d 23)) : Nat) : Int)
    rw [ev, hs, wi (by omega) (by omega), wu16 (by omega) (by omega)]
    omega
  · show Eqv (.tuple [.int .u16 _, _]) _
    refine eqv_of_eq (congrArg (fun x => AVal.tuple [.int .u16 x, .int .i64 0]) ?_)
    have hs : bitN d 0 = 0 := if_neg (by simpa using hb)
    show IntKind.u16.wrap (IntKind.i64.wrap (IntKind.i64.wrap (IntKind.i64.wrap (((1 : Nat) : Int) * 2048) + IntKind.i64.wrap (IntKind.i64.wrap (cN (d 22) : Int) * 32)) + IntKind.i64.wrap (cN (d 23) : Int))) = ((2048 * 1 + bitN d 0 + (32 * cN (d 22) + cN (d 23)) : Nat) : Int)
    rw [ev, hs, wu16 (by omega) (by omega)]
set_option maxHeartbeats 1000000 in
theorem rrow2 {d : Nat → Int} (hd : Good d) : callP Try.prog 29 [dispA d, .int .i64 2] (· = .tuple [.int .u16 (rowW d 2), .int .i64 0]) := by
  have c := rmay_c (d := d)
  rw [hd.may] at c
  have g2 := hd 21 (by decide)
  simp only [lim] at g2
  have g1 := hd 20 (by decide)
  simp only [lim] at g1
  have c1 := rcode_d g1.1 g1.2
  have c2 := rcode_d g2.1 g2.2
  have b1 := cN_b (d 20)
  have b2 := cN_b (d 21)
  have ev := rrow_val (n := 2) (by decide) b1 b2
  refine callE_def env (fn := Try.f29) rfl (by decide) rfl ?_
  refine callT_E c rfl ?_
  repeat (first | refine branch_t' (by decide +kernel) ?_ | refine branch_f' (by decide +kernel) ?_)
  refine callT_E rdig2 rfl ?_
  refine callT_E c1 rfl ?_
  refine callT_E c2 rfl ?_
  refine callT_E rhalf2 rfl ?_
  repeat (first | refine branch_t' (by decide +kernel) ?_ | refine branch_f' (by decide +kernel) ?_)
  repeat (refine need_intro (by decide) ?_)
  repeat (first | refine branch_true ?_ | refine branch_false ?_ | refine branch_f' (bne_self_eq_false _) ?_ | refine branch_t' (beq_self_eq_true _) ?_ | refine branch_t' (decide_eq_true rfl) ?_)
  repeat (refine need_intro (by decide) ?_)
  apply branch_intro <;> intro hb
  · show Eqv (.tuple [.int .u16 _, _]) _
    refine eqv_of_eq (congrArg (fun x => AVal.tuple [.int .u16 x, .int .i64 0]) ?_)
    have hs : bitN d 1 = 1024 := if_pos (by simpa using hb)
    show IntKind.u16.wrap (IntKind.i64.wrap (IntKind.i64.wrap (IntKind.i64.wrap (IntKind.i64.wrap (((2 : Nat) : Int) * 2048) + IntKind.i64.wrap (IntKind.i64.wrap (cN (d 20) : Int) * 32)) + IntKind.i64.wrap (cN (d 21) : Int)) + 1024)) = ((2048 * 2 + bitN d 1 + (32 * cN (d 20) + cN (d 21)) : Nat) : Int)
    rw [ev, hs, wi (by omega) (by omega), wu16 (by omega) (by omega)]
    omega
  · show Eqv (.tuple [.int .u16 _, _]) _
    refine eqv_of_eq (congrArg (fun x => AVal.tuple [.int .u16 x, .int .i64 0]) ?_)
    have hs : bitN d 1 = 0 := if_neg (by simpa using hb)
    show IntKind.u16.wrap (IntKind.i64.wrap (IntKind.i64.wrap (IntKind.i64.wrap (((2 : Nat) : Int) * 2048) + IntKind.i64.wrap (IntKind.i64.wrap (cN (d 20) : Int) * 32)) + IntKind.i64.wrap (cN (d 21) : Int))) = ((2048 * 2 + bitN d 1 + (32 * cN (d 20) + cN (d 21)) : Nat) : Int)
    rw [ev, hs, wu16 (by omega) (by omega)]
set_option maxHeartbeats 1000000 in
theorem rrow3 {d : Nat → Int} (hd : Good d) : callP Try.prog 29 [dispA d, .int .i64 3] (· = .tuple [.int .u16 (rowW d 3), .int .i64 0]) := by
  have c := rmay_c (d := d)
  rw [hd.may] at c
  have g2 := hd 19 (by decide)
  simp only [lim] at g2
  have g1 := hd 17 (by decide)
  simp only [lim] at g1
  have c1 := rcode_d g1.1 g1.2
  have c2 := rcode_d g2.1 g2.2
  have b1 := cN_b (d 17)
  have b2 := cN_b (d 19)
  have ev := rrow_val (n := 3) (by decide) b1 b2
  refine callE_def env (fn := Try.f29) rfl (by decide) rfl ?_
  refine callT_E c rfl ?_
  repeat (first | refine branch_t' (by decide +kernel) ?_ | refine branch_f' (by decide +kernel) ?_)
  refine callT_E rdig3 rfl ?_
  refine callT_E c1 rfl ?_
  refine callT_E c2 rfl ?_
  refine callT_E rhalf3 rfl ?_
  repeat (first | refine branch_t' (by decide +kernel) ?_ | refine branch_f' (by decide +kernel) ?_)
  show Eqv (.tuple [.int .u16 _, _]) _
  refine eqv_of_eq (congrArg (fun x => AVal.tuple [.int .u16 x, .int .i64 0]) ?_)
  have hs : bitN d 2 = 0 := rfl
  show IntKind.u16.wrap (IntKind.i64.wrap (IntKind.i64.wrap (IntKind.i64.wrap (((3 : Nat) : Int) * 2048) + IntKind.i64.wrap (IntKind.i64.wrap (cN (d 17) : Int) * 32)) + IntKind.i64.wrap (cN (d 19) : Int))) = ((2048 * 3 + bitN d 2 + (32 * cN (d 17) + cN (d 19)) : Nat) : Int)
  rw [ev, hs, wu16 (by omega) (by omega)]
set_option maxHeartbeats 1000000 in
theorem rrow4 {d : Nat → Int} (hd : Good d) : callP Try.prog 29 [dispA d, .int .i64 4] (· = .tuple [.int .u16 (rowW d 4), .int .i64 0]) := by
  have c := rmay_c (d := d)
  rw [hd.may] at c
  have g2 := hd 16 (by decide)
  simp only [lim] at g2
  have g1 := hd 15 (by decide)
  simp only [lim] at g1
  have c1 := rcode_d g1.1 g1.2
  have c2 := rcode_d g2.1 g2.2
  have b1 := cN_b (d 15)
  have b2 := cN_b (d 16)
  have ev := rrow_val (n := 4) (by decide) b1 b2
  refine callE_def env (fn := Try.f29) rfl (by decide) rfl ?_
  refine callT_E c rfl ?_
  repeat (first | refine branch_t' (by decide +kernel) ?_ | refine branch_f' (by decide +kernel) ?_)
  refine callT_E rdig4 rfl ?_
  refine callT_E c1 rfl ?_
  refine callT_E c2 rfl ?_
  refine callT_E rhalf4 rfl ?_
  repeat (first | refine branch_t' (by decide +kernel) ?_ | refine branch_f' (by decide +kernel) ?_)
  repeat (refine need_intro (by decide) ?_)
  repeat (first | refine branch_true ?_ | refine branch_false ?_ | refine branch_f' (bne_self_eq_false _) ?_ | refine branch_t' (beq_self_eq_true _) ?_ | refine branch_t' (decide_eq_true rfl) ?_)
  repeat (refine need_intro (by decide) ?_)
  apply branch_intro <;> intro hb
  · show Eqv (.tuple [.int .u16 _, _]) _
    refine eqv_of_eq (congrArg (fun x => AVal.tuple [.int .u16 x, .int .i64 0]) ?_)
    have hs : bitN d 3 = 1024 := if_pos (by simpa using hb)
    show IntKind.u16.wrap (IntKind.i64.wrap (IntKind.i64.wrap (IntKind.i64.wrap (IntKind.i64.wrap (((4 : Nat) : Int) * 2048) + IntKind.i64.wrap (IntKind.i64.wrap (cN (d 15) : Int) * 32)) + IntKind.i64.wrap (cN (d 16) : Int)) + 1024)) = ((2048 * 4 + bitN d 3 + (32 * cN (d 15) + cN (d 16)) : Nat) : Int)
    rw [ev, hs, wi (by omega) (by omega), wu16 (by omega) (by omega)]
    omega
  · show Eqv (.tuple [.int .u16 _, _]) _
    refine eqv_of_eq (congrArg (fun x => AVal.tuple [.int .u16 x, .int .i64 0]) ?_)
    have hs : bitN d 3 = 0 := if_neg (by simpa using hb)
    show IntKind.u16.wrap (IntKind.i64.wrap (IntKind.i64.wrap (IntKind.i64.wrap (((4 : Nat) : Int) * 2048) + IntKind.i64.wrap (IntKind.i64.wrap (cN (d 15) : Int) * 32)) + IntKind.i64.wrap (cN (d 16) : Int))) = ((2048 * 4 + bitN d 3 + (32 * cN (d 15) + cN (d 16)) : Nat) : Int)
    rw [ev, hs, wu16 (by omega) (by omega)]
set_option maxHeartbeats 1000000 in
theorem rrow5 {d : Nat → Int} (hd : Good d) : callP Try.prog 29 [dispA d, .int .i64 5] (· = .tuple [.int .u16 (rowW d 5), .int .i64 0]) := by
  have c := rmay_c (d := d)
  rw [hd.may] at c
  have g2 := hd 14 (by decide)
  simp only [lim] at g2
  have g1 := hd 13 (by decide)
  simp only [lim] at g1
  have c1 := rcode_d g1.1 g1.2
  have c2 := rcode_d g2.1 g2.2
  have b1 := cN_b (d 13)
  have b2 := cN_b (d 14)
  have ev := rrow_val (n := 5) (by decide) b1 b2
  refine callE_def env (fn := Try.f29) rfl (by decide) rfl ?_
  refine callT_E c rfl ?_
  repeat (first | refine branch_t' (by decide +kernel) ?_ | refine branch_f' (by decide +kernel) ?_)
  refine callT_E rdig5 rfl ?_
  refine callT_E c1 rfl ?_
  refine callT_E c2 rfl ?_
  refine callT_E rhalf5 rfl ?_
  repeat (first | refine branch_t' (by decide +kernel) ?_ | refine branch_f' (by decide +kernel) ?_)
  repeat (refine need_intro (by decide) ?_)
  repeat (first | refine branch_true ?_ | refine branch_false ?_ | refine branch_f' (bne_self_eq_false _) ?_ | refine branch_t' (beq_self_eq_true _) ?_ | refine branch_t' (decide_eq_true rfl) ?_)
  repeat (refine need_intro (by decide) ?_)
  apply branch_intro <;> intro hb
  · show Eqv (.tuple [.int .u16 _, _]) _
    refine eqv_of_eq (congrArg (fun x => AVal.tuple [.int .u16 x, .int .i64 0]) ?_)
    have hs : bitN d 4 = 1024 := if_pos (by simpa using hb)
    show IntKind.u16.wrap (IntKind.i64.wrap (IntKind.i64.wrap (IntKind.i64.wrap (IntKind.i64.wrap (((5 : Nat) : Int) * 2048) + IntKind.i64.wrap (IntKind.i64.wrap (cN (d 13) : Int) * 32)) + IntKind.i64.wrap (cN (d 14) : Int)) + 1024)) = ((2048 * 5 + bitN d 4 + (32 * cN (d 13) + cN (d 14)) : Nat) : Int)
    rw [ev, hs, wi (by omega) (by omega), wu16 (by omega) (by omega)]
    omega
  · show Eqv (.tuple [.int .u16 _, _]) _
    refine eqv_of_eq (congrArg (fun x => AVal.tuple [.int .u16 x, .int .i64 0]) ?_)
    have hs : bitN d 4 = 0 := if_neg (by simpa using hb)
    show IntKind.u16.wrap (IntKind.i64.wrap (IntKind.i64.wrap (IntKind.i64.wrap (((5 : Nat) : Int) * 2048) + IntKind.i64.wrap (IntKind.i64.wrap (cN (d 13) : Int) * 32)) + IntKind.i64.wrap (cN (d 14) : Int))) = ((2048 * 5 + bitN d 4 + (32 * cN (d 13) + cN (d 14)) : Nat) : Int)
    rw [ev, hs, wu16 (by omega) (by omega)]
set_option maxHeartbeats 1000000 in
theorem rrow6 {d : Nat → Int} (hd : Good d) : callP Try.prog 29 [dispA d, .int .i64 6] (· = .tuple [.int .u16 (rowW d 6), .int .i64 0]) := by
  have c := rmay_c (d := d)
  rw [hd.may] at c
  have g2 := hd 11 (by decide)
  simp only [lim] at g2
  have g1 := hd 10 (by decide)
  simp only [lim] at g1
  have c1 := rcode_d g1.1 g1.2
  have c2 := rcode_d g2.1 g2.2
  have b1 := cN_b (d 10)
  have b2 := cN_b (d 11)
  have ev := rrow_val (n := 6) (by decide) b1 b2
  refine callE_def env (fn := Try.f29) rfl (by decide) rfl ?_
  refine callT_E c rfl ?_
  repeat (first | refine branch_t' (by decide +kernel) ?_ | refine branch_f' (by decide +kernel) ?_)
  refine callT_E rdig6 rfl ?_
  refine callT_E c1 rfl ?_
  refine callT_E c2 rfl ?_
  refine callT_E rhalf6 rfl ?_
  repeat (first | refine branch_t' (by decide +kernel) ?_ | refine branch_f' (by decide +kernel) ?_)
  repeat (refine need_intro (by decide) ?_)
  repeat (first | refine branch_true ?_ | refine branch_false ?_ | refine branch_f' (bne_self_eq_false _) ?_ | refine branch_t' (beq_self_eq_true _) ?_ | refine branch_t' (decide_eq_true rfl) ?_)
  repeat (refine need_intro (by decide) ?_)
  apply branch_intro <;> intro hb
  · show Eqv (.tuple [.int .u16 _, _]) _
    refine eqv_of_eq (congrArg (fun x => AVal.tuple [.int .u16 x, .int .i64 0]) ?_)
    have hs : bitN d 5 = 1024 := if_pos (by simpa using hb)
    show IntKind.u16.wrap (IntKind.i64.wrap (IntKind.i64.wrap (IntKind.i64.wrap (IntKind.i64.wrap (((6 : Nat) : Int) * 2048) + IntKind.i64.wrap (IntKind.i64.wrap (cN (d 10) : Int) * 32)) + IntKind.i64.wrap (cN (d 11) : Int)) + 1024)) = ((2048 * 6 + bitN d 5 + (32 * cN (d 10) + cN (d 11)) : Nat) : Int)
    rw [ev, hs, wi (by omega) (by omega), wu16 (by omega) (by omega)]
    omega
  · show Eqv (.tuple [.int .u16 _, _]) _
    refine eqv_of_eq (congrArg (fun x => AVal.tuple [.int .u16 x, .int .i64 0]) ?_)
    have hs : bitN d 5 = 0 := if_neg (by simpa using hb)
    show IntKind.u16.wrap (IntKind.i64.wrap (IntKind.i64.wrap (IntKind.i64.wrap (((6 : Nat) : Int) * 2048) + IntKind.i64.wrap (IntKind.i64.wrap (cN (d 10) : Int) * 32)) + IntKind.i64.wrap (cN (d 11) : Int))) = ((2048 * 6 + bitN d 5 + (32 * cN (d 10) + cN (d 11)) : Nat) : Int)
    rw [ev, hs, wu16 (by omega) (by omega)]
set_option maxHeartbeats 1000000 in
theorem rrow7 {d : Nat → Int} (hd : Good d) : callP Try.prog 29 [dispA d, .int .i64 7] (· = .tuple [.int .u16 (rowW d 7), .int .i64 0]) := by
  have c := rmay_c (d := d)
  rw [hd.may] at c
  have g2 := hd 9 (by decide)
  simp only [lim] at g2
  have g1 := hd 8 (by decide)
  simp only [lim] at g1
  have c1 := rcode_d g1.1 g1.2
  have c2 := rcode_d g2.1 g2.2
  have b1 := cN_b (d 8)
  have b2 := cN_b (d 9)
  have ev := rrow_val (n := 7) (by decide) b1 b2
  refine callE_def env (fn := Try.f29) rfl (by decide) rfl ?_
  refine callT_E c rfl ?_
  repeat (first | refine branch_t' (by decide +kernel) ?_ | refine branch_f' (by decide +kernel) ?_)
  refine callT_E rdig7 rfl ?_
  refine callT_E c1 rfl ?_
  refine callT_E c2 rfl ?_
  refine callT_E rhalf7 rfl ?_
  repeat (first | refine branch_t' (by decide +kernel) ?_ | refine branch_f' (by decide +kernel) ?_)
  repeat (refine need_intro (by decide) ?_)
  repeat (first | refine branch_true ?_ | refine branch_false ?_ | refine branch_f' (bne_self_eq_false _) ?_ | refine branch_t' (beq_self_eq_true _) ?_ | refine branch_t' (decide_eq_true rfl) ?_)
  repeat (refine need_intro (by decide) ?_)
  apply branch_intro <;> intro hb
  · show Eqv (.tuple [.int .u16 _, _]) _
    refine eqv_of_eq (congrArg (fun x => AVal.tuple [.int .u16 x, .int .i64 0]) ?_)
    have hs : bitN d 6 = 1024 := if_pos (by simpa using hb)
    show IntKind.u16.wrap (IntKind.i64.wrap (IntKind.i64.wrap (IntKind.i64.wrap (IntKind.i64.wrap (((7 : Nat) : Int) * 2048) + IntKind.i64.wrap (IntKind.i64.wrap (cN (d 8) : Int) * 32)) + IntKind.i64.wrap (cN (d 9) : Int)) + 1024)) = ((2048 * 7 + bitN d 6 + (32 * cN (d 8) + cN (d 9)) : Nat) : Int)
    rw [ev, hs, wi (by omega) (by omega), wu16 (by omega) (by omega)]
    omega
  · show Eqv (.tuple [.int .u16 _, _]) _
    refine eqv_of_eq (congrArg (fun x => AVal.tuple [.int .u16 x, .int .i64 0]) ?_)
    have hs : bitN d 6 = 0 := if_neg (by simpa using hb)
    show IntKind.u16.wrap (IntKind.i64.wrap (IntKind.i64.wrap (IntKind.i64.wrap (((7 : Nat) : Int) * 2048) + IntKind.i64.wrap (IntKind.i64.wrap (cN (d 8) : Int) * 32)) + IntKind.i64.wrap (cN (d 9) : Int))) = ((2048 * 7 + bitN d 6 + (32 * cN (d 8) + cN (d 9)) : Nat) : Int)
    rw [ev, hs, wu16 (by omega) (by omega)]
set_option maxHeartbeats 1000000 in
theorem rrow8 {d : Nat → Int} (hd : Good d) : callP Try.prog 29 [dispA d, .int .i64 8] (· = .tuple [.int .u16 (rowW d 8), .int .i64 0]) := by
  have c := rmay_c (d := d)
  rw [hd.may] at c
  have g2 := hd 7 (by decide)
  simp only [lim] at g2
  have c1 := rcode_d (x := 10) (by decide) (by decide)
  have c2 := rcode_d g2.1 g2.2
  have b1 := cN_b (10)
  have b2 := cN_b (d 7)
  have ev := rrow_val (n := 8) (by decide) b1 b2
  refine callE_def env (fn := Try.f29) rfl (by decide) rfl ?_
  refine callT_E c rfl ?_
  repeat (first | refine branch_t' (by decide +kernel) ?_ | refine branch_f' (by decide +kernel) ?_)
  refine callT_E rdig8 rfl ?_
  refine callT_E c1 rfl ?_
  refine callT_E c2 rfl ?_
  refine callT_E rhalf8 rfl ?_
  repeat (first | refine branch_t' (by decide +kernel) ?_ | refine branch_f' (by decide +kernel) ?_)
  show Eqv (.tuple [.int .u16 _, _]) _
  refine eqv_of_eq (congrArg (fun x => AVal.tuple [.int .u16 x, .int .i64 0]) ?_)
  have hs : bitN d 7 = 0 := rfl
  show IntKind.u16.wrap (IntKind.i64.wrap (IntKind.i64.wrap (IntKind.i64.wrap (((8 : Nat) : Int) * 2048) + IntKind.i64.wrap (IntKind.i64.wrap (cN 10 : Int) * 32)) + IntKind.i64.wrap (cN (d 7) : Int))) = ((2048 * 8 + bitN d 7 + (32 * cN 10 + cN (d 7)) : Nat) : Int)
  rw [ev, hs, wu16 (by omega) (by omega)]
set_option maxHeartbeats 1000000 in
theorem rrow9 {d : Nat → Int} (hd : Good d) : callP Try.prog 29 [dispA d, .int .i64 9] (· = .tuple [.int .u16 (rowW d 9), .int .i64 0]) := by
  have c := rmay_c (d := d)
  rw [hd.may] at c
  have g2 := hd 5 (by decide)
  simp only [lim] at g2
  have g1 := hd 4 (by decide)
  simp only [lim] at g1
  have c1 := rcode_d g1.1 g1.2
  have c2 := rcode_d g2.1 g2.2
  have b1 := cN_b (d 4)
  have b2 := cN_b (d 5)
  have ev := rrow_val (n := 9) (by decide) b1 b2
  refine callE_def env (fn := Try.f29) rfl (by decide) rfl ?_
  refine callT_E c rfl ?_
  repeat (first | refine branch_t' (by decide +kernel) ?_ | refine branch_f' (by decide +kernel) ?_)
  refine callT_E rdig9 rfl ?_
  refine callT_E c1 rfl ?_
  refine callT_E c2 rfl ?_
  refine callT_E rhalf9 rfl ?_
  repeat (first | refine branch_t' (by decide +kernel) ?_ | refine branch_f' (by decide +kernel) ?_)
  show Eqv (.tuple [.int .u16 _, _]) _
  refine eqv_of_eq (congrArg (fun x => AVal.tuple [.int .u16 x, .int .i64 0]) ?_)
  have hs : bitN d 8 = 0 := rfl
  show IntKind.u16.wrap (IntKind.i64.wrap (IntKind.i64.wrap (IntKind.i64.wrap (((9 : Nat) : Int) * 2048) + IntKind.i64.wrap (IntKind.i64.wrap (cN (d 4) : Int) * 32)) + IntKind.i64.wrap (cN (d 5) : Int))) = ((2048 * 9 + bitN d 8 + (32 * cN (d 4) + cN (d 5)) : Nat) : Int)
  rw [ev, hs, wu16 (by omega) (by omega)]
set_option maxHeartbeats 1000000 in
theorem rrow10 {d : Nat → Int} (hd : Good d) : callP Try.prog 29 [dispA d, .int .i64 10] (· = .tuple [.int .u16 (rowW d 10), .int .i64 0]) := by
  have c := rmay_c (d := d)
  rw [hd.may] at c
  have g2 := hd 3 (by decide)
  simp only [lim] at g2
  have g1 := hd 2 (by decide)
  simp only [lim] at g1
  have c1 := rcode_d g1.1 g1.2
  have c2 := rcode_d g2.1 g2.2
  have b1 := cN_b (d 2)
  have b2 := cN_b (d 3)
  have ev := rrow_val (n := 10) (by decide) b1 b2
  refine callE_def env (fn := Try.f29) rfl (by decide) rfl ?_
  refine callT_E c rfl ?_
  repeat (first | refine branch_t' (by decide +kernel) ?_ | refine branch_f' (by decide +kernel) ?_)
  refine callT_E rdig10 rfl ?_
  refine callT_E c1 rfl ?_
  refine callT_E c2 rfl ?_
  refine callT_E rhalf10 rfl ?_
  repeat (first | refine branch_t' (by decide +kernel) ?_ | refine branch_f' (by decide +kernel) ?_)
  show Eqv (.tuple [.int .u16 _, _]) _
  refine eqv_of_eq (congrArg (fun x => AVal.tuple [.int .u16 x, .int .i64 0]) ?_)
  have hs : bitN d 9 = 0 := rfl
  show IntKind.u16.wrap (IntKind.i64.wrap (IntKind.i64.wrap (IntKind.i64.wrap (((10 : Nat) : Int) * 2048) + IntKind.i64.wrap (IntKind.i64.wrap (cN (d 2) : Int) * 32)) + IntKind.i64.wrap (cN (d 3) : Int))) = ((2048 * 10 + bitN d 9 + (32 * cN (d 2) + cN (d 3)) : Nat) : Int)
  rw [ev, hs, wu16 (by omega) (by omega)]
set_option maxHeartbeats 1000000 in
theorem rrow11 {d : Nat → Int} (hd : Good d) : callP Try.prog 29 [dispA d, .int .i64 11] (· = .tuple [.int .u16 (rowW d 11), .int .i64 0]) := by
  have c := rmay_c (d := d)
  rw [hd.may] at c
  have g2 := hd 1 (by decide)
  simp only [lim] at g2
  have g1 := hd 0 (by decide)
  simp only [lim] at g1
  have c1 := rcode_d g1.1 g1.2
  have c2 := rcode_d g2.1 g2.2
  have b1 := cN_b (d 0)
  have b2 := cN_b (d 1)
  have ev := rrow_val (n := 11) (by decide) b1 b2
  refine callE_def env (fn := Try.f29) rfl (by decide) rfl ?_
  refine callT_E c rfl ?_
  repeat (first | refine branch_t' (by decide +kernel) ?_ | refine branch_f' (by decide +kernel) ?_)
  refine callT_E rdig11 rfl ?_
  refine callT_E c1 rfl ?_
  refine callT_E c2 rfl ?_
  refine callT_E rhalf11 rfl ?_
  repeat (first | refine branch_t' (by decide +kernel) ?_ | refine branch_f' (by decide +kernel) ?_)
  show Eqv (.tuple [.int .u16 _, _]) _
  refine eqv_of_eq (congrArg (fun x => AVal.tuple [.int .u16 x, .int .i64 0]) ?_)
  have hs : bitN d 10 = 0 := rfl
  show IntKind.u16.wrap (IntKind.i64.wrap (IntKind.i64.wrap (IntKind.i64.wrap (((11 : Nat) : Int) * 2048) + IntKind.i64.wrap (IntKind.i64.wrap (cN (d 0) : Int) * 32)) + IntKind.i64.wrap (cN (d 1) : Int))) = ((2048 * 11 + bitN d 10 + (32 * cN (d 0) + cN (d 1)) : Nat) : Int)
  rw [ev, hs, wu16 (by omega) (by omega)]
theorem rrow12 {d : Nat → Int} (hd : Good d) : callP Try.prog 29 [dispA d, .int .i64 12] (· = .tuple [.int .u16 (rowW d 12), .int .i64 0]) := by
  have c := rmay_c (d := d)
  rw [hd.may] at c
  have g := hd 24 (by decide)
  simp only [lim] at g
  refine callE_def env (fn := Try.f29) rfl (by decide) rfl ?_
  refine callT_E c rfl ?_
  repeat (first | refine branch_t' (by decide +kernel) ?_ | refine branch_f' (by decide +kernel) ?_)
  show Eqv (.tuple [.int .u16 _, _]) _
  refine eqv_of_eq (congrArg (fun x => AVal.tuple [.int .u16 x, .int .i64 0]) ?_)
  show IntKind.u16.wrap (IntKind.i64.wrap (24576 + IntKind.i64.wrap (d 24))) = 24576 + d 24
  rw [wi (x := d 24) (by omega) (by omega), wi (by omega) (by omega), wu16 (by omega) (by omega)]
theorem rrow13 {d : Nat → Int} (hd : Good d) : callP Try.prog 29 [dispA d, .int .i64 13] (· = .tuple [.int .u16 (rowW d 13), .int .i64 0]) := by
  have c := rmay_c (d := d)
  rw [hd.may] at c
  have g := hd 25 (by decide)
  simp only [lim] at g
  refine callE_def env (fn := Try.f29) rfl (by decide) rfl ?_
  refine callT_E c rfl ?_
  repeat (first | refine branch_t' (by decide +kernel) ?_ | refine branch_f' (by decide +kernel) ?_)
  show Eqv (.tuple [.int .u16 _, _]) _
  refine eqv_of_eq (congrArg (fun x => AVal.tuple [.int .u16 x, .int .i64 0]) ?_)
  show IntKind.u16.wrap (IntKind.i64.wrap (26624 + IntKind.i64.wrap (d 25))) = 26624 + d 25
  rw [wi (x := d 25) (by omega) (by omega), wi (by omega) (by omega), wu16 (by omega) (by omega)]
theorem rrow_c {d : Nat → Int} (hd : Good d) {n : Nat} (h1 : 1 ≤ n) (h2 : n ≤ 13) : callP Try.prog 29 [dispA d, .int .i64 n] (· = .tuple [.int .u16 (rowW d n), .int .i64 0]) := by
  match n, h1, h2 with
  | 1, _, _ => exact rrow1 hd
  | 2, _, _ => exact rrow2 hd
  | 3, _, _ => exact rrow3 hd
  | 4, _, _ => exact rrow4 hd
  | 5, _, _ => exact rrow5 hd
  | 6, _, _ => exact rrow6 hd
  | 7, _, _ => exact rrow7 hd
  | 8, _, _ => exact rrow8 hd
  | 9, _, _ => exact rrow9 hd
  | 10, _, _ => exact rrow10 hd
  | 11, _, _ => exact rrow11 hd
  | 12, _, _ => exact rrow12 hd
  | 13, _, _ => exact rrow13 hd
end Go.Proofs
/-! Bc. -/
namespace Go.Proofs
open Go.E
set_option maxRecDepth 8000

theorem tm_pos {a b : Int} (h : 0 ≤ a) : Int.tmod a b = a % b := Int.tmod_eq_emod_of_nonneg h
theorem td_pos {a b : Int} (h : 0 ≤ a) : Int.tdiv a b = a / b := Int.tdiv_eq_ediv_of_nonneg h
theorem rn_of {w : Int} (h0 : 0 ≤ w) (h1 : w < 65536) : Int.tmod (IntKind.i64.wrap w) 32768 = w % 32768 := by
  rw [wi (x := w) (by omega) (by omega), tm_pos h0]
theorem rr_of {w : Int} (h0 : 0 ≤ w) (h1 : w < 65536) : IntKind.i64.wrap (Int.tdiv (Int.tmod (IntKind.i64.wrap w) 32768) 2048) = w / 2048 % 16 := by
  rw [rn_of h0 h1, td_pos (by omega), wi (by omega) (by omega)]
  omega
theorem rlc_of {w : Int} (h0 : 0 ≤ w) : IntKind.u8.wrap (Int.tmod (IntKind.i64.wrap (Int.tdiv (w % 32768) 32)) 32) = w / 32 % 32 := by
  rw [td_pos (by omega), wi (x := w % 32768 / 32) (by omega) (by omega), tm_pos (by omega), wu8 (by omega) (by omega)]
  omega
theorem rrc_of {w : Int} (h0 : 0 ≤ w) : IntKind.u8.wrap (Int.tmod (w % 32768) 32) = w % 32 := by
  rw [tm_pos (by omega), wu8 (by omega) (by omega)]
  omega
theorem eonv {w : Int} (h0 : 0 ≤ w) : Int.tmod (IntKind.i64.wrap (Int.tdiv (w % 32768) 1024)) 2 = if onB w = true then 1 else 0 := by
  rw [td_pos (by omega), wi (x := w % 32768 / 1024) (by omega) (by omega), tm_pos (by omega)]
  unfold onB
  by_cases h : w / 1024 % 2 = 1
  · rw [decide_eq_true h, if_pos rfl]; omega
  · rw [decide_eq_false h, if_neg (by decide)]; omega
theorem reon {w : Int} (h0 : 0 ≤ w) : (Int.tmod (IntKind.i64.wrap (Int.tdiv (w % 32768) 1024)) 2 == 1) = onB w := by
  rw [eonv h0]
  cases onB w <;> rfl
theorem rapply_bad {d : Nat → Int} (hm : mayB d = false) (w : Int) : callP Try.prog 17 [dispA d, .int .u16 w] (· = .tuple [dispA (fun _ => 0), .int .i64 2]) := by
  have c := rmay_c (d := d)
  rw [hm] at c
  refine callE_def env (fn := Try.f17) rfl (by decide) rfl ?_
  refine callT_E c rfl ?_
  repeat (first | refine branch_true ?_ | refine branch_false ?_ | refine branch_f' (bne_self_eq_false _) ?_ | refine branch_t' (beq_self_eq_true _) ?_ | refine branch_t' (decide_eq_true rfl) ?_)
  show Eqv _ _
  exact .up (.up (.refl _))
theorem rapply_r0 {d : Nat → Int} (hm : mayB d = true) {w : Int} (h0 : 0 ≤ w) (h1 : w < 65536) (hr : w / 2048 % 16 = 0) : callP Try.prog 17 [dispA d, .int .u16 w] (· = .tuple [dispA (fun _ => 0), .int .i64 3]) := by
  have c := rmay_c (d := d)
  rw [hm] at c
  have er := rr_of h0 h1
  rw [hr] at er
  have en := rn_of h0 h1
  have ecl := rlc_of (w := w) h0
  have ecr := rrc_of (w := w) h0
  have eon := reon h0
  refine callE_def env (fn := Try.f17) rfl (by decide) rfl ?_
  refine callT_E c rfl ?_
  repeat (first | refine branch_true ?_ | refine branch_false ?_ | refine branch_f' (bne_self_eq_false _) ?_ | refine branch_t' (beq_self_eq_true _) ?_ | refine branch_t' (decide_eq_true rfl) ?_)
  repeat (refine need_intro (by decide) ?_)
  conv => whnf
  rw [er, en]
  repeat (first | refine branch_t' (by decide +kernel) ?_ | refine branch_f' (by decide +kernel) ?_)
  repeat (refine need_intro (by decide) ?_)
  repeat (first | refine branch_t' (by decide +kernel) ?_ | refine branch_f' (by decide +kernel) ?_)
  show Eqv _ _
  exact .up (.up (.refl _))
theorem rapply_r14 {d : Nat → Int} (hm : mayB d = true) {w : Int} (h0 : 0 ≤ w) (h1 : w < 65536) (hr : w / 2048 % 16 = 14) : callP Try.prog 17 [dispA d, .int .u16 w] (· = .tuple [dispA (fun _ => 0), .int .i64 3]) := by
  have c := rmay_c (d := d)
  rw [hm] at c
  have er := rr_of h0 h1
  rw [hr] at er
  have en := rn_of h0 h1
  have ecl := rlc_of (w := w) h0
  have ecr := rrc_of (w := w) h0
  have eon := reon h0
  refine callE_def env (fn := Try.f17) rfl (by decide) rfl ?_
  refine callT_E c rfl ?_
  repeat (first | refine branch_true ?_ | refine branch_false ?_ | refine branch_f' (bne_self_eq_false _) ?_ | refine branch_t' (beq_self_eq_true _) ?_ | refine branch_t' (decide_eq_true rfl) ?_)
  repeat (refine need_intro (by decide) ?_)
  conv => whnf
  rw [er, en]
  repeat (first | refine branch_t' (by decide +kernel) ?_ | refine branch_f' (by decide +kernel) ?_)
  repeat (refine need_intro (by decide) ?_)
  repeat (first | refine branch_t' (by decide +kernel) ?_ | refine branch_f' (by decide +kernel) ?_)
  show Eqv _ _
  exact .up (.up (.refl _))
theorem rapply_r15 {d : Nat → Int} (hm : mayB d = true) {w : Int} (h0 : 0 ≤ w) (h1 : w < 65536) (hr : w / 2048 % 16 = 15) : callP Try.prog 17 [dispA d, .int .u16 w] (· = .tuple [dispA (fun _ => 0), .int .i64 3]) := by
  have c := rmay_c (d := d)
  rw [hm] at c
  have er := rr_of h0 h1
  rw [hr] at er
  have en := rn_of h0 h1
  have ecl := rlc_of (w := w) h0
  have ecr := rrc_of (w := w) h0
  have eon := reon h0
  refine callE_def env (fn := Try.f17) rfl (by decide) rfl ?_
  refine callT_E c rfl ?_
  repeat (first | refine branch_true ?_ | refine branch_false ?_ | refine branch_f' (bne_self_eq_false _) ?_ | refine branch_t' (beq_self_eq_true _) ?_ | refine branch_t' (decide_eq_true rfl) ?_)
  repeat (refine need_intro (by decide) ?_)
  conv => whnf
  rw [er, en]
  repeat (first | refine branch_t' (by decide +kernel) ?_ | refine branch_f' (by decide +kernel) ?_)
  repeat (refine need_intro (by decide) ?_)
  repeat (first | refine branch_t' (by decide +kernel) ?_ | refine branch_f' (by decide +kernel) ?_)
  show Eqv _ _
  exact .up (.up (.refl _))
theorem rapply_r12 {d : Nat → Int} (hm : mayB d = true) {w : Int} (h0 : 0 ≤ w) (h1 : w < 65536) (hr : w / 2048 % 16 = 12) : callP Try.prog 17 [dispA d, .int .u16 w] (· = .tuple [dispA (upd d 24 (w % 2048)), .int .i64 0]) := by
  have ew : IntKind.u16.wrap (Int.tmod (w % 32768) 2048) = w % 2048 := by rw [tm_pos (by omega), wu16 (by omega) (by omega)]; omega
  have c := rmay_c (d := d)
  rw [hm] at c
  have er := rr_of h0 h1
  rw [hr] at er
  have en := rn_of h0 h1
  have ecl := rlc_of (w := w) h0
  have ecr := rrc_of (w := w) h0
  have eon := reon h0
  refine callE_def env (fn := Try.f17) rfl (by decide) rfl ?_
  refine callT_E c rfl ?_
  repeat (first | refine branch_true ?_ | refine branch_false ?_ | refine branch_f' (bne_self_eq_false _) ?_ | refine branch_t' (beq_self_eq_true _) ?_ | refine branch_t' (decide_eq_true rfl) ?_)
  repeat (refine need_intro (by decide) ?_)
  conv => whnf
  rw [er, en]
  repeat (first | refine branch_t' (by decide +kernel) ?_ | refine branch_f' (by decide +kernel) ?_)
  repeat (refine need_intro (by decide) ?_)
  repeat (first | refine branch_t' (by decide +kernel) ?_ | refine branch_f' (by decide +kernel) ?_)
  show Eqv (.tuple [.agg _, _]) _
  rw [← ew]
  show Eqv _ _
  exact .up (.up (.refl _))
theorem rapply_r13 {d : Nat → Int} (hm : mayB d = true) {w : Int} (h0 : 0 ≤ w) (h1 : w < 65536) (hr : w / 2048 % 16 = 13) : callP Try.prog 17 [dispA d, .int .u16 w] (· = .tuple [dispA (upd d 25 (w % 2048)), .int .i64 0]) := by
  have ew : IntKind.u16.wrap (Int.tmod (w % 32768) 2048) = w % 2048 := by rw [tm_pos (by omega), wu16 (by omega) (by omega)]; omega
  have c := rmay_c (d := d)
  rw [hm] at c
  have er := rr_of h0 h1
  rw [hr] at er
  have en := rn_of h0 h1
  have ecl := rlc_of (w := w) h0
  have ecr := rrc_of (w := w) h0
  have eon := reon h0
  refine callE_def env (fn := Try.f17) rfl (by decide) rfl ?_
  refine callT_E c rfl ?_
  repeat (first | refine branch_true ?_ | refine branch_false ?_ | refine branch_f' (bne_self_eq_false _) ?_ | refine branch_t' (beq_self_eq_true _) ?_ | refine branch_t' (decide_eq_true rfl) ?_)
  repeat (refine need_intro (by decide) ?_)
  conv => whnf
  rw [er, en]
  repeat (first | refine branch_t' (by decide +kernel) ?_ | refine branch_f' (by decide +kernel) ?_)
  repeat (refine need_intro (by decide) ?_)
  repeat (first | refine branch_t' (by decide +kernel) ?_ | refine branch_f' (by decide +kernel) ?_)
  show Eqv (.tuple [.agg _, _]) _
  rw [← ew]
  show Eqv _ _
  exact .up (.up (.refl _))
end Go.Proofs
