/- Chapter 33: Exact, walked. -/
import Derived.Test.YtpgeapbmdljllaaC10
import Derived.Test.YtpgeapbmdljllaaC7
set_option linter.unusedVariables false
set_option linter.unusedSimpArgs false
/-! Ei. -/
namespace Go.Proofs.N13
open Go.E
set_option maxRecDepth 8000

theorem winB {K L : Nat} {x : Dy} (h : Bd K L x) (hK : K ≤ 2000) (hL : L ≤ 2000) : x.within = true := h.within (by omega) (by omega) (by omega)
/-- The velocity, term by term. -/
theorem axY_alt {p L K : Nat} {y d g h : Dy} (hy : Bd K L y) (hd : Bd K L d) (hg : Bd K L g) (hh : Bd K L h) (hp : p + 1 ≤ 100) :
    plusD (plusD (plusD y d) (mulD (pwD (p + 1)) g)) (mulD (pwD (p + 1)) h) = axY p y d g h := by
  have m1 := hg.pw (n := p + 1) (K' := K + (p + 1)) (by omega)
  have m2 := hh.pw (n := p + 1) (K' := K + (p + 1)) (by omega)
  have a1 := hy.plus hd
  have m3 := (hg.plus hh).pw (n := p + 1) (K' := K + (p + 1)) (by omega)
  have b1 := (a1.wide (K' := K + (p + 1)) (by omega)).plus m1
  have e1 : V (K + (p + 1)) (mulD (pwD (p + 1)) g) = V K g := by rw [Nat.add_comm]; exact V_pw hg.exp
  have e2 : V (K + (p + 1)) (mulD (pwD (p + 1)) h) = V K h := by rw [Nat.add_comm]; exact V_pw hh.exp
  have e3 : V (K + (p + 1)) (mulD (pwD (p + 1)) (plusD g h)) = V K g + V K h := by rw [Nat.add_comm, V_pw (hg.plus hh).exp, V_plus hg.exp hh.exp]
  have c1 := b1.plus (m2.mono (Nat.le_succ _))
  have c2 := ((a1.mono (Nat.le_succ _)).wide (K' := K + (p + 1)) (by omega)).plus m3
  refine V_inj (K := K + (p + 1)) c1.canon c2.canon c1.exp c2.exp ?_
  rw [V_plus b1.exp m2.exp, V_plus (a1.wide (K' := K + (p + 1)) (by omega)).exp m1.exp, e1, e2]
  unfold axY
  rw [V_plus (a1.wide (K' := K + (p + 1)) (by omega)).exp m3.exp, e3, Int.add_assoc]

theorem callT_read {P : Program} {n0 : Nat} {f : FuncId} {l tm : List AVal} {H : Heap} {v : AVal} {k : List AVal → AVal → Heap → Prop} (h : readN P f l H v) (hk : k tm v H) : callT P n0 f l tm H k := by
  have h2 := h.2 []
  rw [List.append_nil] at h2
  exact callT_of_N (callN_mono h2 (by rintro x H' ⟨rfl, rfl⟩; exact hk))

abbrev dyZs : AVal := .agg [.bool false, .nilslice, .int .i64 0, .bool false, .nilslice, .int .i64 0, .bool false, .nilslice, .int .i64 0]
abbrev dy3 (a b c : Dy) : AVal := .agg (dyC a ++ dyC b ++ dyC c)
set_option maxHeartbeats 4000000 in
theorem exact_no {g r v : Nat → Int} {k0 k1 p : Int} {n : Nat} {D : Nat → Nat → Int} (w0 : W16 k0) (w1 : W16 k1) (hv : validB k0 k1 p = false) :
    callP Try.prog 32 [gravA g k0 k1 p, stateA r v, vecs n D] (· = .tuple [dyZs, dyZs, .int .i64 2]) := by
  refine callE_def env (fn := Try.f32) rfl (by decide) rfl ?_
  repeat refine stp ?_
  refine callT_E (valid_c w0 w1) rfl ?_
  rw [hv]
  repeat refine stp ?_
  refine draw_tree (picks [0] (.fork 1 2 (picks [2, 3, 4] .done) (picks [1, 3, 4] .done))) (by decide +kernel) ?_
  constructor
  · repeat refine stp ?_
    show Eqv _ _
    exact .up (.up (.refl _))
  · repeat refine stp ?_
    show Eqv _ _
    exact .up (.up (.refl _))
set_option maxHeartbeats 4000000 in
theorem exact_lim {g r v : Nat → Int} {k0 k1 p : Int} {n : Nat} {D : Nat → Nat → Int} (w0 : W16 k0) (w1 : W16 k1) (hv : validB k0 k1 p = true) (hn : 100 < n) :
    callP Try.prog 32 [gravA g k0 k1 p, stateA r v, vecs n D] (· = .tuple [dyZs, dyZs, .int .i64 4]) := by
  refine callE_def env (fn := Try.f32) rfl (by decide) rfl ?_
  repeat refine stp ?_
  refine callT_E (valid_c w0 w1) rfl ?_
  rw [hv]
  repeat refine stp ?_
  refine draw_tree (picks [0] (.fork 1 2 (picks [2, 3, 4] .done) (picks [1, 3, 4] .done))) (by decide +kernel) ?_
  constructor
  · repeat refine stp ?_
    show Eqv _ _
    exact .up (.up (.refl _))
  · repeat refine stp ?_
    show Eqv _ _
    exact .up (.up (.refl _))
def resC (f : Nat → Dy) : Nat → List AVal
  | 0 => [.bool false, .nilslice, .int .i64 0, .bool false, .nilslice, .int .i64 0, .bool false, .nilslice, .int .i64 0]
  | 1 => dyC (f 0) ++ [.bool false, .nilslice, .int .i64 0, .bool false, .nilslice, .int .i64 0]
  | 2 => dyC (f 0) ++ dyC (f 1) ++ [.bool false, .nilslice, .int .i64 0]
  | _ => dyC (f 0) ++ dyC (f 1) ++ dyC (f 2)
set_option maxHeartbeats 40000000 in
theorem exact_ok {g r v : Nat → Int} {k0 k1 : Int} {p n : Nat} {D : Nat → Nat → Int} (wg : WV g) (wr : WV r) (wv : WV v) (wD : ∀ j, j < n → WV (D j)) (w0 : W16 k0) (w1 : W16 k1) (hp : 4 ≤ p ∧ p ≤ 14) (hn : n ≤ 6) (hv : validB k0 k1 p = true) :
    callP Try.prog 32 [gravA g k0 k1 p, stateA r v, vecs n D] (· = .tuple [dy3 (axC p g k0 k1 D r v 0 n).1 (axC p g k0 k1 D r v 1 n).1 (axC p g k0 k1 D r v 2 n).1,
      dy3 (axC p g k0 k1 D r v 0 n).2 (axC p g k0 k1 D r v 1 n).2 (axC p g k0 k1 D r v 2 n).2, .int .i64 0]) := by
  refine callE_def env (fn := Try.f32) rfl (by decide) rfl ?_
  repeat refine stp ?_
  refine callT_E (valid_c w0 w1) rfl ?_
  rw [hv]
  repeat refine stp ?_
  refine loop_weak (fun i : Nat => slots 119 [(2, vecs n D), (3, .ptr ⟨0, 0, 0⟩), (4, .ptr ⟨1, 0, 0⟩), (6, .ptr ⟨2, 0, 0⟩), (7, .ptr ⟨3, 0, 0⟩), (8, .int .i64 0), (9, .ptr ⟨4, 0, 0⟩), (10, .ptr ⟨5, 0, 0⟩), (11, .ptr ⟨6, 0, 0⟩), (12, .ptr ⟨7, 0, 0⟩), (13, .fn (.func 61) [] [.ptr ⟨7, 0, 0⟩]), (14, .fn (.func 64) [] [.ptr ⟨7, 0, 0⟩]), (36, .int .i64 i)]) (fun i => [.cells (gcells g k0 k1 p), .cells (scells r v), .cells [.bool false, .nilslice, .int .i64 0, .bool false, .nilslice, .int .i64 0, .bool false, .nilslice, .int .i64 0], .cells [.bool false, .nilslice, .int .i64 0, .bool false, .nilslice, .int .i64 0, .bool false, .nilslice, .int .i64 0], .cells (resC (fun i => (axC p g k0 k1 D r v i n).1) i), .cells (resC (fun i => (axC p g k0 k1 D r v i n).2) i), eB, kB 6]) (fun i => i ≤ 3) (fun i => 3 - i) 0 (Nat.zero_le _) (weak_keep (keep 119 [2, 3, 4, 6, 7, 8, 9, 10, 11, 12, 13, 14, 36]) [0, 1, 2, 3, 4, 5, 6, 7] rfl rfl rfl) ?_
  intro i hi
  match i, hi with
  | 0, _ =>
    repeat refine stp ?_
    refine draw_treeW (picks [0, 1, 2, 3, 4, 5, 6, 7, 8, 9] (.fork 10 11 (picks [11, 12, 13] .done) (picks [10, 12, 13] .done))) (by decide +kernel) ?_
    repeat refine stp ?_
    refine ⟨_, ⟨double_c (wr 0 (by decide)) (wr 1 (by decide)), rfl⟩, ?_⟩
    repeat refine stp ?_
    refine ⟨_, ⟨double_c (wv 0 (by decide)) (wv 1 (by decide)), rfl⟩, ?_⟩
    repeat refine stp ?_
    refine And.intro (end_weak (weak_keep (tm' := slots 119 [(2, vecs n D), (3, .ptr ⟨0, 0, 0⟩), (4, .ptr ⟨1, 0, 0⟩), (6, .ptr ⟨2, 0, 0⟩), (7, .ptr ⟨3, 0, 0⟩), (8, .int .i64 0), (9, .ptr ⟨4, 0, 0⟩), (10, .ptr ⟨5, 0, 0⟩), (11, .ptr ⟨6, 0, 0⟩), (12, .ptr ⟨7, 0, 0⟩), (13, .fn (.func 61) [] [.ptr ⟨7, 0, 0⟩]), (14, .fn (.func 64) [] [.ptr ⟨7, 0, 0⟩]), (15, .ptr ⟨8, 0, 0⟩), (16, .fn (.func 66) [] [.ptr ⟨7, 0, 0⟩, .ptr ⟨0, 0, 0⟩, .ptr ⟨8, 0, 0⟩]), (17, .ptr ⟨9, 0, 0⟩), (18, .ptr ⟨10, 0, 0⟩), (36, .int .i64 0)]) (H' := [.cells (gcells g k0 k1 p), .cells (scells r v), .cells [.bool false, .nilslice, .int .i64 0, .bool false, .nilslice, .int .i64 0, .bool false, .nilslice, .int .i64 0], .cells [.bool false, .nilslice, .int .i64 0, .bool false, .nilslice, .int .i64 0, .bool false, .nilslice, .int .i64 0], .cells (resC (fun i => (axC p g k0 k1 D r v i n).1) 0), .cells (resC (fun i => (axC p g k0 k1 D r v i n).2) 0), eB, kB 6, .cells [.int .i64 0], .cells (dyC (axC p g k0 k1 D r v 0 0).1), .cells (dyC (axC p g k0 k1 D r v 0 0).2)]) (keep 119 [2, 3, 4, 6, 7, 8, 9, 10, 11, 12, 13, 14, 15, 16, 17, 18, 36]) [0, 1, 2, 3, 4, 5, 6, 7, 8, 9, 10] rfl rfl rfl) ?c0) (end_weak (weak_keep (tm' := slots 119 [(2, vecs n D), (3, .ptr ⟨0, 0, 0⟩), (4, .ptr ⟨1, 0, 0⟩), (6, .ptr ⟨2, 0, 0⟩), (7, .ptr ⟨3, 0, 0⟩), (8, .int .i64 0), (9, .ptr ⟨4, 0, 0⟩), (10, .ptr ⟨5, 0, 0⟩), (11, .ptr ⟨6, 0, 0⟩), (12, .ptr ⟨7, 0, 0⟩), (13, .fn (.func 61) [] [.ptr ⟨7, 0, 0⟩]), (14, .fn (.func 64) [] [.ptr ⟨7, 0, 0⟩]), (15, .ptr ⟨8, 0, 0⟩), (16, .fn (.func 66) [] [.ptr ⟨7, 0, 0⟩, .ptr ⟨0, 0, 0⟩, .ptr ⟨8, 0, 0⟩]), (17, .ptr ⟨9, 0, 0⟩), (18, .ptr ⟨10, 0, 0⟩), (36, .int .i64 0)]) (H' := [.cells (gcells g k0 k1 p), .cells (scells r v), .cells [.bool false, .nilslice, .int .i64 0, .bool false, .nilslice, .int .i64 0, .bool false, .nilslice, .int .i64 0], .cells [.bool false, .nilslice, .int .i64 0, .bool false, .nilslice, .int .i64 0, .bool false, .nilslice, .int .i64 0], .cells (resC (fun i => (axC p g k0 k1 D r v i n).1) 0), .cells (resC (fun i => (axC p g k0 k1 D r v i n).2) 0), eB, kB 6, .cells [.int .i64 0], .cells (dyC (axC p g k0 k1 D r v 0 0).1), .cells (dyC (axC p g k0 k1 D r v 0 0).2)]) (keep 119 [2, 3, 4, 6, 7, 8, 9, 10, 11, 12, 13, 14, 15, 16, 17, 18, 36]) [0, 1, 2, 3, 4, 5, 6, 7, 8, 10, 9] rfl rfl rfl) ?c0)
    repeat refine stp ?_
    refine loop_weak (fun j : Nat => slots 119 [(2, vecs n D), (3, .ptr ⟨0, 0, 0⟩), (4, .ptr ⟨1, 0, 0⟩), (6, .ptr ⟨2, 0, 0⟩), (7, .ptr ⟨3, 0, 0⟩), (8, .int .i64 0), (9, .ptr ⟨4, 0, 0⟩), (10, .ptr ⟨5, 0, 0⟩), (11, .ptr ⟨6, 0, 0⟩), (12, .ptr ⟨7, 0, 0⟩), (13, .fn (.func 61) [] [.ptr ⟨7, 0, 0⟩]), (14, .fn (.func 64) [] [.ptr ⟨7, 0, 0⟩]), (15, .ptr ⟨8, 0, 0⟩), (16, .fn (.func 66) [] [.ptr ⟨7, 0, 0⟩, .ptr ⟨0, 0, 0⟩, .ptr ⟨8, 0, 0⟩]), (17, .ptr ⟨9, 0, 0⟩), (18, .ptr ⟨10, 0, 0⟩), (36, .int .i64 0), (50, vecs n D), (51, .int .i64 n), (52, .int .i64 j)])
      (fun j => [.cells (gcells g k0 k1 p), .cells (scells r v), .cells [.bool false, .nilslice, .int .i64 0, .bool false, .nilslice, .int .i64 0, .bool false, .nilslice, .int .i64 0], .cells [.bool false, .nilslice, .int .i64 0, .bool false, .nilslice, .int .i64 0, .bool false, .nilslice, .int .i64 0], .cells (resC (fun i => (axC p g k0 k1 D r v i n).1) 0), .cells (resC (fun i => (axC p g k0 k1 D r v i n).2) 0), eB, kB 6, .cells [.int .i64 0], .cells (dyC (axC p g k0 k1 D r v 0 j).1), .cells (dyC (axC p g k0 k1 D r v 0 j).2)])
      (fun j => j ≤ n) (fun j => n - j) 0 (Nat.zero_le _) (weak_keep (keep 119 [2, 3, 4, 6, 7, 8, 9, 10, 11, 12, 13, 14, 15, 16, 17, 18, 36, 50, 51, 52]) [0, 1, 2, 3, 4, 5, 6, 7, 8, 9, 10] rfl rfl rfl) ?_
    intro j hj
    have ej : IntKind.i64.wrap ((j : Int) + 1) = ((j + 1 : Nat) : Int) := by rw [wi (by omega) (by omega)]; rfl
    apply branch_intro <;> intro h
    · have hlt : j < n := by simp at h; omega
      have kj : axM p j ≤ 600 := by
        have : j * (3 * p + 58) ≤ 6 * 100 := Nat.mul_le_mul (by omega) (by omega)
        unfold axM
        omega
      obtain ⟨b1, b2⟩ := axC_bd p g k0 k1 D r v 0 j
      have eX : (axC p g k0 k1 D r v 0 (j + 1)).1 = axX p (axC p g k0 k1 D r v 0 j).1 (axC p g k0 k1 D r v 0 j).2 (dblD (D j 0) (D j 1)) (axG (dblD (g 0) (g 1)) (dblD k0 k1) (axC p g k0 k1 D r v 0 j).1) := rfl
      have eY : (axC p g k0 k1 D r v 0 (j + 1)).2 = axY p (axC p g k0 k1 D r v 0 j).2 (dblD (D j 0) (D j 1)) (axG (dblD (g 0) (g 1)) (dblD k0 k1) (axC p g k0 k1 D r v 0 j).1)
          (axG (dblD (g 0) (g 1)) (dblD k0 k1) (axX p (axC p g k0 k1 D r v 0 j).1 (axC p g k0 k1 D r v 0 j).2 (dblD (D j 0) (D j 1)) (axG (dblD (g 0) (g 1)) (dblD k0 k1) (axC p g k0 k1 D r v 0 j).1))) := rfl
      generalize hX : (axC p g k0 k1 D r v 0 j).1 = X at *
      generalize hY : (axC p g k0 k1 D r v 0 j).2 = Y at *
      have hG := dbl_bd (g 0) (g 1)
      have hK := dbl_bd k0 k1
      have hDj := dbl_bd (D j 0) (D j 1)
      have m1 := hK.mul b1
      have g1 := axG_bd hG hK b1
      have q1 := b1.wide (K' := 28 + (28 + axM p j) + (2 * p + 1)) (by omega)
      have q2 := b2.pw (n := p) (K' := 28 + (28 + axM p j) + (2 * p + 1)) (by omega)
      have s1 := (q1.mono (Nat.le_succ _)).plus q2
      have q3 := (hDj.pw (n := p + 1) (K' := 28 + (28 + axM p j) + (2 * p + 1)) (by omega)).mono (show 0 + 1 ≤ 10 * j + 1 + 1 by omega)
      have s2 := s1.plus q3
      have q4 := (g1.pw (n := 2 * p + 1) (K' := 28 + (28 + axM p j) + (2 * p + 1)) (by omega)).mono (show 10 * j + 1 + 1 ≤ 10 * j + 1 + 1 + 1 by omega)
      have s3 := s2.plus q4
      have m2 := hK.mul s3
      have h1 := axG_bd hG hK s3
      have u1 := b2.plus ((hDj.wide (K' := 28 + axM p j) (by omega)).mono (Nat.zero_le (10 * j)))
      have u2 := (g1.pw (n := p + 1) (K' := 28 + (28 + axM p j) + (p + 1)) (by omega))
      have u3 := ((u1.mono (Nat.le_succ _)).wide (K' := 28 + (28 + axM p j) + (p + 1)) (by omega)).plus u2
      have u4 := (h1.pw (n := p + 1) (K' := 28 + (28 + (28 + axM p j) + (2 * p + 1)) + (p + 1)) (by omega))
      have u5 := ((u3.wide (K' := 28 + (28 + (28 + axM p j) + (2 * p + 1)) + (p + 1)) (by omega)).mono (show 10 * j + 1 + 1 + 1 ≤ 10 * j + 1 + 1 + 1 + 1 + 1 + 1 by omega))
      have eA := axY_alt (p := p) (L := 10 * j + 1 + 1 + 1 + 1 + 1) (K := 28 + (28 + (28 + axM p j) + (2 * p + 1))) ((b2.wide (by omega)).mono (by omega)) ((hDj.wide (by omega)).mono (by omega)) ((g1.wide (by omega)).mono (by omega)) h1 (by omega)
      have wY : (plusD (plusD (plusD Y (dblD (D j 0) (D j 1))) (mulD (pwD (p + 1)) (axG (dblD (g 0) (g 1)) (dblD k0 k1) X))) (mulD (pwD (p + 1)) (axG (dblD (g 0) (g 1)) (dblD k0 k1) (axX p X Y (dblD (D j 0) (D j 1)) (axG (dblD (g 0) (g 1)) (dblD k0 k1) X))))).within = true := winB (u5.plus u4) (by omega) (by omega)
      have W1 := winB b1 (by omega) (by omega)
      have W2 := winB b2 (by omega) (by omega)
      have Fx := field_n (G := dblD (g 0) (g 1)) (k := dblD k0 k1) (x := X) (g := g) (k0 := k0) (k1 := k1) (p := p) (i := 0) (by decide) wg w0 w1 rfl rfl b1.canon W1 (winB m1 (by omega) (by omega)) (winB g1 (by omega) (by omega))
      have S1 := scaled_n (x := Y) (n := p) (by omega) b2.canon W2 (winB q2 (by omega) (by omega))
      have S2 := scaled_n (x := dblD (D j 0) (D j 1)) (n := p + 1) (by omega) hDj.canon (winB hDj (by omega) (by omega)) (winB q3 (by omega) (by omega))
      have S3 := scaled_n (x := axG (dblD (g 0) (g 1)) (dblD k0 k1) X) (n := 2 * p + 1) (by omega) g1.canon (winB g1 (by omega) (by omega)) (winB q4 (by omega) (by omega))
      have A1 := add_n b1.canon q2.canon q3.canon q4.canon W1 (winB q2 (by omega) (by omega)) (winB q3 (by omega) (by omega)) (winB q4 (by omega) (by omega)) (winB s1 (by omega) (by omega)) (winB s2 (by omega) (by omega)) (winB s3 (by omega) (by omega))
      have Fh := field_n (G := dblD (g 0) (g 1)) (k := dblD k0 k1) (x := axX p X Y (dblD (D j 0) (D j 1)) (axG (dblD (g 0) (g 1)) (dblD k0 k1) X)) (g := g) (k0 := k0) (k1 := k1) (p := p) (i := 0) (by decide) wg w0 w1 rfl rfl s3.canon (winB s3 (by omega) (by omega)) (winB m2 (by omega) (by omega)) (winB h1 (by omega) (by omega))
      have S4 := scaled_n (x := axG (dblD (g 0) (g 1)) (dblD k0 k1) X) (n := p + 1) (by omega) g1.canon (winB g1 (by omega) (by omega)) (winB u2 (by omega) (by omega))
      have S5 := scaled_n (x := axG (dblD (g 0) (g 1)) (dblD k0 k1) (axX p X Y (dblD (D j 0) (D j 1)) (axG (dblD (g 0) (g 1)) (dblD k0 k1) X))) (n := p + 1) (by omega) h1.canon (winB h1 (by omega) (by omega)) (winB u4 (by omega) (by omega))
      have A2 := add_n b2.canon hDj.canon u2.canon u4.canon W2 (winB hDj (by omega) (by omega)) (winB u2 (by omega) (by omega)) (winB u4 (by omega) (by omega)) (winB u1 (by omega) (by omega)) (winB u3 (by omega) (by omega)) wY
      rw [eA] at A2
      repeat refine stp ?_
      refine callT_E (double_c (wD j hlt 0 (by decide)) (wD j hlt 1 (by decide))) rfl ?_
      repeat refine stp ?_
      refine callT_read (readN_of [6, 7, 0, 8] rfl rfl (fun _ => rfl) Fx (fun _ => rfl)) ?_
      repeat refine stp ?_
      refine draw_tree (picks (List.range 23) .done) (by decide +kernel) ?_
      repeat refine stp ?_
      refine ⟨_, readN_of [6, 7] rfl rfl (fun _ => rfl) S1 (fun _ => rfl), ?_⟩
      repeat refine stp ?_
      refine ⟨_, readN_of [6, 7] rfl rfl (fun _ => rfl) (show callN Try.prog 61 [_, .int .i64 (IntKind.i64.wrap ((p : Int) + 1)), _] _ _ by rw [wi (by omega) (by omega)]; exact S2) (fun _ => rfl), ?_⟩
      repeat refine stp ?_
      refine ⟨_, readN_of [6, 7] rfl rfl (fun _ => rfl) (show callN Try.prog 61 [_, .int .i64 (IntKind.i64.wrap (IntKind.i64.wrap (2 * (p : Int)) + 1)), _] _ _ by rw [wi (x := 2 * (p : Int)) (by omega) (by omega), wi (by omega) (by omega)]; exact S3) (fun _ => rfl), ?_⟩
      repeat refine stp ?_
      apply choice_l
      repeat refine stp ?_
      refine ⟨_, readN_of [6, 7] rfl rfl (fun _ => rfl) A1 (fun _ => rfl), ?_⟩
      repeat refine stp ?_
      refine draw_tree (picks (List.range 20) .done) (by decide +kernel) ?_
      repeat refine stp ?_
      refine ⟨_, readN_of [6, 7] rfl rfl (fun _ => rfl) (show callN Try.prog 61 [_, .int .i64 (IntKind.i64.wrap ((p : Int) + 1)), _] _ _ by rw [wi (by omega) (by omega)]; exact S4) (fun _ => rfl), ?_⟩
      repeat refine stp ?_
      refine ⟨_, readN_of [6, 7, 0, 8] rfl rfl (fun _ => rfl) Fh (fun _ => rfl), ?_⟩
      repeat refine stp ?_
      refine ⟨_, readN_of [6, 7] rfl rfl (fun _ => rfl) (show callN Try.prog 61 [_, .int .i64 (IntKind.i64.wrap ((p : Int) + 1)), _] _ _ by rw [wi (by omega) (by omega)]; exact S5) (fun _ => rfl), ?_⟩
      repeat refine stp ?_
      apply choice_l
      repeat refine stp ?_
      refine ⟨_, readN_of [6, 7] rfl rfl (fun _ => rfl) A2 (fun _ => rfl), ?_⟩
      repeat refine stp ?_
      refine ⟨j + 1, hlt, by omega, weak_keep (keep 119 [2, 3, 4, 6, 7, 8, 9, 10, 11, 12, 13, 14, 15, 16, 17, 18, 36, 50, 51, 52]) [0, 1, 2, 3, 4, 5, 6, 7, 8, 9, 10] rfl ?_ ?_⟩
      · show [_, _, _, _, _, _, _, _, _, _, _, _, _, _, _, _, _, _, _, _, _, _, _, _, _, _, _, _, _, _, _, _, _, _, _, _, _, _, _, _, _, _, _, _, _, _, _, _, _, _, _, _, _, _, _, _, _, _, _, _, _, _, _, _, _, _, _, _, _, _, _, _, _, _, _, _, _, _, _, _, _, _, _, _, _, _, _, _, _, _, _, _, _, _, _, _, _, _, _, _, _, _, _, _, _, _, _, _, _, _, _, _, _, _, _, _, _, _, _] = _
        rw [ej]
        rfl
      · rw [eX, eY]
        rfl
    have ej2 : n = j := by simp at h; omega
    clear ej h
    subst ej2
    repeat refine stp ?_
    refine draw_tree (picks [0, 2, 4] (.fork3 1 3 5 (picks [] (.fork 3 5 (picks [5, 6, 7] .done) (picks [3, 6, 7] .done))) (picks [] (.fork 1 5 (picks [5, 6, 7] .done) (picks [1, 6, 7] .done))) (picks [1, 3, 6, 7] .done))) (by decide +kernel) ?_
    repeat refine stp ?_
    refine And.intro (And.intro ?_ ?_) (And.intro (And.intro ?_ ?_) ?_)
    all_goals
      repeat refine stp ?_
      exact ⟨1, by decide, by decide, weak_keep (keep 119 [2, 3, 4, 6, 7, 8, 9, 10, 11, 12, 13, 14, 36]) [0, 1, 2, 3, 4, 5, 6, 7] rfl rfl rfl⟩
  | 1, _ =>
    repeat refine stp ?_
    refine draw_treeW (picks [0, 1, 2, 3, 4, 5, 6, 7, 8, 9] (.fork 10 11 (picks [11, 12, 13] .done) (picks [10, 12, 13] .done))) (by decide +kernel) ?_
    repeat refine stp ?_
    refine ⟨_, ⟨double_c (wr 2 (by decide)) (wr 3 (by decide)), rfl⟩, ?_⟩
    repeat refine stp ?_
    refine ⟨_, ⟨double_c (wv 2 (by decide)) (wv 3 (by decide)), rfl⟩, ?_⟩
    repeat refine stp ?_
    refine And.intro (end_weak (weak_keep (tm' := slots 119 [(2, vecs n D), (3, .ptr ⟨0, 0, 0⟩), (4, .ptr ⟨1, 0, 0⟩), (6, .ptr ⟨2, 0, 0⟩), (7, .ptr ⟨3, 0, 0⟩), (8, .int .i64 0), (9, .ptr ⟨4, 0, 0⟩), (10, .ptr ⟨5, 0, 0⟩), (11, .ptr ⟨6, 0, 0⟩), (12, .ptr ⟨7, 0, 0⟩), (13, .fn (.func 61) [] [.ptr ⟨7, 0, 0⟩]), (14, .fn (.func 64) [] [.ptr ⟨7, 0, 0⟩]), (15, .ptr ⟨8, 0, 0⟩), (16, .fn (.func 66) [] [.ptr ⟨7, 0, 0⟩, .ptr ⟨0, 0, 0⟩, .ptr ⟨8, 0, 0⟩]), (17, .ptr ⟨9, 0, 0⟩), (18, .ptr ⟨10, 0, 0⟩), (36, .int .i64 1)]) (H' := [.cells (gcells g k0 k1 p), .cells (scells r v), .cells [.bool false, .nilslice, .int .i64 0, .bool false, .nilslice, .int .i64 0, .bool false, .nilslice, .int .i64 0], .cells [.bool false, .nilslice, .int .i64 0, .bool false, .nilslice, .int .i64 0, .bool false, .nilslice, .int .i64 0], .cells (resC (fun i => (axC p g k0 k1 D r v i n).1) 1), .cells (resC (fun i => (axC p g k0 k1 D r v i n).2) 1), eB, kB 6, .cells [.int .i64 1], .cells (dyC (axC p g k0 k1 D r v 1 0).1), .cells (dyC (axC p g k0 k1 D r v 1 0).2)]) (keep 119 [2, 3, 4, 6, 7, 8, 9, 10, 11, 12, 13, 14, 15, 16, 17, 18, 36]) [0, 1, 2, 3, 4, 5, 6, 7, 8, 9, 10] rfl rfl rfl) ?c1) (end_weak (weak_keep (tm' := slots 119 [(2, vecs n D), (3, .ptr ⟨0, 0, 0⟩), (4, .ptr ⟨1, 0, 0⟩), (6, .ptr ⟨2, 0, 0⟩), (7, .ptr ⟨3, 0, 0⟩), (8, .int .i64 0), (9, .ptr ⟨4, 0, 0⟩), (10, .ptr ⟨5, 0, 0⟩), (11, .ptr ⟨6, 0, 0⟩), (12, .ptr ⟨7, 0, 0⟩), (13, .fn (.func 61) [] [.ptr ⟨7, 0, 0⟩]), (14, .fn (.func 64) [] [.ptr ⟨7, 0, 0⟩]), (15, .ptr ⟨8, 0, 0⟩), (16, .fn (.func 66) [] [.ptr ⟨7, 0, 0⟩, .ptr ⟨0, 0, 0⟩, .ptr ⟨8, 0, 0⟩]), (17, .ptr ⟨9, 0, 0⟩), (18, .ptr ⟨10, 0, 0⟩), (36, .int .i64 1)]) (H' := [.cells (gcells g k0 k1 p), .cells (scells r v), .cells [.bool false, .nilslice, .int .i64 0, .bool false, .nilslice, .int .i64 0, .bool false, .nilslice, .int .i64 0], .cells [.bool false, .nilslice, .int .i64 0, .bool false, .nilslice, .int .i64 0, .bool false, .nilslice, .int .i64 0], .cells (resC (fun i => (axC p g k0 k1 D r v i n).1) 1), .cells (resC (fun i => (axC p g k0 k1 D r v i n).2) 1), eB, kB 6, .cells [.int .i64 1], .cells (dyC (axC p g k0 k1 D r v 1 0).1), .cells (dyC (axC p g k0 k1 D r v 1 0).2)]) (keep 119 [2, 3, 4, 6, 7, 8, 9, 10, 11, 12, 13, 14, 15, 16, 17, 18, 36]) [0, 1, 2, 3, 4, 5, 6, 7, 8, 10, 9] rfl rfl rfl) ?c1)
    repeat refine stp ?_
    refine loop_weak (fun j : Nat => slots 119 [(2, vecs n D), (3, .ptr ⟨0, 0, 0⟩), (4, .ptr ⟨1, 0, 0⟩), (6, .ptr ⟨2, 0, 0⟩), (7, .ptr ⟨3, 0, 0⟩), (8, .int .i64 0), (9, .ptr ⟨4, 0, 0⟩), (10, .ptr ⟨5, 0, 0⟩), (11, .ptr ⟨6, 0, 0⟩), (12, .ptr ⟨7, 0, 0⟩), (13, .fn (.func 61) [] [.ptr ⟨7, 0, 0⟩]), (14, .fn (.func 64) [] [.ptr ⟨7, 0, 0⟩]), (15, .ptr ⟨8, 0, 0⟩), (16, .fn (.func 66) [] [.ptr ⟨7, 0, 0⟩, .ptr ⟨0, 0, 0⟩, .ptr ⟨8, 0, 0⟩]), (17, .ptr ⟨9, 0, 0⟩), (18, .ptr ⟨10, 0, 0⟩), (36, .int .i64 1), (50, vecs n D), (51, .int .i64 n), (52, .int .i64 j)])
      (fun j => [.cells (gcells g k0 k1 p), .cells (scells r v), .cells [.bool false, .nilslice, .int .i64 0, .bool false, .nilslice, .int .i64 0, .bool false, .nilslice, .int .i64 0], .cells [.bool false, .nilslice, .int .i64 0, .bool false, .nilslice, .int .i64 0, .bool false, .nilslice, .int .i64 0], .cells (resC (fun i => (axC p g k0 k1 D r v i n).1) 1), .cells (resC (fun i => (axC p g k0 k1 D r v i n).2) 1), eB, kB 6, .cells [.int .i64 1], .cells (dyC (axC p g k0 k1 D r v 1 j).1), .cells (dyC (axC p g k0 k1 D r v 1 j).2)])
      (fun j => j ≤ n) (fun j => n - j) 0 (Nat.zero_le _) (weak_keep (keep 119 [2, 3, 4, 6, 7, 8, 9, 10, 11, 12, 13, 14, 15, 16, 17, 18, 36, 50, 51, 52]) [0, 1, 2, 3, 4, 5, 6, 7, 8, 9, 10] rfl rfl rfl) ?_
    intro j hj
    have ej : IntKind.i64.wrap ((j : Int) + 1) = ((j + 1 : Nat) : Int) := by rw [wi (by omega) (by omega)]; rfl
    apply branch_intro <;> intro h
    · have hlt : j < n := by simp at h; omega
      have kj : axM p j ≤ 600 := by
        have : j * (3 * p + 58) ≤ 6 * 100 := Nat.mul_le_mul (by omega) (by omega)
        unfold axM
        omega
      obtain ⟨b1, b2⟩ := axC_bd p g k0 k1 D r v 1 j
      have eX : (axC p g k0 k1 D r v 1 (j + 1)).1 = axX p (axC p g k0 k1 D r v 1 j).1 (axC p g k0 k1 D r v 1 j).2 (dblD (D j 2) (D j 3)) (axG (dblD (g 2) (g 3)) (dblD k0 k1) (axC p g k0 k1 D r v 1 j).1) := rfl
      have eY : (axC p g k0 k1 D r v 1 (j + 1)).2 = axY p (axC p g k0 k1 D r v 1 j).2 (dblD (D j 2) (D j 3)) (axG (dblD (g 2) (g 3)) (dblD k0 k1) (axC p g k0 k1 D r v 1 j).1)
          (axG (dblD (g 2) (g 3)) (dblD k0 k1) (axX p (axC p g k0 k1 D r v 1 j).1 (axC p g k0 k1 D r v 1 j).2 (dblD (D j 2) (D j 3)) (axG (dblD (g 2) (g 3)) (dblD k0 k1) (axC p g k0 k1 D r v 1 j).1))) := rfl
      generalize hX : (axC p g k0 k1 D r v 1 j).1 = X at *
      generalize hY : (axC p g k0 k1 D r v 1 j).2 = Y at *
      have hG := dbl_bd (g 2) (g 3)
      have hK := dbl_bd k0 k1
      have hDj := dbl_bd (D j 2) (D j 3)
      have m1 := hK.mul b1
      have g1 := axG_bd hG hK b1
      have q1 := b1.wide (K' := 28 + (28 + axM p j) + (2 * p + 1)) (by omega)
      have q2 := b2.pw (n := p) (K' := 28 + (28 + axM p j) + (2 * p + 1)) (by omega)
      have s1 := (q1.mono (Nat.le_succ _)).plus q2
      have q3 := (hDj.pw (n := p + 1) (K' := 28 + (28 + axM p j) + (2 * p + 1)) (by omega)).mono (show 0 + 1 ≤ 10 * j + 1 + 1 by omega)
      have s2 := s1.plus q3
      have q4 := (g1.pw (n := 2 * p + 1) (K' := 28 + (28 + axM p j) + (2 * p + 1)) (by omega)).mono (show 10 * j + 1 + 1 ≤ 10 * j + 1 + 1 + 1 by omega)
      have s3 := s2.plus q4
      have m2 := hK.mul s3
      have h1 := axG_bd hG hK s3
      have u1 := b2.plus ((hDj.wide (K' := 28 + axM p j) (by omega)).mono (Nat.zero_le (10 * j)))
      have u2 := (g1.pw (n := p + 1) (K' := 28 + (28 + axM p j) + (p + 1)) (by omega))
      have u3 := ((u1.mono (Nat.le_succ _)).wide (K' := 28 + (28 + axM p j) + (p + 1)) (by omega)).plus u2
      have u4 := (h1.pw (n := p + 1) (K' := 28 + (28 + (28 + axM p j) + (2 * p + 1)) + (p + 1)) (by omega))
      have u5 := ((u3.wide (K' := 28 + (28 + (28 + axM p j) + (2 * p + 1)) + (p + 1)) (by omega)).mono (show 10 * j + 1 + 1 + 1 ≤ 10 * j + 1 + 1 + 1 + 1 + 1 + 1 by omega))
      have eA := axY_alt (p := p) (L := 10 * j + 1 + 1 + 1 + 1 + 1) (K := 28 + (28 + (28 + axM p j) + (2 * p + 1))) ((b2.wide (by omega)).mono (by omega)) ((hDj.wide (by omega)).mono (by omega)) ((g1.wide (by omega)).mono (by omega)) h1 (by omega)
      have wY : (plusD (plusD (plusD Y (dblD (D j 2) (D j 3))) (mulD (pwD (p + 1)) (axG (dblD (g 2) (g 3)) (dblD k0 k1) X))) (mulD (pwD (p + 1)) (axG (dblD (g 2) (g 3)) (dblD k0 k1) (axX p X Y (dblD (D j 2) (D j 3)) (axG (dblD (g 2) (g 3)) (dblD k0 k1) X))))).within = true := winB (u5.plus u4) (by omega) (by omega)
      have W1 := winB b1 (by omega) (by omega)
      have W2 := winB b2 (by omega) (by omega)
      have Fx := field_n (G := dblD (g 2) (g 3)) (k := dblD k0 k1) (x := X) (g := g) (k0 := k0) (k1 := k1) (p := p) (i := 1) (by decide) wg w0 w1 rfl rfl b1.canon W1 (winB m1 (by omega) (by omega)) (winB g1 (by omega) (by omega))
      have S1 := scaled_n (x := Y) (n := p) (by omega) b2.canon W2 (winB q2 (by omega) (by omega))
      have S2 := scaled_n (x := dblD (D j 2) (D j 3)) (n := p + 1) (by omega) hDj.canon (winB hDj (by omega) (by omega)) (winB q3 (by omega) (by omega))
      have S3 := scaled_n (x := axG (dblD (g 2) (g 3)) (dblD k0 k1) X) (n := 2 * p + 1) (by omega) g1.canon (winB g1 (by omega) (by omega)) (winB q4 (by omega) (by omega))
      have A1 := add_n b1.canon q2.canon q3.canon q4.canon W1 (winB q2 (by omega) (by omega)) (winB q3 (by omega) (by omega)) (winB q4 (by omega) (by omega)) (winB s1 (by omega) (by omega)) (winB s2 (by omega) (by omega)) (winB s3 (by omega) (by omega))
      have Fh := field_n (G := dblD (g 2) (g 3)) (k := dblD k0 k1) (x := axX p X Y (dblD (D j 2) (D j 3)) (axG (dblD (g 2) (g 3)) (dblD k0 k1) X)) (g := g) (k0 := k0) (k1 := k1) (p := p) (i := 1) (by decide) wg w0 w1 rfl rfl s3.canon (winB s3 (by omega) (by omega)) (winB m2 (by omega) (by omega)) (winB h1 (by omega) (by omega))
      have S4 := scaled_n (x := axG (dblD (g 2) (g 3)) (dblD k0 k1) X) (n := p + 1) (by omega) g1.canon (winB g1 (by omega) (by omega)) (winB u2 (by omega) (by omega))
      have S5 := scaled_n (x := axG (dblD (g 2) (g 3)) (dblD k0 k1) (axX p X Y (dblD (D j 2) (D j 3)) (axG (dblD (g 2) (g 3)) (dblD k0 k1) X))) (n := p + 1) (by omega) h1.canon (winB h1 (by omega) (by omega)) (winB u4 (by omega) (by omega))
      have A2 := add_n b2.canon hDj.canon u2.canon u4.canon W2 (winB hDj (by omega) (by omega)) (winB u2 (by omega) (by omega)) (winB u4 (by omega) (by omega)) (winB u1 (by omega) (by omega)) (winB u3 (by omega) (by omega)) wY
      rw [eA] at A2
      repeat refine stp ?_
      refine callT_E (double_c (wD j hlt 2 (by decide)) (wD j hlt 3 (by decide))) rfl ?_
      repeat refine stp ?_
      refine callT_read (readN_of [6, 7, 0, 8] rfl rfl (fun _ => rfl) Fx (fun _ => rfl)) ?_
      repeat refine stp ?_
      refine draw_tree (picks (List.range 23) .done) (by decide +kernel) ?_
      repeat refine stp ?_
      refine ⟨_, readN_of [6, 7] rfl rfl (fun _ => rfl) S1 (fun _ => rfl), ?_⟩
      repeat refine stp ?_
      refine ⟨_, readN_of [6, 7] rfl rfl (fun _ => rfl) (show callN Try.prog 61 [_, .int .i64 (IntKind.i64.wrap ((p : Int) + 1)), _] _ _ by rw [wi (by omega) (by omega)]; exact S2) (fun _ => rfl), ?_⟩
      repeat refine stp ?_
      refine ⟨_, readN_of [6, 7] rfl rfl (fun _ => rfl) (show callN Try.prog 61 [_, .int .i64 (IntKind.i64.wrap (IntKind.i64.wrap (2 * (p : Int)) + 1)), _] _ _ by rw [wi (x := 2 * (p : Int)) (by omega) (by omega), wi (by omega) (by omega)]; exact S3) (fun _ => rfl), ?_⟩
      repeat refine stp ?_
      apply choice_l
      repeat refine stp ?_
      refine ⟨_, readN_of [6, 7] rfl rfl (fun _ => rfl) A1 (fun _ => rfl), ?_⟩
      repeat refine stp ?_
      refine draw_tree (picks (List.range 20) .done) (by decide +kernel) ?_
      repeat refine stp ?_
      refine ⟨_, readN_of [6, 7] rfl rfl (fun _ => rfl) (show callN Try.prog 61 [_, .int .i64 (IntKind.i64.wrap ((p : Int) + 1)), _] _ _ by rw [wi (by omega) (by omega)]; exact S4) (fun _ => rfl), ?_⟩
      repeat refine stp ?_
      refine ⟨_, readN_of [6, 7, 0, 8] rfl rfl (fun _ => rfl) Fh (fun _ => rfl), ?_⟩
      repeat refine stp ?_
      refine ⟨_, readN_of [6, 7] rfl rfl (fun _ => rfl) (show callN Try.prog 61 [_, .int .i64 (IntKind.i64.wrap ((p : Int) + 1)), _] _ _ by rw [wi (by omega) (by omega)]; exact S5) (fun _ => rfl), ?_⟩
      repeat refine stp ?_
      apply choice_l
      repeat refine stp ?_
      refine ⟨_, readN_of [6, 7] rfl rfl (fun _ => rfl) A2 (fun _ => rfl), ?_⟩
      repeat refine stp ?_
      refine ⟨j + 1, hlt, by omega, weak_keep (keep 119 [2, 3, 4, 6, 7, 8, 9, 10, 11, 12, 13, 14, 15, 16, 17, 18, 36, 50, 51, 52]) [0, 1, 2, 3, 4, 5, 6, 7, 8, 9, 10] rfl ?_ ?_⟩
      · show [_, _, _, _, _, _, _, _, _, _, _, _, _, _, _, _, _, _, _, _, _, _, _, _, _, _, _, _, _, _, _, _, _, _, _, _, _, _, _, _, _, _, _, _, _, _, _, _, _, _, _, _, _, _, _, _, _, _, _, _, _, _, _, _, _, _, _, _, _, _, _, _, _, _, _, _, _, _, _, _, _, _, _, _, _, _, _, _, _, _, _, _, _, _, _, _, _, _, _, _, _, _, _, _, _, _, _, _, _, _, _, _, _, _, _, _, _, _, _] = _
        rw [ej]
        rfl
      · rw [eX, eY]
        rfl
    have ej2 : n = j := by simp at h; omega
    clear ej h
    subst ej2
    repeat refine stp ?_
    refine draw_tree (picks [0, 2, 4] (.fork3 1 3 5 (picks [] (.fork 3 5 (picks [5, 6, 7] .done) (picks [3, 6, 7] .done))) (picks [] (.fork 1 5 (picks [5, 6, 7] .done) (picks [1, 6, 7] .done))) (picks [1, 3, 6, 7] .done))) (by decide +kernel) ?_
    repeat refine stp ?_
    refine And.intro (And.intro ?_ ?_) (And.intro (And.intro ?_ ?_) ?_)
    all_goals
      repeat refine stp ?_
      exact ⟨2, by decide, by decide, weak_keep (keep 119 [2, 3, 4, 6, 7, 8, 9, 10, 11, 12, 13, 14, 36]) [0, 1, 2, 3, 4, 5, 6, 7] rfl rfl rfl⟩
  | 2, _ =>
    repeat refine stp ?_
    refine draw_treeW (picks [0, 1, 2, 3, 4, 5, 6, 7, 8, 9] (.fork 10 11 (picks [11, 12, 13] .done) (picks [10, 12, 13] .done))) (by decide +kernel) ?_
    repeat refine stp ?_
    refine ⟨_, ⟨double_c (wr 4 (by decide)) (wr 5 (by decide)), rfl⟩, ?_⟩
    repeat refine stp ?_
    refine ⟨_, ⟨double_c (wv 4 (by decide)) (wv 5 (by decide)), rfl⟩, ?_⟩
    repeat refine stp ?_
    refine And.intro (end_weak (weak_keep (tm' := slots 119 [(2, vecs n D), (3, .ptr ⟨0, 0, 0⟩), (4, .ptr ⟨1, 0, 0⟩), (6, .ptr ⟨2, 0, 0⟩), (7, .ptr ⟨3, 0, 0⟩), (8, .int .i64 0), (9, .ptr ⟨4, 0, 0⟩), (10, .ptr ⟨5, 0, 0⟩), (11, .ptr ⟨6, 0, 0⟩), (12, .ptr ⟨7, 0, 0⟩), (13, .fn (.func 61) [] [.ptr ⟨7, 0, 0⟩]), (14, .fn (.func 64) [] [.ptr ⟨7, 0, 0⟩]), (15, .ptr ⟨8, 0, 0⟩), (16, .fn (.func 66) [] [.ptr ⟨7, 0, 0⟩, .ptr ⟨0, 0, 0⟩, .ptr ⟨8, 0, 0⟩]), (17, .ptr ⟨9, 0, 0⟩), (18, .ptr ⟨10, 0, 0⟩), (36, .int .i64 2)]) (H' := [.cells (gcells g k0 k1 p), .cells (scells r v), .cells [.bool false, .nilslice, .int .i64 0, .bool false, .nilslice, .int .i64 0, .bool false, .nilslice, .int .i64 0], .cells [.bool false, .nilslice, .int .i64 0, .bool false, .nilslice, .int .i64 0, .bool false, .nilslice, .int .i64 0], .cells (resC (fun i => (axC p g k0 k1 D r v i n).1) 2), .cells (resC (fun i => (axC p g k0 k1 D r v i n).2) 2), eB, kB 6, .cells [.int .i64 2], .cells (dyC (axC p g k0 k1 D r v 2 0).1), .cells (dyC (axC p g k0 k1 D r v 2 0).2)]) (keep 119 [2, 3, 4, 6, 7, 8, 9, 10, 11, 12, 13, 14, 15, 16, 17, 18, 36]) [0, 1, 2, 3, 4, 5, 6, 7, 8, 9, 10] rfl rfl rfl) ?c2) (end_weak (weak_keep (tm' := slots 119 [(2, vecs n D), (3, .ptr ⟨0, 0, 0⟩), (4, .ptr ⟨1, 0, 0⟩), (6, .ptr ⟨2, 0, 0⟩), (7, .ptr ⟨3, 0, 0⟩), (8, .int .i64 0), (9, .ptr ⟨4, 0, 0⟩), (10, .ptr ⟨5, 0, 0⟩), (11, .ptr ⟨6, 0, 0⟩), (12, .ptr ⟨7, 0, 0⟩), (13, .fn (.func 61) [] [.ptr ⟨7, 0, 0⟩]), (14, .fn (.func 64) [] [.ptr ⟨7, 0, 0⟩]), (15, .ptr ⟨8, 0, 0⟩), (16, .fn (.func 66) [] [.ptr ⟨7, 0, 0⟩, .ptr ⟨0, 0, 0⟩, .ptr ⟨8, 0, 0⟩]), (17, .ptr ⟨9, 0, 0⟩), (18, .ptr ⟨10, 0, 0⟩), (36, .int .i64 2)]) (H' := [.cells (gcells g k0 k1 p), .cells (scells r v), .cells [.bool false, .nilslice, .int .i64 0, .bool false, .nilslice, .int .i64 0, .bool false, .nilslice, .int .i64 0], .cells [.bool false, .nilslice, .int .i64 0, .bool false, .nilslice, .int .i64 0, .bool false, .nilslice, .int .i64 0], .cells (resC (fun i => (axC p g k0 k1 D r v i n).1) 2), .cells (resC (fun i => (axC p g k0 k1 D r v i n).2) 2), eB, kB 6, .cells [.int .i64 2], .cells (dyC (axC p g k0 k1 D r v 2 0).1), .cells (dyC (axC p g k0 k1 D r v 2 0).2)]) (keep 119 [2, 3, 4, 6, 7, 8, 9, 10, 11, 12, 13, 14, 15, 16, 17, 18, 36]) [0, 1, 2, 3, 4, 5, 6, 7, 8, 10, 9] rfl rfl rfl) ?c2)
    repeat refine stp ?_
    refine loop_weak (fun j : Nat => slots 119 [(2, vecs n D), (3, .ptr ⟨0, 0, 0⟩), (4, .ptr ⟨1, 0, 0⟩), (6, .ptr ⟨2, 0, 0⟩), (7, .ptr ⟨3, 0, 0⟩), (8, .int .i64 0), (9, .ptr ⟨4, 0, 0⟩), (10, .ptr ⟨5, 0, 0⟩), (11, .ptr ⟨6, 0, 0⟩), (12, .ptr ⟨7, 0, 0⟩), (13, .fn (.func 61) [] [.ptr ⟨7, 0, 0⟩]), (14, .fn (.func 64) [] [.ptr ⟨7, 0, 0⟩]), (15, .ptr ⟨8, 0, 0⟩), (16, .fn (.func 66) [] [.ptr ⟨7, 0, 0⟩, .ptr ⟨0, 0, 0⟩, .ptr ⟨8, 0, 0⟩]), (17, .ptr ⟨9, 0, 0⟩), (18, .ptr ⟨10, 0, 0⟩), (36, .int .i64 2), (50, vecs n D), (51, .int .i64 n), (52, .int .i64 j)])
      (fun j => [.cells (gcells g k0 k1 p), .cells (scells r v), .cells [.bool false, .nilslice, .int .i64 0, .bool false, .nilslice, .int .i64 0, .bool false, .nilslice, .int .i64 0], .cells [.bool false, .nilslice, .int .i64 0, .bool false, .nilslice, .int .i64 0, .bool false, .nilslice, .int .i64 0], .cells (resC (fun i => (axC p g k0 k1 D r v i n).1) 2), .cells (resC (fun i => (axC p g k0 k1 D r v i n).2) 2), eB, kB 6, .cells [.int .i64 2], .cells (dyC (axC p g k0 k1 D r v 2 j).1), .cells (dyC (axC p g k0 k1 D r v 2 j).2)])
      (fun j => j ≤ n) (fun j => n - j) 0 (Nat.zero_le _) (weak_keep (keep 119 [2, 3, 4, 6, 7, 8, 9, 10, 11, 12, 13, 14, 15, 16, 17, 18, 36, 50, 51, 52]) [0, 1, 2, 3, 4, 5, 6, 7, 8, 9, 10] rfl rfl rfl) ?_
    intro j hj
    have ej : IntKind.i64.wrap ((j : Int) + 1) = ((j + 1 : Nat) : Int) := by rw [wi (by omega) (by omega)]; rfl
    apply branch_intro <;> intro h
    · have hlt : j < n := by simp at h; omega
      have kj : axM p j ≤ 600 := by
        have : j * (3 * p + 58) ≤ 6 * 100 := Nat.mul_le_mul (by omega) (by omega)
        unfold axM
        omega
      obtain ⟨b1, b2⟩ := axC_bd p g k0 k1 D r v 2 j
      have eX : (axC p g k0 k1 D r v 2 (j + 1)).1 = axX p (axC p g k0 k1 D r v 2 j).1 (axC p g k0 k1 D r v 2 j).2 (dblD (D j 4) (D j 5)) (axG (dblD (g 4) (g 5)) (dblD k0 k1) (axC p g k0 k1 D r v 2 j).1) := rfl
      have eY : (axC p g k0 k1 D r v 2 (j + 1)).2 = axY p (axC p g k0 k1 D r v 2 j).2 (dblD (D j 4) (D j 5)) (axG (dblD (g 4) (g 5)) (dblD k0 k1) (axC p g k0 k1 D r v 2 j).1)
          (axG (dblD (g 4) (g 5)) (dblD k0 k1) (axX p (axC p g k0 k1 D r v 2 j).1 (axC p g k0 k1 D r v 2 j).2 (dblD (D j 4) (D j 5)) (axG (dblD (g 4) (g 5)) (dblD k0 k1) (axC p g k0 k1 D r v 2 j).1))) := rfl
      generalize hX : (axC p g k0 k1 D r v 2 j).1 = X at *
      generalize hY : (axC p g k0 k1 D r v 2 j).2 = Y at *
      have hG := dbl_bd (g 4) (g 5)
      have hK := dbl_bd k0 k1
      have hDj := dbl_bd (D j 4) (D j 5)
      have m1 := hK.mul b1
      have g1 := axG_bd hG hK b1
      have q1 := b1.wide (K' := 28 + (28 + axM p j) + (2 * p + 1)) (by omega)
      have q2 := b2.pw (n := p) (K' := 28 + (28 + axM p j) + (2 * p + 1)) (by omega)
      have s1 := (q1.mono (Nat.le_succ _)).plus q2
      have q3 := (hDj.pw (n := p + 1) (K' := 28 + (28 + axM p j) + (2 * p + 1)) (by omega)).mono (show 0 + 1 ≤ 10 * j + 1 + 1 by omega)
      have s2 := s1.plus q3
      have q4 := (g1.pw (n := 2 * p + 1) (K' := 28 + (28 + axM p j) + (2 * p + 1)) (by omega)).mono (show 10 * j + 1 + 1 ≤ 10 * j + 1 + 1 + 1 by omega)
      have s3 := s2.plus q4
      have m2 := hK.mul s3
      have h1 := axG_bd hG hK s3
      have u1 := b2.plus ((hDj.wide (K' := 28 + axM p j) (by omega)).mono (Nat.zero_le (10 * j)))
      have u2 := (g1.pw (n := p + 1) (K' := 28 + (28 + axM p j) + (p + 1)) (by omega))
      have u3 := ((u1.mono (Nat.le_succ _)).wide (K' := 28 + (28 + axM p j) + (p + 1)) (by omega)).plus u2
      have u4 := (h1.pw (n := p + 1) (K' := 28 + (28 + (28 + axM p j) + (2 * p + 1)) + (p + 1)) (by omega))
      have u5 := ((u3.wide (K' := 28 + (28 + (28 + axM p j) + (2 * p + 1)) + (p + 1)) (by omega)).mono (show 10 * j + 1 + 1 + 1 ≤ 10 * j + 1 + 1 + 1 + 1 + 1 + 1 by omega))
      have eA := axY_alt (p := p) (L := 10 * j + 1 + 1 + 1 + 1 + 1) (K := 28 + (28 + (28 + axM p j) + (2 * p + 1))) ((b2.wide (by omega)).mono (by omega)) ((hDj.wide (by omega)).mono (by omega)) ((g1.wide (by omega)).mono (by omega)) h1 (by omega)
      have wY : (plusD (plusD (plusD Y (dblD (D j 4) (D j 5))) (mulD (pwD (p + 1)) (axG (dblD (g 4) (g 5)) (dblD k0 k1) X))) (mulD (pwD (p + 1)) (axG (dblD (g 4) (g 5)) (dblD k0 k1) (axX p X Y (dblD (D j 4) (D j 5)) (axG (dblD (g 4) (g 5)) (dblD k0 k1) X))))).within = true := winB (u5.plus u4) (by omega) (by omega)
      have W1 := winB b1 (by omega) (by omega)
      have W2 := winB b2 (by omega) (by omega)
      have Fx := field_n (G := dblD (g 4) (g 5)) (k := dblD k0 k1) (x := X) (g := g) (k0 := k0) (k1 := k1) (p := p) (i := 2) (by decide) wg w0 w1 rfl rfl b1.canon W1 (winB m1 (by omega) (by omega)) (winB g1 (by omega) (by omega))
      have S1 := scaled_n (x := Y) (n := p) (by omega) b2.canon W2 (winB q2 (by omega) (by omega))
      have S2 := scaled_n (x := dblD (D j 4) (D j 5)) (n := p + 1) (by omega) hDj.canon (winB hDj (by omega) (by omega)) (winB q3 (by omega) (by omega))
      have S3 := scaled_n (x := axG (dblD (g 4) (g 5)) (dblD k0 k1) X) (n := 2 * p + 1) (by omega) g1.canon (winB g1 (by omega) (by omega)) (winB q4 (by omega) (by omega))
      have A1 := add_n b1.canon q2.canon q3.canon q4.canon W1 (winB q2 (by omega) (by omega)) (winB q3 (by omega) (by omega)) (winB q4 (by omega) (by omega)) (winB s1 (by omega) (by omega)) (winB s2 (by omega) (by omega)) (winB s3 (by omega) (by omega))
      have Fh := field_n (G := dblD (g 4) (g 5)) (k := dblD k0 k1) (x := axX p X Y (dblD (D j 4) (D j 5)) (axG (dblD (g 4) (g 5)) (dblD k0 k1) X)) (g := g) (k0 := k0) (k1 := k1) (p := p) (i := 2) (by decide) wg w0 w1 rfl rfl s3.canon (winB s3 (by omega) (by omega)) (winB m2 (by omega) (by omega)) (winB h1 (by omega) (by omega))
      have S4 := scaled_n (x := axG (dblD (g 4) (g 5)) (dblD k0 k1) X) (n := p + 1) (by omega) g1.canon (winB g1 (by omega) (by omega)) (winB u2 (by omega) (by omega))
      have S5 := scaled_n (x := axG (dblD (g 4) (g 5)) (dblD k0 k1) (axX p X Y (dblD (D j 4) (D j 5)) (axG (dblD (g 4) (g 5)) (dblD k0 k1) X))) (n := p + 1) (by omega) h1.canon (winB h1 (by omega) (by omega)) (winB u4 (by omega) (by omega))
      have A2 := add_n b2.canon hDj.canon u2.canon u4.canon W2 (winB hDj (by omega) (by omega)) (winB u2 (by omega) (by omega)) (winB u4 (by omega) (by omega)) (winB u1 (by omega) (by omega)) (winB u3 (by omega) (by omega)) wY
      rw [eA] at A2
      repeat refine stp ?_
      refine callT_E (double_c (wD j hlt 4 (by decide)) (wD j hlt 5 (by decide))) rfl ?_
      repeat refine stp ?_
      refine callT_read (readN_of [6, 7, 0, 8] rfl rfl (fun _ => rfl) Fx (fun _ => rfl)) ?_
      repeat refine stp ?_
      refine draw_tree (picks (List.range 23) .done) (by decide +kernel) ?_
      repeat refine stp ?_
      refine ⟨_, readN_of [6, 7] rfl rfl (fun _ => rfl) S1 (fun _ => rfl), ?_⟩
      repeat refine stp ?_
      refine ⟨_, readN_of [6, 7] rfl rfl (fun _ => rfl) (show callN Try.prog 61 [_, .int .i64 (IntKind.i64.wrap ((p : Int) + 1)), _] _ _ by rw [wi (by omega) (by omega)]; exact S2) (fun _ => rfl), ?_⟩
      repeat refine stp ?_
      refine ⟨_, readN_of [6, 7] rfl rfl (fun _ => rfl) (show callN Try.prog 61 [_, .int .i64 (IntKind.i64.wrap (IntKind.i64.wrap (2 * (p : Int)) + 1)), _] _ _ by rw [wi (x := 2 * (p : Int)) (by omega) (by omega), wi (by omega) (by omega)]; exact S3) (fun _ => rfl), ?_⟩
      repeat refine stp ?_
      apply choice_l
      repeat refine stp ?_
      refine ⟨_, readN_of [6, 7] rfl rfl (fun _ => rfl) A1 (fun _ => rfl), ?_⟩
      repeat refine stp ?_
      refine draw_tree (picks (List.range 20) .done) (by decide +kernel) ?_
      repeat refine stp ?_
      refine ⟨_, readN_of [6, 7] rfl rfl (fun _ => rfl) (show callN Try.prog 61 [_, .int .i64 (IntKind.i64.wrap ((p : Int) + 1)), _] _ _ by rw [wi (by omega) (by omega)]; exact S4) (fun _ => rfl), ?_⟩
      repeat refine stp ?_
      refine ⟨_, readN_of [6, 7, 0, 8] rfl rfl (fun _ => rfl) Fh (fun _ => rfl), ?_⟩
      repeat refine stp ?_
      refine ⟨_, readN_of [6, 7] rfl rfl (fun _ => rfl) (show callN Try.prog 61 [_, .int .i64 (IntKind.i64.wrap ((p : Int) + 1)), _] _ _ by rw [wi (by omega) (by omega)]; exact S5) (fun _ => rfl), ?_⟩
      repeat refine stp ?_
      apply choice_l
      repeat refine stp ?_
      refine ⟨_, readN_of [6, 7] rfl rfl (fun _ => rfl) A2 (fun _ => rfl), ?_⟩
      repeat refine stp ?_
      refine ⟨j + 1, hlt, by omega, weak_keep (keep 119 [2, 3, 4, 6, 7, 8, 9, 10, 11, 12, 13, 14, 15, 16, 17, 18, 36, 50, 51, 52]) [0, 1, 2, 3, 4, 5, 6, 7, 8, 9, 10] rfl ?_ ?_⟩
      · show [_, _, _, _, _, _, _, _, _, _, _, _, _, _, _, _, _, _, _, _, _, _, _, _, _, _, _, _, _, _, _, _, _, _, _, _, _, _, _, _, _, _, _, _, _, _, _, _, _, _, _, _, _, _, _, _, _, _, _, _, _, _, _, _, _, _, _, _, _, _, _, _, _, _, _, _, _, _, _, _, _, _, _, _, _, _, _, _, _, _, _, _, _, _, _, _, _, _, _, _, _, _, _, _, _, _, _, _, _, _, _, _, _, _, _, _, _, _, _] = _
        rw [ej]
        rfl
      · rw [eX, eY]
        rfl
    have ej2 : n = j := by simp at h; omega
    clear ej h
    subst ej2
    repeat refine stp ?_
    refine draw_tree (picks [0, 2, 4] (.fork3 1 3 5 (picks [] (.fork 3 5 (picks [5, 6, 7] .done) (picks [3, 6, 7] .done))) (picks [] (.fork 1 5 (picks [5, 6, 7] .done) (picks [1, 6, 7] .done))) (picks [1, 3, 6, 7] .done))) (by decide +kernel) ?_
    repeat refine stp ?_
    refine And.intro (And.intro ?_ ?_) (And.intro (And.intro ?_ ?_) ?_)
    all_goals
      repeat refine stp ?_
      exact ⟨3, by decide, by decide, weak_keep (keep 119 [2, 3, 4, 6, 7, 8, 9, 10, 11, 12, 13, 14, 36]) [0, 1, 2, 3, 4, 5, 6, 7] rfl rfl rfl⟩
  | 3, _ =>
    repeat refine stp ?_
    refine draw_tree (picks [0] (.fork 1 2 (picks [2, 3, 4] .done) (picks [1, 3, 4] .done))) (by decide +kernel) ?_
    constructor
    · repeat refine stp ?_
      show Eqv _ _
      exact .up (.up (.refl _))
    · repeat refine stp ?_
      show Eqv _ _
      exact .up (.up (.refl _))
end Go.Proofs.N13
