/- Chapter 29: Decimal, walked. -/
import Derived.Test.YthedobkhfdpdaaaC2
import Derived.Deep.RegionWith
set_option linter.unusedVariables false
set_option linter.unusedSimpArgs false
namespace Go.Proofs
open Go.RowKit
theorem calls_int {f : FuncId} {args : List Go.E.AVal} {us : Array Value} {W : World} {k : IntKind} {n : Int} (h : Go.E.callP Try.prog f args (· = .int k n)) (ha : Go.E.CRel (Go.E.Cx.start W) args us.toList) :
    Calls Try.prog f us W fun e W' => e = .returned (.int k n) ∧ Below W.heap.size W W' := by
  unfold Go.E.callP at h
  refine ((Go.E.callN_iff.1 h).2 (Go.E.Cx.start W) us rfl (Go.E.start_gok rfl W) (Go.E.start_heap W) ha).mono ?_
  rintro e w' ⟨u, v, c', rfl, rfl, ⟨_, hk⟩, hf, _, hv⟩
  rw [show v = .int k n from hk] at hv
  rw [hv.inv_int]
  refine ⟨rfl, hf.os, hf.tape, hf.output, hf.size, fun r hr => hf.keep r hr ?_⟩
  rintro ⟨b, x, o, hb, _⟩
  simp [Go.E.Cx.start] at hb
theorem calls_bool {f : FuncId} {args : List Go.E.AVal} {us : Array Value} {W : World} {b : Bool} (h : Go.E.callP Try.prog f args (· = .bool b)) (ha : Go.E.CRel (Go.E.Cx.start W) args us.toList) :
    Calls Try.prog f us W fun e W' => e = .returned (.bool b) ∧ Below W.heap.size W W' := by
  unfold Go.E.callP at h
  refine ((Go.E.callN_iff.1 h).2 (Go.E.Cx.start W) us rfl (Go.E.start_gok rfl W) (Go.E.start_heap W) ha).mono ?_
  rintro e w' ⟨u, v, c', rfl, rfl, ⟨_, hk⟩, hf, _, hv⟩
  rw [show v = .bool b from hk] at hv
  rw [hv.inv_bool]
  refine ⟨rfl, hf.os, hf.tape, hf.output, hf.size, fun r hr => hf.keep r hr ?_⟩
  rintro ⟨b, x, o, hb, _⟩
  simp [Go.E.Cx.start] at hb
abbrev cV (c : Cmp) : Value := .agg #[.int .u8 c.k, .int .i64 c.a, .int .i64 c.n, .int .i64 c.s]
theorem cV_rel (x : Go.E.Cx) (c : Cmp) : Go.E.VRel x (cA c) (cV c) := by
  refine .agg rfl fun i v u h1 h2 => ?_
  rcases i with _ | _ | _ | _ | i
  all_goals
    simp at h1 h2
    try (subst h1; subst h2; exact .closed (.int _ _))
theorem valid_w (c : Cmp) (hc : c.Ok) (W : World) : Calls Try.prog 25 #[cV c] W fun e W' => e = .returned (.bool (validC c)) ∧ Below W.heap.size W W' :=
  calls_bool (valid_c c hc) (.one (cV_rel _ c))
theorem within_w (v : Int) (c : Cmp) (W : World) : Calls Try.prog 59 #[.int .i64 v, cV c] W fun e W' => e = .returned (.bool (inV v c.k)) ∧ Below W.heap.size W W' :=
  calls_bool (within_c v c) ((Go.E.CRel.one (.closed (.int _ _))).append (.one (cV_rel _ c)))
theorem quot_w {p q : Int} (hp : -1152921504606846976 ≤ p ∧ p ≤ 1152921504606846976) (hq : 1 ≤ q ∧ q ≤ 2199023255552) (W : World) : Calls Try.prog 60 #[.int .i64 p, .int .i64 q] W fun e W' => e = .returned (.int .i64 (rV p q)) ∧ Below W.heap.size W W' :=
  calls_int (quot_c hp hq) ((Go.E.CRel.one (.closed (.int _ _))).append (.one (.closed (.int _ _))))
def decV (v : Int) (c : Cmp) : Int × (Nat → Int) × Int :=
  if validC c = false ∨ c.k = 1 then (0, fun _ => 0, 2)
  else if inV v c.k = false then (0, fun _ => 0, 3)
  else if (rV (v * c.n) (2 ^ c.s.toNat)).natAbs ≥ 100000 then (0, fun _ => 0, 12)
  else (if rV (v * c.n) (2 ^ c.s.toNat) < 0 then 2 else 1, digF 10 (rV (v * c.n) (2 ^ c.s.toNat)).natAbs, 0)
theorem pow_eq (s : Int) (h : 0 ≤ s ∧ s ≤ 40) : ∃ k : Nat, s = k ∧ k ≤ 40 := ⟨s.toNat, by omega, by omega⟩
theorem ok_facts {v : Int} {c : Cmp} (h1 : validC c = true) (h2 : ¬ c.k = 1) (h3 : inV v c.k = true) : (-268435455 ≤ v ∧ v ≤ 268435455) ∧ (1 ≤ c.n ∧ c.n ≤ 100000) ∧ (0 ≤ c.s ∧ c.s ≤ 40) := by
  have h1 := of_decide_eq_true h1
  have h3 := of_decide_eq_true h3
  have hl : c.k = 2 ∨ c.k = 3 := by omega
  refine ⟨?_, by omega, by omega⟩
  unfold loV hiV at h3
  rcases hl with e | e <;> rw [e] at h3 <;> simp at h3 <;> omega
theorem mul_facts {v n : Int} (hv : -268435455 ≤ v ∧ v ≤ 268435455) (hn : 1 ≤ n ∧ n ≤ 100000) : -26843545500000 ≤ v * n ∧ v * n ≤ 26843545500000 := by
  have h1 : v * n ≤ 268435455 * n := Int.mul_le_mul_of_nonneg_right hv.2 (by omega)
  have h2 : -268435455 * n ≤ v * n := Int.mul_le_mul_of_nonneg_right hv.1 (by omega)
  omega
theorem rV_b {p q : Int} (hq : 1 ≤ q) : -(p.natAbs : Int) - 1 ≤ rV p q ∧ rV p q ≤ p.natAbs + 1 := by
  unfold rV
  split
  · have := rpV_b (p := -p) (q := q) (by omega) hq
    omega
  · have := rpV_b (p := p) (q := q) (by omega) hq
    omega
open Go.E
set_option maxRecDepth 8000
set_option maxRecDepth 8000 in
theorem decimal_err (v : Int) (c : Cmp) (hc : c.Ok) (h : (decV v c).2.2 ≠ 0) : callP Try.prog 45 [.int .i64 v, cA c] (· = .tuple [shA 0 (fun _ => 0), .int .i64 (decV v c).2.2]) := by
  have cv := valid_c c hc
  have cw := within_c v c
  refine callE_def env (fn := Try.f45) rfl (by decide) rfl ?_
  refine callT_E cv rfl ?_
  by_cases h1 : validC c = false
  · rw [h1]
    repeat refine sto ?_
    rw [decV, if_pos (.inl h1)]
    show Eqv _ _
    exact .up (.up (.refl _))
  have h1t : validC c = true := by simpa using h1
  rw [h1t]
  by_cases h2 : c.k = 1
  · repeat refine sto ?_
    rw [decV, if_pos (.inr h2)]
    show Eqv _ _
    exact .up (.up (.refl _))
  repeat refine sto ?_
  refine callT_E cw rfl ?_
  by_cases h3 : inV v c.k = false
  · rw [h3]
    repeat refine sto ?_
    rw [decV, if_neg (by simp [h1t, h2]), if_pos h3]
    show Eqv _ _
    exact .up (.up (.refl _))
  have h3t : inV v c.k = true := by simpa using h3
  rw [h3t]
  repeat refine sto ?_
  obtain ⟨hv, hn, hs⟩ := ok_facts h1t h2 h3t
  obtain ⟨k, hk, hk40⟩ := pow_eq c.s hs
  have hp := pow_b hk40
  have hm := mul_facts hv hn
  have h4 : (rV (v * c.n) (2 ^ c.s.toNat)).natAbs ≥ 100000 := by
    rw [decV, if_neg (by simp [h1t, h2]), if_neg (by simp [h3t])] at h
    rcases Nat.lt_or_ge (rV (v * c.n) (2 ^ c.s.toNat)).natAbs 100000 with h5 | h5
    · rw [if_neg (by omega)] at h; exact absurd rfl h
    · exact h5
  rw [decV, if_neg (by simp [h1t, h2]), if_neg (by simp [h3t]), if_pos h4]
  rw [hk, Int.toNat_natCast] at h4
  have w1 : IntKind.i64.wrap (v * c.n) = v * c.n := wi (by omega) (by omega)
  have w2 : IntKind.i64.wrap (1 * 2 ^ (min c.s.toNat IntKind.i64.bits)) = 2 ^ k := by
    rw [hk, Int.toNat_natCast, show min k IntKind.i64.bits = k from by show min k 64 = k; omega, Int.one_mul, wi (by omega) (by omega)]
  have cq : ∀ a b : Int, a = v * c.n → b = 2 ^ k → callP Try.prog 60 [.int .i64 a, .int .i64 b] (· = .int .i64 (rV (v * c.n) (2 ^ k))) := by
    rintro _ _ rfl rfl
    exact quot_c (by omega) (by omega)
  have hb := rV_b (p := v * c.n) (q := 2 ^ k) (by omega)
  refine draw_tree (picks [0, 1, 2, 3, 4, 5, 6, 7, 8] .done) (by decide +kernel) ?_
  apply need_intro
  · omega
  refine ⟨_, ⟨cq _ _ w1 w2, rfl⟩, ?_⟩
  generalize rV (v * c.n) (2 ^ k) = n at *
  apply branch_intro <;> intro h6
  · have h6 := of_decide_eq_true h6
    have w3 : IntKind.i64.wrap (0 - n) = -n := by rw [wi (by omega) (by omega)]; omega
    refine branch_t' (decide_eq_true (by rw [w3]; omega)) ?_
    show Eqv _ _
    exact .up (.up (.refl _))
  · have h6 := of_decide_eq_false h6
    refine branch_t' (decide_eq_true (by omega)) ?_
    show Eqv _ _
    exact .up (.up (.refl _))
end Go.Proofs
namespace Go.Proofs
open Go.RowKit
structure Fro (w W : World) (c : Cmp) : Prop where
  b : Below w.heap.size w W
  sz : w.heap.size + 2 ≤ W.heap.size
  c0 : W.cell? ⟨w.heap.size, 0, none⟩ = some (.int .u8 c.k)
  c1 : W.cell? ⟨w.heap.size, 1, none⟩ = some (.int .i64 c.a)
  c2 : W.cell? ⟨w.heap.size, 2, none⟩ = some (.int .i64 c.n)
  c3 : W.cell? ⟨w.heap.size, 3, none⟩ = some (.int .i64 c.s)
  r : ∀ j, j < 6 → W.cell? ⟨w.heap.size + 1, j, none⟩ = some (.int .u8 0) ∧ W.frozen? ⟨w.heap.size + 1, j, none⟩ = false
theorem frozen_below {n : Nat} {W W' : World} (h : Below n W W') {p : Addr} (hp : p.block < n) : W'.frozen? p = W.frozen? p := by
  simp only [World.frozen?, h.block p.block hp]
theorem Fro.on {w W W' : World} {c : Cmp} (h : Fro w W c) (hb : Below W.heap.size W W') : Fro w W' c where
  b := h.b.trans (hb.mono (by have := h.sz; omega))
  sz := Nat.le_trans h.sz hb.size
  c0 := (hb.cell (p := ⟨w.heap.size, 0, none⟩) (by have := h.sz; show w.heap.size < _; omega)).trans h.c0
  c1 := (hb.cell (p := ⟨w.heap.size, 1, none⟩) (by have := h.sz; show w.heap.size < _; omega)).trans h.c1
  c2 := (hb.cell (p := ⟨w.heap.size, 2, none⟩) (by have := h.sz; show w.heap.size < _; omega)).trans h.c2
  c3 := (hb.cell (p := ⟨w.heap.size, 3, none⟩) (by have := h.sz; show w.heap.size < _; omega)).trans h.c3
  r := fun j hj => by
    have h1 : w.heap.size + 1 < W.heap.size := by have := h.sz; omega
    exact ⟨(hb.cell (p := ⟨w.heap.size + 1, j, none⟩) h1).trans (h.r j hj).1, (frozen_below hb (p := ⟨w.heap.size + 1, j, none⟩) h1).trans (h.r j hj).2⟩
theorem Fro.start (w : World) (c : Cmp) : Fro w ((w.alloc (.cells #[.int .u8 c.k, .int .i64 c.a, .int .i64 c.n, .int .i64 c.s] 102)).alloc (.cells #[.int .u8 0, .int .u8 0, .int .u8 0, .int .u8 0, .int .u8 0, .int .u8 0] 28)) c := by
  have hA : ((w.alloc (.cells #[.int .u8 c.k, .int .i64 c.a, .int .i64 c.n, .int .i64 c.s] 102)).alloc (.cells #[.int .u8 0, .int .u8 0, .int .u8 0, .int .u8 0, .int .u8 0, .int .u8 0] 28)).heap[w.heap.size]? = some (.cells #[.int .u8 c.k, .int .i64 c.a, .int .i64 c.n, .int .i64 c.s] 102 (0, 0)) :=
    (Below.heap_alloc _ _ _ (by simp only [World.size_alloc]; omega)).trans (World.alloc_heap_new _ _)
  have hB := World.alloc_heap_new (w.alloc (.cells #[.int .u8 c.k, .int .i64 c.a, .int .i64 c.n, .int .i64 c.s] 102)) (.cells #[.int .u8 0, .int .u8 0, .int .u8 0, .int .u8 0, .int .u8 0, .int .u8 0] 28)
  rw [World.size_alloc] at hB
  refine ⟨((Below.refl _ w).alloc (Nat.le_refl _) _).alloc (by simp only [World.size_alloc]; omega) _, by simp only [World.size_alloc]; omega, (cells_at hA 0 _ rfl).1, (cells_at hA 1 _ rfl).1, (cells_at hA 2 _ rfl).1, (cells_at hA 3 _ rfl).1, fun j hj => cells_at hB j _ (six_zero hj)⟩
def reg5 : Code := (Code.region 5
                #[{ dst := some 26, op := Go.Op.move (Go.Operand.tmp 0), type := 2, pos := "noun.go:107", after := #[],
                    guard := none },
                  { dst := some 27, op := Go.Op.fieldAddr 102 (Go.Operand.tmp 3) 2, type := 0, pos := "noun.go:107",
                    after := #[], guard := none },
                  { dst := some 28, op := Go.Op.load 3 (Go.Operand.tmp 27), type := 3, pos := "noun.go:107",
                    after := #[{ on := 1, ground := Go.Ground.data }], guard := none },
                  { dst := some 29, op := Go.Op.binOp Go.BinOp.mul 2 (Go.Operand.tmp 26) (Go.Operand.tmp 28) 2,
                    type := 2, pos := "noun.go:107",
                    after := #[{ on := 0, ground := Go.Ground.data }, { on := 2, ground := Go.Ground.data }],
                    guard := none },
                  { dst := some 30, op := Go.Op.fieldAddr 102 (Go.Operand.tmp 3) 3, type := 0, pos := "noun.go:107",
                    after := #[], guard := none },
                  { dst := some 31, op := Go.Op.load 3 (Go.Operand.tmp 30), type := 3, pos := "noun.go:107",
                    after := #[{ on := 4, ground := Go.Ground.data }], guard := none },
                  { dst := some 32,
                    op :=
                      Go.Op.binOp Go.BinOp.shl 2 (Go.Operand.const (Go.Value.int Go.IntKind.i64 1)) (Go.Operand.tmp 31)
                        3,
                    type := 2, pos := "noun.go:107", after := #[{ on := 5, ground := Go.Ground.data }], guard := none },
                  { dst := some 33,
                    op :=
                      Go.Op.call
                        { callee := Go.Callee.value (Go.Operand.func 60),
                          args := #[Go.Operand.tmp 29, Go.Operand.tmp 32], argTypes := #[2, 2] },
                    type := 2, pos := "noun.go:107",
                    after := #[{ on := 3, ground := Go.Ground.data }, { on := 6, ground := Go.Ground.data }],
                    guard := none },
                  { dst := some 6, op := Go.Op.assign (Go.Operand.tmp 33), type := 2, pos := "noun.go:107",
                    after :=
                      #[{ on := 7, ground := Go.Ground.data }, { on := 7, ground := Go.Ground.chain },
                        { on := 0, ground := Go.Ground.phase }, { on := 1, ground := Go.Ground.phase },
                        { on := 2, ground := Go.Ground.phase }, { on := 3, ground := Go.Ground.phase },
                        { on := 4, ground := Go.Ground.phase }, { on := 5, ground := Go.Ground.phase },
                        { on := 6, ground := Go.Ground.phase }, { on := 7, ground := Go.Ground.phase }],
                    guard := none }] true)
set_option maxHeartbeats 8000000 in
set_option maxRecDepth 1000000 in
theorem reg5_w (K : Act → World → Prop) (B : Nat) (v m n : Int) (k : Nat) {u1 u2 u4 u5 u6 u7 u8 u9 u10 u11 u12 u13 u14 u15 u16 u17 u18 u19 u20 u21 u22 u23 u24 u25 u26 u27 u28 u29 u30 u31 u32 u33 u34 u35 u36 u37 u38 u39 u40 u41 u42 u43 u44 u45 u46 u47 u48 u49 u50 u51 : Value} (W : World) (c2 : W.cell? ⟨B, 2, none⟩ = some (.int .i64 m)) (c3 : W.cell? ⟨B, 3, none⟩ = some (.int .i64 k))
    (hq : ∀ W, Calls Try.prog 60 #[.int .i64 (IntKind.i64.wrap (v * m)), .int .i64 (IntKind.i64.wrap (2 ^ k))] W fun e W' => e = .returned (.int .i64 n) ∧ Below W.heap.size W W')
    (hvm : -26843545500000 ≤ v * m ∧ v * m ≤ 26843545500000) (hk : k ≤ 40)
    (hQ : ∀ W', Below W.heap.size W W' → K { tmps := #[.int .i64 v, u1, u2, .pointer (some ⟨B, 0, none⟩), u4, u5, .int .i64 n, u7, u8, u9, u10, u11, u12, u13, u14, u15, u16, u17, u18, u19, u20, u21, u22, u23, u24, u25, .int .i64 v, .pointer (some ⟨B, 2, none⟩), .int .i64 m, .int .i64 (IntKind.i64.wrap (v * m)), .pointer (some ⟨B, 3, none⟩), .int .i64 k, .int .i64 (IntKind.i64.wrap (2 ^ k)), .int .i64 n, u34, u35, u36, u37, u38, u39, u40, u41, u42, u43, u44, u45, u46, u47, u48, u49, u50, u51], defers := [] } W') :
    reg5.wp Try.prog (Exit.then K (fun _ _ _ => False)) { tmps := #[.int .i64 v, u1, u2, .pointer (some ⟨B, 0, none⟩), u4, u5, u6, u7, u8, u9, u10, u11, u12, u13, u14, u15, u16, u17, u18, u19, u20, u21, u22, u23, u24, u25, u26, u27, u28, u29, u30, u31, u32, u33, u34, u35, u36, u37, u38, u39, u40, u41, u42, u43, u44, u45, u46, u47, u48, u49, u50, u51], defers := [] } W := by
  unfold reg5
  go_region_with (go_at_call 60; refine (hq _).mono ?_; rintro e W3 ⟨rfl, b3⟩)
  all_goals exact hQ _ ((Below.refl _ W).drew.trans b3)
theorem reg5_in {K : Act → World → Prop} {Q' : Exit → Act → World → Prop} (B : Nat) (v m n : Int) (k : Nat) {u1 u2 u4 u5 u6 u7 u8 u9 u10 u11 u12 u13 u14 u15 u16 u17 u18 u19 u20 u21 u22 u23 u24 u25 u26 u27 u28 u29 u30 u31 u32 u33 u34 u35 u36 u37 u38 u39 u40 u41 u42 u43 u44 u45 u46 u47 u48 u49 u50 u51 : Value} (W : World) (c2 : W.cell? ⟨B, 2, none⟩ = some (.int .i64 m)) (c3 : W.cell? ⟨B, 3, none⟩ = some (.int .i64 k))
    (hq : ∀ W, Calls Try.prog 60 #[.int .i64 (IntKind.i64.wrap (v * m)), .int .i64 (IntKind.i64.wrap (2 ^ k))] W fun e W' => e = .returned (.int .i64 n) ∧ Below W.heap.size W W')
    (hvm : -26843545500000 ≤ v * m ∧ v * m ≤ 26843545500000) (hk : k ≤ 40)
    (hQ : ∀ W', Below W.heap.size W W' → K { tmps := #[.int .i64 v, u1, u2, .pointer (some ⟨B, 0, none⟩), u4, u5, .int .i64 n, u7, u8, u9, u10, u11, u12, u13, u14, u15, u16, u17, u18, u19, u20, u21, u22, u23, u24, u25, .int .i64 v, .pointer (some ⟨B, 2, none⟩), .int .i64 m, .int .i64 (IntKind.i64.wrap (v * m)), .pointer (some ⟨B, 3, none⟩), .int .i64 k, .int .i64 (IntKind.i64.wrap (2 ^ k)), .int .i64 n, u34, u35, u36, u37, u38, u39, u40, u41, u42, u43, u44, u45, u46, u47, u48, u49, u50, u51], defers := [] } W') :
    reg5.wpIn Fence.wide 10 Try.prog (Exit.then K Q') { tmps := #[.int .i64 v, u1, u2, .pointer (some ⟨B, 0, none⟩), u4, u5, u6, u7, u8, u9, u10, u11, u12, u13, u14, u15, u16, u17, u18, u19, u20, u21, u22, u23, u24, u25, u26, u27, u28, u29, u30, u31, u32, u33, u34, u35, u36, u37, u38, u39, u40, u41, u42, u43, u44, u45, u46, u47, u48, u49, u50, u51], defers := [] } W := by
  refine wpIn_wide.2 (wp_mono (reg5_w K B v m n k W c2 c3 hq hvm hk hQ) ?_)
  rintro (_ | _ | _ | _ | _ | _) a' w' h
  · exact h
  all_goals exact h.elim
set_option maxHeartbeats 8000000 in
set_option maxRecDepth 1000000 in
theorem decimal_ok (v : Int) (c : Cmp) (hc : c.Ok) (n : Int) (k : Nat) (h1 : validC c = true) (h2 : ¬ c.k = 1) (h3 : inV v c.k = true) (hk : c.s = k) (hk40 : k ≤ 40) (hn : rV (v * c.n) (2 ^ k) = n) (hn5 : n.natAbs < 100000) (w : World) :
    Calls Try.prog 45 #[.int .i64 v, cV c] w fun e w' => e = .returned (.tuple #[shV (if n < 0 then 2 else 1) (digF 10 n.natAbs), .int .i64 0]) ∧ Below w.heap.size w w' := by
  obtain ⟨hv, hcn, hs⟩ := ok_facts h1 h2 h3
  have hp := pow_b hk40
  have hm := mul_facts hv hcn
  have cvw := valid_w c hc
  have cww := within_w v c
  have st := Fro.start w c
  rw [h1] at cvw
  rw [h3] at cww
  have ck0 := hc.k
  obtain ⟨kk, a, m, s⟩ := c
  dsimp only at *
  subst hk
  clear h1 h3 hc
  refine callsIn_wide.1 (callsIn_of_wp_marks (n := 10) Try.func45 rfl trivial ?_ rfl)
  simp only [Try.ntmps45, List.size_toArray, List.length_cons, List.length_nil, Nat.reduceAdd, Nat.reduceSub, Array.replicate_succ, Array.replicate_zero, List.push_toArray, List.append_toArray, List.nil_append, List.cons_append]
  gi_wp2
  refine ⟨trivial, (callsIn_wide.2 (cvw _)).mono ?_⟩
  rintro e W1 ⟨rfl, b1⟩
  obtain ⟨fb, fz, f0, f1, f2, f3, fr⟩ := st.on b1
  gi_wp2
  refine ⟨trivial, (callsIn_wide.2 (cww _)).mono ?_⟩
  rintro e W2 ⟨rfl, b2⟩
  obtain ⟨gb, gz, g0, g1, g2, g3, gr⟩ := (st.on b1).on b2
  clear f0 f1 f2 f3 fr
  gi_wp2
  have hq := quot_w (p := v * m) (q := 2 ^ k) (by omega) (by omega)
  rw [hn] at hq
  refine reg5_in w.heap.size v m n k W2 g2 g3 ?_ hm hk40 ?_
  · intro W
    rw [wi (by omega) (by omega), wi (by omega) (by omega)]
    exact hq W
  intro W3 b3
  obtain ⟨hb, hz, h0, h1, h2', h3, hr⟩ := ((st.on b1).on b2).on b3
  clear g0 g1 g2 g3 gr h0 h1 h2' h3
  gi_wp2
  · refine ⟨trivial, (callsIn_wide.2 (digits_call _ _ _)).mono ?_⟩
    rintro e w' ⟨rfl, rfl⟩
    gi_wp2
    obtain ⟨q, hqe⟩ : ∃ q : Int, -n = q := ⟨_, rfl⟩
    have hx1 : 0 ≤ q ∧ q ≤ 9223372036854775807 := by omega
    rw [hqe]
    generalize hW : World.alloc _ _ = W4
    have hs4 : W4.heap.size = W3.heap.size + 3 := by rw [← hW]; simp
    have hb34 : Below W3.heap.size W3 W4 := by
      rw [← hW]
      exact (((Below.refl _ W3).alloc (Nat.le_refl _) _).alloc (by simp only [World.size_alloc]; omega) _).alloc (by simp only [World.size_alloc]; omega) _
    have hX : W4.heap[W3.heap.size]? = some (.cells #[.int .u8 2, .int .u8 0, .int .u8 0, .int .u8 0, .int .u8 0, .int .u8 0] 28 (0, 0)) := by
      rw [← hW]
      exact (Below.heap_alloc _ _ _ (by simp only [World.size_alloc]; omega)).trans ((Below.heap_alloc _ _ _ (by simp only [World.size_alloc]; omega)).trans (World.alloc_heap_new _ _))
    have hN : W4.heap[W3.heap.size + 1]? = some (.cells #[.int .i64 q] 2 (0, 0)) := by
      rw [← hW]
      refine (Below.heap_alloc _ _ _ (by simp only [World.size_alloc]; omega)).trans ?_
      have := World.alloc_heap_new (W3.alloc (.cells #[.int .u8 2, .int .u8 0, .int .u8 0, .int .u8 0, .int .u8 0, .int .u8 0] 28)) (.cells #[.int .i64 q] 2)
      rwa [World.size_alloc] at this
    have hB : W4.heap[W3.heap.size + 1 + 1]? = some (.cells #[.int .i64 10] 2 (0, 0)) := by
      rw [← hW]
      have := World.alloc_heap_new ((W3.alloc (.cells #[.int .u8 2, .int .u8 0, .int .u8 0, .int .u8 0, .int .u8 0, .int .u8 0] 28)).alloc (.cells #[.int .i64 q] 2)) (.cells #[.int .i64 10] 2)
      rwa [World.size_alloc, World.size_alloc] at this
    clear hW
    have F4 := (((st.on b1).on b2).on b3).on hb34
    have szz := F4.sz
    refine shown_range (s := 2) (base := 10) (n := q) (X := W3.heap.size) (R := w.heap.size + 1) (n0 := w.heap.size) (w0 := w) (by decide) hx1 (by omega) (by omega) (by omega) (by omega) (by omega) (by omega) (by omega) (by omega) (Nat.le_refl _) (by omega) (by omega) rfl rfl hN hB
      ⟨F4.b, fun j hj => ?_, F4.r⟩
      (fun (i : Nat) => { tmps := #[.int .i64 (v), cV { k := kk, a := a, n := m, s := k }, undef, .pointer (some ⟨w.heap.size, 0, none⟩), .pointer (some ⟨w.heap.size + 1, 0, none⟩), .int .i64 (0), .int .i64 (q), .pointer (some ⟨W3.heap.size, 0, none⟩), .int .i64 (4 - i), .int .u8 (digF 10 q (4 - i)), .bool false, .agg #[.int .u8 kk, .int .i64 a, .int .i64 m, .int .i64 k], .bool true, .bool false, .bool false, .pointer (some ⟨w.heap.size, 0, none⟩), .int .u8 kk, .bool false, .bool false, undef, .bool false, .int .i64 (v), .agg #[.int .u8 kk, .int .i64 a, .int .i64 m, .int .i64 k], .bool true, .bool false, undef, .int .i64 (v), .pointer (some ⟨w.heap.size, 2, none⟩), .int .i64 (m), .int .i64 (v * m), .pointer (some ⟨w.heap.size, 3, none⟩), .int .i64 (k), .int .i64 (2 ^ k), .int .i64 (n), .agg #[.int .u8 1, .int .u8 0, .int .u8 0, .int .u8 0, .int .u8 0, .int .u8 0], .int .i64 (n), .bool true, .int .i64 (n), .int .i64 (q), .pointer (some ⟨W3.heap.size, 0, none⟩), .int .i64 (q), .bool (decide (100000 ≤ q)), undef, .int .i64 (q), .func (.func 72) #[] #[.pointer (some ⟨W3.heap.size + 1, 0, none⟩), .pointer (some ⟨W3.heap.size + 1 + 1, 0, none⟩)], .int .i64 (4 - i), .int .u8 (digF 10 q (4 - i)), undef, undef, undef, undef, undef], defers := [] }) ?_ ?_ ?_
    · have h := cells_at hX j (.int .u8 (if j = 0 then 2 else 0)) (by rcases j with _ | _ | _ | _ | _ | _ | j; all_goals first | rfl | omega)
      refine ⟨h.1.trans ?_, h.2⟩
      unfold cellE
      split
      · rfl
      · rw [if_neg (by omega)]
    · intro l i W K hk hK
      have sem := Oper.semAt_some l
      gi_wp2
      exact hK
    · intro l i W hk hk4 hc hf
      have sem := Oper.semAt_some l
      gi_wp2
    · rintro D W hD ⟨hb5, hx, hrr⟩ hd
      obtain ⟨x0, _⟩ := hx 0 (by decide)
      rw [cell_five0] at x0
      obtain ⟨x1, _⟩ := hx 1 (by decide)
      rw [show cellE _ _ _ 5 (0 + 1) = _ from cell_five_] at x1
      obtain ⟨x2, _⟩ := hx 2 (by decide)
      rw [show cellE _ _ _ 5 (1 + 1) = _ from cell_five_] at x2
      obtain ⟨x3, _⟩ := hx 3 (by decide)
      rw [show cellE _ _ _ 5 (2 + 1) = _ from cell_five_] at x3
      obtain ⟨x4, _⟩ := hx 4 (by decide)
      rw [show cellE _ _ _ 5 (3 + 1) = _ from cell_five_] at x4
      obtain ⟨x5, _⟩ := hx 5 (by decide)
      rw [show cellE _ _ _ 5 (4 + 1) = _ from cell_five_] at x5
      obtain ⟨r0, f0⟩ := hrr 0 (by decide)
      obtain ⟨r1, f1⟩ := hrr 1 (by decide)
      obtain ⟨r2, f2⟩ := hrr 2 (by decide)
      obtain ⟨r3, f3⟩ := hrr 3 (by decide)
      obtain ⟨r4, f4⟩ := hrr 4 (by decide)
      obtain ⟨r5, f5⟩ := hrr 5 (by decide)
      clear hx hrr hr
      gi_wp2
      have hk : KeepsOthers W (((((W.setCell ⟨w.heap.size + 1, 0, none⟩ (.int .u8 2)).setCell ⟨w.heap.size + 1, 1, none⟩ (.int .u8 (digF 10 q 0))).setCell ⟨w.heap.size + 1, 2, none⟩ (.int .u8 (digF 10 q 1))).setCell ⟨w.heap.size + 1, 3, none⟩ (.int .u8 (digF 10 q 2))).setCell ⟨w.heap.size + 1, 4, none⟩ (.int .u8 (digF 10 q 3))) :=
        ((((KeepsOthers.setCell _ _ _).trans (KeepsOthers.setCell _ _ _)).trans (KeepsOthers.setCell _ _ _)).trans (KeepsOthers.setCell _ _ _)).trans (KeepsOthers.setCell _ _ _)
      have hK' := (hk.trans (KeepsOthers.setCell _ ⟨w.heap.size + 1, 5, none⟩ (.int .u8 (digF 10 q 4)))).same D _ hd rfl
      have h6 := six_cells (W := W) (R := w.heap.size + 1) (v0 := .int .u8 2) (v1 := .int .u8 (digF 10 q 0)) (v2 := .int .u8 (digF 10 q 1)) (v3 := .int .u8 (digF 10 q 2)) (v4 := .int .u8 (digF 10 q 3)) (v5 := .int .u8 (digF 10 q 4)) (by rw [r0]; rfl) (by rw [r1]; rfl) (by rw [r2]; rfl) (by rw [r3]; rfl) (by rw [r4]; rfl) (by rw [r5]; rfl)
      have hb6 := ((((((hb5.setCell (p := ⟨w.heap.size + 1, 0, none⟩) (Nat.le_succ _) (.int .u8 2)).setCell (p := ⟨w.heap.size + 1, 1, none⟩) (Nat.le_succ _) (.int .u8 (digF 10 q 0))).setCell (p := ⟨w.heap.size + 1, 2, none⟩) (Nat.le_succ _) (.int .u8 (digF 10 q 1))).setCell (p := ⟨w.heap.size + 1, 3, none⟩) (Nat.le_succ _) (.int .u8 (digF 10 q 2))).setCell (p := ⟨w.heap.size + 1, 4, none⟩) (Nat.le_succ _) (.int .u8 (digF 10 q 3))).setCell (p := ⟨w.heap.size + 1, 5, none⟩) (Nat.le_succ _) (.int .u8 (digF 10 q 4)))
      generalize World.setCell _ _ _ = W6 at hK' h6 hb6 ⊢
      have up := fun {a : Addr} {v : Value} (h : W6.cell? a = some v) => cell_kept h (grownBy_putObj' W6 D (.deferred none)) (fun r e => by cases e; exact ⟨_, hK', rfl⟩)
      obtain ⟨g0, g1, g2, g3, g4, g5⟩ := h6
      have g0 := up g0
      have g1 := up g1
      have g2 := up g2
      have g3 := up g3
      have g4 := up g4
      have g5 := up g5
      refine ⟨by simp, .inl ⟨_, _, rfl, run_takeDeferred hK', ?_⟩⟩
      refine ⟨.tuple #[shV 2 (digF 10 q), .int .i64 0], ?_, ?_, ?_⟩
      · simp [results, Try.f45, go_sem, shV, g0, g1, g2, g3, g4, g5]
      · have e : ((n.natAbs : Nat) : Int) = q := by omega
        first | rw [e] | rw [if_pos (by omega), e] | rw [show ((q.natAbs : Nat) : Int) = q by omega]
      · exact hb6.grown (grownBy_putObj' W6 D (.deferred none)) (by have := hb6.size; omega) (fun k e => by cases e; omega)
  · refine ⟨trivial, (callsIn_wide.2 (digits_call _ _ _)).mono ?_⟩
    rintro e w' ⟨rfl, rfl⟩
    gi_wp2
    obtain ⟨q, hqe⟩ : ∃ q : Int, n = q := ⟨_, rfl⟩
    have hx1 : 0 ≤ q ∧ q ≤ 9223372036854775807 := by omega
    rw [hqe]
    generalize hW : World.alloc _ _ = W4
    have hs4 : W4.heap.size = W3.heap.size + 3 := by rw [← hW]; simp
    have hb34 : Below W3.heap.size W3 W4 := by
      rw [← hW]
      exact (((Below.refl _ W3).alloc (Nat.le_refl _) _).alloc (by simp only [World.size_alloc]; omega) _).alloc (by simp only [World.size_alloc]; omega) _
    have hX : W4.heap[W3.heap.size]? = some (.cells #[.int .u8 1, .int .u8 0, .int .u8 0, .int .u8 0, .int .u8 0, .int .u8 0] 28 (0, 0)) := by
      rw [← hW]
      exact (Below.heap_alloc _ _ _ (by simp only [World.size_alloc]; omega)).trans ((Below.heap_alloc _ _ _ (by simp only [World.size_alloc]; omega)).trans (World.alloc_heap_new _ _))
    have hN : W4.heap[W3.heap.size + 1]? = some (.cells #[.int .i64 q] 2 (0, 0)) := by
      rw [← hW]
      refine (Below.heap_alloc _ _ _ (by simp only [World.size_alloc]; omega)).trans ?_
      have := World.alloc_heap_new (W3.alloc (.cells #[.int .u8 1, .int .u8 0, .int .u8 0, .int .u8 0, .int .u8 0, .int .u8 0] 28)) (.cells #[.int .i64 q] 2)
      rwa [World.size_alloc] at this
    have hB : W4.heap[W3.heap.size + 1 + 1]? = some (.cells #[.int .i64 10] 2 (0, 0)) := by
      rw [← hW]
      have := World.alloc_heap_new ((W3.alloc (.cells #[.int .u8 1, .int .u8 0, .int .u8 0, .int .u8 0, .int .u8 0, .int .u8 0] 28)).alloc (.cells #[.int .i64 q] 2)) (.cells #[.int .i64 10] 2)
      rwa [World.size_alloc, World.size_alloc] at this
    clear hW
    have F4 := (((st.on b1).on b2).on b3).on hb34
    have szz := F4.sz
    refine shown_range (s := 1) (base := 10) (n := q) (X := W3.heap.size) (R := w.heap.size + 1) (n0 := w.heap.size) (w0 := w) (by decide) hx1 (by omega) (by omega) (by omega) (by omega) (by omega) (by omega) (by omega) (by omega) (Nat.le_refl _) (by omega) (by omega) rfl rfl hN hB
      ⟨F4.b, fun j hj => ?_, F4.r⟩
      (fun (i : Nat) => { tmps := #[.int .i64 (v), cV { k := kk, a := a, n := m, s := k }, undef, .pointer (some ⟨w.heap.size, 0, none⟩), .pointer (some ⟨w.heap.size + 1, 0, none⟩), .int .i64 (0), .int .i64 (q), .pointer (some ⟨W3.heap.size, 0, none⟩), .int .i64 (4 - i), .int .u8 (digF 10 q (4 - i)), .bool false, .agg #[.int .u8 kk, .int .i64 a, .int .i64 m, .int .i64 k], .bool true, .bool false, .bool false, .pointer (some ⟨w.heap.size, 0, none⟩), .int .u8 kk, .bool false, .bool false, undef, .bool false, .int .i64 (v), .agg #[.int .u8 kk, .int .i64 a, .int .i64 m, .int .i64 k], .bool true, .bool false, undef, .int .i64 (v), .pointer (some ⟨w.heap.size, 2, none⟩), .int .i64 (m), .int .i64 (v * m), .pointer (some ⟨w.heap.size, 3, none⟩), .int .i64 (k), .int .i64 (2 ^ k), .int .i64 (q), .agg #[.int .u8 1, .int .u8 0, .int .u8 0, .int .u8 0, .int .u8 0, .int .u8 0], .int .i64 (q), .bool (decide (q < 0)), undef, undef, undef, .int .i64 (q), .bool (decide (100000 ≤ q)), undef, .int .i64 (q), .func (.func 72) #[] #[.pointer (some ⟨W3.heap.size + 1, 0, none⟩), .pointer (some ⟨W3.heap.size + 1 + 1, 0, none⟩)], .int .i64 (4 - i), .int .u8 (digF 10 q (4 - i)), undef, undef, undef, undef, undef], defers := [] }) ?_ ?_ ?_
    · have h := cells_at hX j (.int .u8 (if j = 0 then 1 else 0)) (by rcases j with _ | _ | _ | _ | _ | _ | j; all_goals first | rfl | omega)
      refine ⟨h.1.trans ?_, h.2⟩
      unfold cellE
      split
      · rfl
      · rw [if_neg (by omega)]
    · intro l i W K hk hK
      have sem := Oper.semAt_some l
      gi_wp2
      exact hK
    · intro l i W hk hk4 hc hf
      have sem := Oper.semAt_some l
      gi_wp2
    · rintro D W hD ⟨hb5, hx, hrr⟩ hd
      obtain ⟨x0, _⟩ := hx 0 (by decide)
      rw [cell_five0] at x0
      obtain ⟨x1, _⟩ := hx 1 (by decide)
      rw [show cellE _ _ _ 5 (0 + 1) = _ from cell_five_] at x1
      obtain ⟨x2, _⟩ := hx 2 (by decide)
      rw [show cellE _ _ _ 5 (1 + 1) = _ from cell_five_] at x2
      obtain ⟨x3, _⟩ := hx 3 (by decide)
      rw [show cellE _ _ _ 5 (2 + 1) = _ from cell_five_] at x3
      obtain ⟨x4, _⟩ := hx 4 (by decide)
      rw [show cellE _ _ _ 5 (3 + 1) = _ from cell_five_] at x4
      obtain ⟨x5, _⟩ := hx 5 (by decide)
      rw [show cellE _ _ _ 5 (4 + 1) = _ from cell_five_] at x5
      obtain ⟨r0, f0⟩ := hrr 0 (by decide)
      obtain ⟨r1, f1⟩ := hrr 1 (by decide)
      obtain ⟨r2, f2⟩ := hrr 2 (by decide)
      obtain ⟨r3, f3⟩ := hrr 3 (by decide)
      obtain ⟨r4, f4⟩ := hrr 4 (by decide)
      obtain ⟨r5, f5⟩ := hrr 5 (by decide)
      clear hx hrr hr
      gi_wp2
      have hk : KeepsOthers W (((((W.setCell ⟨w.heap.size + 1, 0, none⟩ (.int .u8 1)).setCell ⟨w.heap.size + 1, 1, none⟩ (.int .u8 (digF 10 q 0))).setCell ⟨w.heap.size + 1, 2, none⟩ (.int .u8 (digF 10 q 1))).setCell ⟨w.heap.size + 1, 3, none⟩ (.int .u8 (digF 10 q 2))).setCell ⟨w.heap.size + 1, 4, none⟩ (.int .u8 (digF 10 q 3))) :=
        ((((KeepsOthers.setCell _ _ _).trans (KeepsOthers.setCell _ _ _)).trans (KeepsOthers.setCell _ _ _)).trans (KeepsOthers.setCell _ _ _)).trans (KeepsOthers.setCell _ _ _)
      have hK' := (hk.trans (KeepsOthers.setCell _ ⟨w.heap.size + 1, 5, none⟩ (.int .u8 (digF 10 q 4)))).same D _ hd rfl
      have h6 := six_cells (W := W) (R := w.heap.size + 1) (v0 := .int .u8 1) (v1 := .int .u8 (digF 10 q 0)) (v2 := .int .u8 (digF 10 q 1)) (v3 := .int .u8 (digF 10 q 2)) (v4 := .int .u8 (digF 10 q 3)) (v5 := .int .u8 (digF 10 q 4)) (by rw [r0]; rfl) (by rw [r1]; rfl) (by rw [r2]; rfl) (by rw [r3]; rfl) (by rw [r4]; rfl) (by rw [r5]; rfl)
      have hb6 := ((((((hb5.setCell (p := ⟨w.heap.size + 1, 0, none⟩) (Nat.le_succ _) (.int .u8 1)).setCell (p := ⟨w.heap.size + 1, 1, none⟩) (Nat.le_succ _) (.int .u8 (digF 10 q 0))).setCell (p := ⟨w.heap.size + 1, 2, none⟩) (Nat.le_succ _) (.int .u8 (digF 10 q 1))).setCell (p := ⟨w.heap.size + 1, 3, none⟩) (Nat.le_succ _) (.int .u8 (digF 10 q 2))).setCell (p := ⟨w.heap.size + 1, 4, none⟩) (Nat.le_succ _) (.int .u8 (digF 10 q 3))).setCell (p := ⟨w.heap.size + 1, 5, none⟩) (Nat.le_succ _) (.int .u8 (digF 10 q 4)))
      generalize World.setCell _ _ _ = W6 at hK' h6 hb6 ⊢
      have up := fun {a : Addr} {v : Value} (h : W6.cell? a = some v) => cell_kept h (grownBy_putObj' W6 D (.deferred none)) (fun r e => by cases e; exact ⟨_, hK', rfl⟩)
      obtain ⟨g0, g1, g2, g3, g4, g5⟩ := h6
      have g0 := up g0
      have g1 := up g1
      have g2 := up g2
      have g3 := up g3
      have g4 := up g4
      have g5 := up g5
      refine ⟨by simp, .inl ⟨_, _, rfl, run_takeDeferred hK', ?_⟩⟩
      refine ⟨.tuple #[shV 1 (digF 10 q), .int .i64 0], ?_, ?_, ?_⟩
      · simp [results, Try.f45, go_sem, shV, g0, g1, g2, g3, g4, g5]
      · have e : ((n.natAbs : Nat) : Int) = q := by omega
        first | rw [e] | rw [if_neg (by omega), e] | rw [show ((q.natAbs : Nat) : Int) = q by omega]
      · exact hb6.grown (grownBy_putObj' W6 D (.deferred none)) (by have := hb6.size; omega) (fun k e => by cases e; omega)
open Go.E
set_option maxRecDepth 8000
set_option maxRecDepth 8000 in
theorem decimal_c (v : Int) (c : Cmp) (hc : c.Ok) : callP Try.prog 45 [.int .i64 v, cA c] (· = .tuple [shA (decV v c).1 (decV v c).2.1, .int .i64 (decV v c).2.2]) := by
  by_cases h : (decV v c).2.2 = 0
  · unfold decV at h ⊢
    by_cases h1 : validC c = false ∨ c.k = 1
    · rw [if_pos h1] at h; exact absurd h (by decide)
    rw [if_neg h1] at h ⊢
    by_cases h3 : inV v c.k = false
    · rw [if_pos h3] at h; exact absurd h (by decide)
    rw [if_neg h3] at h ⊢
    by_cases h4 : (rV (v * c.n) (2 ^ c.s.toNat)).natAbs ≥ 100000
    · rw [if_pos h4] at h; exact absurd h (by decide)
    rw [if_neg h4]
    have h1a : validC c = true := by
      cases hh : validC c
      · exact absurd (.inl hh) h1
      · rfl
    have h1b : ¬ c.k = 1 := fun hh => h1 (.inr hh)
    have h3a : inV v c.k = true := by simpa using h3
    obtain ⟨_, _, hs⟩ := ok_facts h1a h1b h3a
    obtain ⟨k, hk, hk40⟩ := pow_eq c.s hs
    rw [hk, Int.toNat_natCast] at h4 ⊢
    refine callP_of_walk (enters_of Try.func45 rfl (by kernel_rfl)) fun x us _ hr => ?_
    obtain ⟨u, u', rfl, hu, hu'⟩ := args_two hr
    rw [hu.inv_int]
    obtain ⟨us', rfl, hl, hus⟩ := hu'.inv_agg
    have e : us' = #[.int .u8 c.k, .int .i64 c.a, .int .i64 c.n, .int .i64 c.s] := by
      refine Array.ext (by rw [← hl]; rfl) fun i h1 h2 => ?_
      have hi : i < 4 := h2
      have := hus i _ us'[i] (List.getElem?_eq_getElem (by show i < 4; exact hi)) (Array.getElem?_eq_getElem h1)
      rcases i with _ | _ | _ | _ | i
      · exact this.inv_int
      · exact this.inv_int
      · exact this.inv_int
      · exact this.inv_int
      · omega
    subst e
    refine (decimal_ok v c hc (rV (v * c.n) (2 ^ k)) k h1a h1b h3a hk hk40 rfl (by omega) x.w).mono ?_
    rintro e w' ⟨rfl, hb⟩
    refine ⟨_, .tuple [shA _ _, .int .i64 0], rfl, hb, rfl, fun c' => ?_, rfl⟩
    refine .tuple rfl fun i v u h1 h2 => ?_
    rcases i with _ | _ | i
    · simp at h1 h2; subst h1; subst h2; exact shA_rel c' _ _
    · simp at h1 h2; subst h1; subst h2; exact .closed (.int _ _)
    · simp at h1
  · have := decimal_err v c hc h
    have e : (decV v c).1 = 0 ∧ (decV v c).2.1 = fun _ => 0 := by
      unfold decV at h ⊢
      by_cases g1 : validC c = false ∨ c.k = 1
      · rw [if_pos g1]; exact ⟨rfl, rfl⟩
      rw [if_neg g1] at h ⊢
      by_cases g2 : inV v c.k = false
      · rw [if_pos g2]; exact ⟨rfl, rfl⟩
      rw [if_neg g2] at h ⊢
      by_cases g3 : (rV (v * c.n) (2 ^ c.s.toNat)).natAbs ≥ 100000
      · rw [if_pos g3]; exact ⟨rfl, rfl⟩
      rw [if_neg g3] at h
      exact absurd rfl h
    rw [e.1, e.2]
    exact this
end Go.Proofs
