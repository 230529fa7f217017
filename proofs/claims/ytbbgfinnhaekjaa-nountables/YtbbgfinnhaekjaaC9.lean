/- Chapter 29, part n: Value. -/
import Derived.Test.YtbbgfinnhaekjaaC8
import Derived.Test.YtbbgfinnhaekjaaC3
import Derived.Deep.RegionWith
import Derived.Laws.Cover3
set_option linter.unusedVariables false
set_option linter.unusedSimpArgs false
/-! Bc. -/
namespace Go.Proofs
open Go.E
set_option maxRecDepth 8000

/-- A memory: words. -/
def Words (l : List Int) : Prop := ∀ x ∈ l, 0 ≤ x ∧ x < 65536
theorem Words.at {l : List Int} (h : Words l) (i : Nat) : 0 ≤ l.getD i 0 ∧ l.getD i 0 < 65536 := by
  rw [List.getD_eq_getElem?_getD]
  rcases Nat.lt_or_ge i l.length with hi | hi
  · rw [List.getElem?_eq_getElem hi]; exact h _ (List.getElem_mem _)
  · rw [List.getElem?_eq_none hi]; decide
/-- The value of a component in a memory, and the error. -/
def valV (c : Cmp) (l : List Int) : Int × Int :=
  if validC c = false then (0, 2)
  else if c.a > (l.length : Int) - sizeV c.k then (0, 3)
  else if c.k = 1 then (l.getD c.a.toNat 0 % 32768, 0)
  else if c.k = 2 then (wordV (l.getD c.a.toNat 0), 0)
  else (valD (l.getD c.a.toNat 0) (l.getD (c.a.toNat + 1) 0), 0)
theorem val_facts2 {c : Cmp} (h : validC c = true) : 0 ≤ c.a ∧ c.a ≤ 2047 ∧ (c.k = 1 ∨ c.k = 2 ∨ c.k = 3) := by
  have h := of_decide_eq_true h
  have hs : sizeV c.k = 1 ∨ sizeV c.k = 2 := by unfold sizeV; split <;> simp
  omega
set_option maxHeartbeats 4000000 in
theorem rvalC_c (c : Cmp) (hc : c.Ok) (l : List Int) (hlen : l.length ≤ 9223372036854775807) (hl : Words l) : callP Try.prog 29 [cA c, ints .u16 l] (· = .tuple [.int .i64 (valV c l).1, .int .i64 (valV c l).2]) := by
  refine callE_def env (fn := Try.f29) rfl (by decide) rfl ?_
  refine callT_E (rone_c c hc) rfl ?_
  by_cases h1 : validC c = false
  · rw [h1]
    repeat (first | refine branch_true ?_ | refine branch_false ?_ | (refine branch_t' (decide_eq_true ?_) ?_; focus omega) | (refine branch_f' (decide_eq_false ?_) ?_; focus omega) | (refine branch_t' (beq_iff_eq.2 ?_) ?_; focus omega) | (refine branch_f' (beq_eq_false_iff_ne.2 ?_) ?_; focus omega) | (refine branch_t' (bne_iff_ne.2 ?_) ?_; focus omega) | (refine branch_f' (bne_eq_false_iff_eq.2 ?_) ?_; focus omega) | refine branch_t' (by assumption) ?_ | refine branch_f' (by assumption) ?_)
    rw [valV, if_pos h1]
    show Eqv _ _
    exact .up (.up (.refl _))
  have h1t : validC c = true := by simpa using h1
  rw [h1t]
  obtain ⟨ha0, ha1, hk⟩ := val_facts2 h1t
  have hs : sizeV c.k = 1 ∨ sizeV c.k = 2 := by unfold sizeV; split <;> simp
  repeat (first | refine branch_true ?_ | refine branch_false ?_ | (refine branch_t' (decide_eq_true ?_) ?_; focus omega) | (refine branch_f' (decide_eq_false ?_) ?_; focus omega) | (refine branch_t' (beq_iff_eq.2 ?_) ?_; focus omega) | (refine branch_f' (beq_eq_false_iff_ne.2 ?_) ?_; focus omega) | (refine branch_t' (bne_iff_ne.2 ?_) ?_; focus omega) | (refine branch_f' (bne_eq_false_iff_eq.2 ?_) ?_; focus omega) | refine branch_t' (by assumption) ?_ | refine branch_f' (by assumption) ?_)
  refine draw_tree (picks [0, 1, 2, 3, 4, 5, 6, 7, 8] .done) (by decide +kernel) ?_
  refine ⟨_, ⟨words_c c.k, rfl⟩, ?_⟩
  have w1 : IntKind.i64.wrap (c.a + sizeV c.k) = c.a + sizeV c.k := wi (by omega) (by omega)
  rw [valV, if_neg h1]
  by_cases h2 : c.a > (l.length : Int) - sizeV c.k
  · rw [if_pos h2]
    refine branch_t' (decide_eq_true (by rw [w1]; omega)) ?_
    show Eqv _ _
    exact .up (.up (.refl _))
  rw [if_neg h2]
  refine branch_f' (decide_eq_false (by rw [w1]; omega)) ?_
  by_cases e1 : c.k = 1
  · rw [if_pos e1]
    rw [e1, show sizeV 1 = 1 from rfl] at h2
    repeat (first | refine branch_true ?_ | refine branch_false ?_ | (refine branch_t' (decide_eq_true ?_) ?_; focus omega) | (refine branch_f' (decide_eq_false ?_) ?_; focus omega) | (refine branch_t' (beq_iff_eq.2 ?_) ?_; focus omega) | (refine branch_f' (beq_eq_false_iff_ne.2 ?_) ?_; focus omega) | (refine branch_t' (bne_iff_ne.2 ?_) ?_; focus omega) | (refine branch_f' (bne_eq_false_iff_eq.2 ?_) ?_; focus omega) | refine branch_t' (by assumption) ?_ | refine branch_f' (by assumption) ?_)
    apply need_intro
    · omega
    refine callT_E (low_c (hl.at c.a.toNat)) rfl ?_
    repeat (first | refine branch_true ?_ | refine branch_false ?_ | (refine branch_t' (decide_eq_true ?_) ?_; focus omega) | (refine branch_f' (decide_eq_false ?_) ?_; focus omega) | (refine branch_t' (beq_iff_eq.2 ?_) ?_; focus omega) | (refine branch_f' (beq_eq_false_iff_ne.2 ?_) ?_; focus omega) | (refine branch_t' (bne_iff_ne.2 ?_) ?_; focus omega) | (refine branch_f' (bne_eq_false_iff_eq.2 ?_) ?_; focus omega) | refine branch_t' (by assumption) ?_ | refine branch_f' (by assumption) ?_)
    show Eqv _ _
    exact .up (.up (.refl _))
  rw [if_neg e1]
  by_cases e2 : c.k = 2
  · rw [if_pos e2]
    rw [e2, show sizeV 2 = 1 from rfl] at h2
    repeat (first | refine branch_true ?_ | refine branch_false ?_ | (refine branch_t' (decide_eq_true ?_) ?_; focus omega) | (refine branch_f' (decide_eq_false ?_) ?_; focus omega) | (refine branch_t' (beq_iff_eq.2 ?_) ?_; focus omega) | (refine branch_f' (beq_eq_false_iff_ne.2 ?_) ?_; focus omega) | (refine branch_t' (bne_iff_ne.2 ?_) ?_; focus omega) | (refine branch_f' (bne_eq_false_iff_eq.2 ?_) ?_; focus omega) | refine branch_t' (by assumption) ?_ | refine branch_f' (by assumption) ?_)
    apply need_intro
    · omega
    refine callT_E (rocval_c (hl.at c.a.toNat)) rfl ?_
    repeat (first | refine branch_true ?_ | refine branch_false ?_ | (refine branch_t' (decide_eq_true ?_) ?_; focus omega) | (refine branch_f' (decide_eq_false ?_) ?_; focus omega) | (refine branch_t' (beq_iff_eq.2 ?_) ?_; focus omega) | (refine branch_f' (beq_eq_false_iff_ne.2 ?_) ?_; focus omega) | (refine branch_t' (bne_iff_ne.2 ?_) ?_; focus omega) | (refine branch_f' (bne_eq_false_iff_eq.2 ?_) ?_; focus omega) | refine branch_t' (by assumption) ?_ | refine branch_f' (by assumption) ?_)
    show Eqv _ _
    exact .up (.up (.refl _))
  rw [if_neg e2]
  have e3 : c.k = 3 := by omega
  rw [e3, show sizeV 3 = 2 from rfl] at h2
  repeat (first | refine branch_true ?_ | refine branch_false ?_ | (refine branch_t' (decide_eq_true ?_) ?_; focus omega) | (refine branch_f' (decide_eq_false ?_) ?_; focus omega) | (refine branch_t' (beq_iff_eq.2 ?_) ?_; focus omega) | (refine branch_f' (beq_eq_false_iff_ne.2 ?_) ?_; focus omega) | (refine branch_t' (bne_iff_ne.2 ?_) ?_; focus omega) | (refine branch_f' (bne_eq_false_iff_eq.2 ?_) ?_; focus omega) | refine branch_t' (by assumption) ?_ | refine branch_f' (by assumption) ?_)
  refine draw_tree (picks [0, 1, 2, 3, 4, 5, 6, 7, 8, 9, 10, 11, 12, 13, 14] .done) (by decide +kernel) ?_
  apply need_intro
  · omega
  have w2 : IntKind.i64.wrap (c.a + 1) = c.a + 1 := wi (by omega) (by omega)
  apply need_intro
  · rw [w2]; omega
  have cv : ∀ a : Int, a = c.a + 1 → callP Try.prog 51 [D2 (l.getD c.a.toNat 0) (l.getD a.toNat 0)] (· = .int .i64 (valD (l.getD c.a.toNat 0) (l.getD (c.a.toNat + 1) 0))) := by
    rintro _ rfl
    rw [show (c.a + 1).toNat = c.a.toNat + 1 by omega]
    exact rvalue_c (hl.at _) (hl.at _)
  refine ⟨_, ⟨cv _ w2, rfl⟩, ?_⟩
  show Eqv _ _
  exact .up (.up (.refl _))
set_option maxHeartbeats 4000000 in
/-- Value, where it does not read a double. -/
theorem valC_part (c : Cmp) (hc : c.Ok) (l : List Int) (hlen : l.length ≤ 9223372036854775807) (hl : Words l) (h3 : validC c = false ∨ c.a > (l.length : Int) - sizeV c.k ∨ c.k ≠ 3) : callP Try.prog 28 [cA c, ints .u16 l] (· = .tuple [.int .i64 (valV c l).1, .int .i64 (valV c l).2]) := by
  refine callE_def env (fn := Try.f28) rfl (by decide) rfl ?_
  refine callT_E (valid_c c hc) rfl ?_
  by_cases h1 : validC c = false
  · rw [h1]
    repeat (first | refine branch_true ?_ | refine branch_false ?_ | (refine branch_t' (decide_eq_true ?_) ?_; focus omega) | (refine branch_f' (decide_eq_false ?_) ?_; focus omega) | (refine branch_t' (beq_iff_eq.2 ?_) ?_; focus omega) | (refine branch_f' (beq_eq_false_iff_ne.2 ?_) ?_; focus omega) | (refine branch_t' (bne_iff_ne.2 ?_) ?_; focus omega) | (refine branch_f' (bne_eq_false_iff_eq.2 ?_) ?_; focus omega) | refine branch_t' (by assumption) ?_ | refine branch_f' (by assumption) ?_)
    rw [valV, if_pos h1]
    show Eqv _ _
    exact .up (.up (.refl _))
  have h1t : validC c = true := by simpa using h1
  rw [h1t]
  obtain ⟨ha0, ha1, hk⟩ := val_facts2 h1t
  have hs : sizeV c.k = 1 ∨ sizeV c.k = 2 := by unfold sizeV; split <;> simp
  repeat (first | refine branch_true ?_ | refine branch_false ?_ | (refine branch_t' (decide_eq_true ?_) ?_; focus omega) | (refine branch_f' (decide_eq_false ?_) ?_; focus omega) | (refine branch_t' (beq_iff_eq.2 ?_) ?_; focus omega) | (refine branch_f' (beq_eq_false_iff_ne.2 ?_) ?_; focus omega) | (refine branch_t' (bne_iff_ne.2 ?_) ?_; focus omega) | (refine branch_f' (bne_eq_false_iff_eq.2 ?_) ?_; focus omega) | refine branch_t' (by assumption) ?_ | refine branch_f' (by assumption) ?_)
  refine draw_tree (picks [0, 1, 2, 3, 4, 5, 6, 7, 8] .done) (by decide +kernel) ?_
  refine ⟨_, ⟨size_c c, rfl⟩, ?_⟩
  have w1 : IntKind.i64.wrap ((l.length : Int) - sizeV c.k) = (l.length : Int) - sizeV c.k := wi (by omega) (by omega)
  rw [valV, if_neg h1]
  by_cases h2 : c.a > (l.length : Int) - sizeV c.k
  · rw [if_pos h2]
    refine branch_t' (decide_eq_true (by rw [w1]; omega)) ?_
    show Eqv _ _
    exact .up (.up (.refl _))
  rw [if_neg h2]
  refine branch_f' (decide_eq_false (by rw [w1]; omega)) ?_
  have hk3 : c.k ≠ 3 := by
    rcases h3 with h | h | h
    · exact absurd h h1
    · exact absurd h h2
    · exact h
  by_cases e1 : c.k = 1
  · rw [if_pos e1]
    rw [e1, show sizeV 1 = 1 from rfl] at h2
    repeat (first | refine branch_true ?_ | refine branch_false ?_ | (refine branch_t' (decide_eq_true ?_) ?_; focus omega) | (refine branch_f' (decide_eq_false ?_) ?_; focus omega) | (refine branch_t' (beq_iff_eq.2 ?_) ?_; focus omega) | (refine branch_f' (beq_eq_false_iff_ne.2 ?_) ?_; focus omega) | (refine branch_t' (bne_iff_ne.2 ?_) ?_; focus omega) | (refine branch_f' (bne_eq_false_iff_eq.2 ?_) ?_; focus omega) | refine branch_t' (by assumption) ?_ | refine branch_f' (by assumption) ?_)
    apply need_intro
    · omega
    have e := and_mask (k := .u16) (b := 16) (m := 15) (x := l.getD c.a.toNat 0) rfl (fun y a b => wu16 a b) (by decide) (hl.at _).1 (hl.at _).2
    rw [show ((2 : Int) ^ 15 - 1) = 32767 from rfl, show ((2 : Int) ^ 15) = 32768 from rfl] at e
    have hb := hl.at c.a.toNat
    show Eqv _ _
    refine eqv_of_eq (congrArg (fun z => AVal.tuple [.int .i64 z, .int .i64 0]) ?_)
    exact (congrArg _ e).trans (wi (by omega) (by omega))
  rw [if_neg e1]
  have e2 : c.k = 2 := by omega
  rw [if_pos e2]
  rw [e2, show sizeV 2 = 1 from rfl] at h2
  repeat (first | refine branch_true ?_ | refine branch_false ?_ | (refine branch_t' (decide_eq_true ?_) ?_; focus omega) | (refine branch_f' (decide_eq_false ?_) ?_; focus omega) | (refine branch_t' (beq_iff_eq.2 ?_) ?_; focus omega) | (refine branch_f' (beq_eq_false_iff_ne.2 ?_) ?_; focus omega) | (refine branch_t' (bne_iff_ne.2 ?_) ?_; focus omega) | (refine branch_f' (bne_eq_false_iff_eq.2 ?_) ?_; focus omega) | refine branch_t' (by assumption) ?_ | refine branch_f' (by assumption) ?_)
  apply need_intro
  · omega
  refine callT_E (ocval_c (hl.at c.a.toNat)) rfl ?_
  repeat (first | refine branch_true ?_ | refine branch_false ?_ | (refine branch_t' (decide_eq_true ?_) ?_; focus omega) | (refine branch_f' (decide_eq_false ?_) ?_; focus omega) | (refine branch_t' (beq_iff_eq.2 ?_) ?_; focus omega) | (refine branch_f' (beq_eq_false_iff_ne.2 ?_) ?_; focus omega) | (refine branch_t' (bne_iff_ne.2 ?_) ?_; focus omega) | (refine branch_f' (bne_eq_false_iff_eq.2 ?_) ?_; focus omega) | refine branch_t' (by assumption) ?_ | refine branch_f' (by assumption) ?_)
  show Eqv _ _
  exact .up (.up (.refl _))
end Go.Proofs
/-! Bd. -/
namespace Go.Proofs
open Go.RowKit

theorem ints_inv2 {c : Go.E.Cx} {k : IntKind} {l : List Int} {u : Value} (h : Go.E.VRel c (Go.E.ints k l) u) : ∃ A cap, u = .slice A l.length cap ∧ l.length ≤ cap ∧ (l.length = 0 ∨ ∃ r o, A = some ⟨r, o, none⟩ ∧ r < c.w.heap.size ∧ ∀ i, i < l.length → c.w.cell? ⟨r, o + i, none⟩ = some (.int k (l.getD i 0))) := by
  obtain ⟨A, cap, rfl, hc⟩ := Go.E.ints_inv h
  refine ⟨A, cap, rfl, ?_, hc⟩
  unfold Go.E.ints at h
  generalize l.length = n at h
  cases h with
  | closed h =>
    cases h with
    | roNil A cap => exact Nat.zero_le _
    | ro hc _ _ _ _ _ => exact hc

/-- The component's cells in their box. -/
structure FroC (w W : World) (c : Cmp) : Prop where
  b : Below w.heap.size w W
  sz : w.heap.size + 1 ≤ W.heap.size
  c0 : W.cell? ⟨w.heap.size, 0, none⟩ = some (.int .u8 c.k)
  c1 : W.cell? ⟨w.heap.size, 1, none⟩ = some (.int .i64 c.a)
  c2 : W.cell? ⟨w.heap.size, 2, none⟩ = some (.int .i64 c.n)
  c3 : W.cell? ⟨w.heap.size, 3, none⟩ = some (.int .i64 c.s)
theorem FroC.on {w W W' : World} {c : Cmp} (h : FroC w W c) (hb : Below W.heap.size W W') : FroC w W' c where
  b := h.b.trans (hb.mono (by have := h.sz; omega))
  sz := Nat.le_trans h.sz hb.size
  c0 := (hb.cell (p := ⟨w.heap.size, 0, none⟩) (by have := h.sz; show w.heap.size < _; omega)).trans h.c0
  c1 := (hb.cell (p := ⟨w.heap.size, 1, none⟩) (by have := h.sz; show w.heap.size < _; omega)).trans h.c1
  c2 := (hb.cell (p := ⟨w.heap.size, 2, none⟩) (by have := h.sz; show w.heap.size < _; omega)).trans h.c2
  c3 := (hb.cell (p := ⟨w.heap.size, 3, none⟩) (by have := h.sz; show w.heap.size < _; omega)).trans h.c3
theorem FroC.start (w : World) (c : Cmp) : FroC w (w.alloc (.cells #[.int .u8 c.k, .int .i64 c.a, .int .i64 c.n, .int .i64 c.s] 24)) c := by
  have hA := World.alloc_heap_new w (.cells #[.int .u8 c.k, .int .i64 c.a, .int .i64 c.n, .int .i64 c.s] 24)
  exact ⟨(Below.refl _ w).alloc (Nat.le_refl _) _, by simp only [World.size_alloc]; omega, (cells_at hA 0 _ rfl).1, (cells_at hA 1 _ rfl).1, (cells_at hA 2 _ rfl).1, (cells_at hA 3 _ rfl).1⟩
theorem size_w (c : Cmp) (W : World) : Calls Try.prog 46 #[cV c] W fun e W' => e = .returned (.int .i64 (sizeV c.k)) ∧ Below W.heap.size W W' :=
  calls_int (size_c c) (.one (cV_rel _ c))
theorem value_w {x y : Int} (hx : W16 x) (hy : W16 y) (W : World) : Calls Try.prog 48 #[.agg #[.int .u16 x, .int .u16 y]] W fun e W' => e = .returned (.int .i64 (valD x y)) ∧ Below W.heap.size W W' := by
  refine calls_int (value_c hx hy) (.one (.agg rfl fun i v u h1 h2 => ?_))
  rcases i with _ | _ | i
  all_goals
    simp at h1 h2
    try (subst h1; subst h2; exact .closed (.int _ _))

/-- The region of Value that compares the address with the memory's end. -/
def regV : Code := (Code.region 3
      #[{ dst := some 11, op := Op.fieldAddr 24 (Operand.tmp 2) 1, type := 0, pos := "noun.go:178", after := #[],
          guard := none },
        { dst := some 12, op := Op.load 3 (Operand.tmp 11), type := 3, pos := "noun.go:178",
          after := #[{ on := 0, ground := Ground.data }], guard := none },
        { dst := some 13, op := Op.move (Operand.tmp 1), type := 62, pos := "noun.go:178", after := #[],
          guard := none },
        { dst := some 14,
          op := Op.call { callee := Callee.builtin Builtin.len, args := #[Operand.tmp 13], argTypes := #[62] },
          type := 3, pos := "noun.go:178", after := #[{ on := 2, ground := Ground.data }], guard := none },
        { dst := some 15, op := Op.load 24 (Operand.tmp 2), type := 24, pos := "noun.go:178", after := #[],
          guard := none },
        { dst := some 16,
          op := Op.call { callee := Callee.value (Operand.func 46), args := #[Operand.tmp 15], argTypes := #[24] },
          type := 3, pos := "noun.go:178", after := #[{ on := 4, ground := Ground.data }], guard := none },
        { dst := some 17, op := Op.binOp BinOp.sub 3 (Operand.tmp 14) (Operand.tmp 16) 3, type := 3,
          pos := "noun.go:178", after := #[{ on := 3, ground := Ground.data }, { on := 5, ground := Ground.data }],
          guard := none },
        { dst := some 18, op := Op.binOp BinOp.gtr 3 (Operand.tmp 12) (Operand.tmp 17) 3, type := 4,
          pos := "noun.go:178", after := #[{ on := 1, ground := Ground.data }, { on := 6, ground := Ground.data }],
          guard := none },
        { dst := some 10, op := Op.assign (Operand.tmp 18), type := 4, pos := "noun.go:178",
          after := #[{ on := 7, ground := Ground.data }, { on := 5, ground := Ground.chain }], guard := none }]
      true)
set_option maxHeartbeats 8000000 in
set_option maxRecDepth 1000000 in
theorem regV_w (K : Act → World → Prop) (B r o n cap : Nat) (a m s : Int) {u0 u3 u4 u5 u6 u7 u8 u9 u10 u11 u12 u13 u14 u15 u16 u17 u18 u19 u20 u21 u22 u23 u24 u25 u26 u27 u28 u29 u30 u31 u32 u33 u34 u35 u36 u37 u38 u39 u40 u41 u42 u43 u44 u45 u46 u47 u48 u49 : Value} (W : World) (hB : B < W.heap.size)
    (c0 : W.cell? ⟨B, 0, none⟩ = some (.int .u8 3)) (c1 : W.cell? ⟨B, 1, none⟩ = some (.int .i64 a)) (c2 : W.cell? ⟨B, 2, none⟩ = some (.int .i64 m)) (c3 : W.cell? ⟨B, 3, none⟩ = some (.int .i64 s))
    (hq : ∀ W, Calls Try.prog 46 #[.agg #[.int .u8 3, .int .i64 a, .int .i64 m, .int .i64 s]] W fun e W' => e = .returned (.int .i64 2) ∧ Below W.heap.size W W')
    (hn : n ≤ 9223372036854775807)
    (hQ : ∀ W', Below W.heap.size W W' → K { tmps := #[u0, .slice (some ⟨r, o, none⟩) n cap, .pointer (some ⟨B, 0, none⟩), u3, u4, u5, u6, u7, u8, u9, .bool (decide ((n : Int) - 2 < a)), .pointer (some ⟨B, 1, none⟩), .int .i64 a, .slice (some ⟨r, o, none⟩) n cap, .int .i64 n, .agg #[.int .u8 3, .int .i64 a, .int .i64 m, .int .i64 s], .int .i64 2, .int .i64 ((n : Int) - 2), .bool (decide ((n : Int) - 2 < a)), u19, u20, u21, u22, u23, u24, u25, u26, u27, u28, u29, u30, u31, u32, u33, u34, u35, u36, u37, u38, u39, u40, u41, u42, u43, u44, u45, u46, u47, u48, u49], defers := [] } W') :
    regV.wp Try.prog (Exit.then K (fun _ _ _ => False)) { tmps := #[u0, .slice (some ⟨r, o, none⟩) n cap, .pointer (some ⟨B, 0, none⟩), u3, u4, u5, u6, u7, u8, u9, u10, u11, u12, u13, u14, u15, u16, u17, u18, u19, u20, u21, u22, u23, u24, u25, u26, u27, u28, u29, u30, u31, u32, u33, u34, u35, u36, u37, u38, u39, u40, u41, u42, u43, u44, u45, u46, u47, u48, u49], defers := [] } W := by
  have w1 : IntKind.i64.wrap ((n : Int) - 2) = (n : Int) - 2 := wi (by omega) (by omega)
  unfold regV
  go_region_with (go_at_call 46; refine (hq _).mono ?_; rintro e W3 ⟨rfl, b3⟩; have d1 := (b3.cell (p := ⟨B, 1, none⟩) hB).trans c1)
  all_goals exact hQ _ ((Below.refl _ W).drew.trans b3)
theorem regV_in {K : Act → World → Prop} {Q' : Exit → Act → World → Prop} (B r o n cap : Nat) (a m s : Int) {u0 u3 u4 u5 u6 u7 u8 u9 u10 u11 u12 u13 u14 u15 u16 u17 u18 u19 u20 u21 u22 u23 u24 u25 u26 u27 u28 u29 u30 u31 u32 u33 u34 u35 u36 u37 u38 u39 u40 u41 u42 u43 u44 u45 u46 u47 u48 u49 : Value} (W : World) (hB : B < W.heap.size)
    (c0 : W.cell? ⟨B, 0, none⟩ = some (.int .u8 3)) (c1 : W.cell? ⟨B, 1, none⟩ = some (.int .i64 a)) (c2 : W.cell? ⟨B, 2, none⟩ = some (.int .i64 m)) (c3 : W.cell? ⟨B, 3, none⟩ = some (.int .i64 s))
    (hq : ∀ W, Calls Try.prog 46 #[.agg #[.int .u8 3, .int .i64 a, .int .i64 m, .int .i64 s]] W fun e W' => e = .returned (.int .i64 2) ∧ Below W.heap.size W W')
    (hn : n ≤ 9223372036854775807)
    (hQ : ∀ W', Below W.heap.size W W' → K { tmps := #[u0, .slice (some ⟨r, o, none⟩) n cap, .pointer (some ⟨B, 0, none⟩), u3, u4, u5, u6, u7, u8, u9, .bool (decide ((n : Int) - 2 < a)), .pointer (some ⟨B, 1, none⟩), .int .i64 a, .slice (some ⟨r, o, none⟩) n cap, .int .i64 n, .agg #[.int .u8 3, .int .i64 a, .int .i64 m, .int .i64 s], .int .i64 2, .int .i64 ((n : Int) - 2), .bool (decide ((n : Int) - 2 < a)), u19, u20, u21, u22, u23, u24, u25, u26, u27, u28, u29, u30, u31, u32, u33, u34, u35, u36, u37, u38, u39, u40, u41, u42, u43, u44, u45, u46, u47, u48, u49], defers := [] } W') :
    regV.wp Try.prog (Exit.then K Q') { tmps := #[u0, .slice (some ⟨r, o, none⟩) n cap, .pointer (some ⟨B, 0, none⟩), u3, u4, u5, u6, u7, u8, u9, u10, u11, u12, u13, u14, u15, u16, u17, u18, u19, u20, u21, u22, u23, u24, u25, u26, u27, u28, u29, u30, u31, u32, u33, u34, u35, u36, u37, u38, u39, u40, u41, u42, u43, u44, u45, u46, u47, u48, u49], defers := [] } W := by
  refine wp_mono (regV_w K B r o n cap a m s W hB c0 c1 c2 c3 hq hn hQ) ?_
  rintro (_ | _ | _ | _ | _ | _) a' w' h
  · exact h
  all_goals exact h.elim

set_option maxHeartbeats 8000000 in
set_option maxRecDepth 1000000 in
theorem value_ok (c : Cmp) (hc : c.Ok) (l : List Int) (hlen : l.length ≤ 9223372036854775807) (hl : Words l) (h1 : validC c = true) (h2 : c.a ≤ (l.length : Int) - 2) (h3 : c.k = 3) (r o cap : Nat) (w : World) (hcap : l.length ≤ cap) (hr : r < w.heap.size)
    (hcell : ∀ i, i < l.length → w.cell? ⟨r, o + i, none⟩ = some (.int .u16 (l.getD i 0))) :
    Calls Try.prog 28 #[cV c, .slice (some ⟨r, o, none⟩) l.length cap] w fun e w' => e = .returned (.tuple #[.int .i64 (valD (l.getD c.a.toNat 0) (l.getD (c.a.toNat + 1) 0)), .int .i64 0]) ∧ Below w.heap.size w w' := by
  obtain ⟨ha0, ha1, _⟩ := val_facts2 h1
  have cvw := valid_w c hc
  have csw := size_w c
  have st := FroC.start w c
  rw [h1] at cvw
  rw [h3, show sizeV 3 = 2 from rfl] at csw
  have x0 := hcell c.a.toNat (by omega)
  have x1 := hcell (c.a.toNat + 1) (by omega)
  have wx := hl.at c.a.toNat
  have wy := hl.at (c.a.toNat + 1)
  generalize l.getD c.a.toNat 0 = x at *
  generalize l.getD (c.a.toNat + 1) 0 = y at *
  generalize l.length = n at *
  obtain ⟨kk, a, m, s⟩ := c
  dsimp only at *
  subst h3
  obtain ⟨a, rfl⟩ := Int.eq_ofNat_of_zero_le ha0
  rw [Int.toNat_natCast] at x0 x1
  clear h1 hc hcell ha0
  go_enter Try.func28, Try.ntmps28
  go_wp2_with (go_at_call 39; refine (cvw _).mono ?_; rintro e W1 ⟨rfl, b1⟩)
  obtain ⟨f0, fz, f1, f2, f3, f4⟩ := st.on b1
  refine regV_in w.heap.size r o n cap a m s W1 (by omega) f1 f2 f3 f4 csw hlen ?_
  intro W2 b2
  obtain ⟨g0, gz, g1, g2, g3, g4⟩ := (st.on b1).on b2
  have y0 := (g0.cell (p := ⟨r, o + a, none⟩) hr).trans x0
  have y1 := (g0.cell (p := ⟨r, o + (a + 1), none⟩) hr).trans x1
  rw [← Nat.add_assoc] at y1
  clear f0 f1 f2 f3 f4
  have hlt : ¬ ((n : Int) - 2 < a) := by omega
  have hat : ∀ w', (Instr.arrayAt 89 (.slice (some ⟨r, o + a, none⟩) 2 (cap - a))).run Try.prog w' = .ok (.pointer (some ⟨r, o + a, none⟩)) w' := fun w' => run_arrayAt w' 89 _ 2 _ 2 (cap - a) Try.underlying89 (Nat.le_refl 2)
  go_wp2_with (go_at_call 48; refine (value_w wx wy _).mono ?_; rintro e W3 ⟨rfl, b3⟩)
  go_wp2
  go_ret2
  exact ⟨rfl, g0.trans (b3.mono (by omega))⟩
open Go.E in
theorem valC_c (c : Cmp) (hc : c.Ok) (l : List Int) (hlen : l.length ≤ 9223372036854775807) (hl : Words l) : callP Try.prog 28 [cA c, ints .u16 l] (· = .tuple [.int .i64 (valV c l).1, .int .i64 (valV c l).2]) := by
  by_cases h1 : validC c = false
  · exact valC_part c hc l hlen hl (.inl h1)
  by_cases h2 : c.a > (l.length : Int) - sizeV c.k
  · exact valC_part c hc l hlen hl (.inr (.inl h2))
  by_cases h3 : c.k = 3
  rotate_left
  · exact valC_part c hc l hlen hl (.inr (.inr h3))
  have h1t : validC c = true := by simpa using h1
  obtain ⟨ha0, _, _⟩ := val_facts2 h1t
  have hv : valV c l = (valD (l.getD c.a.toNat 0) (l.getD (c.a.toNat + 1) 0), 0) := by
    rw [valV, if_neg h1, if_neg h2, if_neg (by omega), if_neg (by omega)]
  rw [h3, show sizeV 3 = 2 from rfl] at h2
  rw [hv]
  refine callP_of_walk (enters_of Try.func28 rfl (by kernel_rfl)) fun x us _ hr => ?_
  obtain ⟨u, u', rfl, hu, hu'⟩ := args_two hr
  obtain ⟨us', rfl, hl2, hus⟩ := hu.inv_agg
  have e : us' = #[.int .u8 c.k, .int .i64 c.a, .int .i64 c.n, .int .i64 c.s] := by
    refine Array.ext (by rw [← hl2]; rfl) fun i h1 h2 => ?_
    have hi : i < 4 := h2
    have := hus i _ us'[i] (List.getElem?_eq_getElem (by show i < 4; exact hi)) (Array.getElem?_eq_getElem h1)
    rcases i with _ | _ | _ | _ | i
    · exact this.inv_int
    · exact this.inv_int
    · exact this.inv_int
    · exact this.inv_int
    · omega
  subst e
  obtain ⟨A, cap, rfl, hcap, hcell⟩ := ints_inv2 hu'
  obtain ⟨r, o, rfl, hr2, hce⟩ := hcell.resolve_left (by omega)
  refine (value_ok c hc l hlen hl h1t (by omega) h3 r o cap x.w hcap hr2 hce).mono ?_
  rintro e w' ⟨rfl, hb⟩
  refine ⟨_, .tuple [.int .i64 _, .int .i64 0], rfl, hb, rfl, fun c' => ?_, rfl⟩
  refine .tuple rfl fun i v u h1 h2 => ?_
  rcases i with _ | _ | i
  · simp at h1 h2; subst h1; subst h2; exact .closed (.int _ _)
  · simp at h1 h2; subst h1; subst h2; exact .closed (.int _ _)
  · simp at h1
end Go.Proofs
