/- Chapter 29, part o: Value of two words, walked. -/
import Derived.Test.YthedobkhfdpdaaaC5
import Derived.Test.YthedobkhfdpdaaaC3
import Derived.Deep.RegionWith
import Derived.Laws.Cover3
set_option linter.unusedVariables false
set_option linter.unusedSimpArgs false
namespace Go.Proofs
open Go.RowKit
theorem ints_inv2 {c : Go.E.Cx} {k : IntKind} {l : List Int} {u : Value} (h : Go.E.VRel c (Go.E.ints k l) u) : ∃ A cap, u = .slice A l.length cap ∧ l.length ≤ cap ∧ (l.length = 0 ∨ ∃ r o, A = some ⟨r, o, none⟩ ∧ r < c.w.heap.size ∧ ∀ i, i < l.length → c.w.cell? ⟨r, o + i, none⟩ = some (.int k (l.getD i 0))) := by
  obtain ⟨A, cap, rfl, hc⟩ := Go.E.ints_inv h
  refine ⟨A, cap, rfl, ?_, hc⟩
  unfold Go.E.ints at h
  generalize l.length = n at h
  cases h with
  | closed h =>
    cases h with
    | roNil A cap => exact Nat.zero_le _
    | ro hc _ _ _ _ _ => exact hc
structure FroC (w W : World) (c : Cmp) : Prop where
  b : Below w.heap.size w W
  sz : w.heap.size + 1 ≤ W.heap.size
  c0 : W.cell? ⟨w.heap.size, 0, none⟩ = some (.int .u8 c.k)
  c1 : W.cell? ⟨w.heap.size, 1, none⟩ = some (.int .i64 c.a)
  c2 : W.cell? ⟨w.heap.size, 2, none⟩ = some (.int .i64 c.n)
  c3 : W.cell? ⟨w.heap.size, 3, none⟩ = some (.int .i64 c.s)
theorem FroC.on {w W W' : World} {c : Cmp} (h : FroC w W c) (hb : Below W.heap.size W W') : FroC w W' c where
  b := h.b.trans (hb.mono (by have := h.sz; omega))
  sz := Nat.le_trans h.sz hb.size
  c0 := (hb.cell (p := ⟨w.heap.size, 0, none⟩) (by have := h.sz; show w.heap.size < _; omega)).trans h.c0
  c1 := (hb.cell (p := ⟨w.heap.size, 1, none⟩) (by have := h.sz; show w.heap.size < _; omega)).trans h.c1
  c2 := (hb.cell (p := ⟨w.heap.size, 2, none⟩) (by have := h.sz; show w.heap.size < _; omega)).trans h.c2
  c3 := (hb.cell (p := ⟨w.heap.size, 3, none⟩) (by have := h.sz; show w.heap.size < _; omega)).trans h.c3
theorem FroC.start (w : World) (c : Cmp) : FroC w (w.alloc (.cells #[.int .u8 c.k, .int .i64 c.a, .int .i64 c.n, .int .i64 c.s] 102)) c := by
  have hA := World.alloc_heap_new w (.cells #[.int .u8 c.k, .int .i64 c.a, .int .i64 c.n, .int .i64 c.s] 102)
  exact ⟨(Below.refl _ w).alloc (Nat.le_refl _) _, by simp only [World.size_alloc]; omega, (cells_at hA 0 _ rfl).1, (cells_at hA 1 _ rfl).1, (cells_at hA 2 _ rfl).1, (cells_at hA 3 _ rfl).1⟩
theorem size_w (c : Cmp) (W : World) : Calls Try.prog 36 #[cV c] W fun e W' => e = .returned (.int .i64 (sizeV c.k)) ∧ Below W.heap.size W W' :=
  calls_int (size_c c) (.one (cV_rel _ c))
theorem value_w {x y : Int} (hx : W16 x) (hy : W16 y) (W : World) : Calls Try.prog 57 #[.agg #[.int .u16 x, .int .u16 y]] W fun e W' => e = .returned (.int .i64 (valD x y)) ∧ Below W.heap.size W W' := by
  refine calls_int (value_c hx hy) (.one (.agg rfl fun i v u h1 h2 => ?_))
  rcases i with _ | _ | i
  all_goals
    simp at h1 h2
    try (subst h1; subst h2; exact .closed (.int _ _))
def regV : Code := (Code.region 3
                        #[{ dst := some 11, op := Go.Op.fieldAddr 102 (Go.Operand.tmp 2) 1, type := 0,
                            pos := "noun.go:178", after := #[], guard := none },
                          { dst := some 12, op := Go.Op.load 3 (Go.Operand.tmp 11), type := 3, pos := "noun.go:178",
                            after := #[{ on := 0, ground := Go.Ground.data }], guard := none },
                          { dst := some 13, op := Go.Op.move (Go.Operand.tmp 1), type := 24, pos := "noun.go:178",
                            after := #[], guard := none },
                          { dst := some 14,
                            op :=
                              Go.Op.call
                                { callee := Go.Callee.builtin Go.Builtin.len, args := #[Go.Operand.tmp 13],
                                  argTypes := #[24] },
                            type := 3, pos := "noun.go:178", after := #[{ on := 2, ground := Go.Ground.data }],
                            guard := none },
                          { dst := some 15, op := Go.Op.load 102 (Go.Operand.tmp 2), type := 102, pos := "noun.go:178",
                            after := #[], guard := none },
                          { dst := some 16,
                            op :=
                              Go.Op.call
                                { callee := Go.Callee.value (Go.Operand.func 36), args := #[Go.Operand.tmp 15],
                                  argTypes := #[102] },
                            type := 3, pos := "noun.go:178", after := #[{ on := 4, ground := Go.Ground.data }],
                            guard := none },
                          { dst := some 17, op := Go.Op.binOp Go.BinOp.sub 3 (Go.Operand.tmp 14) (Go.Operand.tmp 16) 3,
                            type := 3, pos := "noun.go:178",
                            after := #[{ on := 3, ground := Go.Ground.data }, { on := 5, ground := Go.Ground.data }],
                            guard := none },
                          { dst := some 18, op := Go.Op.binOp Go.BinOp.gtr 3 (Go.Operand.tmp 12) (Go.Operand.tmp 17) 3,
                            type := 4, pos := "noun.go:178",
                            after := #[{ on := 1, ground := Go.Ground.data }, { on := 6, ground := Go.Ground.data }],
                            guard := none },
                          { dst := some 10, op := Go.Op.assign (Go.Operand.tmp 18), type := 4, pos := "noun.go:178",
                            after := #[{ on := 7, ground := Go.Ground.data }, { on := 5, ground := Go.Ground.chain }],
                            guard := none }] true)
set_option maxHeartbeats 8000000 in
set_option maxRecDepth 1000000 in
theorem regV_w (K : Act → World → Prop) (B r o n cap : Nat) (a m s : Int) {u0 u3 u4 u5 u6 u7 u8 u9 u10 u11 u12 u13 u14 u15 u16 u17 u18 u19 u20 u21 u22 u23 u24 u25 u26 u27 u28 u29 u30 u31 u32 u33 u34 u35 u36 u37 u38 u39 u40 u41 u42 u43 u44 u45 u46 u47 u48 u49 : Value} (W : World) (hB : B < W.heap.size)
    (c0 : W.cell? ⟨B, 0, none⟩ = some (.int .u8 3)) (c1 : W.cell? ⟨B, 1, none⟩ = some (.int .i64 a)) (c2 : W.cell? ⟨B, 2, none⟩ = some (.int .i64 m)) (c3 : W.cell? ⟨B, 3, none⟩ = some (.int .i64 s))
    (hq : ∀ W, Calls Try.prog 36 #[.agg #[.int .u8 3, .int .i64 a, .int .i64 m, .int .i64 s]] W fun e W' => e = .returned (.int .i64 2) ∧ Below W.heap.size W W')
    (hn : n ≤ 9223372036854775807)
    (hQ : ∀ W', Below W.heap.size W W' → K { tmps := #[u0, .slice (some ⟨r, o, none⟩) n cap, .pointer (some ⟨B, 0, none⟩), u3, u4, u5, u6, u7, u8, u9, .bool (decide ((n : Int) - 2 < a)), .pointer (some ⟨B, 1, none⟩), .int .i64 a, .slice (some ⟨r, o, none⟩) n cap, .int .i64 n, .agg #[.int .u8 3, .int .i64 a, .int .i64 m, .int .i64 s], .int .i64 2, .int .i64 ((n : Int) - 2), .bool (decide ((n : Int) - 2 < a)), u19, u20, u21, u22, u23, u24, u25, u26, u27, u28, u29, u30, u31, u32, u33, u34, u35, u36, u37, u38, u39, u40, u41, u42, u43, u44, u45, u46, u47, u48, u49], defers := [] } W') :
    regV.wp Try.prog (Exit.then K (fun _ _ _ => False)) { tmps := #[u0, .slice (some ⟨r, o, none⟩) n cap, .pointer (some ⟨B, 0, none⟩), u3, u4, u5, u6, u7, u8, u9, u10, u11, u12, u13, u14, u15, u16, u17, u18, u19, u20, u21, u22, u23, u24, u25, u26, u27, u28, u29, u30, u31, u32, u33, u34, u35, u36, u37, u38, u39, u40, u41, u42, u43, u44, u45, u46, u47, u48, u49], defers := [] } W := by
  have w1 : IntKind.i64.wrap ((n : Int) - 2) = (n : Int) - 2 := wi (by omega) (by omega)
  unfold regV
  go_region_with (go_at_call 36; refine (hq _).mono ?_; rintro e W3 ⟨rfl, b3⟩; have d1 := (b3.cell (p := ⟨B, 1, none⟩) hB).trans c1)
  all_goals exact hQ _ ((Below.refl _ W).drew.trans b3)
theorem regV_in {K : Act → World → Prop} {Q' : Exit → Act → World → Prop} (B r o n cap : Nat) (a m s : Int) {u0 u3 u4 u5 u6 u7 u8 u9 u10 u11 u12 u13 u14 u15 u16 u17 u18 u19 u20 u21 u22 u23 u24 u25 u26 u27 u28 u29 u30 u31 u32 u33 u34 u35 u36 u37 u38 u39 u40 u41 u42 u43 u44 u45 u46 u47 u48 u49 : Value} (W : World) (hB : B < W.heap.size)
    (c0 : W.cell? ⟨B, 0, none⟩ = some (.int .u8 3)) (c1 : W.cell? ⟨B, 1, none⟩ = some (.int .i64 a)) (c2 : W.cell? ⟨B, 2, none⟩ = some (.int .i64 m)) (c3 : W.cell? ⟨B, 3, none⟩ = some (.int .i64 s))
    (hq : ∀ W, Calls Try.prog 36 #[.agg #[.int .u8 3, .int .i64 a, .int .i64 m, .int .i64 s]] W fun e W' => e = .returned (.int .i64 2) ∧ Below W.heap.size W W')
    (hn : n ≤ 9223372036854775807)
    (hQ : ∀ W', Below W.heap.size W W' → K { tmps := #[u0, .slice (some ⟨r, o, none⟩) n cap, .pointer (some ⟨B, 0, none⟩), u3, u4, u5, u6, u7, u8, u9, .bool (decide ((n : Int) - 2 < a)), .pointer (some ⟨B, 1, none⟩), .int .i64 a, .slice (some ⟨r, o, none⟩) n cap, .int .i64 n, .agg #[.int .u8 3, .int .i64 a, .int .i64 m, .int .i64 s], .int .i64 2, .int .i64 ((n : Int) - 2), .bool (decide ((n : Int) - 2 < a)), u19, u20, u21, u22, u23, u24, u25, u26, u27, u28, u29, u30, u31, u32, u33, u34, u35, u36, u37, u38, u39, u40, u41, u42, u43, u44, u45, u46, u47, u48, u49], defers := [] } W') :
    regV.wp Try.prog (Exit.then K Q') { tmps := #[u0, .slice (some ⟨r, o, none⟩) n cap, .pointer (some ⟨B, 0, none⟩), u3, u4, u5, u6, u7, u8, u9, u10, u11, u12, u13, u14, u15, u16, u17, u18, u19, u20, u21, u22, u23, u24, u25, u26, u27, u28, u29, u30, u31, u32, u33, u34, u35, u36, u37, u38, u39, u40, u41, u42, u43, u44, u45, u46, u47, u48, u49], defers := [] } W := by
  refine wp_mono (regV_w K B r o n cap a m s W hB c0 c1 c2 c3 hq hn hQ) ?_
  rintro (_ | _ | _ | _ | _ | _) a' w' h
  · exact h
  all_goals exact h.elim
set_option maxHeartbeats 8000000 in
set_option maxRecDepth 1000000 in
theorem value_ok (c : Cmp) (hc : c.Ok) (l : List Int) (hlen : l.length ≤ 9223372036854775807) (hl : Words l) (h1 : validC c = true) (h2 : c.a ≤ (l.length : Int) - 2) (h3 : c.k = 3) (r o cap : Nat) (w : World) (hcap : l.length ≤ cap) (hr : r < w.heap.size)
    (hcell : ∀ i, i < l.length → w.cell? ⟨r, o + i, none⟩ = some (.int .u16 (l.getD i 0))) :
    Calls Try.prog 43 #[cV c, .slice (some ⟨r, o, none⟩) l.length cap] w fun e w' => e = .returned (.tuple #[.int .i64 (valD (l.getD c.a.toNat 0) (l.getD (c.a.toNat + 1) 0)), .int .i64 0]) ∧ Below w.heap.size w w' := by
  obtain ⟨ha0, ha1, _⟩ := val_facts2 h1
  have cvw := valid_w c hc
  have csw := size_w c
  have st := FroC.start w c
  rw [h1] at cvw
  rw [h3, show sizeV 3 = 2 from rfl] at csw
  have x0 := hcell c.a.toNat (by omega)
  have x1 := hcell (c.a.toNat + 1) (by omega)
  have wx := hl.at c.a.toNat
  have wy := hl.at (c.a.toNat + 1)
  generalize l.getD c.a.toNat 0 = x at *
  generalize l.getD (c.a.toNat + 1) 0 = y at *
  generalize l.length = n at *
  obtain ⟨kk, a, m, s⟩ := c
  dsimp only at *
  subst h3
  obtain ⟨a, rfl⟩ := Int.eq_ofNat_of_zero_le ha0
  rw [Int.toNat_natCast] at x0 x1
  clear h1 hc hcell ha0
  go_enter Try.func43, Try.ntmps43
  go_wp2_with (go_at_call 25; refine (cvw _).mono ?_; rintro e W1 ⟨rfl, b1⟩)
  obtain ⟨f0, fz, f1, f2, f3, f4⟩ := st.on b1
  refine regV_in w.heap.size r o n cap a m s W1 (by omega) f1 f2 f3 f4 csw hlen ?_
  intro W2 b2
  obtain ⟨g0, gz, g1, g2, g3, g4⟩ := (st.on b1).on b2
  have y0 := (g0.cell (p := ⟨r, o + a, none⟩) hr).trans x0
  have y1 := (g0.cell (p := ⟨r, o + (a + 1), none⟩) hr).trans x1
  rw [← Nat.add_assoc] at y1
  clear f0 f1 f2 f3 f4
  have hlt : ¬ ((n : Int) - 2 < a) := by omega
  have hat : ∀ w', (Instr.arrayAt 149 (.slice (some ⟨r, o + a, none⟩) 2 (cap - a))).run Try.prog w' = .ok (.pointer (some ⟨r, o + a, none⟩)) w' := fun w' => run_arrayAt w' 149 _ 2 _ 2 (cap - a) Try.underlying149 (Nat.le_refl 2)
  go_wp2_with (go_at_call 57; refine (value_w wx wy _).mono ?_; rintro e W3 ⟨rfl, b3⟩)
  go_wp2
  go_ret2
  exact ⟨rfl, g0.trans (b3.mono (by omega))⟩
open Go.E
set_option maxRecDepth 8000
set_option maxRecDepth 8000 in
theorem valC_c (c : Cmp) (hc : c.Ok) (l : List Int) (hlen : l.length ≤ 9223372036854775807) (hl : Words l) : callP Try.prog 43 [cA c, ints .u16 l] (· = .tuple [.int .i64 (valV c l).1, .int .i64 (valV c l).2]) := by
  by_cases h1 : validC c = false
  · exact valC_part c hc l hlen hl (.inl h1)
  by_cases h2 : c.a > (l.length : Int) - sizeV c.k
  · exact valC_part c hc l hlen hl (.inr (.inl h2))
  by_cases h3 : c.k = 3
  rotate_left
  · exact valC_part c hc l hlen hl (.inr (.inr h3))
  have h1t : validC c = true := by simpa using h1
  obtain ⟨ha0, _, _⟩ := val_facts2 h1t
  have hv : valV c l = (valD (l.getD c.a.toNat 0) (l.getD (c.a.toNat + 1) 0), 0) := by
    rw [valV, if_neg h1, if_neg h2, if_neg (by omega), if_neg (by omega)]
  rw [h3, show sizeV 3 = 2 from rfl] at h2
  rw [hv]
  refine callP_of_walk (enters_of Try.func43 rfl (by kernel_rfl)) fun x us _ hr => ?_
  obtain ⟨u, u', rfl, hu, hu'⟩ := args_two hr
  obtain ⟨us', rfl, hl2, hus⟩ := hu.inv_agg
  have e : us' = #[.int .u8 c.k, .int .i64 c.a, .int .i64 c.n, .int .i64 c.s] := by
    refine Array.ext (by rw [← hl2]; rfl) fun i h1 h2 => ?_
    have hi : i < 4 := h2
    have := hus i _ us'[i] (List.getElem?_eq_getElem (by show i < 4; exact hi)) (Array.getElem?_eq_getElem h1)
    rcases i with _ | _ | _ | _ | i
    · exact this.inv_int
    · exact this.inv_int
    · exact this.inv_int
    · exact this.inv_int
    · omega
  subst e
  obtain ⟨A, cap, rfl, hcap, hcell⟩ := ints_inv2 hu'
  obtain ⟨r, o, rfl, hr2, hce⟩ := hcell.resolve_left (by omega)
  refine (value_ok c hc l hlen hl h1t (by omega) h3 r o cap x.w hcap hr2 hce).mono ?_
  rintro e w' ⟨rfl, hb⟩
  refine ⟨_, .tuple [.int .i64 _, .int .i64 0], rfl, hb, rfl, fun c' => ?_, rfl⟩
  refine .tuple rfl fun i v u h1 h2 => ?_
  rcases i with _ | _ | i
  · simp at h1 h2; subst h1; subst h2; exact .closed (.int _ _)
  · simp at h1 h2; subst h1; subst h2; exact .closed (.int _ _)
  · simp at h1
end Go.Proofs
namespace Go.Proofs
open Go.E
set_option maxRecDepth 8000
def showV (c : Cmp) (l : List Int) (oct : Bool) : Int × (Nat → Int) × Int :=
  if (valV c l).2 ≠ 0 then (0, fun _ => 0, (valV c l).2)
  else if oct = true ∨ c.k = 1 then (0, digF 8 (l.getD c.a.toNat 0 % 32768), 0)
  else decV (valV c l).1 c
theorem val_fine {c : Cmp} {l : List Int} (h : (valV c l).2 = 0) : 0 ≤ c.a ∧ c.a < l.length := by
  unfold valV at h
  by_cases h1 : validC c = false
  · rw [if_pos h1] at h; exact absurd h (by decide)
  rw [if_neg h1] at h
  by_cases h2 : c.a > (l.length : Int) - sizeV c.k
  · rw [if_pos h2] at h; exact absurd h (by decide)
  have h1t : validC c = true := by simpa using h1
  obtain ⟨ha0, ha1, hk⟩ := val_facts2 h1t
  have hs : sizeV c.k = 1 ∨ sizeV c.k = 2 := by unfold sizeV; split <;> simp
  omega
set_option maxHeartbeats 4000000 in
theorem showC_c (c : Cmp) (hc : c.Ok) (l : List Int) (hlen : l.length ≤ 9223372036854775807) (hl : Words l) (oct : Bool) : callP Try.prog 32 [cA c, ints .u16 l, .bool oct] (· = .tuple [shA (showV c l oct).1 (showV c l oct).2.1, .int .i64 (showV c l oct).2.2]) := by
  have OCT := @octal_c
  have DEC := @decimal_c
  refine callE_def env (fn := Try.f32) rfl (by decide) rfl ?_
  refine callT_E (valC_c c hc l hlen hl) rfl ?_
  by_cases h1 : (valV c l).2 = 0
  rotate_left
  · repeat refine stm ?_
    rw [showV, if_pos h1]
    show Eqv _ _
    exact .up (.up (.refl _))
  obtain ⟨ha0, ha1⟩ := val_fine h1
  rw [showV, if_neg (by omega)]
  repeat refine stm ?_
  by_cases h2 : oct = true
  · subst h2
    rw [if_pos (.inl rfl)]
    repeat refine stm ?_
    apply need_intro
    · omega
    refine callT_E (OCT (hl.at c.a.toNat)) rfl ?_
    repeat refine stm ?_
    show Eqv _ _
    exact .up (.up (.refl _))
  have h2f : oct = false := by simpa using h2
  subst h2f
  by_cases h3 : c.k = 1
  · rw [if_pos (.inr h3)]
    repeat refine stm ?_
    apply need_intro
    · omega
    refine callT_E (OCT (hl.at c.a.toNat)) rfl ?_
    repeat refine stm ?_
    show Eqv _ _
    exact .up (.up (.refl _))
  rw [if_neg (by simp [h3])]
  repeat refine stm ?_
  refine callT_E (DEC (valV c l).1 c hc) rfl ?_
  repeat refine stm ?_
  show Eqv _ _
  exact .up (.up (.refl _))
def cellL (c : Cmp) (v : Int) : List AVal :=
  if c.k = 1 then [.int .i64 c.a, .int .u16 v] else if c.k = 2 then [.int .i64 c.a, .int .u16 (wOf v)] else [.int .i64 c.a, .int .u16 (hiD v), .int .i64 (c.a + 1), .int .u16 (loD v)]
def storeV (c : Cmp) (v : Int) : AVal :=
  if validC c = false then .tuple [.nilslice, .int .i64 2]
  else if inV v c.k = false then .tuple [.nilslice, .int .i64 3]
  else .tuple [.ro 2 (if c.k = 3 then 2 else 1) (chunk 2 (cellL c v)), .int .i64 0]
theorem storeV_closed (c : Cmp) (v : Int) : (storeV c v).closed2 = true := by
  unfold storeV
  split
  · rfl
  split
  · rfl
  · rfl
set_option maxHeartbeats 4000000 in
theorem store_c (c : Cmp) (hc : c.Ok) (v : Int) : callP Try.prog 74 [cA c, .int .i64 v] (· = storeV c v) := by
  refine callE_def env (fn := Try.f74) rfl (by decide) (storeV_closed c v) ?_
  refine callT_E (valid_c c hc) rfl ?_
  by_cases h1 : validC c = false
  · rw [h1]
    repeat refine stm ?_
    rw [storeV, if_pos h1]
    show Eqv _ _
    exact .up (.up (.refl _))
  have h1t : validC c = true := by simpa using h1
  rw [h1t]
  repeat refine stm ?_
  refine callT_E (within_c v c) rfl ?_
  by_cases h2 : inV v c.k = false
  · rw [h2]
    repeat refine stm ?_
    rw [storeV, if_neg h1, if_pos h2]
    show Eqv _ _
    exact .up (.up (.refl _))
  have h2t : inV v c.k = true := by simpa using h2
  rw [h2t]
  obtain ⟨ha0, ha1, hk⟩ := val_facts2 h1t
  have hr := of_decide_eq_true h2t
  rw [storeV, if_neg h1, if_neg h2]
  repeat refine stm ?_
  by_cases e1 : c.k = 1
  · rw [if_neg (by omega), cellL, if_pos e1]
    rw [e1, show loV 1 = 0 from rfl, show hiV 1 = 32767 from rfl] at hr
    repeat refine stm ?_
    apply choice_l
    show Eqv (.tuple [.ro 2 1 (chunk 2 [.int .i64 c.a, .int .u16 (IntKind.u16.wrap v)]), .int .i64 0]) _
    rw [wu16 (by omega) (by omega)]
    show Eqv _ _
    exact .up (.up (.refl _))
  rw [cellL, if_neg e1]
  by_cases e2 : c.k = 2
  · rw [if_neg (by omega), if_pos e2]
    rw [e2, show loV 2 = -16383 from rfl, show hiV 2 = 16383 from rfl] at hr
    repeat refine stm ?_
    refine callT_E (of_c hr) rfl ?_
    repeat refine stm ?_
    apply choice_l
    show Eqv _ _
    exact .up (.up (.refl _))
  rw [if_neg e2]
  have e3 : c.k = 3 := by omega
  rw [if_pos e3]
  rw [e3, show loV 3 = -268435455 from rfl, show hiV 3 = 268435455 from rfl] at hr
  repeat refine stm ?_
  refine callT_E (make_c hr) rfl ?_
  repeat refine stm ?_
  apply choice_l
  show Eqv (.tuple [.ro 2 2 (chunk 2 [.int .i64 c.a, .int .u16 (hiD v), .int .i64 (IntKind.i64.wrap (c.a + 1)), .int .u16 (loD v)]), .int .i64 0]) _
  rw [wi (by omega) (by omega)]
  show Eqv _ _
  exact .up (.up (.refl _))
end Go.Proofs
