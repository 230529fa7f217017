/- The engine, part Zr: a slice of rows of whole numbers that lies in a slice. -/
import Derived.Test.YtbbgfinnhaekjaaE5
set_option linter.unusedVariables false
set_option linter.unusedSimpArgs false
/-! Bo. -/
namespace Go.E
open Go.ChangeShapes Go.WideShapes Go.ChangeAt Go.RowKit Go.ChangeMaps
section
variable {H : Type} {enc : TypeId × Value → H} {P : Program}
/-- A struct of whole numbers. -/
theorem flat_struct {W : World} {t : TypeId} {fs : Array Field} {ks : List IntKind} (ht : P.underlying t = some (.struct fs)) (hfs : ∀ (i : Nat) (k : IntKind), ks[i]? = some k → ∃ f, fs[i]? = some f ∧ f.offset = i ∧ P.cellsOf f.type = 1 ∧ P.underlying f.type = some (.int k))
    {fuel : Nat} {cs : List Value} {x : DataW H × List MemPlace} (h : DataW.trod enc P W 0 (fun _ => true) true fuel t cs = some x) (i : Nat) (k : IntKind) (hi : ks[i]? = some k) : ∃ n, cs[i]? = some (.int k n) ∧ (Lit.int k n).wf = true := by
  obtain ⟨xs, n, _, _, hl, hx, hf⟩ := DataW.trod_struct ht h
  obtain ⟨f, hf1, ho, hc1, hu⟩ := hfs i k hi
  have h1 := hf i f hf1
  have hlt := (Array.getElem?_eq_some_iff.1 hf1).1
  rw [List.getElem?_eq_getElem (by omega)] at h1
  obtain ⟨m, hm, _, hw⟩ := DataW.trod_int hu h1
  refine ⟨m, ?_, hw⟩
  rw [ho, hc1] at hm
  have h2 : ((cs.drop i).take 1)[0]? = some (.int k m) := by rw [hm]; rfl
  simpa [List.getElem?_take, List.getElem?_drop] using h2
/-- One slice of rows: what it holds, and how long the data that is read off it is. -/
theorem trod_rows {W : World} {t e : TypeId} {v : Value} {fuel : Nat} {x : DataW H × List MemPlace} (ks : List IntKind) (ht : P.underlying t = some (.slice e)) (he : ∀ {fuel : Nat} {cs : List Value} {x : DataW H × List MemPlace}, DataW.trod enc P W 0 (fun _ => true) true fuel e cs = some x → ∀ (i : Nat) (k : IntKind), ks[i]? = some k → ∃ n, cs[i]? = some (.int k n) ∧ (Lit.int k n).wf = true) (hc : P.cellsOf e = ks.length) (hpos : 0 < ks.length)
    (hf : DataW.trod enc P W 0 (fun _ => true) true fuel t [v] = some x) :
    ∃ (n : Nat) (D : Nat → Nat → Int), RRel W (fun _ => False) (.ro ks.length n (fun i => aggL (D i) ks 0)) v ∧ n ≤ maxLen ∧ (∀ i, i < n → HasL ks (D i)) ∧
      ((x.1 = .nil ∧ n = 0) ∨ ∃ es rs, x.1 = .slice es rs ∧ es.length = n) := by
  rcases DataW.trod_slice ht hf with ⟨hcs, hx⟩ | ⟨a, len0, cap0, elems, rest, n, _, hcs, hx, _, hl, hm, hlen, hel, _, _⟩
  · simp only [List.cons.injEq, and_true] at hcs
    subst hcs
    exact ⟨0, fun _ _ => 0, .roNil _ _, by simp, fun i hi => by omega, .inl ⟨by rw [hx], rfl⟩⟩
  · simp only [List.cons.injEq, and_true] at hcs
    subst hcs
    have hxd : (x.1 = .nil ∧ len0 = 0) ∨ ∃ es rs, x.1 = .slice es rs ∧ es.length = len0 := .inr ⟨_, _, by rw [hx], by simpa using hlen⟩
    by_cases h0 : len0 = 0
    · subst h0
      exact ⟨0, fun _ _ => 0, .roNil _ _, by simp, fun i hi => by omega, hxd⟩
    have each : ∀ i, i < len0 → ∀ (j : Nat) (k : IntKind), ks[j]? = some k → ∃ m, W.cell? ((a.add (i * ks.length)).add j) = some (.int k m) ∧ (Lit.int k m).wf = true := by
      intro i hi j k hj
      have h1 := hel i hi
      rw [List.getElem?_eq_getElem (by omega), Option.bind_eq_some_iff] at h1
      obtain ⟨cs, h1, h2⟩ := h1
      obtain ⟨m, hm1, hm2⟩ := he h2 j k hj
      refine ⟨m, ?_, hm2⟩
      have hjlt := (List.getElem?_eq_some_iff.1 hj).1
      unfold World.cells? at h1
      split at h1
      · have := mapM_some_get h1 j j (by rw [hc]; simp [hjlt])
        rw [← hm1, ← this, hc]
      · cases h1
    obtain ⟨k0, hk0⟩ : ∃ k, ks[0]? = some k := ⟨ks[0], List.getElem?_eq_getElem hpos⟩
    obtain ⟨m0, c0, _⟩ := each 0 (by omega) 0 k0 hk0
    have hsp : a.spot = none := by
      have := World.cell?_spot c0
      simpa [Addr.add] using this
    obtain ⟨b, o, s⟩ := a
    simp only at hsp
    subst hsp
    obtain ⟨cs, tt, fr, hb⟩ : ∃ cs t fr, W.heap[b]? = some (.cells cs t fr) := by
      simp only [Addr.add, Nat.zero_mul, if_true, World.cell?] at c0
      split at c0
      · rename_i cs t fr hb
        exact ⟨cs, t, fr, hb⟩
      · cases c0
    have cell : ∀ i, i < len0 → ∀ (j : Nat) (k : IntKind), ks[j]? = some k → ∃ m, cs[o + i * ks.length + j]? = some (.int k m) ∧ (Lit.int k m).wf = true := by
      intro i hi j k hj
      obtain ⟨m, h1, h2⟩ := each i hi j k hj
      refine ⟨m, ?_, h2⟩
      rw [add_add] at h1
      by_cases hx : i * ks.length + j = 0
      · rw [hx] at h1
        have e : o + i * ks.length + j = o := by omega
        rw [e]
        simpa [Addr.add, World.cell?, hb] using h1
      · simp only [Addr.add, hx, if_false, World.cell?, hb] at h1
        rw [Nat.add_assoc]
        exact h1
    refine ⟨len0, fun i j => numV (cs.getD (o + i * ks.length + j) (.bool false)), .ro hl (fun h => h) hb (fun i hi => aggL_len _ _ _) (fun i hi => ?_) (fun i hi j v u h1 h2 => ?_), by omega, fun i hi j hj => ?_, hxd⟩
    · obtain ⟨m, h1, _⟩ := cell i hi (ks.length - 1) ks[ks.length - 1] (List.getElem?_eq_getElem (by omega))
      have := (Array.getElem?_eq_some_iff.1 h1).1
      omega
    · rw [aggL_get] at h1
      obtain ⟨k, hk1, rfl⟩ := Option.map_eq_some_iff.1 h1
      obtain ⟨m, h3, _⟩ := cell i hi j k hk1
      have h3' := h3
      rw [h2] at h3
      cases h3
      have : numV (cs.getD (o + i * ks.length + (0 + j)) (.bool false)) = m := by
        rw [Nat.zero_add, Array.getD_eq_getD_getElem?, h3']
        rfl
      show RRel _ _ (.int k (numV (cs.getD (o + i * ks.length + (0 + j)) (.bool false)))) _
      rw [this]
      exact .int _ _
    · obtain ⟨m, h1, h2⟩ := cell i hi j ks[j] (List.getElem?_eq_getElem hj)
      rw [List.getD_eq_getElem?_getD, List.getElem?_eq_getElem hj]
      show (ks[j]).has (numV (cs.getD (o + i * ks.length + j) (.bool false)))
      rw [Array.getD_eq_getD_getElem?, h1]
      exact wf_has h2
/-- A slice of pairs, a number and a slice of rows. -/
theorem arg_nested {W : World} {t e e1 : TypeId} {f0 f1 : Field} {v : Value} {d : DataW H} {ps : List MemPlace} {b0 : Nat} {r : Reach} (ks : List IntKind) (ht : P.underlying t = some (.slice e)) (hst : P.underlying e = some (.struct #[f0, f1]))
    (h0 : f0.offset = 0 ∧ P.cellsOf f0.type = 1 ∧ P.underlying f0.type = some (.int .i64)) (h1 : f1.offset = 1 ∧ P.cellsOf f1.type = 1 ∧ P.underlying f1.type = some (.slice e1)) (hce : P.cellsOf e = 2)
    (he : ∀ {fuel : Nat} {cs : List Value} {x : DataW H × List MemPlace}, DataW.trod enc P W 0 (fun _ => true) true fuel e1 cs = some x → ∀ (i : Nat) (k : IntKind), ks[i]? = some k → ∃ n, cs[i]? = some (.int k n) ∧ (Lit.int k n).wf = true)
    (hc : P.cellsOf e1 = ks.length) (hpos : 0 < ks.length) (hval : Value.okWide P W r b0 t v) (h : DataW.Trod enc P W 0 (fun _ => true) true t v d ps) :
    ∃ (n : Nat) (num : Nat → Int) (m : Nat → Nat) (D : Nat → Nat → Nat → Int), VRel (Cx.start W) (.ro 2 n (fun i => [.int .i64 (num i), .ro ks.length (m i) (fun j => aggL (D i j) ks 0)])) v ∧ n ≤ maxLen ∧
      (∀ i, i < n → IntKind.i64.has (num i) ∧ m i ≤ maxLen ∧ ∀ j, j < m i → HasL ks (D i j)) ∧
      ((d = .nil ∧ n = 0) ∨ ∃ es rs, d = .slice es rs ∧ es.length = n ∧ ∀ i, i < n → ∃ a b, es[i]? = some (.agg [a, b]) ∧ ((b = .nil ∧ m i = 0) ∨ ∃ us ws, b = .slice us ws ∧ us.length = m i)) := by
  obtain ⟨A, len0, cap0, rfl⟩ := okWide_slice ht hval
  obtain ⟨fuel, hf⟩ := h
  rcases DataW.trod_slice ht hf with ⟨hcs, hx⟩ | ⟨a, len, cap, elems, rest, n, _, hcs, hx, _, hl, hm, hlen, hel, _, _⟩
  · simp [Value.cells] at hcs
    obtain ⟨rfl, rfl, rfl⟩ := hcs
    simp only [Prod.mk.injEq] at hx
    exact ⟨0, fun _ => 0, fun _ => 0, fun _ _ _ => 0, .closed (.roNil _ _), by simp, fun i hi => by omega, .inl ⟨hx.1, rfl⟩⟩
  · simp [Value.cells] at hcs
    obtain ⟨rfl, rfl, rfl⟩ := hcs
    simp only [Prod.mk.injEq] at hx
    have each : ∀ i, ∃ (y : Int) (m : Nat) (D : Nat → Nat → Int) (u : Value), i < len0 → W.cell? ((a.add (i * 2)).add 0) = some (.int .i64 y) ∧ W.cell? ((a.add (i * 2)).add 1) = some u ∧ IntKind.i64.has y ∧
        RRel W (fun _ => False) (.ro ks.length m (fun j => aggL (D j) ks 0)) u ∧ m ≤ maxLen ∧ (∀ j, j < m → HasL ks (D j)) ∧
        ∃ p q, (elems.map (·.1))[i]? = some (.agg [p, q]) ∧ ((q = .nil ∧ m = 0) ∨ ∃ us ws, q = .slice us ws ∧ us.length = m) := by
      intro i
      by_cases hi : i < len0
      · have g1 := hel i hi
        rw [List.getElem?_eq_getElem (by omega), Option.bind_eq_some_iff] at g1
        obtain ⟨cs, g1, g2⟩ := g1
        obtain ⟨y0, y1, n', hy, hcl, k0, k1⟩ := trod_struct2 hst g2
        rw [h0.1, h0.2.1] at k0
        rw [h1.1, h1.2.1] at k1
        obtain ⟨y, hy0, _, hw⟩ := DataW.trod_int h0.2.2 k0
        rw [hce] at hcl
        obtain ⟨c0, c1, rfl⟩ : ∃ c0 c1, cs = [c0, c1] := by
          match cs, hcl with
          | [c0, c1], _ => exact ⟨c0, c1, rfl⟩
        simp at hy0 k1
        subst hy0
        obtain ⟨m, D, r1, r2, r3, r4⟩ := trod_rows ks h1.2.2 he hc hpos k1
        have cells : ∀ j u, [Value.int .i64 y, c1][j]? = some u → W.cell? ((a.add (i * 2)).add j) = some u := by
          intro j u hj
          have hjlt := (List.getElem?_eq_some_iff.1 hj).1
          have hj2 : j < 2 := by simpa using hjlt
          unfold World.cells? at g1
          split at g1
          · have := mapM_some_get g1 j j (by rw [hce]; simp [hj2])
            rw [← hj, ← this, hce]
          · cases g1
        exact ⟨y, m, D, c1, fun _ => ⟨cells 0 _ rfl, cells 1 _ rfl, wf_has hw, r1, r2, r3, y0.1, y1.1, by rw [List.getElem?_map, List.getElem?_eq_getElem (by omega)]; simp [hy], r4⟩⟩
      · exact ⟨0, 0, fun _ _ => 0, .nilFunc, fun h => absurd h hi⟩
    have key := fun i (hi : i < len0) => (each i).choose_spec.choose_spec.choose_spec.choose_spec hi
    refine ⟨len0, fun i => (each i).choose, fun i => (each i).choose_spec.choose, fun i => (each i).choose_spec.choose_spec.choose, ?_, by omega, fun i hi => ?_, .inr ⟨_, _, hx.1, by simpa using hlen, fun i hi => (key i hi).2.2.2.2.2.2⟩⟩
    · by_cases hz : len0 = 0
      · subst hz
        exact .closed (.roNil _ _)
      obtain ⟨u0, c0⟩ : ∃ u, W.cell? ((a.add (0 * 2)).add 0) = some u := ⟨_, (key 0 (by omega)).1⟩
      have hsp : a.spot = none := by
        have := World.cell?_spot c0
        simpa [Addr.add] using this
      obtain ⟨b, o, s⟩ := a
      simp only at hsp
      subst hsp
      obtain ⟨cs, tt, fr, hb⟩ : ∃ cs t fr, W.heap[b]? = some (.cells cs t fr) := by
        simp only [Addr.add, Nat.zero_mul, if_true, World.cell?] at c0
        split at c0
        · rename_i cs t fr hb
          exact ⟨cs, t, fr, hb⟩
        · cases c0
      have cell : ∀ i j u, W.cell? (((⟨b, o, none⟩ : Addr).add (i * 2)).add j) = some u → cs[o + i * 2 + j]? = some u := by
        intro i j u hh
        rw [add_add] at hh
        by_cases hx : i * 2 + j = 0
        · rw [hx] at hh
          have e : o + i * 2 + j = o := by omega
          rw [e]
          simpa [Addr.add, World.cell?, hb] using hh
        · simp only [Addr.add, hx, if_false, World.cell?, hb] at hh
          rw [Nat.add_assoc]
          exact hh
      refine .closed (.ro hl (fun h => h) hb (fun i hi => rfl) (fun i hi => ?_) (fun i hi j v u g1 g2 => ?_))
      · have := (Array.getElem?_eq_some_iff.1 (cell i 1 _ (key i hi).2.1)).1
        omega
      · match j, g1 with
        | 0, g1 =>
          simp only [List.getElem?_cons_zero, Option.some.injEq] at g1
          rw [cell i 0 _ (key i hi).1] at g2
          cases g2
          subst g1
          exact .int _ _
        | 1, g1 =>
          simp only [List.getElem?_cons_succ, List.getElem?_cons_zero, Option.some.injEq] at g1
          rw [cell i 1 _ (key i hi).2.1] at g2
          cases g2
          subst g1
          exact (key i hi).2.2.2.1
        | j + 2, g1 => simp at g1
    · exact ⟨(key i hi).2.2.1, (key i hi).2.2.2.2.1, (key i hi).2.2.2.2.2.1⟩
end
end Go.E
