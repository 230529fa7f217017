/- The engine, part zj: a nil result seen as an empty own block. -/
import Derived.Test.YtkjljhpmkhmmoaaE4
set_option linter.unusedVariables false
set_option linter.unusedSimpArgs false
/-! EngZj. -/
namespace Go.E

theorem vrel_nil_blk {c : Cx} {b : Nat} {blk : Blk} (hb : c.H[b]? = some blk) {u : Value} (h : VRel c .nilslice u) : VRel c (.slice ⟨b, 0, 0⟩ 0) u := by
  rw [h.inv_nilslice]
  exact .slice (blk := blk) hb (Nat.le_refl _) fun _ => .inl ⟨rfl, rfl⟩
theorem vrel_pair {c : Cx} {v v' x : AVal} {u : Value} (h : VRel c (.tuple [v, x]) u) (hv : ∀ u, VRel c v u → VRel c v' u) : VRel c (.tuple [v', x]) u := by
  obtain ⟨us, rfl, hl, hr⟩ := h.inv_tuple
  refine .tuple (by simpa using hl) fun i w y a1 a2 => ?_
  cases i with
  | zero => cases a1; exact hv _ (hr 0 v y rfl a2)
  | succ i => exact hr (i + 1) w y a1 a2
/-- The result is a slice of an own block, or nil, with or without one: it is seen as a slice of an own block. -/
theorem own_pair {P : Program} {f : FuncId} {args : List AVal} {k : IntKind} {R : AVal → Heap → Prop} {p : List Int → Prop} (p0 : p []) (h : callN P f args [] R)
    (hR : ∀ v H', R v H' → ∃ e, (v = .tuple [.nilslice, .int .i64 e] ∧ H' = []) ∨ ∃ l, p l ∧ H' = [.ints k l] ∧ (v = .tuple [.nilslice, .int .i64 e] ∨ ∃ n, n ≤ l.length ∧ v = .tuple [.slice ⟨0, 0, 0⟩ n, .int .i64 e])) :
    callN P f args [] fun v H' => ∃ n l e, n ≤ l.length ∧ p l ∧ v = .tuple [.slice ⟨0, 0, 0⟩ n, .int .i64 e] ∧ H' = [.ints k l] := by
  rw [callN_iff] at h ⊢
  refine ⟨h.1, fun c us h1 h2 h3 => (h.2 c us h1 h2 h3).mono ?_⟩
  rintro e w' ⟨u, v, c', rfl, rfl, a3, a4, a5, a6⟩
  obtain ⟨e, ⟨rfl, hH⟩ | ⟨l, hp, hH, rfl | ⟨n, hn, rfl⟩⟩⟩ := hR _ _ a3
  · have hv : (Blk.ints k []).void := rfl
    refine ⟨u, _, c'.ghost (.ints k []), rfl, rfl, ⟨0, [], e, Nat.le_refl _, p0, rfl, by simp [Cx.ghost, hH]⟩, a4.trans (c'.ghost_fr _), Cx.ghost_heap a5 hv, ?_⟩
    exact vrel_pair (a6.mono (c'.ghost_fr _) a5.img) fun u hu => vrel_nil_blk (blk := .ints k []) (by simp [Cx.ghost, hH]) hu
  · exact ⟨u, _, c', rfl, rfl, ⟨0, l, e, Nat.zero_le _, hp, rfl, hH⟩, a4, a5, vrel_pair a6 fun u hu => vrel_nil_blk (blk := .ints k l) (by rw [hH]; rfl) hu⟩
  · exact ⟨u, _, c', rfl, rfl, ⟨n, l, e, hn, hp, rfl, hH⟩, a4, a5, a6⟩
end Go.E
/-! EngZk. -/
namespace Go.E
theorem callT_part {P : Program} {n0 : Nat} {f : FuncId} {args tm : List AVal} {H : Heap} {k : List AVal → AVal → Heap → Prop} (sel : List Nat) {R : AVal → Heap → Prop} (hs : selOK' H.length sel = true)
    (h : callN P f (args.map (renS sel)) (selH sel H) R) (hk : ∀ v H', R v H' → ∀ x G, x = backV sel H.length v → G = mergeH H sel H' → k tm x G) : callT P n0 f args tm H k :=
  callT_frame sel hs h fun v H' hR => hk v H' hR _ _ rfl rfl
end Go.E
/-! EngZl. -/
namespace Go.E

def iceP0 (b : Nat) (cs : List AVal) (v : AVal) : AVal := match v with
  | .ptr ⟨b', 0, 0⟩ => (match Nat.beq b' b with | true => .roptr cs.length 1 (fun _ => cs) 0 0 | false => v)
  | v => v
def iceP (b : Nat) (cs : List AVal) (v : AVal) : AVal := match v with
  | .fn f x y => .fn f (x.map (iceP0 b cs)) (y.map (iceP0 b cs))
  | v => iceP0 b cs v
section
variable {P : Program} {c : Cx} {b : Nat} {cs : List AVal}
theorem iceP0_ok (hb : c.H[b]? = some (.cells cs)) (hcl : allClosed cs = true) (hh : HRel c) {v : AVal} {u : Value} (h : VRel c v u) : VRel (c.cold b) (iceP0 b cs v) u := by
  unfold iceP0
  split
  · rename_i b'
    split
    · rename_i hbb
      have hbb := Nat.eq_of_beq_eq_true hbb
      subst hbb
      cases h with
      | closed h => cases h
      | ptr hb0 hk =>
        simp only at hb0
        rw [hb] at hb0
        cases hb0
        obtain ⟨r, o, a1, a2⟩ := hk rfl
        simp only at a1
        rcases hh.holds _ _ hb rfl with ⟨h0, _⟩ | ⟨r', o', h2, _, h3⟩
        · cases h0
        · rw [h2] at a1
          cases a1
          obtain ⟨ds, t, fr, g1, g2, g3, g4⟩ := h3
          have e : o + lin (.cells cs) ⟨b', 0, 0⟩ = o + 0 * cs.length + 0 := by simp [lin]
          rw [a2, e]
          refine .roptr (by decide) (fun hx => hx.2 ⟨o, h2⟩) g1 (fun _ _ => rfl) (fun i hi => ?_) (fun i hi j v u h1 h2 => ?_)
          · have : i = 0 := by omega
            subst this
            simpa using g3
          · have : i = 0 := by omega
            subst this
            have h2 : ds[o + j]? = some u := by simpa using h2
            exact cold_rrel (closed_rel (g4 j v u h1 h2) (allClosed_mem hcl v (List.mem_of_getElem? h1)))
    · exact cold_vrel h
  · exact cold_vrel h
theorem iceP_ok (hb : c.H[b]? = some (.cells cs)) (hcl : allClosed cs = true) (hh : HRel c) {v : AVal} {u : Value} (h : VRel c v u) : VRel (c.cold b) (iceP b cs v) u := by
  have part : ∀ {l : List AVal} {us : Array Value}, (∀ (i : Nat) (v : AVal) (u : Value), l[i]? = some v → us[i]? = some u → VRel c v u) → ∀ (i : Nat) (v : AVal) (u : Value), (l.map (iceP0 b cs))[i]? = some v → us[i]? = some u → VRel (c.cold b) v u := by
    intro l us hr i x y h1 h2
    rw [List.getElem?_map] at h1
    obtain ⟨v0, hv0, rfl⟩ := Option.map_eq_some_iff.1 h1
    exact iceP0_ok hb hcl hh (hr i v0 y hv0 h2)
  unfold iceP
  split
  · obtain ⟨us, vs, rfl, ⟨hl, hr⟩, hl', hr'⟩ := h.inv_fn
    exact .fn (by simpa using hl) (part hr) (by simpa using hl') (part hr')
  · exact iceP0_ok hb hcl hh h
theorem weak_box {n0 : Nat} {tm : List AVal} {H : Heap} (hb : H[b]? = some (.cells cs)) (hcl : allClosed cs = true) (hn : n0 ≤ b) : WeakS n0 tm H (tm.map (iceP b cs)) (H.set b .dead) := by
  rintro c0 c a rfl hf hs rfl
  refine ⟨c.cold b, rfl, rfl, cold_fr hb rfl hf hn, ⟨⟨by simpa using hs.tm.1, fun i v u h1 h2 => ?_⟩, cold_heap hb rfl hs.heap, hs.defers⟩⟩
  rw [List.getElem?_map] at h1
  obtain ⟨v0, hv0, rfl⟩ := Option.map_eq_some_iff.1 h1
  exact iceP_ok hb hcl hs.heap (hs.tm.2 i v0 u hv0 h2)
/-- A call, before which box b is frozen for good; the slots of the mask live on. -/
theorem callT_box {n0 : Nat} {f : FuncId} {args tm : List AVal} {H : Heap} {k : List AVal → AVal → Heap → Prop} (b : Nat) {cs : List AVal} (mask : List Bool) (hb : H[b]? = some (.cells cs)) (hcl : allClosed cs = true) (hn : n0 ≤ b)
    (h : callT P n0 f (args.map (iceP b cs)) ((forget mask tm).map (iceP b cs)) (H.set b .dead) k) : callT P n0 f args tm H k := by
  refine callT_forget mask (callT_weak (by simp) ?_ h)
  rw [← List.map_append]
  exact weak_box hb hcl hn
end
end Go.E
