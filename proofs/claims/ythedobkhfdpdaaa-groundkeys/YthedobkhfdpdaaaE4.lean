/- The engine, part Zc: calls: forgetting and freezing before them, lending, writing to a block that is handed over. -/
import Derived.Test.YthedobkhfdpdaaaE3
import Derived.ProofKit
set_option linter.unusedVariables false
set_option linter.unusedSimpArgs false
namespace Go.E
section
variable {P : Program} {T : TEnv} {n0 : Nat} {f : FuncId} {args args' tm tm' : List AVal} {H H' : Heap} {k : List AVal → AVal → Heap → Prop} {c : Cx}
theorem CRel.split {vs vs' : List AVal} {us us' : List Value} (hl : vs.length = us.length) (h : CRel c (vs ++ vs') (us ++ us')) : CRel c vs us ∧ CRel c vs' us' := by
  refine ⟨⟨hl, fun i v u h1 h2 => h.2 i v u ?_ ?_⟩, ⟨by have := h.1; simp at this; omega, fun i v u h1 h2 => h.2 (vs.length + i) v u ?_ ?_⟩⟩
  · rw [List.getElem?_append_left (List.getElem?_eq_some_iff.1 h1).1]; exact h1
  · rw [List.getElem?_append_left (List.getElem?_eq_some_iff.1 h2).1]; exact h2
  · rw [List.getElem?_append_right (by omega), Nat.add_sub_cancel_left]; exact h1
  · rw [List.getElem?_append_right (by omega), hl, Nat.add_sub_cancel_left]; exact h2
theorem callT_weak (hl : args'.length = args.length) (hw : WeakS n0 (args ++ tm) H (args' ++ tm') H') (h : callT P n0 f args' tm' H' k) : callT P n0 f args tm H k := by
  rw [callT_iff] at h ⊢
  refine ⟨h.1, ?_⟩
  intro c0 c us vals hn hg hf he hh ha ht
  have hcr := ha.append ht
  let a : Act := ⟨us ++ vals, []⟩
  have hs : SR c (args ++ tm) a := ⟨⟨by have := hcr.1; simpa [a] using this, fun i v u h1 h2 => hcr.2 i v u h1 (by rw [← Array.toList_append, Array.getElem?_toList]; exact h2)⟩, hh, rfl⟩
  obtain ⟨c', e1, e2, hf', hs'⟩ := hw c0 c a hn hf hs he
  have hcr' : CRel c' (args' ++ tm') (us.toList ++ vals.toList) := ⟨by have := hs'.tm.1; simpa [a] using this, fun i v u h1 h2 => hs'.tm.2 i v u h1 (by rw [← Array.toList_append, Array.getElem?_toList] at h2; exact h2)⟩
  obtain ⟨r1, r2⟩ := hcr'.split (by rw [hl]; exact ha.1)
  have := h.2 c0 c' us vals hn hg hf' e2 hs'.heap r1 r2
  rw [e1] at this
  exact this
theorem forget_app (mask : List Bool) (tm : List AVal) : ∀ args : List AVal, forget ((List.replicate args.length true) ++ mask) (args ++ tm) = args ++ forget mask tm
  | [] => rfl
  | x :: r => by
    simp only [List.length_cons, List.replicate_succ, List.cons_append, forget]
    rw [forget_app mask tm r]
theorem callT_forget (mask : List Bool) (h : callT P n0 f args (forget mask tm) H k) : callT P n0 f args tm H k := by
  refine callT_weak rfl ?_ h
  rw [← forget_app]
  exact weak_forget _ _ _ _
def AVal.flat0 : AVal → Bool
  | .int _ _ | .bool _ | .str _ | .nilptr | .nilslice | .nilfn => true
  | _ => false
def allFlat0 : List AVal → Bool
  | [] => true
  | v :: r => match v.flat0 with | true => allFlat0 r | false => false
def AVal.flat1 : AVal → Bool
  | .agg l => allFlat0 l
  | v => v.flat0
def allFlat1 : List AVal → Bool
  | [] => true
  | v :: r => match v.flat1 with | true => allFlat1 r | false => false
def AVal.flat : AVal → Bool
  | .tuple l => allFlat1 l
  | v => v.flat1
theorem flat0_rel {c' : Cx} {v : AVal} {u : Value} (h : VRel c v u) (hv : v.flat0 = true) : VRel c' v u := by
  cases h with
  | closed h => cases h <;> first | exact .closed (.int _ _) | exact .closed (.bool _) | exact .closed (.str _) | exact .closed .nilptr | exact .closed .nilslice | exact .closed .nilfn | exact absurd hv Bool.false_ne_true
  | _ => exact absurd hv Bool.false_ne_true
theorem flat1_rel {c' : Cx} {v : AVal} {u : Value} (h : VRel c v u) (hv : v.flat1 = true) : VRel c' v u := by
  cases v with
  | agg l =>
    obtain ⟨us, rfl, hl, hr⟩ := h.inv_agg
    have hm : ∀ v ∈ l, v.flat0 = true := all_mem (q := allFlat0) (fun v r h => by unfold allFlat0 at h; split at h <;> simp_all) hv
    exact .agg hl fun i x y h1 h2 => flat0_rel (hr i x y h1 h2) (hm x (List.mem_of_getElem? h1))
  | _ => exact flat0_rel h hv
theorem flat_rel {c' : Cx} {v : AVal} {u : Value} (h : VRel c v u) (hv : v.flat = true) : VRel c' v u := by
  cases v with
  | tuple l =>
    obtain ⟨us, rfl, hl, hr⟩ := h.inv_tuple
    have hm : ∀ v ∈ l, v.flat1 = true := all_mem (q := allFlat1) (fun v r h => by unfold allFlat1 at h; split at h <;> simp_all) hv
    exact .tuple hl fun i x y h1 h2 => flat1_rel (hr i x y h1 h2) (hm x (List.mem_of_getElem? h1))
  | _ => exact flat1_rel h hv
theorem callT_lend {R : AVal → Prop} (h : frozeL2 H args fun args' => whenB (allClosed2 args') (callP P f args' R)) (hk : ∀ v, R v → whenB v.flat (k tm v H)) : callT P n0 f args tm H k := by
  refine callT_of_N ?_
  have hen : Enters P f := by
    -- the views do not matter
    obtain ⟨S, hS⟩ : ∃ S : List AVal → Prop, ∀ K : List AVal → Prop, frozeL2 H args K → ∃ l, S l ∧ K l := by
      refine ⟨fun _ => True, fun K hK => ?_⟩
      have h0 : ∀ {v : AVal} {K : AVal → Prop}, froze0 H v K → ∃ v', K v' := fun {v K} h => by
        unfold froze0 at h
        split at h
        · split at h
          · exact ⟨_, (need_iff.1 h).2⟩
          · exact ⟨_, (need_iff.1 h).2⟩
          · exact h.elim
        · exact ⟨_, (whenB_iff.1 h).2⟩
      have hl0 : ∀ {vs : List AVal} {K : List AVal → Prop}, frozeL0 H vs K → ∃ l, K l := fun {vs} => by
        induction vs with
        | nil => exact fun h => ⟨_, h⟩
        | cons v r ih => intro K h; obtain ⟨_, h⟩ := h0 h; exact (let ⟨l, h⟩ := ih h; ⟨_, h⟩)
      have h1 : ∀ {v : AVal} {K : AVal → Prop}, froze1 H v K → ∃ v', K v' := fun {v K} h => by
        unfold froze1 at h
        split at h
        · split at h
          · obtain ⟨l, h⟩ := hl0 h
            have h := (whenB_iff.1 h).2
            rw [lenL_iff] at h
            exact ⟨_, h⟩
          · exact h.elim
        · exact ⟨_, h⟩
        · exact h0 h
      have hl1 : ∀ {vs : List AVal} {K : List AVal → Prop}, frozeL1 H vs K → ∃ l, K l := fun {vs} => by
        induction vs with
        | nil => exact fun h => ⟨_, h⟩
        | cons v r ih => intro K h; obtain ⟨_, h⟩ := h1 h; exact (let ⟨l, h⟩ := ih h; ⟨_, h⟩)
      have h2 : ∀ {v : AVal} {K : AVal → Prop}, froze2 H v K → ∃ v', K v' := fun {v K} h => by
        unfold froze2 at h
        split at h
        · obtain ⟨l, h⟩ := hl0 h; exact ⟨_, h⟩
        · obtain ⟨l, h⟩ := hl1 h; obtain ⟨l, h⟩ := hl1 h; exact ⟨_, h⟩
        · exact h1 h
      have hl2 : ∀ {vs : List AVal} {K : List AVal → Prop}, frozeL2 H vs K → ∃ l, K l := fun {vs} => by
        induction vs with
        | nil => exact fun h => ⟨_, h⟩
        | cons v r ih => intro K h; obtain ⟨_, h⟩ := h2 h; exact (let ⟨l, h⟩ := ih h; ⟨_, h⟩)
      obtain ⟨l, hl⟩ := hl2 hK
      exact ⟨l, trivial, hl⟩
    obtain ⟨l, _, h⟩ := hS _ h
    have h := (whenB_iff.1 h).2
    unfold callP at h
    exact (callN_iff.1 h).1
  rw [callN_iff]
  refine ⟨hen, ?_⟩
  rintro c us rfl hg hh hc
  obtain ⟨args', h, hr⟩ := frozeL2_ok hh hc h
  obtain ⟨hcl, h⟩ := whenB_iff.1 h
  unfold callP at h
  refine ((callN_iff.1 h).2 c.ice us rfl (hg.sub rfl (by rintro r ⟨b, blk, o, hb, _⟩; simp [Cx.ice] at hb)) (ice_heap hh) hr).mono ?_
  rintro e w' ⟨u, v, c', rfl, rfl, ⟨_, hR⟩, hf, hh', hv⟩
  obtain ⟨hfl, hk⟩ := whenB_iff.1 (hk v hR)
  let e : Cx := ⟨c.φ, fun r => if r < c.w.heap.size then c.X r else c'.X r, c.H, c'.w⟩
  have hk' : ∀ r, r < c.w.heap.size → c'.w.heap[r]? = c.w.heap[r]? := fun r hr => hf.keep r hr (by rintro ⟨b, blk, o, hb, _⟩; cases hb)
  have hfe : Fr c e := {
    os := hf.os
    tape := hf.tape
    output := hf.output
    size := hf.size
    keep := fun r hr _ => hk' r hr
    shape := hf.shape
    X := fun r hr => by simp only [e, if_pos hr]
    blocks := fun b blk hb => ⟨blk, hb, rfl, rfl⟩
    img := fun b blk r o hlt hb _ _ => by
      have := (List.getElem?_eq_some_iff.1 hb).1
      simp only [e] at this
      omega }
  refine ⟨u, v, e, rfl, rfl, hk, hfe, ⟨fun b blk hb hl => ?_, fun r hr => ?_, hh.inj⟩, flat_rel hv hfl⟩
  · rcases hh.holds b blk hb hl with h0 | ⟨r, o, h1, h2, h3⟩
    · exact .inl h0
    · have hlt := hh.small r h2
      exact .inr ⟨r, o, h1, by simp only [e, if_pos hlt]; exact h2, h3.mono hfe hh.img (hk' r hlt)⟩
  · simp only [e] at hr
    split at hr
    · exact Nat.lt_of_lt_of_le (hh.small r hr) hf.size
    · exact hh'.small r hr
def iceV (b : Nat) (blk : Blk) (v : AVal) : AVal := match v with
  | .slice ⟨b', i0, 0⟩ n => (match Nat.beq b' b with
    | true => (match blk with
      | .ints kk l => .ro 1 n (match i0 with | 0 => irow kk l | _ => fun i => [.int kk (l.getD (i0 + i) 0)])
      | .rows sz _ f => .ro sz n (match i0 with | 0 => f | _ => fun i => f (i0 + i))
      | _ => v)
    | false => v)
  | v => v
def fitsV (b : Nat) (blk : Blk) (v : AVal) : Prop := match v with
  | .slice ⟨b', i0, 0⟩ n => b' = b → (match blk with | .ints _ l => i0 + n ≤ l.length | .rows _ m _ => i0 + n ≤ m | _ => True)
  | _ => True
def Cx.cold (c : Cx) (b : Nat) : Cx := ⟨c.φ, fun r => c.X r ∧ ¬ ∃ o, c.φ b = some (r, o), c.H.set b .dead, c.w⟩
theorem cold_rrel {b : Nat} {v : AVal} {u : Value} (h : RRel c.w c.X v u) : RRel (c.cold b).w (c.cold b).X v u := by
  induction h with
  | int k n => exact .int k n
  | bool b => exact .bool b
  | str s => exact .str s
  | nilptr => exact .nilptr
  | nilslice => exact .nilslice
  | nilfn => exact .nilfn
  | roNil A c => exact .roNil A c
  | ro hc hx hb hlen hin _ ih => exact .ro hc (fun h => hx h.1) hb hlen hin ih
theorem cold_get {b i : Nat} {blk : Blk} (h : c.H[i]? = some blk) : ∃ blk', (c.cold b).H[i]? = some blk' ∧ (blk'.live = true → blk' = blk ∧ i ≠ b) := by
  by_cases hi : b = i
  · subst hi
    have hlt := (List.getElem?_eq_some_iff.1 h).1
    exact ⟨.dead, by simp [Cx.cold, hlt], fun h => by cases h⟩
  · exact ⟨blk, by simp only [Cx.cold]; rw [List.getElem?_set_ne hi]; exact h, fun _ => ⟨rfl, fun e => hi e.symm⟩⟩
theorem cold_vrel {b : Nat} {v : AVal} {u : Value} (h : VRel c v u) : VRel (c.cold b) v u := by
  induction h with
  | closed h => exact .closed (cold_rrel h)
  | any u => exact .any u
  | ptr hb hp =>
    obtain ⟨blk', hb', hl⟩ := cold_get (b := b) hb
    exact .ptr hb' fun h => by obtain ⟨rfl, _⟩ := hl h; exact hp h
  | slice hb hn hp =>
    obtain ⟨blk', hb', hl⟩ := cold_get (b := b) hb
    exact .slice hb' hn fun h => by obtain ⟨rfl, _⟩ := hl h; exact hp h
  | roptr hi hx hb hlen hin hrel => exact .roptr hi (fun h => hx h.1) hb hlen hin fun i hi j v u h1 h2 => cold_rrel (hrel i hi j v u h1 h2)
  | agg hl _ ih => exact .agg hl ih
  | tuple hl _ ih => exact .tuple hl ih
  | fn hl _ hl' _ ih ih' => exact .fn hl ih hl' ih'
theorem cold_holds {b r o : Nat} {blk : Blk} (h : Holds c r o blk) : Holds (c.cold b) r o blk := by
  cases blk with
  | dead => trivial
  | cells l => obtain ⟨cs, t, fr, h1, h2, h3, h4⟩ := h; exact ⟨cs, t, fr, h1, h2, h3, fun j v u a1 a2 => cold_vrel (h4 j v u a1 a2)⟩
  | ints k l => exact h
  | rows sz n f => obtain ⟨cs, t, fr, h1, h2, h3, h4⟩ := h; exact ⟨cs, t, fr, h1, h2, h3, fun i hi => ⟨(h4 i hi).1, fun j v u a1 a2 => cold_rrel ((h4 i hi).2 j v u a1 a2)⟩⟩
  | iter s p => exact h
  | sb l => exact holds_sb (c := c) (c' := c.cold b) (fun r o h1 h2 => ⟨h1, fun hx : c.X r ∧ _ => h2 hx.1⟩) rfl h
theorem cold_heap {b : Nat} {blk : Blk} (hb : c.H[b]? = some blk) (hl : blk.live = true) (hh : HRel c) : HRel (c.cold b) where
  holds := fun i x hi hx => by
    have hlt := (List.getElem?_eq_some_iff.1 hi).1
    simp only [Cx.cold, List.length_set] at hlt
    obtain ⟨x', h1, h2⟩ := cold_get (b := b) (List.getElem?_eq_getElem hlt)
    rw [hi] at h1; cases h1
    obtain ⟨hxe, hne⟩ := h2 hx
    have hi' : c.H[i]? = some x := by rw [hxe]; exact List.getElem?_eq_getElem hlt
    rcases hh.holds i x hi' hx with h0 | ⟨r, o, g1, g2, g3⟩
    · exact .inl h0
    · exact .inr ⟨r, o, g1, ⟨g2, fun ⟨o', hφ⟩ => hne (hh.inj i b x blk r o o' hi' hx hb hl g1 hφ)⟩, cold_holds g3⟩
  small := fun r h => hh.small r h.1
  inj := fun i i' x x' r o o' hi hx hi' hx' h1 h2 => by
    have get : ∀ {i : Nat} {x : Blk}, (c.cold b).H[i]? = some x → x.live = true → c.H[i]? = some x := fun {i x} hi hx => by
      have hlt := (List.getElem?_eq_some_iff.1 hi).1
      simp only [Cx.cold, List.length_set] at hlt
      obtain ⟨x', g1, g2⟩ := cold_get (b := b) (List.getElem?_eq_getElem hlt)
      rw [hi] at g1; cases g1
      rw [(g2 hx).1]
      exact List.getElem?_eq_getElem hlt
    exact hh.inj i i' x x' r o o' (get hi hx) hx (get hi' hx') hx' h1 h2
theorem cold_fr {c0 : Cx} {b : Nat} {blk : Blk} (hb : c.H[b]? = some blk) (hl : blk.live = true) (hf : Fr c0 c) (hn : c0.H.length ≤ b) : Fr c0 (c.cold b) where
  os := hf.os
  tape := hf.tape
  output := hf.output
  size := hf.size
  keep := hf.keep
  shape := hf.shape
  X := fun r hr => by
    refine ⟨fun h => (hf.X r hr).1 h.1, fun h => ⟨(hf.X r hr).2 h, fun ⟨o, ho⟩ => ?_⟩⟩
    have := hf.img b blk r o hn hb hl ho
    omega
  blocks := fun i x hi => by
    have hlt := (List.getElem?_eq_some_iff.1 hi).1
    obtain ⟨x', h1, h2, h3⟩ := hf.blocks i x hi
    refine ⟨x', ?_, h2, h3⟩
    simp only [Cx.cold]
    rw [List.getElem?_set_ne (by omega)]
    exact h1
  img := fun i x r o hi hx hlx hφ => by
    have hlt := (List.getElem?_eq_some_iff.1 hx).1
    simp only [Cx.cold, List.length_set] at hlt
    obtain ⟨x', g1, g2⟩ := cold_get (b := b) (List.getElem?_eq_getElem hlt)
    rw [hx] at g1; cases g1
    exact hf.img i _ r o hi (List.getElem?_eq_getElem hlt) (by rw [← (g2 hlx).1]; exact hlx) hφ
theorem ice_ok {b : Nat} {blk : Blk} (hb : c.H[b]? = some blk) (hh : HRel c) {v : AVal} {u : Value} (h : VRel c v u) (hfit : fitsV b blk v) : VRel (c.cold b) (iceV b blk v) u := by
  unfold iceV
  split
  · rename_i b' i0 n
    split
    · rename_i hbb
      have hbb := Nat.eq_of_beq_eq_true hbb
      subst hbb
      have hfit := hfit rfl
      have put : blk.live = true → ∀ {sz : Nat} {row : Nat → List AVal},
          (∀ r o, Holds c r o blk → ∃ cs t fr, c.w.heap[r]? = some (.cells cs t fr) ∧ ∀ i, i < n → (row i).length = sz ∧ o + lin blk ⟨b', i0, 0⟩ + i * sz + sz ≤ cs.size ∧
            ∀ j v u, (row i)[j]? = some v → cs[o + lin blk ⟨b', i0, 0⟩ + i * sz + j]? = some u → RRel c.w c.X v u) → (blk.void → n = 0) → VRel (c.cold b') (.ro sz n row) u := by
        intro hl sz row hr hv
        obtain ⟨A, k, rfl, hk, hp⟩ := h.slice_at hb
        by_cases hn : n = 0
        · subst hn; exact .closed (.roNil A k)
        · rcases hp hl with ⟨h0, _⟩ | ⟨r, o, h1, rfl⟩
          · exact absurd h0 hn
          · rcases hh.holds b' blk hb hl with ⟨h0, _⟩ | ⟨r', o', h2, _, h3⟩
            · exact absurd (hv h0) hn
            · have e : c.φ b' = some (r, o) := h1
              rw [h2] at e; cases e
              obtain ⟨cs, t, fr, g1, g2⟩ := hr r o h3
              exact .closed (.ro hk (fun hx => hx.2 ⟨o, h2⟩) g1 (fun i hi => (g2 i hi).1) (fun i hi => (g2 i hi).2.1) (fun i hi j v u h1 h2 => cold_rrel ((g2 i hi).2.2 j v u h1 h2)))
      split
      · rename_i kk l _
        have go : ∀ {row : Nat → List AVal}, (∀ i, row i = [.int kk (l.getD (i0 + i) 0)]) → VRel (c.cold b') (.ro 1 n row) u := fun hrow => by
          refine put rfl (fun r o hH => ?_) (fun hv => by simp only [Blk.void] at hv; subst hv; simp at hfit; omega)
          obtain ⟨cs, t, fr, g1, _, g3, g4⟩ := hH
          refine ⟨cs, t, fr, g1, fun i hi => ?_⟩
          have hfit : i0 + n ≤ l.length := hfit
          refine ⟨by rw [hrow]; rfl, by simp only [lin]; omega, fun j v u h1 h2 => ?_⟩
          rw [hrow] at h1
          cases j with
          | succ j => simp at h1
          | zero =>
            simp only [List.getElem?_cons_zero, Option.some.injEq] at h1
            subst h1
            have hlt : i0 + i < l.length := by omega
            have := g4 (i0 + i) _ (List.getElem?_eq_getElem hlt)
            simp only [lin, Nat.add_zero, Nat.mul_one] at h2
            rw [← Nat.add_assoc] at this
            rw [this] at h2
            cases h2
            rw [List.getD_eq_getElem?_getD, List.getElem?_eq_getElem hlt]
            exact .int _ _
        refine go fun i => ?_
        split
        · simp [irow]
        · rfl
      · rename_i sz m f _
        have hfit : i0 + n ≤ m := hfit
        have go : ∀ {row : Nat → List AVal}, (∀ i, row i = f (i0 + i)) → VRel (c.cold b') (.ro sz n row) u := fun hrow => by
          refine put rfl (fun r o hH => ?_) (fun hv => by simp only [Blk.void] at hv; omega)
          obtain ⟨cs, t, fr, g1, _, g3, g4⟩ := hH
          refine ⟨cs, t, fr, g1, fun i hi => ?_⟩
          have e : o + lin (.rows sz m f) ⟨b', i0, 0⟩ + i * sz = o + (i0 + i) * sz := by
            simp only [lin, Nat.add_zero]
            rw [Nat.add_mul]; omega
          have hle2 : (i0 + i) * sz + sz ≤ m * sz := by rw [← Nat.succ_mul]; exact Nat.mul_le_mul_right _ (by omega)
          rw [e, hrow]
          exact ⟨(g4 (i0 + i) (by omega)).1, by omega, (g4 (i0 + i) (by omega)).2⟩
        refine go fun i => ?_
        split
        · simp
        · rfl
      · exact cold_vrel h
    · exact cold_vrel h
  · exact cold_vrel h
theorem weak_ice {b : Nat} {blk : Blk} (hb : H[b]? = some blk) (hl : blk.live = true) (hn : n0 ≤ b) (hfit : ∀ v ∈ tm, fitsV b blk v) : WeakS n0 tm H (tm.map (iceV b blk)) (H.set b .dead) := by
  rintro c0 c a rfl hf hs rfl
  refine ⟨c.cold b, rfl, rfl, cold_fr hb hl hf hn, ⟨⟨by simpa using hs.tm.1, fun i v u h1 h2 => ?_⟩, cold_heap hb hl hs.heap, hs.defers⟩⟩
  rw [List.getElem?_map] at h1
  cases hv : tm[i]? with
  | none => rw [hv] at h1; cases h1
  | some v0 =>
    rw [hv] at h1
    cases h1
    exact ice_ok hb hs.heap (hs.tm.2 i v0 u hv h2) (hfit v0 (List.mem_of_getElem? hv))
theorem callT_ice (b : Nat) {blk : Blk} (mask : List Bool) (hb : H[b]? = some blk) (hl : blk.live = true) (hn : n0 ≤ b) (hfit : ∀ v ∈ args ++ forget mask tm, fitsV b blk v)
    (h : callT P n0 f (args.map (iceV b blk)) ((forget mask tm).map (iceV b blk)) (H.set b .dead) k) : callT P n0 f args tm H k := by
  refine callT_forget mask (callT_weak (by simp) ?_ h)
  rw [← List.map_append]
  exact weak_ice hb hl hn hfit
end
end Go.E
namespace Go.E
section
variable {P : Program} {n0 : Nat} {f : FuncId} {args tm : List AVal} {H : Heap} {k : List AVal → AVal → Heap → Prop} {c : Cx}
def Cx.sub (c : Cx) (b : Nat) (blk : Blk) : Cx := ⟨fun i => match i with | 0 => c.φ b | _ => none, c.X, [blk], c.w⟩
def Cx.start (w : World) : Cx := ⟨fun _ => none, fun _ => False, [], w⟩
theorem start_heap (w : World) : HRel (Cx.start w) := ⟨by simp [Cx.start], by simp [Cx.start], by simp [Cx.start]⟩
theorem start_gok (h : seatTabs = []) (w : World) : GOK (Cx.start w) := fun t ht => by rw [h] at ht; cases ht
theorem below_of_P {R : AVal → Prop} {us : Array Value} {W : World} (h : callP P f args R) (hg : GOK (Cx.start W)) (ha : CRel (Cx.start W) args us.toList) (hR : ∀ v, R v → v = .bool true) :
    Calls P f us W fun e W' => e = .returned (.bool true) ∧ RowKit.Below W.heap.size W W' := by
  unfold callP at h
  refine ((callN_iff.1 h).2 (Cx.start W) us rfl hg (start_heap W) ha).mono ?_
  rintro e w' ⟨u, v, c', rfl, rfl, ⟨_, hk⟩, hf, _, hv⟩
  have := hR v hk
  subst this
  rw [hv.inv_bool]
  refine ⟨rfl, hf.os, hf.tape, hf.output, hf.size, fun r hr => hf.keep r hr ?_⟩
  rintro ⟨b, x, o, hb, _⟩
  simp [Cx.start] at hb
end
end Go.E
namespace Go.E
inductive Eqv0 : AVal → AVal → Prop
  | refl (v : AVal) : Eqv0 v v
  | ro {sz n : Nat} {row row' : Nat → List AVal} (h : ∀ i, i < n → row i = row' i) : Eqv0 (.ro sz n row) (.ro sz n row')
  | nil (sz : Nat) (row : Nat → List AVal) : Eqv0 .nilslice (.ro sz 0 row)
inductive EqvL (E : AVal → AVal → Prop) : List AVal → List AVal → Prop
  | nil : EqvL E [] []
  | cons {v v' : AVal} {r r' : List AVal} (h : E v v') (hr : EqvL E r r') : EqvL E (v :: r) (v' :: r')
inductive Eqv1 : AVal → AVal → Prop
  | up {v v' : AVal} (h : Eqv0 v v') : Eqv1 v v'
  | agg {l l' : List AVal} (h : EqvL Eqv0 l l') : Eqv1 (.agg l) (.agg l')
inductive Eqv : AVal → AVal → Prop
  | up {v v' : AVal} (h : Eqv1 v v') : Eqv v v'
  | tuple {l l' : List AVal} (h : EqvL Eqv1 l l') : Eqv (.tuple l) (.tuple l')
section
variable {P : Program} {c : Cx}
theorem eqv0_rel {v v' : AVal} {u : Value} (h : Eqv0 v v') (hv : VRel c v u) : VRel c v' u := by
  cases h with
  | refl => exact hv
  | ro h =>
    cases hv with
    | closed hr =>
      cases hr with
      | roNil A k => exact .closed (.roNil A k)
      | ro hc hx hb hlen hin hrel =>
        exact .closed (.ro hc hx hb (fun i hi => by rw [← h i hi]; exact hlen i hi) hin (fun i hi j v u h1 h2 => hrel i hi j v u (by rw [h i hi]; exact h1) h2))
  | nil sz row => rw [hv.inv_nilslice]; exact .closed (.roNil none 0)
theorem eqvL_rel {E : AVal → AVal → Prop} (hE : ∀ {v v' : AVal} {u : Value}, E v v' → VRel c v u → VRel c v' u) : ∀ {l l' : List AVal} {us : List Value}, EqvL E l l' → CRel c l us → CRel c l' us := by
  intro l l' us h
  induction h generalizing us with
  | nil => exact fun h => h
  | cons h _ ih =>
    intro hc
    obtain ⟨u, us, rfl⟩ : ∃ u r, us = u :: r := by
      cases us with
      | nil => exact absurd hc.1 (by simp)
      | cons u r => exact ⟨u, r, rfl⟩
    exact (CRel.one (hE h (hc.2 0 _ u rfl rfl))).append (ih ⟨by have := hc.1; simpa using this, fun i x y h1 h2 => hc.2 (i + 1) x y h1 h2⟩)
theorem eqv1_rel {v v' : AVal} {u : Value} (h : Eqv1 v v') (hv : VRel c v u) : VRel c v' u := by
  cases h with
  | up h => exact eqv0_rel h hv
  | agg h =>
    obtain ⟨us, rfl, hl, hr⟩ := hv.inv_agg
    exact (eqvL_rel (fun h hv => eqv0_rel h hv) h (CRel.of_agg hl hr)).agg
theorem eqv_rel {v v' : AVal} {u : Value} (h : Eqv v v') (hv : VRel c v u) : VRel c v' u := by
  cases h with
  | up h => exact eqv1_rel h hv
  | tuple h =>
    obtain ⟨us, rfl, hl, hr⟩ := hv.inv_tuple
    have := eqvL_rel (fun h hv => eqv1_rel h hv) h (CRel.of_agg hl hr)
    exact .tuple (by simpa using this.1) fun i x y h1 h2 => this.2 i x y h1 (by simpa using h2)
def retE (v0 : AVal) (v : AVal) (H : Heap) : Prop := frozeW H v fun v' => Eqv v' v0
theorem callP_end {f : FuncId} {args : List AVal} {v0 : AVal} (hcl : v0.closed2 = true) (h : callN P f args [] (retE v0)) : callP P f args (· = v0) := by
  unfold callP
  rw [callN_iff] at h ⊢
  refine ⟨h.1, fun c us h1 hg h2 h3 => (h.2 c us h1 hg h2 h3).mono ?_⟩
  rintro e w' ⟨u, v, c', rfl, rfl, hk, hf, hh, hv⟩
  obtain ⟨v', he, hv'⟩ := frozeW_ok hh hv hk
  refine ⟨u, v0, c'.ice, rfl, rfl, ⟨hcl, rfl⟩, ⟨hf.os, hf.tape, hf.output, hf.size, ?_, hf.shape, ?_, ?_, ?_⟩, ice_heap hh, eqv_rel he hv'⟩
  · exact hf.keep
  · intro r hr
    refine ⟨fun hx => (hf.X r hr).1 hx.1, fun hx => ⟨(hf.X r hr).2 hx, ?_⟩⟩
    rintro ⟨b, blk, o, hb, hl, hφ⟩
    have := hf.img b blk r o (by rw [h1]; exact Nat.zero_le _) hb hl hφ
    omega
  · intro b blk hb
    rw [h1] at hb
    cases hb
  · intro b blk r o _ hb
    cases hb
theorem callE_def {T : TEnv} (hE : Env P T) {f : FuncId} {fn : Func} {args : List AVal} {v0 : AVal}
    (hfn : P.funcs[f]? = some fn) (hn : (fn.name == "runtime.NumGoroutine") = false) (hcl : v0.closed2 = true) (h : funW (symP P T 0) fn args [] (retE v0)) : callP P f args (· = v0) :=
  callP_end hcl (callN_def hE 0 rfl hfn hn h)
abbrev ints (kk : IntKind) (l : List Int) : AVal := .ro 1 l.length (irow kk l)
theorem eqv_ints {kk : IntKind} {n : Nat} {row : Nat → List AVal} {l : List Int} (hn : n = l.length) (h : ∀ i, i < n → row i = irow kk l i) : Eqv0 (.ro 1 n row) (ints kk l) := by
  subst hn
  exact .ro h
def slotsFrom : Nat → Nat → List (Nat × AVal) → List AVal
  | 0, _, _ => []
  | k + 1, i, [] => .any :: slotsFrom k (i + 1) []
  | k + 1, i, (j, v) :: r => match Nat.beq i j with
    | true => v :: slotsFrom k (i + 1) r
    | false => .any :: slotsFrom k (i + 1) ((j, v) :: r)
def slots (n : Nat) (l : List (Nat × AVal)) : List AVal := slotsFrom n 0 l
def keepFrom : Nat → Nat → List Nat → List Bool
  | 0, _, _ => []
  | k + 1, i, [] => false :: keepFrom k (i + 1) []
  | k + 1, i, j :: r => match Nat.beq i j with
    | true => true :: keepFrom k (i + 1) r
    | false => false :: keepFrom k (i + 1) (j :: r)
def keep (n : Nat) (l : List Nat) : List Bool := keepFrom n 0 l
theorem callT_E {n0 : Nat} {f : FuncId} {args tm : List AVal} {H : Heap} {k : List AVal → AVal → Heap → Prop} {v : AVal} (h : callP P f args (· = v)) (ha : allClosed2 args = true) (hk : k tm v H) : callT P n0 f args tm H k :=
  callT_of_N (callN_of_P h ha fun v' e => by rw [show v' = v from e]; exact hk)
end
end Go.E
namespace Go.E
open Go.ChangeShapes Go.WideShapes Go.ChangeAt Go.RowKit Go.ChangeMaps
theorem ints_start {W : World} {k : IntKind} {a : Addr} {len cap : Nat} {zs : List Int} (hle : len ≤ cap) (hz : len ≤ zs.length) (hc : ∀ i, i < zs.length → W.cell? (a.add i) = some (.int k (zs.getD i 0))) :
    VRel (Cx.start W) (ints k (zs.take len)) (.slice (some a) len cap) := by
  have hl : (zs.take len).length = len := by simp; omega
  rw [ints, hl]
  by_cases h0 : len = 0
  · subst h0
    exact .closed (.roNil _ _)
  · have c0 := hc 0 (by omega)
    have hsp : a.spot = none := by
      have := World.cell?_spot c0
      simpa [Addr.add] using this
    obtain ⟨r, o, s⟩ := a
    simp only at hsp
    subst hsp
    obtain ⟨cs, t, fr, hb⟩ : ∃ cs t fr, W.heap[r]? = some (.cells cs t fr) := by
      simp only [Addr.add, if_true, World.cell?] at c0
      split at c0
      · rename_i cs t fr hb
        exact ⟨cs, t, fr, hb⟩
      · cases c0
    have each : ∀ i, i < len → cs[o + i]? = some (.int k (zs.getD i 0)) := fun i hi => by
      have := hc i (by omega)
      by_cases h : i = 0
      · subst h
        simpa [Addr.add, World.cell?, hb] using this
      · simpa [Addr.add, h, World.cell?, hb] using this
    refine .closed (.ro hle (fun h => h) hb (fun i hi => rfl) (fun i hi => ?_) (fun i hi j v u h1 h2 => ?_))
    · have := (Array.getElem?_eq_some_iff.1 (each i hi)).1
      omega
    · cases j with
      | succ j => simp [irow] at h1
      | zero =>
        simp only [irow, List.getElem?_cons_zero, Option.some.injEq] at h1
        subst h1
        rw [Nat.mul_one, Nat.add_zero, each i hi] at h2
        cases h2
        rw [List.getD_eq_getElem?_getD, List.getElem?_take, if_pos hi, ← List.getD_eq_getElem?_getD]
        exact .int _ _
section
variable {H : Type} {enc : TypeId × Value → H} {P : Program}
theorem arg_ints {W : World} {t e : TypeId} {k : IntKind} {v : Value} {d : DataW H} {ps : List MemPlace} {b0 : Nat} {r : Reach} (ht : P.underlying t = some (.slice e)) (he : P.underlying e = some (.int k)) (hc : P.cellsOf e = 1)
    (hval : Value.okWide P W r b0 t v) (h : DataW.Trod enc P W 0 (fun _ => true) true t v d ps) : ∃ l : List Int, VRel (Cx.start W) (ints k l) v ∧ l.length ≤ maxLen ∧ ∀ n ∈ l, (Lit.int k n).wf = true := by
  obtain ⟨A, len0, cap0, rfl⟩ := okWide_slice ht hval
  obtain ⟨fuel, hf⟩ := h
  rcases open_ints ht he hc hf with ⟨hcs, _⟩ | ⟨a, len, cap, zs, hcs, _, hl, hm, hz, _, hcell, hwz⟩
  · simp [Value.cells] at hcs
    obtain ⟨rfl, rfl, rfl⟩ := hcs
    exact ⟨[], .closed (.roNil _ _), by simp, by simp⟩
  · simp [Value.cells] at hcs
    obtain ⟨rfl, rfl, rfl⟩ := hcs
    simp only [if_true] at hz
    refine ⟨zs.take len0, ints_start hl (by omega) hcell, by simp; omega, fun n hn => hwz n (List.mem_of_mem_take hn)⟩
end
theorem wf_u16 {n : Int} (h : (Lit.int .u16 n).wf = true) : 0 ≤ n ∧ n < 65536 := by
  simp [Lit.wf, IntKind.min, IntKind.max, IntKind.signed, IntKind.bits] at h
  omega
end Go.E
namespace Go.E
open Go.RowKit
section
variable {P : Program} {f : FuncId} {args : List AVal}
theorem flat0_closed {v : AVal} (h : v.flat0 = true) : v.closed = true := by cases v <;> first | rfl | exact absurd h Bool.false_ne_true
theorem allFlat0_closed : ∀ {l : List AVal}, allFlat0 l = true → allClosed l = true
  | [], _ => rfl
  | v :: r, h => by
    unfold allFlat0 at h
    split at h
    · rename_i hv
      unfold allClosed
      rw [flat0_closed hv]
      exact allFlat0_closed h
    · cases h
theorem flat1_closed {v : AVal} (h : v.flat1 = true) : v.closed1 = true := by
  cases v with
  | agg l => exact allFlat0_closed h
  | _ => first | rfl | exact absurd h Bool.false_ne_true
theorem allFlat1_closed : ∀ {l : List AVal}, allFlat1 l = true → allClosed1 l = true
  | [], _ => rfl
  | v :: r, h => by
    unfold allFlat1 at h
    split at h
    · rename_i hv
      unfold allClosed1
      rw [flat1_closed hv]
      exact allFlat1_closed h
    · cases h
theorem flat_closed {v : AVal} (h : v.flat = true) : v.closed2 = true := by
  cases v with
  | tuple l => exact allFlat1_closed h
  | agg l => exact flat1_closed (v := .agg l) h
  | _ => first | rfl | exact absurd h Bool.false_ne_true
theorem shape_of_heap {w w' : World} {r : Nat} (h : w'.heap[r]? = w.heap[r]?) : w'.shape? r = w.shape? r := by
  unfold World.shape?
  rw [h]
theorem callP_of_walkG {R : AVal → Prop} (he : Enters P f)
    (h : ∀ (c : Cx) (us : Array Value), GOK c → HRel c → CRel c args us.toList → Calls P f us c.w fun e w' => ∃ u v, e = .returned u ∧ Below c.w.heap.size c.w w' ∧ v.flat = true ∧ (∀ c', VRel c' v u) ∧ R v) : callP P f args R := by
  unfold callP
  rw [callN_iff]
  refine ⟨he, ?_⟩
  rintro c us hH hg hh ha
  refine (h c us hg hh ha).mono ?_
  rintro e w' ⟨u, v, rfl, hb, hfl, hv, hR⟩
  have hno : ∀ {b : Nat} {blk : Blk}, ¬ c.H[b]? = some blk := by
    intro b blk hb
    rw [hH] at hb
    simp at hb
  refine ⟨u, v, { c with w := w' }, rfl, rfl, ⟨flat_closed hfl, hR⟩, ?_, ⟨fun b blk hb _ => (hno hb).elim, fun r hr => Nat.lt_of_lt_of_le (hh.small r hr) hb.size, fun b b' blk blk' r o o' h1 _ _ _ _ _ => (hno h1).elim⟩, hv _⟩
  exact {
    os := hb.os
    tape := hb.tape
    output := hb.output
    size := hb.size
    keep := fun r hr _ => hb.block r hr
    shape := fun r hr => shape_of_heap (hb.block r hr)
    X := fun r _ => Iff.rfl
    blocks := fun b blk hb => ⟨blk, hb, rfl, rfl⟩
    img := fun b blk r o _ hb _ _ => (hno hb).elim }
theorem callP_of_walk {R : AVal → Prop} (he : Enters P f)
    (h : ∀ (c : Cx) (us : Array Value), HRel c → CRel c args us.toList → Calls P f us c.w fun e w' => ∃ u v, e = .returned u ∧ Below c.w.heap.size c.w w' ∧ v.flat = true ∧ (∀ c', VRel c' v u) ∧ R v) : callP P f args R :=
  callP_of_walkG he fun c us _ => h c us
theorem ints_inv {c : Cx} {k : IntKind} {l : List Int} {u : Value} (h : VRel c (ints k l) u) : ∃ A cap, u = .slice A l.length cap ∧ (l.length = 0 ∨ ∃ r o, A = some ⟨r, o, none⟩ ∧ r < c.w.heap.size ∧ ∀ i, i < l.length → c.w.cell? ⟨r, o + i, none⟩ = some (.int k (l.getD i 0))) := by
  unfold ints at h
  generalize hn : l.length = n at h
  cases h with
  | closed h =>
    cases h with
    | roNil A cap => exact ⟨A, cap, rfl, .inl rfl⟩
    | ro hc hx hb hlen hin hrel =>
      rename_i r o cap cs t fr
      refine ⟨_, _, rfl, .inr ⟨r, o, rfl, lt_of_heap hb, fun i hi => ?_⟩⟩
      have h1 := hin i hi
      have hu : cs[o + i * 1 + 0]? = some (cs[o + i * 1 + 0]'(by omega)) := Array.getElem?_eq_getElem _
      have h2 := hrel i hi 0 (.int k (l.getD i 0)) _ rfl hu
      have h3 : cs[o + i * 1 + 0]'(by omega) = .int k (l.getD i 0) := by
        generalize cs[o + i * 1 + 0]'(by omega) = u at h2
        cases h2
        rfl
      rw [h3] at hu
      rw [show o + i = o + i * 1 + 0 by omega]
      simp only [World.cell?, hb]
      exact hu
end
end Go.E
namespace Go.E
def posOf (sel : List Nat) (b : Nat) : Option Nat := match sel with
  | [] => none
  | x :: r => match Nat.beq x b with
    | true => some 0
    | false => match posOf r b with
      | some i => some (i + 1)
      | none => none
theorem posOf_at : ∀ {sel : List Nat} {b i : Nat}, posOf sel b = some i → sel[i]? = some b
  | [], b, i, h => by cases h
  | x :: r, b, i, h => by
    unfold posOf at h
    split at h
    · rename_i hx
      cases h
      rw [Nat.eq_of_beq_eq_true hx]
      rfl
    · split at h
      · rename_i j hj
        cases h
        exact posOf_at (sel := r) hj
      · cases h
def renS0 (sel : List Nat) (v : AVal) : AVal := match v with
  | .ptr ⟨b, i, j⟩ => (match posOf sel b with | some b' => .ptr ⟨b', i, j⟩ | none => .any)
  | .slice ⟨b, i, j⟩ n => (match posOf sel b with | some b' => .slice ⟨b', i, j⟩ n | none => .any)
  | v => match v.closed2 with | true => v | false => .any
def renS (sel : List Nat) (v : AVal) : AVal := match v with
  | .fn f a b => .fn f (a.map (renS0 sel)) (b.map (renS0 sel))
  | v => renS0 sel v
def renB (sel : List Nat) : Blk → Blk
  | .cells cs => .cells (cs.map (renS sel))
  | x => x
def selH (sel : List Nat) (H : Heap) : Heap := sel.map fun b => renB sel (H.getD b .dead)
def selOK (n0 m : Nat) (sel : List Nat) : Bool := (sel.all fun b => Nat.blt b m) && decide sel.Nodup && ((List.range n0).all fun i => sel[i]? == some i)
def Cx.sel (c : Cx) (sel : List Nat) : Cx := ⟨fun i => match sel[i]? with | some b => c.φ b | none => none, c.X, selH sel c.H, c.w⟩
theorem renB_kind (sel : List Nat) (b : Blk) : (renB sel b).kind = b.kind := by cases b <;> rfl
theorem nodup_at {l : List Nat} (hn : l.Nodup) {i j : Nat} (hi : i < l.length) (hj : j < l.length) (h : l[i] = l[j]) : i = j := by
  unfold List.Nodup at hn
  rw [List.pairwise_iff_getElem] at hn
  rcases Nat.lt_trichotomy i j with h1 | h1 | h1
  · exact absurd h (hn i j hi hj h1)
  · exact h1
  · exact absurd h.symm (hn j i hj hi h1)
section
variable {c c0 : Cx} {sel : List Nat}
theorem sel_get (hs : ∀ b ∈ sel, b < c.H.length) {i b : Nat} (hi : sel[i]? = some b) : ∃ blk, c.H[b]? = some blk ∧ (c.sel sel).H[i]? = some (renB sel blk) ∧ (c.sel sel).φ i = c.φ b := by
  have hlt := hs b (List.mem_of_getElem? hi)
  refine ⟨c.H[b], List.getElem?_eq_getElem hlt, ?_, by simp only [Cx.sel, hi]⟩
  simp only [Cx.sel, selH, List.getElem?_map, hi, Option.map_some]
  rw [List.getD_eq_getElem?_getD, List.getElem?_eq_getElem hlt]
  rfl
theorem sel_back (hs : ∀ b ∈ sel, b < c.H.length) {i : Nat} {x : Blk} (hx : (c.sel sel).H[i]? = some x) : ∃ b blk, sel[i]? = some b ∧ c.H[b]? = some blk ∧ x = renB sel blk ∧ (c.sel sel).φ i = c.φ b := by
  have hlt : i < sel.length := by
    have := (List.getElem?_eq_some_iff.1 hx).1
    simpa [Cx.sel, selH] using this
  obtain ⟨blk, h1, h2, h3⟩ := sel_get hs (List.getElem?_eq_getElem hlt)
  rw [hx] at h2
  cases h2
  exact ⟨_, blk, List.getElem?_eq_getElem hlt, h1, rfl, h3⟩
theorem renS0_rel (hs : ∀ b ∈ sel, b < c.H.length) {v : AVal} {u : Value} (h : VRel c v u) : VRel (c.sel sel) (renS0 sel v) u := by
  have hq : Quiet c (c.sel sel) := fun r o h1 h2 => ⟨h1, h2⟩
  have other : v.closed2 = true → VRel (c.sel sel) v u := fun hc => h.closed2 hc hq
  unfold renS0
  split
  · rename_i b i j
    split
    · rename_i b' hp
      obtain ⟨blk, h1, h2, h3⟩ := sel_get hs (posOf_at hp)
      cases h with
      | closed h => cases h
      | ptr hb hk =>
        simp only at hb
        rw [h1] at hb
        cases hb
        have hkd := renB_kind sel blk
        refine .ptr h2 fun hl => ?_
        obtain ⟨r, o, a1, a2⟩ := hk (by rw [← live_kind hkd]; exact hl)
        refine ⟨r, o, h3.trans a1, ?_⟩
        rw [a2, lin_kind hkd]
        congr 1
        cases blk <;> rfl
    · exact .any u
  · rename_i b i j n
    split
    · rename_i b' hp
      obtain ⟨blk, h1, h2, h3⟩ := sel_get hs (posOf_at hp)
      cases h with
      | closed h => cases h
      | slice hb hn hk =>
        simp only at hb
        rw [h1] at hb
        cases hb
        have hkd := renB_kind sel blk
        have hlin : lin (renB sel blk) ⟨b', i, j⟩ = lin blk ⟨b, i, j⟩ := by rw [lin_kind hkd]; cases blk <;> rfl
        refine .slice h2 hn fun hl => ?_
        rcases hk (by rw [← live_kind hkd]; exact hl) with h0 | ⟨r, o, a1, a2, a3⟩
        · exact .inl h0
        · refine .inr ⟨r, o, h3.trans a1, by rw [a2, hlin], fun hg => ?_⟩
          rw [hlin, stride_kind hkd]
          exact a3 (by rw [← grows_kind hkd]; exact hg)
    · exact .any u
  · split
    · rename_i hc
      exact other hc
    · exact .any u
theorem renS_rel (hs : ∀ b ∈ sel, b < c.H.length) {v : AVal} {u : Value} (h : VRel c v u) : VRel (c.sel sel) (renS sel v) u := by
  have part : ∀ {l : List AVal} {us : Array Value}, (∀ (i : Nat) (v : AVal) (u : Value), l[i]? = some v → us[i]? = some u → VRel c v u) → ∀ (i : Nat) (v : AVal) (u : Value), (l.map (renS0 sel))[i]? = some v → us[i]? = some u → VRel (c.sel sel) v u := by
    intro l us hr i x y h1 h2
    rw [List.getElem?_map] at h1
    obtain ⟨v0, hv0, rfl⟩ := Option.map_eq_some_iff.1 h1
    exact renS0_rel hs (hr i v0 y hv0 h2)
  unfold renS
  split
  · obtain ⟨us, vs, rfl, ⟨hl, hr⟩, hl', hr'⟩ := h.inv_fn
    exact .fn (by simpa using hl) (part hr) (by simpa using hl') (part hr')
  · exact renS0_rel hs h
theorem sel_heap (hs : ∀ b ∈ sel, b < c.H.length) (hn : sel.Nodup) (hh : HRel c) : HRel (c.sel sel) where
  holds := fun i x hi hl => by
    obtain ⟨b, blk, h1, h2, rfl, h4⟩ := sel_back hs hi
    have hkd := renB_kind sel blk
    rcases hh.holds b blk h2 (by rw [← live_kind hkd]; exact hl) with ⟨h5, h6⟩ | ⟨r, o, h5, h6, h7⟩
    · refine .inl ⟨?_, h4.trans h6⟩
      cases blk <;> first | exact h5 | exact h5.elim
    · refine .inr ⟨r, o, h4.trans h5, h6, ?_⟩
      cases blk with
      | cells l =>
        obtain ⟨cs, t, fr, a1, a2, a3, a4⟩ := h7
        refine ⟨cs, t, fr, a1, a2, by simpa using a3, fun j v u b1 b2 => ?_⟩
        rw [List.getElem?_map] at b1
        obtain ⟨v0, hv0, rfl⟩ := Option.map_eq_some_iff.1 b1
        exact renS_rel hs (a4 j v0 u hv0 b2)
      | _ => exact h7
  small := hh.small
  inj := fun i i' x x' r o o' h1 h2 h3 h4 h5 h6 => by
    obtain ⟨b, blk, a1, a2, rfl, a4⟩ := sel_back hs h1
    obtain ⟨b', blk', a1', a2', rfl, a4'⟩ := sel_back hs h3
    have e := hh.inj b b' blk blk' r o o' a2 (by rw [← live_kind (renB_kind sel blk)]; exact h2) a2' (by rw [← live_kind (renB_kind sel blk')]; exact h4) (a4.symm.trans h5) (a4'.symm.trans h6)
    subst e
    have l1 := (List.getElem?_eq_some_iff.1 a1)
    have l2 := (List.getElem?_eq_some_iff.1 a1')
    obtain ⟨l1, e1⟩ := l1
    obtain ⟨l2, e2⟩ := l2
    exact nodup_at hn l1 l2 (e1.trans e2.symm)
theorem sel_fr (hs : ∀ b ∈ sel, b < c.H.length) (hn : sel.Nodup) (hp : ∀ i, i < c0.H.length → sel[i]? = some i) (hf : Fr c0 c) : Fr c0 (c.sel sel) where
  os := hf.os
  tape := hf.tape
  output := hf.output
  size := hf.size
  keep := hf.keep
  shape := hf.shape
  X := hf.X
  blocks := fun b blk hb => by
    have hlt := (List.getElem?_eq_some_iff.1 hb).1
    obtain ⟨blk1, h1, h2, h3⟩ := hf.blocks b blk hb
    obtain ⟨blk2, h4, h5, h6⟩ := sel_get hs (hp b hlt)
    rw [h1] at h4
    cases h4
    exact ⟨_, h5, (renB_kind sel blk1).trans h2, h6.trans h3⟩
  img := fun i x r o hi hx hl hφ => by
    obtain ⟨b, blk, a1, a2, rfl, a4⟩ := sel_back hs hx
    have hb : c0.H.length ≤ b := by
      apply Classical.byContradiction
      intro hlt
      have h1 := hp b (by omega)
      have l1 := (List.getElem?_eq_some_iff.1 a1)
      have l2 := (List.getElem?_eq_some_iff.1 h1)
      obtain ⟨l1, e1⟩ := l1
      obtain ⟨l2, e2⟩ := l2
      have := nodup_at hn l1 l2 (e1.trans e2.symm)
      omega
    exact hf.img b blk r o hb a2 (by rw [← live_kind (renB_kind sel blk)]; exact hl) (a4.symm.trans hφ)
end
theorem weak_sel (sel : List Nat) {n0 : Nat} {tm : List AVal} {H : Heap} (h : selOK n0 H.length sel = true) : WeakS n0 tm H (tm.map (renS sel)) (selH sel H) := by
  rintro c0 c a rfl hf hs rfl
  simp only [selOK, Bool.and_eq_true, List.all_eq_true, decide_eq_true_eq, List.mem_range, beq_iff_eq] at h
  obtain ⟨⟨h1, h2⟩, h3⟩ := h
  have h1 : ∀ b ∈ sel, b < c.H.length := fun b hb => by have := h1 b hb; simpa using this
  refine ⟨c.sel sel, rfl, rfl, sel_fr h1 h2 h3 hf, ⟨⟨by simpa using hs.tm.1, fun i v u a1 a2 => ?_⟩, sel_heap h1 h2 hs.heap, hs.defers⟩⟩
  rw [List.getElem?_map] at a1
  obtain ⟨v0, hv0, rfl⟩ := Option.map_eq_some_iff.1 a1
  exact renS_rel h1 (hs.tm.2 i v0 u hv0 a2)
theorem weak_nil (j : Nat) (blk : Blk) (hv : blk.void) {n0 : Nat} {tm : List AVal} {H : Heap} (hj : tm[j]? = some .nilslice) : WeakS n0 tm H (tm.set j (.slice ⟨H.length, 0, 0⟩ 0)) (H ++ [blk]) := by
  rintro c0 c a rfl hf hs rfl
  refine ⟨c.ghost blk, rfl, rfl, hf.trans (c.ghost_fr blk), ⟨⟨by simpa using hs.tm.1, fun i v u a1 a2 => ?_⟩, Cx.ghost_heap hs.heap hv, hs.defers⟩⟩
  by_cases hij : j = i
  · subst hij
    have hlt := (List.getElem?_eq_some_iff.1 hj).1
    rw [List.getElem?_set_self hlt] at a1
    cases a1
    have := hs.tm.2 j _ u hj a2
    rw [this.inv_nilslice]
    exact .slice (blk := blk) (by simp [Cx.ghost]) (Nat.le_refl _) fun _ => .inl ⟨rfl, rfl⟩
  · rw [List.getElem?_set_ne hij] at a1
    exact (hs.tm.2 i v u a1 a2).mono (c.ghost_fr blk) hs.heap.img
theorem weak_keep (mask : List Bool) (sel : List Nat) {n0 : Nat} {tm tm' : List AVal} {H H' : Heap} (h : selOK n0 H.length sel = true) (e1 : (forget mask tm).map (renS sel) = tm') (e2 : selH sel H = H') : WeakS n0 tm H tm' H' := by
  subst e1
  subst e2
  exact (weak_forget n0 mask tm H).trans (weak_sel sel h)
theorem loop_weak {n0 : Nat} {body : AQ → List AVal → Heap → Prop} {Q : AQ} {tm : List AVal} {H : Heap} {σ : Type} (st : σ → List AVal) (hp : σ → Heap) (ok : σ → Prop) (μ : σ → Nat) (s0 : σ)
    (h0 : ok s0) (e0 : WeakS n0 tm H (st s0) (hp s0))
    (h : ∀ s, ok s → body (seqQ (fun _ tm' H' => ∃ s', ok s' ∧ μ s' < μ s ∧ WeakS n0 tm' H' (st s') (hp s')) Q) (st s) (hp s)) : loopN n0 body Q tm H := by
  unfold loopN
  exact ⟨σ, st, hp, ok, μ, fun s tm' H' => ∃ s', ok s' ∧ μ s' < μ s ∧ WeakS n0 tm' H' (st s') (hp s'), ⟨s0, h0, e0⟩, h, fun s tm' H' _ h => h⟩
theorem weak_slot (j : Nat) {v v' : AVal} (he : Eqv v v') {n0 : Nat} {tm : List AVal} {H : Heap} (hj : tm[j]? = some v) : WeakS n0 tm H (tm.set j v') H := by
  rintro c0 c a rfl hf hs rfl
  refine ⟨c, rfl, rfl, hf, ⟨⟨by simpa using hs.tm.1, fun i x u a1 a2 => ?_⟩, hs.heap, hs.defers⟩⟩
  by_cases hij : j = i
  · subst hij
    have hlt := (List.getElem?_eq_some_iff.1 hj).1
    rw [List.getElem?_set_self hlt] at a1
    cases a1
    exact eqv_rel he (hs.tm.2 j v u hj a2)
  · rw [List.getElem?_set_ne hij] at a1
    exact hs.tm.2 i x u a1 a2
theorem callP_arg {P : Program} {f : FuncId} {args args' : List AVal} {R : AVal → Prop} (he : EqvL Eqv args args') (h : callP P f args' R) : callP P f args R := by
  unfold callP at h ⊢
  rw [callN_iff] at h ⊢
  exact ⟨h.1, fun c us h1 hg h2 h3 => h.2 c us h1 hg h2 (eqvL_rel (fun h hv => eqv_rel h hv) he h3)⟩
def fitsL (b : Nat) (blk : Blk) : List AVal → Prop
  | [] => True
  | v :: r => match v with
    | .slice ⟨b', i0, 0⟩ n => (match Nat.beq b' b with
      | true => (match blk with
        | .ints _ l => i0 + n ≤ l.length ∧ fitsL b blk r
        | .rows _ m _ => i0 + n ≤ m ∧ fitsL b blk r
        | _ => fitsL b blk r)
      | false => fitsL b blk r)
    | _ => fitsL b blk r
theorem fitsL_mem {b : Nat} {blk : Blk} : ∀ {l : List AVal}, fitsL b blk l → ∀ v ∈ l, fitsV b blk v
  | [], _, v, hv => by cases hv
  | x :: r, h, v, hv => by
    have key : fitsV b blk x ∧ fitsL b blk r := by
      unfold fitsL at h
      split at h
      · rename_i b' i0 n
        split at h
        · split at h
          · exact ⟨fun _ => h.1, h.2⟩
          · exact ⟨fun _ => h.1, h.2⟩
          · rename_i h1 h2
            refine ⟨fun _ => ?_, h⟩
            cases blk with
            | ints k l => exact (h1 k l rfl).elim
            | rows sz n f => exact (h2 sz n f rfl).elim
            | _ => trivial
        · rename_i hb
          exact ⟨fun e => absurd e (Nat.ne_of_beq_eq_false hb), h⟩
      · rename_i h1
        refine ⟨?_, h⟩
        unfold fitsV
        split
        · rename_i b' i0 n
          exact (h1 b' i0 n rfl).elim
        · trivial
    rcases List.mem_cons.1 hv with rfl | hv
    · exact key.1
    · exact fitsL_mem key.2 v hv
theorem callT_freeze {P : Program} {n0 : Nat} {f : FuncId} {args tm : List AVal} {H : Heap} {k : List AVal → AVal → Heap → Prop} (b : Nat) {blk : Blk} (mask : List Bool) (hb : H[b]? = some blk) (hl : blk.live = true) (hn : n0 ≤ b)
    (hfit : fitsL b blk (args ++ forget mask tm)) (h : callT P n0 f (args.map (iceV b blk)) ((forget mask tm).map (iceV b blk)) (H.set b .dead) k) : callT P n0 f args tm H k :=
  callT_ice b mask hb hl hn (fitsL_mem hfit) h
theorem Eqv.same (v : AVal) : Eqv v v := .up (.up (.refl v))
theorem eqv_part {kk : IntKind} {n : Nat} {row : Nat → List AVal} {l : List Int} (hn : n = l.length) (h : ∀ i, i < n → row i = irow kk l i) : Eqv (.ro 1 n row) (ints kk l) := .up (.up (eqv_ints hn h))
end Go.E
namespace Go.E
def backN (sel : List Nat) (n : Nat) (i : Nat) : Nat := match sel[i]? with
  | some b => b
  | none => n + (i - sel.length)
def backVa (sel : List Nat) (n : Nat) (v : AVal) : AVal := match v with
  | .ptr ⟨b, i, j⟩ => .ptr ⟨backN sel n b, i, j⟩
  | .slice ⟨b, i, j⟩ m => .slice ⟨backN sel n b, i, j⟩ m
  | v => match v.closed2 with | true => v | false => .any
def backV0 (sel : List Nat) (n : Nat) (v : AVal) : AVal := match v with
  | .fn f a b => .fn f (a.map (backVa sel n)) (b.map (backVa sel n))
  | v => backVa sel n v
def backV1 (sel : List Nat) (n : Nat) (v : AVal) : AVal := match v with
  | .agg l => .agg (l.map (backV0 sel n))
  | v => backV0 sel n v
def backV (sel : List Nat) (n : Nat) (v : AVal) : AVal := match v with
  | .tuple l => .tuple (l.map (backV1 sel n))
  | v => backV1 sel n v
def backB (sel : List Nat) (n : Nat) : Blk → Blk
  | .cells cs => .cells (cs.map (backV0 sel n))
  | x => x
def mergeH (H : Heap) (sel : List Nat) (H' : Heap) : Heap :=
  let n := H.length
  ((List.range n).map fun b => match posOf sel b with
    | some i => backB sel n (H'.getD i .dead)
    | none => H.getD b .dead) ++ (H'.drop sel.length).map (backB sel n)
theorem backB_kind (sel : List Nat) (n : Nat) (b : Blk) : (backB sel n b).kind = b.kind := by cases b <;> rfl
theorem posOf_none : ∀ {sel : List Nat} {b : Nat}, posOf sel b = none → b ∉ sel
  | [], b, _ => by simp
  | x :: r, b, h => by
    unfold posOf at h
    split at h
    · cases h
    · rename_i hx
      split at h
      · cases h
      · rename_i hr
        have := posOf_none (sel := r) hr
        have hne := Nat.ne_of_beq_eq_false hx
        simp only [List.mem_cons, not_or]
        exact ⟨fun e => hne e.symm, this⟩
theorem posOf_nodup {sel : List Nat} (hn : sel.Nodup) {b i : Nat} (h : sel[i]? = some b) : posOf sel b = some i := by
  cases hp : posOf sel b with
  | none => exact absurd (List.mem_of_getElem? h) (posOf_none hp)
  | some j =>
    have h2 := posOf_at hp
    obtain ⟨l1, e1⟩ := List.getElem?_eq_some_iff.1 h
    obtain ⟨l2, e2⟩ := List.getElem?_eq_some_iff.1 h2
    rw [nodup_at hn l1 l2 (e1.trans e2.symm)]
section
variable {P : Program} {c c1 : Cx} {sel : List Nat}
def Cx.merge (c c1 : Cx) (sel : List Nat) : Cx := ⟨fun b => if b < c.H.length then c.φ b else c1.φ (b - c.H.length + sel.length), c1.X, mergeH c.H sel c1.H, c1.w⟩
theorem merge_old (hlt : ∀ b ∈ sel, b < c.H.length) {b : Nat} (hb : b < c.H.length) : (c.merge c1 sel).H[b]? = some (match posOf sel b with
    | some i => backB sel c.H.length (c1.H.getD i .dead)
    | none => c.H.getD b .dead) := by
  simp only [Cx.merge, mergeH]
  rw [List.getElem?_append_left (by simpa using hb), List.getElem?_map, List.getElem?_range hb]
  rfl
theorem merge_new {b : Nat} (hb : c.H.length ≤ b) : (c.merge c1 sel).H[b]? = (c1.H[b - c.H.length + sel.length]?).map (backB sel c.H.length) := by
  simp only [Cx.merge, mergeH]
  rw [List.getElem?_append_right (by simpa using hb), List.getElem?_map, List.getElem?_drop]
  simp only [List.length_map, List.length_range]
  rw [Nat.add_comm]
theorem merge_at (hlt : ∀ b ∈ sel, b < c.H.length) (hn : sel.Nodup) (hf : Fr (c.sel sel) c1) {i : Nat} {blk : Blk} (hi : c1.H[i]? = some blk) :
    (c.merge c1 sel).H[backN sel c.H.length i]? = some (backB sel c.H.length blk) ∧ (c.merge c1 sel).φ (backN sel c.H.length i) = c1.φ i := by
  unfold backN
  cases hs : sel[i]? with
  | some b =>
    have hb := hlt b (List.mem_of_getElem? hs)
    simp only
    rw [merge_old hlt hb, posOf_nodup hn hs]
    refine ⟨by simp only; rw [List.getD_eq_getElem?_getD (l := c1.H), hi]; rfl, ?_⟩
    simp only [Cx.merge, if_pos hb]
    obtain ⟨blk0, h1, h2, h3⟩ := sel_get hlt hs
    obtain ⟨_, h4, _, h5⟩ := hf.blocks i _ h2
    exact h3.symm.trans h5.symm
  | none =>
    have hge : sel.length ≤ i := by
      apply Classical.byContradiction
      intro h
      rw [List.getElem?_eq_getElem (by omega)] at hs
      cases hs
    simp only
    have e : c.H.length + (i - sel.length) - c.H.length + sel.length = i := by omega
    rw [merge_new (by omega), e, hi]
    refine ⟨rfl, ?_⟩
    simp only [Cx.merge]
    rw [if_neg (by omega), e]
theorem back_rela (hlt : ∀ b ∈ sel, b < c.H.length) (hn : sel.Nodup) (hf : Fr (c.sel sel) c1) {v : AVal} {u : Value} (h : VRel c1 v u) : VRel (c.merge c1 sel) (backVa sel c.H.length v) u := by
  have hq : Quiet c1 (c.merge c1 sel) := fun r o h1 h2 => ⟨h1, h2⟩
  have other : v.closed2 = true → VRel (c.merge c1 sel) v u := fun hc => h.closed2 hc hq
  unfold backVa
  split
  · rename_i b i j
    cases h with
    | closed h => cases h
    | ptr hb hk =>
      rename_i p blk
      obtain ⟨h2, h3⟩ := merge_at hlt hn hf hb
      have hkd := backB_kind sel c.H.length blk
      refine .ptr h2 fun hl => ?_
      obtain ⟨r, o, a1, a2⟩ := hk (by rw [← live_kind hkd]; exact hl)
      refine ⟨r, o, h3.trans a1, ?_⟩
      rw [a2, lin_kind hkd]
      congr 1
      cases blk <;> rfl
  · rename_i b i j m
    cases h with
    | closed h => cases h
    | slice hb hn' hk =>
      rename_i k A blk
      obtain ⟨h2, h3⟩ := merge_at hlt hn hf hb
      have hkd := backB_kind sel c.H.length blk
      have hlin : lin (backB sel c.H.length blk) ⟨backN sel c.H.length b, i, j⟩ = lin blk ⟨b, i, j⟩ := by rw [lin_kind hkd]; cases blk <;> rfl
      refine .slice h2 hn' fun hl => ?_
      rcases hk (by rw [← live_kind hkd]; exact hl) with h0 | ⟨r, o, a1, a2, a3⟩
      · exact .inl h0
      · refine .inr ⟨r, o, h3.trans a1, by rw [a2, hlin], fun hg => ?_⟩
        rw [hlin, stride_kind hkd]
        exact a3 (by rw [← grows_kind hkd]; exact hg)
  · split
    · rename_i hc
      exact other hc
    · exact .any u
theorem back_rel0 (hlt : ∀ b ∈ sel, b < c.H.length) (hn : sel.Nodup) (hf : Fr (c.sel sel) c1) {v : AVal} {u : Value} (h : VRel c1 v u) : VRel (c.merge c1 sel) (backV0 sel c.H.length v) u := by
  have part : ∀ {l : List AVal} {us : Array Value}, (∀ (i : Nat) (v : AVal) (u : Value), l[i]? = some v → us[i]? = some u → VRel c1 v u) → ∀ (i : Nat) (v : AVal) (u : Value), (l.map (backVa sel c.H.length))[i]? = some v → us[i]? = some u → VRel (c.merge c1 sel) v u := by
    intro l us hr i x y h1 h2
    rw [List.getElem?_map] at h1
    obtain ⟨v0, hv0, rfl⟩ := Option.map_eq_some_iff.1 h1
    exact back_rela hlt hn hf (hr i v0 y hv0 h2)
  unfold backV0
  split
  · obtain ⟨us, vs, rfl, ⟨hl, hr⟩, hl', hr'⟩ := h.inv_fn
    exact .fn (by simpa using hl) (part hr) (by simpa using hl') (part hr')
  · exact back_rela hlt hn hf h
theorem back_list {f : AVal → AVal} {e : Cx} (hf : ∀ {v : AVal} {u : Value}, VRel c1 v u → VRel e (f v) u) {l : List AVal} {us : List Value} (h : CRel c1 l us) : CRel e (l.map f) us :=
  ⟨by simpa using h.1, fun i v u h1 h2 => by
    rw [List.getElem?_map] at h1
    obtain ⟨v0, hv0, rfl⟩ := Option.map_eq_some_iff.1 h1
    exact hf (h.2 i v0 u hv0 h2)⟩
theorem back_rel1 (hlt : ∀ b ∈ sel, b < c.H.length) (hn : sel.Nodup) (hf : Fr (c.sel sel) c1) {v : AVal} {u : Value} (h : VRel c1 v u) : VRel (c.merge c1 sel) (backV1 sel c.H.length v) u := by
  unfold backV1
  split
  · obtain ⟨us, rfl, h1, h2⟩ := h.inv_agg
    exact (back_list (fun h => back_rel0 hlt hn hf h) (.of_agg h1 h2)).agg
  · exact back_rel0 hlt hn hf h
theorem back_rel (hlt : ∀ b ∈ sel, b < c.H.length) (hn : sel.Nodup) (hf : Fr (c.sel sel) c1) {v : AVal} {u : Value} (h : VRel c1 v u) : VRel (c.merge c1 sel) (backV sel c.H.length v) u := by
  unfold backV
  split
  · obtain ⟨us, rfl, h1, h2⟩ := h.inv_tuple
    have := back_list (f := backV1 sel c.H.length) (fun h => back_rel1 hlt hn hf h) (.of_agg h1 h2)
    exact .tuple (by simpa using this.1) fun i v u a1 a2 => this.2 i v u a1 (by rw [Array.getElem?_toList]; exact a2)
  · exact back_rel1 hlt hn hf h
theorem sel_img (hlt : ∀ b ∈ sel, b < c.H.length) {r : Nat} (h : Img (c.sel sel) r) : ∃ b ∈ sel, ∃ blk o, c.H[b]? = some blk ∧ blk.live = true ∧ c.φ b = some (r, o) := by
  obtain ⟨i, x, o, hi, hx, hφ⟩ := h
  obtain ⟨b, blk, a1, a2, rfl, a4⟩ := sel_back hlt hi
  exact ⟨b, List.mem_of_getElem? a1, blk, o, a2, by rw [← live_kind (renB_kind sel blk)]; exact hx, a4.symm.trans hφ⟩
theorem merge_fr (hlt : ∀ b ∈ sel, b < c.H.length) (hn : sel.Nodup) (hf : Fr (c.sel sel) c1) : Fr c (c.merge c1 sel) where
  os := hf.os
  tape := hf.tape
  output := hf.output
  size := hf.size
  keep := fun r hr hno => hf.keep r hr fun h => by
    obtain ⟨b, _, blk, o, h1, h2, h3⟩ := sel_img hlt h
    exact hno ⟨b, blk, o, h1, h2, h3⟩
  shape := hf.shape
  X := hf.X
  blocks := fun b blk hb => by
    have hb' := (List.getElem?_eq_some_iff.1 hb).1
    have hφ : (c.merge c1 sel).φ b = c.φ b := by simp only [Cx.merge, if_pos hb']
    rw [merge_old hlt hb']
    cases hp : posOf sel b with
    | none => exact ⟨_, rfl, by simp only; rw [List.getD_eq_getElem?_getD, hb]; rfl, hφ⟩
    | some i =>
      obtain ⟨blk0, h1, h2, h3⟩ := sel_get hlt (posOf_at hp)
      obtain ⟨blk', h4, h5, h6⟩ := hf.blocks i _ h2
      rw [hb] at h1; cases h1
      refine ⟨_, rfl, ?_, hφ⟩
      simp only
      rw [backB_kind, List.getD_eq_getElem?_getD, h4]
      exact h5.trans (renB_kind sel blk)
  img := fun b x r o hle hx hl hφ => by
    rw [merge_new hle] at hx
    obtain ⟨y, hy, rfl⟩ := Option.map_eq_some_iff.1 hx
    simp only [Cx.merge] at hφ
    rw [if_neg (by omega)] at hφ
    exact hf.img _ y r o (by simp only [Cx.sel, selH, List.length_map]; omega) hy (by rw [← live_kind (backB_kind sel c.H.length y)]; exact hl) hφ
theorem back_holds (hlt : ∀ b ∈ sel, b < c.H.length) (hn : sel.Nodup) (hf : Fr (c.sel sel) c1) {r o : Nat} {blk : Blk} (h : Holds c1 r o blk) : Holds (c.merge c1 sel) r o (backB sel c.H.length blk) := by
  cases blk with
  | cells l =>
    obtain ⟨cs, t, fr, a1, a2, a3, a4⟩ := h
    refine ⟨cs, t, fr, a1, a2, by simpa using a3, fun j v u b1 b2 => ?_⟩
    rw [List.getElem?_map] at b1
    obtain ⟨v0, hv0, rfl⟩ := Option.map_eq_some_iff.1 b1
    exact back_rel0 hlt hn hf (a4 j v0 u hv0 b2)
  | _ => exact h
theorem merge_heap (hlt : ∀ b ∈ sel, b < c.H.length) (hn : sel.Nodup) (hf : Fr (c.sel sel) c1) (hh : HRel c) (h1 : HRel c1) : HRel (c.merge c1 sel) := by
  have hfr := merge_fr hlt hn hf
  -- each live block behind the call: one of the call's, or one that it was not handed
  have each : ∀ {b : Nat} {x : Blk}, (c.merge c1 sel).H[b]? = some x → x.live = true → (∃ i y, c1.H[i]? = some y ∧ x = backB sel c.H.length y ∧ (c.merge c1 sel).φ b = c1.φ i ∧ b = backN sel c.H.length i) ∨ (b < c.H.length ∧ b ∉ sel ∧ c.H[b]? = some x ∧ (c.merge c1 sel).φ b = c.φ b) := by
    intro b x hx hl
    by_cases hb : b < c.H.length
    · rw [merge_old hlt hb] at hx
      have hφ : (c.merge c1 sel).φ b = c.φ b := by simp only [Cx.merge, if_pos hb]
      cases hp : posOf sel b with
      | none =>
        rw [hp] at hx
        simp only [Option.some.injEq] at hx
        rw [List.getD_eq_getElem?_getD, List.getElem?_eq_getElem hb] at hx
        exact .inr ⟨hb, posOf_none hp, by rw [List.getElem?_eq_getElem hb]; exact congrArg some hx, hφ⟩
      | some i =>
        rw [hp] at hx
        simp only [Option.some.injEq] at hx
        obtain ⟨blk0, a1, a2, a3⟩ := sel_get hlt (posOf_at hp)
        obtain ⟨blk', a4, a5, a6⟩ := hf.blocks i _ a2
        rw [List.getD_eq_getElem?_getD, a4] at hx
        exact .inl ⟨i, blk', a4, hx.symm, hφ.trans (a3.symm.trans a6.symm), by unfold backN; rw [posOf_at hp]⟩
    · have hge : c.H.length ≤ b := by omega
      rw [merge_new hge] at hx
      obtain ⟨y, hy, rfl⟩ := Option.map_eq_some_iff.1 hx
      refine .inl ⟨_, y, hy, rfl, by simp only [Cx.merge]; rw [if_neg hb], ?_⟩
      unfold backN
      rw [List.getElem?_eq_none (by omega)]
      simp only
      omega
  have apart : ∀ {b i r o o' : Nat} {x y : Blk}, b < c.H.length → b ∉ sel → c.H[b]? = some x → x.live = true → c.φ b = some (r, o) → c1.H[i]? = some y → y.live = true → c1.φ i = some (r, o') → False := by
    intro b i r o o' x y hb hns hx hl hφ hy hyl hφ'
    by_cases hi : i < sel.length
    · have hs : sel[i]? = some sel[i] := List.getElem?_eq_getElem hi
      obtain ⟨blk0, a1, a2, a3⟩ := sel_get hlt hs
      obtain ⟨blk', a4, a5, a6⟩ := hf.blocks i _ a2
      rw [hy] at a4; cases a4
      have hl0 : blk0.live = true := by rw [← live_kind (renB_kind sel blk0), ← live_kind a5]; exact hyl
      have := hh.inj b sel[i] x blk0 r o o' hx hl a1 hl0 hφ (a3.symm.trans (a6.symm.trans hφ'))
      exact hns (this ▸ List.getElem_mem _)
    · have h2 := hf.img i y r o' (by simp only [Cx.sel, selH, List.length_map]; omega) hy hyl hφ'
      have h3 := hh.small r (hh.at_ hx hl hφ).1
      have : (c.sel sel).w.heap.size = c.w.heap.size := rfl
      omega
  refine ⟨fun b x hx hl => ?_, h1.small, fun b b' x x' r o o' hx hl hx' hl' hφ hφ' => ?_⟩
  · rcases each hx hl with ⟨i, y, a1, rfl, a3, _⟩ | ⟨a1, a2, a3, a4⟩
    · have hkd := backB_kind sel c.H.length y
      rcases h1.holds i y a1 (by rw [← live_kind hkd]; exact hl) with ⟨b1, b2⟩ | ⟨r, o, b1, b2, b3⟩
      · refine .inl ⟨?_, a3.trans b2⟩
        cases y <;> first | exact b1 | exact b1.elim
      · exact .inr ⟨r, o, a3.trans b1, b2, back_holds hlt hn hf b3⟩
    · rcases hh.holds b x a3 hl with ⟨b1, b2⟩ | ⟨r, o, b1, b2, b3⟩
      · exact .inl ⟨b1, a4.trans b2⟩
      · have hr := hh.small r b2
        refine .inr ⟨r, o, a4.trans b1, (hf.X r hr).2 b2, b3.mono hfr hh.img (hf.keep r hr fun hi => ?_)⟩
        obtain ⟨b', hb', blk, o', c1', c2, c3⟩ := sel_img hlt hi
        exact a2 (hh.inj b b' x blk r o o' a3 hl c1' c2 b1 c3 ▸ hb')
  · rcases each hx hl with ⟨i, y, a1, rfl, a3, a5⟩ | ⟨a1, a2, a3, a4⟩ <;> rcases each hx' hl' with ⟨i', y', a1', rfl, a3', a5'⟩ | ⟨a1', a2', a3', a4'⟩
    · have := h1.inj i i' y y' r o o' a1 (by rw [← live_kind (backB_kind sel c.H.length y)]; exact hl) a1' (by rw [← live_kind (backB_kind sel c.H.length y')]; exact hl') (a3.symm.trans hφ) (a3'.symm.trans hφ')
      rw [a5, a5', this]
    · exact (apart a1' a2' a3' hl' (a4'.symm.trans hφ') a1 (by rw [← live_kind (backB_kind sel c.H.length y)]; exact hl) (a3.symm.trans hφ)).elim
    · exact (apart a1 a2 a3 hl (a4.symm.trans hφ) a1' (by rw [← live_kind (backB_kind sel c.H.length y')]; exact hl') (a3'.symm.trans hφ')).elim
    · exact hh.inj b b' x x' r o o' a3 hl a3' hl' (a4.symm.trans hφ) (a4'.symm.trans hφ')
end
def selOK' (m : Nat) (sel : List Nat) : Bool := (sel.all fun b => Nat.blt b m) && decide sel.Nodup
theorem callT_frame {P : Program} {n0 : Nat} {f : FuncId} {args tm : List AVal} {H : Heap} {k : List AVal → AVal → Heap → Prop} (sel : List Nat) {R : AVal → Heap → Prop} (hs : selOK' H.length sel = true)
    (h : callN P f (args.map (renS sel)) (selH sel H) R) (hk : ∀ v H', R v H' → k tm (backV sel H.length v) (mergeH H sel H')) : callT P n0 f args tm H k := by
  simp only [selOK', Bool.and_eq_true, List.all_eq_true, decide_eq_true_eq] at hs
  obtain ⟨h1, hn⟩ := hs
  refine callT_of_N ?_
  rw [callN_iff] at h ⊢
  refine ⟨h.1, ?_⟩
  rintro c us rfl hg hh ha
  have hlt : ∀ b ∈ sel, b < c.H.length := fun b hb => by have := h1 b hb; simpa using this
  refine (h.2 (c.sel sel) us rfl (hg.sub rfl fun r hr => by obtain ⟨b, _, blk, o, q1, q2, q3⟩ := sel_img hlt hr; exact ⟨b, blk, o, q1, q2, q3⟩) (sel_heap hlt hn hh) (back_list (fun h => renS_rel hlt h) ha)).mono ?_
  rintro e w' ⟨u, v, c1, rfl, rfl, hR, hf, hh1, hv⟩
  exact ⟨u, backV sel c.H.length v, c.merge c1 sel, rfl, rfl, hk v c1.H hR, merge_fr hlt hn hf, merge_heap hlt hn hf hh hh1, back_rel hlt hn hf hv⟩
end Go.E
