/- The engine, part zj: a nil result seen as an empty own block. -/
import Derived.Test.YtpgeapbmdljllaaE4
import Derived.OpenShut
import Derived.Deep.Strs
import Derived.Lib.LaidTab
import Derived.Handed
set_option linter.unusedVariables false
set_option linter.unusedSimpArgs false
/-! EngZj. -/
namespace Go.E

theorem vrel_nil_blk {c : Cx} {b : Nat} {blk : Blk} (hb : c.H[b]? = some blk) {u : Value} (h : VRel c .nilslice u) : VRel c (.slice ⟨b, 0, 0⟩ 0) u := by
  rw [h.inv_nilslice]
  exact .slice (blk := blk) hb (Nat.le_refl _) fun _ => .inl ⟨rfl, rfl⟩
theorem vrel_pair {c : Cx} {v v' x : AVal} {u : Value} (h : VRel c (.tuple [v, x]) u) (hv : ∀ u, VRel c v u → VRel c v' u) : VRel c (.tuple [v', x]) u := by
  obtain ⟨us, rfl, hl, hr⟩ := h.inv_tuple
  refine .tuple (by simpa using hl) fun i w y a1 a2 => ?_
  cases i with
  | zero => cases a1; exact hv _ (hr 0 v y rfl a2)
  | succ i => exact hr (i + 1) w y a1 a2
/-- The result is a slice of an own block, or nil, with or without one: it is seen as a slice of an own block. -/
theorem own_pair {P : Program} {f : FuncId} {args : List AVal} {k : IntKind} {R : AVal → Heap → Prop} {p : List Int → Prop} (p0 : p []) (h : callN P f args [] R)
    (hR : ∀ v H', R v H' → ∃ e, (v = .tuple [.nilslice, .int .i64 e] ∧ H' = []) ∨ ∃ l, p l ∧ H' = [.ints k l] ∧ (v = .tuple [.nilslice, .int .i64 e] ∨ ∃ n, n ≤ l.length ∧ v = .tuple [.slice ⟨0, 0, 0⟩ n, .int .i64 e])) :
    callN P f args [] fun v H' => ∃ n l e, n ≤ l.length ∧ p l ∧ v = .tuple [.slice ⟨0, 0, 0⟩ n, .int .i64 e] ∧ H' = [.ints k l] := by
  rw [callN_iff] at h ⊢
  refine ⟨h.1, fun c us h1 hg h2 h3 => (h.2 c us h1 hg h2 h3).mono ?_⟩
  rintro e w' ⟨u, v, c', rfl, rfl, a3, a4, a5, a6⟩
  obtain ⟨e, ⟨rfl, hH⟩ | ⟨l, hp, hH, rfl | ⟨n, hn, rfl⟩⟩⟩ := hR _ _ a3
  · have hv : (Blk.ints k []).void := rfl
    refine ⟨u, _, c'.ghost (.ints k []), rfl, rfl, ⟨0, [], e, Nat.le_refl _, p0, rfl, by simp [Cx.ghost, hH]⟩, a4.trans (c'.ghost_fr _), Cx.ghost_heap a5 hv, ?_⟩
    exact vrel_pair (a6.mono (c'.ghost_fr _) a5.img) fun u hu => vrel_nil_blk (blk := .ints k []) (by simp [Cx.ghost, hH]) hu
  · exact ⟨u, _, c', rfl, rfl, ⟨0, l, e, Nat.zero_le _, hp, rfl, hH⟩, a4, a5, vrel_pair a6 fun u hu => vrel_nil_blk (blk := .ints k l) (by rw [hH]; rfl) hu⟩
  · exact ⟨u, _, c', rfl, rfl, ⟨n, l, e, hn, hp, rfl, hH⟩, a4, a5, a6⟩
end Go.E
/-! EngZk. -/
namespace Go.E
theorem callT_part {P : Program} {n0 : Nat} {f : FuncId} {args tm : List AVal} {H : Heap} {k : List AVal → AVal → Heap → Prop} (sel : List Nat) {R : AVal → Heap → Prop} (hs : selOK' H.length sel = true)
    (h : callN P f (args.map (renS sel)) (selH sel H) R) (hk : ∀ v H', R v H' → ∀ x G, x = backV sel H.length v → G = mergeH H sel H' → k tm x G) : callT P n0 f args tm H k :=
  callT_frame sel hs h fun v H' hR => hk v H' hR _ _ rfl rfl
end Go.E
/-! EngZl. -/
namespace Go.E

def iceP0 (b : Nat) (cs : List AVal) (v : AVal) : AVal := match v with
  | .ptr ⟨b', 0, 0⟩ => (match Nat.beq b' b with | true => .roptr cs.length 1 (fun _ => cs) 0 0 | false => v)
  | v => v
def iceP (b : Nat) (cs : List AVal) (v : AVal) : AVal := match v with
  | .fn f x y => .fn f (x.map (iceP0 b cs)) (y.map (iceP0 b cs))
  | v => iceP0 b cs v
section
variable {P : Program} {c : Cx} {b : Nat} {cs : List AVal}
theorem iceP0_ok (hb : c.H[b]? = some (.cells cs)) (hcl : allClosed cs = true) (hh : HRel c) {v : AVal} {u : Value} (h : VRel c v u) : VRel (c.cold b) (iceP0 b cs v) u := by
  unfold iceP0
  split
  · rename_i b'
    split
    · rename_i hbb
      have hbb := Nat.eq_of_beq_eq_true hbb
      subst hbb
      cases h with
      | closed h => cases h
      | ptr hb0 hk =>
        simp only at hb0
        rw [hb] at hb0
        cases hb0
        obtain ⟨r, o, a1, a2⟩ := hk rfl
        simp only at a1
        rcases hh.holds _ _ hb rfl with ⟨h0, _⟩ | ⟨r', o', h2, _, h3⟩
        · cases h0
        · rw [h2] at a1
          cases a1
          obtain ⟨ds, t, fr, g1, g2, g3, g4⟩ := h3
          have e : o + lin (.cells cs) ⟨b', 0, 0⟩ = o + 0 * cs.length + 0 := by simp [lin]
          rw [a2, e]
          refine .roptr (by decide) (fun hx => hx.2 ⟨o, h2⟩) g1 (fun _ _ => rfl) (fun i hi => ?_) (fun i hi j v u h1 h2 => ?_)
          · have : i = 0 := by omega
            subst this
            simpa using g3
          · have : i = 0 := by omega
            subst this
            have h2 : ds[o + j]? = some u := by simpa using h2
            exact cold_rrel (closed_rel (g4 j v u h1 h2) (allClosed_mem hcl v (List.mem_of_getElem? h1)))
    · exact cold_vrel h
  · exact cold_vrel h
theorem iceP_ok (hb : c.H[b]? = some (.cells cs)) (hcl : allClosed cs = true) (hh : HRel c) {v : AVal} {u : Value} (h : VRel c v u) : VRel (c.cold b) (iceP b cs v) u := by
  have part : ∀ {l : List AVal} {us : Array Value}, (∀ (i : Nat) (v : AVal) (u : Value), l[i]? = some v → us[i]? = some u → VRel c v u) → ∀ (i : Nat) (v : AVal) (u : Value), (l.map (iceP0 b cs))[i]? = some v → us[i]? = some u → VRel (c.cold b) v u := by
    intro l us hr i x y h1 h2
    rw [List.getElem?_map] at h1
    obtain ⟨v0, hv0, rfl⟩ := Option.map_eq_some_iff.1 h1
    exact iceP0_ok hb hcl hh (hr i v0 y hv0 h2)
  unfold iceP
  split
  · obtain ⟨us, vs, rfl, ⟨hl, hr⟩, hl', hr'⟩ := h.inv_fn
    exact .fn (by simpa using hl) (part hr) (by simpa using hl') (part hr')
  · exact iceP0_ok hb hcl hh h
theorem weak_box {n0 : Nat} {tm : List AVal} {H : Heap} (hb : H[b]? = some (.cells cs)) (hcl : allClosed cs = true) (hn : n0 ≤ b) : WeakS n0 tm H (tm.map (iceP b cs)) (H.set b .dead) := by
  rintro c0 c a rfl hf hs rfl
  refine ⟨c.cold b, rfl, rfl, cold_fr hb rfl hf hn, ⟨⟨by simpa using hs.tm.1, fun i v u h1 h2 => ?_⟩, cold_heap hb rfl hs.heap, hs.defers⟩⟩
  rw [List.getElem?_map] at h1
  obtain ⟨v0, hv0, rfl⟩ := Option.map_eq_some_iff.1 h1
  exact iceP_ok hb hcl hs.heap (hs.tm.2 i v0 u hv0 h2)
/-- A call, before which box b is frozen for good; the slots of the mask live on. -/
theorem callT_box {n0 : Nat} {f : FuncId} {args tm : List AVal} {H : Heap} {k : List AVal → AVal → Heap → Prop} (b : Nat) {cs : List AVal} (mask : List Bool) (hb : H[b]? = some (.cells cs)) (hcl : allClosed cs = true) (hn : n0 ≤ b)
    (h : callT P n0 f (args.map (iceP b cs)) ((forget mask tm).map (iceP b cs)) (H.set b .dead) k) : callT P n0 f args tm H k := by
  refine callT_forget mask (callT_weak (by simp) ?_ h)
  rw [← List.map_append]
  exact weak_box hb hcl hn
end
end Go.E
/-! EngZm. -/
namespace Go.E

inductive Plan where
  | done
  | pick (x : Nat) (p : Plan)
  | fork (x y : Nat) (p q : Plan)
  | fork3 (x y z : Nat) (p q r : Plan)
  | alts (q : Plan)
  | alt (x : Nat) (p q : Plan)
  | stop
def picks : List Nat → Plan → Plan
  | [], p => p
  | x :: l, p => .pick x (picks l p)
def opB (all : List Oper) (x : Nat) : Bool := match all[x]? with
  | some o => okO o.op || appO o.op
  | none => false
def pickG (all : List Oper) (tbl : List Nat) (R : List Nat) (x : Nat) : Bool :=
  R.contains x && readyB all R x && (match all[x]? with
    | some o => (okO o.op || appO o.op) && R.all fun z => Nat.beq z x || (tbl.getD z 0).testBit x || (match all[z]? with | some oz => passesG all o oz | none => false)
    | none => false)
/-- With a list: the alternatives that were walked already. -/
def okT (all : List Oper) (tbl : List Nat) : Plan → List Nat → Option (List Nat) → Bool
  | .done, R, none => R.isEmpty
  | .pick x p, R, none => pickG all tbl R x && okT all tbl p (R.erase x) none
  | .fork x y p q, R, none => (R.all fun z => !(readyB all R z) || Nat.beq z x || Nat.beq z y) && R.contains x && readyB all R x && opB all x && opB all y && okT all tbl p (R.erase x) none && okT all tbl q (R.erase y) none
  | .fork3 x y z p q r, R, none => (R.all fun w => !(readyB all R w) || Nat.beq w x || Nat.beq w y || Nat.beq w z) && R.contains x && readyB all R x && opB all x && opB all y && opB all z && okT all tbl p (R.erase x) none && okT all tbl q (R.erase y) none && okT all tbl r (R.erase z) none
  | .alts q, R, none => (R.any fun z => readyB all R z) && okT all tbl q R (some [])
  | .alt x p q, R, some l => opB all x && okT all tbl p (R.erase x) none && okT all tbl q R (some (x :: l))
  | .stop, R, some l => R.all fun z => !(readyB all R z) || l.contains z
  | _, _, _ => false
def treeOK (all : List Oper) (plan : Plan) : Bool :=
  ((List.range all.length).all fun i => (predsAt all i).all fun p => Nat.blt p all.length) && okT all (befTbl all []) plan (List.range all.length) none
def stepG (C : CallH) (T : TEnv) (n0 : Nat) (all : List Oper) (o : Oper) (tm : List AVal) (H : Heap) (K : List AVal → Heap → Prop) : Prop :=
  match o.guard with
  | none => opW C T n0 o.op tm H fun tm v H => putW tm o.dst v fun tm => K tm H
  | some (j, want) =>
    match dstOf all j with
    | none => False
    | some d => (match tm.getD d .any with
      | .bool b => branch b
          (setL tm d (.bool true) fun tm => match want with
            | true => opW C T n0 o.op tm H fun tm v H => putW tm o.dst v fun tm => K tm H
            | false => putW tm o.dst (.tuple []) fun tm => K tm H)
          (setL tm d (.bool false) fun tm => match want with
            | false => opW C T n0 o.op tm H fun tm v H => putW tm o.dst v fun tm => K tm H
            | true => putW tm o.dst (.tuple []) fun tm => K tm H)
      | .tuple [] => putW tm o.dst (.tuple []) fun tm => K tm H
      | _ => False)
def runT (C : CallH) (T : TEnv) (n0 : Nat) (all : List Oper) : Plan → List AVal → Heap → (List AVal → Heap → Prop) → Prop
  | .done, tm, H, Q => Q tm H
  | .pick x p, tm, H, Q => match all[x]? with
    | some o => stepG C T n0 all o tm H fun tm H => runT C T n0 all p tm H Q
    | none => False
  | .fork x y p q, tm, H, Q => (match all[x]? with
    | some o => stepG C T n0 all o tm H fun tm H => runT C T n0 all p tm H Q
    | none => False) ∧ (match all[y]? with
    | some o => stepG C T n0 all o tm H fun tm H => runT C T n0 all q tm H Q
    | none => False)
  | .fork3 x y z p q r, tm, H, Q => (match all[x]? with
    | some o => stepG C T n0 all o tm H fun tm H => runT C T n0 all p tm H Q
    | none => False) ∧ (match all[y]? with
    | some o => stepG C T n0 all o tm H fun tm H => runT C T n0 all q tm H Q
    | none => False) ∧ (match all[z]? with
    | some o => stepG C T n0 all o tm H fun tm H => runT C T n0 all r tm H Q
    | none => False)
  | .alts q, tm, H, Q => runT C T n0 all q tm H Q
  | .alt x p q, tm, H, Q => (match all[x]? with
    | some o => stepG C T n0 all o tm H fun tm H => runT C T n0 all p tm H Q
    | none => False) ∧ runT C T n0 all q tm H Q
  | .stop, _, _, _ => True

section
variable {P : Program} {T : TEnv} {n0 : Nat} {all : List Oper}
theorem set_same {tm : List AVal} {d : Nat} {v : AVal} (h : tm.getD d .any = v) (hv : v ≠ .any) : tm.set d v = tm := by
  refine List.ext_getElem? fun i => ?_
  rw [List.getElem?_set]
  split
  · rename_i e
    subst e
    rw [List.getD_eq_getElem?_getD] at h
    cases hg : tm[d]? with
    | none => rw [hg] at h; exact absurd h.symm hv
    | some w =>
      rw [hg] at h
      have hlt := (List.getElem?_eq_some_iff.1 hg).1
      simp only [Option.getD_some] at h
      rw [h]
      split
      · rfl
      · rename_i hn; exact absurd hlt hn
  · rfl
theorem stepG_one {o : Oper} {tm : List AVal} {H : Heap} {K : List AVal → Heap → Prop} (h : stepG (detC P) T n0 all o tm H K) : oneG P T n0 all o tm H K := by
  unfold stepG at h
  unfold oneG statG
  cases hg : o.guard with
  | none => rw [hg] at h; exact h
  | some g =>
    obtain ⟨j, want⟩ := g
    rw [hg] at h
    simp only at h ⊢
    cases hd : dstOf all j with
    | none => rw [hd] at h; exact h.elim
    | some d =>
      rw [hd] at h
      simp only at h ⊢
      split at h
      · rename_i b hb
        have h := branch_at h
        have e := set_same hb (fun h => by cases h)
        rw [hb]
        cases b <;> cases want <;> simp only [setL_iff, e, if_true, Bool.false_eq_true, if_false] at h <;> simp only [beq_self_eq_true]
        · exact h
        · exact putW_iff.1 h
        · exact putW_iff.1 h
        · exact h
      · rename_i hb
        rw [hb]
        exact putW_iff.1 h
      · exact h.elim
theorem oneG_mono' {o : Oper} (hc : (okO o.op || appO o.op) = true) {tm : List AVal} {H : Heap} {K K' : List AVal → Heap → Prop} (h : oneG P T n0 all o tm H K) (hk : ∀ tm H, K tm H → K' tm H) : oneG P T n0 all o tm H K' := by
  unfold oneG at h ⊢
  split at h
  · exact h.elim
  · exact one_mono' hc h hk
  · exact hk _ _ h
theorem tree_ok {tbl : List Nat} (ht : TblOK all tbl) {Q0 Q : List AVal → Heap → Prop} (hQ : ∀ tm H, Q0 tm H → ∃ tm' H', WeakS n0 tm H tm' H' ∧ Q tm' H') : ∀ (plan : Plan) (R : List Nat) (tm : List AVal) (H : Heap), (okT all tbl plan R none = true → runT (detC P) T n0 all plan tm H Q0 → exploreG P T n0 all R.length R tm H Q) ∧
    ∀ l, okT all tbl plan R (some l) = true → runT (detC P) T n0 all plan tm H Q0 → ∀ z ∈ R, ReadyR all R z → z ∈ l ∨ ∃ o, all[z]? = some o ∧ oneG P T n0 all o tm H fun tm H => exploreG P T n0 all (R.erase z).length (R.erase z) tm H Q := by
  intro plan
  induction plan with
  | done =>
    refine fun R tm H => ⟨fun hp h => ?_, fun l hp => by simp [okT] at hp⟩
    have : R = [] := by simpa [okT] using hp
    subst this
    exact ⟨rfl, hQ _ _ h⟩
  | pick x p ih =>
    refine fun R tm H => ⟨fun hp h => ?_, fun l hp => by simp [okT] at hp⟩
    simp only [okT, Bool.and_eq_true] at hp
    obtain ⟨hpick, hp⟩ := hp
    simp only [pickG, Bool.and_eq_true] at hpick
    obtain ⟨⟨hx, hr⟩, hpick⟩ := hpick
    have hx' : x ∈ R := by simpa using hx
    have hlen := List.length_erase_of_mem hx'
    have hpos := List.length_pos_of_mem hx'
    have el : R.length = (R.erase x).length + 1 := by omega
    simp only [runT] at h
    split at h
    · rename_i o ho
      rw [ho] at hpick
      simp only [Bool.and_eq_true] at hpick
      obtain ⟨hok, hpick⟩ := hpick
      rw [el]
      refine .inl ⟨x, o, hx', fun q hq => ?_, ho, fun z hz hzx => ?_, ?_⟩
      · have := List.all_eq_true.1 hr q hq
        simpa using this
      · have := List.all_eq_true.1 hpick z hz
        simp only [Bool.or_eq_true] at this
        rcases this with (h1 | h1) | h1
        · exact absurd (Nat.eq_of_beq_eq_true h1) hzx
        · exact .inl (ht z x h1)
        · split at h1
          · rename_i oz hoz
            exact .inr ⟨oz, hoz, h1⟩
          · cases h1
      · exact oneG_mono' hok (stepG_one h) fun tm H h => (ih (R.erase x) tm H).1 hp h
    · exact h.elim
  | fork x y p q ihp ihq =>
    refine fun R tm H => ⟨fun hp h => ?_, fun l hp => by simp [okT] at hp⟩
    simp only [okT, Bool.and_eq_true] at hp
    obtain ⟨⟨⟨⟨⟨⟨hall, hx⟩, hr⟩, hox⟩, hoy⟩, hp⟩, hq⟩ := hp
    have hx' : x ∈ R := by simpa using hx
    have hlen := List.length_erase_of_mem hx'
    have hpos := List.length_pos_of_mem hx'
    have el : R.length = (R.erase x).length + 1 := by omega
    obtain ⟨h1, h2⟩ := h
    rw [el]
    refine .inr ⟨⟨x, hx', fun q hq => ?_⟩, fun z hz hrz => ?_⟩
    · have := List.all_eq_true.1 hr q hq
      simpa using this
    · have hzl := List.length_erase_of_mem hz
      have ez : (R.erase x).length = (R.erase z).length := by omega
      have hrb : readyB all R z = true := by
        unfold readyB
        rw [List.all_eq_true]
        intro p hp
        have := hrz p hp
        simpa using this
      have := List.all_eq_true.1 hall z hz
      rw [hrb] at this
      simp only [Bool.not_true, Bool.false_or, Bool.or_eq_true] at this
      rw [ez]
      rcases this with hzx | hzy
      · have := Nat.eq_of_beq_eq_true hzx
        subst this
        unfold opB at hox
        split at h1
        · rename_i o ho
          rw [ho] at hox
          exact ⟨o, ho, oneG_mono' hox (stepG_one h1) fun tm H h => (ihp (R.erase z) tm H).1 hp h⟩
        · exact h1.elim
      · have := Nat.eq_of_beq_eq_true hzy
        subst this
        unfold opB at hoy
        split at h2
        · rename_i o ho
          rw [ho] at hoy
          exact ⟨o, ho, oneG_mono' hoy (stepG_one h2) fun tm H h => (ihq (R.erase z) tm H).1 hq h⟩
        · exact h2.elim
  | fork3 x y z0 p q r ihp ihq ihr =>
    refine fun R tm H => ⟨fun hp h => ?_, fun l hp => by simp [okT] at hp⟩
    simp only [okT, Bool.and_eq_true] at hp
    obtain ⟨⟨⟨⟨⟨⟨⟨⟨hall, hx⟩, hr⟩, hox⟩, hoy⟩, hoz⟩, hp⟩, hq⟩, hr2⟩ := hp
    have hx' : x ∈ R := by simpa using hx
    have hlen := List.length_erase_of_mem hx'
    have hpos := List.length_pos_of_mem hx'
    have el : R.length = (R.erase x).length + 1 := by omega
    obtain ⟨h1, h2, h3⟩ := h
    rw [el]
    refine .inr ⟨⟨x, hx', fun q hq => ?_⟩, fun z hz hrz => ?_⟩
    · have := List.all_eq_true.1 hr q hq
      simpa using this
    · have hzl := List.length_erase_of_mem hz
      have ez : (R.erase x).length = (R.erase z).length := by omega
      have hrb : readyB all R z = true := by
        unfold readyB
        rw [List.all_eq_true]
        intro p hp
        have := hrz p hp
        simpa using this
      have := List.all_eq_true.1 hall z hz
      rw [hrb] at this
      simp only [Bool.not_true, Bool.false_or, Bool.or_eq_true] at this
      rw [ez]
      rcases this with (hzx | hzy) | hzz
      · have := Nat.eq_of_beq_eq_true hzx
        subst this
        unfold opB at hox
        split at h1
        · rename_i o ho
          rw [ho] at hox
          exact ⟨o, ho, oneG_mono' hox (stepG_one h1) fun tm H h => (ihp (R.erase z) tm H).1 hp h⟩
        · exact h1.elim
      · have := Nat.eq_of_beq_eq_true hzy
        subst this
        unfold opB at hoy
        split at h2
        · rename_i o ho
          rw [ho] at hoy
          exact ⟨o, ho, oneG_mono' hoy (stepG_one h2) fun tm H h => (ihq (R.erase z) tm H).1 hq h⟩
        · exact h2.elim
      · have := Nat.eq_of_beq_eq_true hzz
        subst this
        unfold opB at hoz
        split at h3
        · rename_i o ho
          rw [ho] at hoz
          exact ⟨o, ho, oneG_mono' hoz (stepG_one h3) fun tm H h => (ihr (R.erase z) tm H).1 hr2 h⟩
        · exact h3.elim
  | alts q ihq =>
    refine fun R tm H => ⟨fun hp h => ?_, fun l hp => by simp [okT] at hp⟩
    simp only [okT, Bool.and_eq_true] at hp
    obtain ⟨hany, hp⟩ := hp
    have key := (ihq R tm H).2 [] hp h
    obtain ⟨x, hx, hr⟩ := List.any_eq_true.1 hany
    have hlen := List.length_erase_of_mem hx
    have hpos := List.length_pos_of_mem hx
    have el : R.length = (R.erase x).length + 1 := by omega
    rw [el]
    refine .inr ⟨⟨x, hx, fun q hq => ?_⟩, fun z hz hrz => ?_⟩
    · have := List.all_eq_true.1 hr q hq
      simpa using this
    · have hzl := List.length_erase_of_mem hz
      have ez : (R.erase x).length = (R.erase z).length := by omega
      rw [ez]
      exact (key z hz hrz).resolve_left (by simp)
  | alt x p q ihp ihq =>
    refine fun R tm H => ⟨fun hp => by simp [okT] at hp, fun l hp h z hz hrz => ?_⟩
    simp only [okT, Bool.and_eq_true] at hp
    obtain ⟨⟨hox, hp⟩, hq⟩ := hp
    obtain ⟨h1, h2⟩ := h
    rcases (ihq R tm H).2 (x :: l) hq h2 z hz hrz with hm | hm
    · rcases List.mem_cons.1 hm with e | hm
      · subst e
        right
        unfold opB at hox
        split at h1
        · rename_i o ho
          rw [ho] at hox
          exact ⟨o, ho, oneG_mono' hox (stepG_one h1) fun tm H h => (ihp (R.erase z) tm H).1 hp h⟩
        · exact h1.elim
      · exact .inl hm
    · exact .inr hm
  | stop =>
    refine fun R tm H => ⟨fun hp => by simp [okT] at hp, fun l hp h z hz hrz => ?_⟩
    left
    have hrb : readyB all R z = true := by
      unfold readyB
      rw [List.all_eq_true]
      intro p hp
      have := hrz p hp
      simpa using this
    have := List.all_eq_true.1 hp z hz
    rw [hrb] at this
    simpa using this

theorem draw_tree (plan : Plan) {tm : List AVal} {H : Heap} {Q : List AVal → Heap → Prop} (hp : treeOK all plan = true) (h : runT (detC P) T n0 all plan tm H Q) : drawN P T n0 all tm H Q := by
  unfold drawN
  simp only [treeOK, Bool.and_eq_true] at hp
  obtain ⟨h2, h3⟩ := hp
  refine ⟨tm, H, WeakS.refl _ _ _, fun i p hpi => ?_, .inr (.inl ?_)⟩
  · by_cases hi : i < all.length
    · have := List.all_eq_true.1 (List.all_eq_true.1 h2 i (List.mem_range.2 hi)) p hpi
      have : p + 1 ≤ all.length := Nat.le_of_ble_eq_true this
      omega
    · simp only [predsAt, List.getElem?_eq_none (Nat.le_of_not_lt hi)] at hpi
      cases hpi
  · have := (tree_ok (P := P) (T := T) (n0 := n0) (Q0 := Q) (Q := Q) (tbl_ok all [] [] rfl rfl (fun z x h => by simp at h)) (fun tm H h => ⟨tm, H, WeakS.refl _ _ _, h⟩) plan (List.range all.length) tm H).1 h3 h
    rw [List.length_range] at this
    exact this
/-- The end of a drawn order: the state may be seen otherwise. -/
@[irreducible] def endN (n0 : Nat) (Q : List AVal → Heap → Prop) (tm : List AVal) (H : Heap) : Prop := ∃ tm' H', WeakS n0 tm H tm' H' ∧ Q tm' H'
theorem end_weak {n0 : Nat} {tm tm' : List AVal} {H H' : Heap} {Q : List AVal → Heap → Prop} (hw : WeakS n0 tm H tm' H') (h : Q tm' H') : endN n0 Q tm H := by
  unfold endN
  exact ⟨tm', H', hw, h⟩
/-- As draw_tree; at the end of each order the state may be seen otherwise. -/
theorem draw_treeW (plan : Plan) {tm : List AVal} {H : Heap} {Q : List AVal → Heap → Prop} (hp : treeOK all plan = true) (h : runT (detC P) T n0 all plan tm H (endN n0 Q)) : drawN P T n0 all tm H Q := by
  unfold drawN
  simp only [treeOK, Bool.and_eq_true] at hp
  obtain ⟨h2, h3⟩ := hp
  refine ⟨tm, H, WeakS.refl _ _ _, fun i p hpi => ?_, .inr (.inl ?_)⟩
  · by_cases hi : i < all.length
    · have := List.all_eq_true.1 (List.all_eq_true.1 h2 i (List.mem_range.2 hi)) p hpi
      have : p + 1 ≤ all.length := Nat.le_of_ble_eq_true this
      omega
    · simp only [predsAt, List.getElem?_eq_none (Nat.le_of_not_lt hi)] at hpi
      cases hpi
  · have := (tree_ok (P := P) (T := T) (n0 := n0) (Q0 := endN n0 Q) (Q := Q) (tbl_ok all [] [] rfl rfl (fun z x h => by simp at h)) (fun tm H h => by unfold endN at h; exact h) plan (List.range all.length) tm H).1 h3 h
    rw [List.length_range] at this
    exact this

/-- The last operation, that comes after all others, may be any. -/
def lastW (P : Program) (T : TEnv) (n0 : Nat) (all : List Oper) (m : Nat) (Q : List AVal → Heap → Prop) (tm : List AVal) (H : Heap) : Prop := match all[m]? with
  | some o => (match o.guard with
    | none => opW (callT P n0) T n0 o.op tm H fun tm v H => putW tm o.dst v fun tm => Q tm H
    | some _ => False)
  | none => False
def okL (all : List Oper) (tbl : List Nat) (m : Nat) : List Nat → List Nat → Bool
  | [], R => R == [m]
  | x :: p, R => pickG all tbl R x && okL all tbl m p (R.erase x)
def lastOK (all : List Oper) (m : Nat) (plan : List Nat) : Bool :=
  ((List.range all.length).all fun i => (predsAt all i).all fun p => Nat.blt p all.length) && !(predsAt all m).contains m && ((List.range all.length).all fun i => Nat.beq i m || ((befTbl all []).getD m 0).testBit i) &&
    Nat.beq all.length (plan.length + 1) && okL all (befTbl all []) m plan (List.range all.length)
theorem list_okL {tbl : List Nat} (ht : TblOK all tbl) {m : Nat} (hl : LastOp all m) {Q : List AVal → Heap → Prop} : ∀ (plan R : List Nat) (tm : List AVal) (H : Heap), okL all tbl m plan R = true → runT (detC P) T n0 all (picks plan .done) tm H (lastW P T n0 all m Q) → exploreL P T n0 all plan.length R tm H Q := by
  intro plan
  induction plan with
  | nil =>
    intro R tm H hp h
    have : R = [m] := by simpa [okL] using hp
    subst this
    simp only [picks, runT, lastW] at h
    split at h
    · rename_i o ho
      split at h
      · rename_i hg
        exact ⟨m, o, rfl, hl, ho, hg, h⟩
      · exact h.elim
    · exact h.elim
  | cons x p ih =>
    intro R tm H hp h
    simp only [okL, Bool.and_eq_true] at hp
    obtain ⟨hpick, hp⟩ := hp
    simp only [pickG, Bool.and_eq_true] at hpick
    obtain ⟨⟨hx, hr⟩, hpick⟩ := hpick
    have hx' : x ∈ R := by simpa using hx
    simp only [picks, runT] at h
    split at h
    · rename_i o ho
      rw [ho] at hpick
      simp only [Bool.and_eq_true] at hpick
      obtain ⟨hok, hpick⟩ := hpick
      refine .inl ⟨x, o, hx', fun q hq => ?_, ho, fun z hz hzx => ?_, ?_⟩
      · have := List.all_eq_true.1 hr q hq
        simpa using this
      · have := List.all_eq_true.1 hpick z hz
        simp only [Bool.or_eq_true] at this
        rcases this with (h1 | h1) | h1
        · exact absurd (Nat.eq_of_beq_eq_true h1) hzx
        · exact .inl (ht z x h1)
        · split at h1
          · rename_i oz hoz
            exact .inr ⟨oz, hoz, h1⟩
          · cases h1
      · exact oneG_mono' hok (stepG_one h) fun tm H h => ih (R.erase x) tm H hp h
    · exact h.elim
theorem draw_last (m : Nat) (plan : List Nat) {tm : List AVal} {H : Heap} {Q : List AVal → Heap → Prop} (hp : lastOK all m plan = true) (h : runT (detC P) T n0 all (picks plan .done) tm H (lastW P T n0 all m Q)) : drawN P T n0 all tm H Q := by
  unfold drawN
  simp only [lastOK, Bool.and_eq_true] at hp
  obtain ⟨⟨⟨⟨h1, h2⟩, h3⟩, h4⟩, h5⟩ := hp
  have ht := tbl_ok all [] [] rfl rfl (fun z x h => by simp at h)
  have hl : LastOp all m := by
    refine ⟨fun hm => ?_, fun i hi hne => ?_⟩
    · simp only [Bool.not_eq_true'] at h2
      rw [List.contains_iff_mem.2 hm] at h2
      cases h2
    · have := List.all_eq_true.1 h3 i (List.mem_range.2 hi)
      simp only [Bool.or_eq_true] at this
      rcases this with h | h
      · exact absurd (Nat.eq_of_beq_eq_true h) hne
      · exact ht m i h
  refine ⟨tm, H, WeakS.refl _ _ _, fun i p hpi => ?_, .inr (.inr ⟨plan.length, Nat.eq_of_beq_eq_true h4, ?_⟩)⟩
  · by_cases hi : i < all.length
    · have := List.all_eq_true.1 (List.all_eq_true.1 h1 i (List.mem_range.2 hi)) p hpi
      have : p + 1 ≤ all.length := Nat.le_of_ble_eq_true this
      omega
    · simp only [predsAt, List.getElem?_eq_none (Nat.le_of_not_lt hi)] at hpi
      cases hpi
  · exact list_okL (P := P) (T := T) (n0 := n0) ht hl plan (List.range all.length) tm H h5 h

/-- A drawn region, before which box b is frozen for good; the slots of the mask live on. -/
theorem draw_box (b : Nat) {cs : List AVal} (mask : List Bool) {tm : List AVal} {H : Heap} {Q : List AVal → Heap → Prop} (hb : H[b]? = some (.cells cs)) (hcl : allClosed cs = true) (hn : n0 ≤ b)
    (h : drawN P T n0 all ((forget mask tm).map (iceP b cs)) (H.set b .dead) Q) : drawN P T n0 all tm H Q :=
  draw_weak ((weak_forget _ _ _ _).trans (weak_box hb hcl hn)) h
end
end Go.E
/-! EngZo. -/
namespace Go.E
open Go.ChangeShapes Go.WideShapes Go.ChangeAt Go.RowKit Go.ChangeMaps

/-- Cells of these kinds. -/
def aggL (f : Nat → Int) : List IntKind → Nat → List AVal
  | [], _ => []
  | k :: r, i => .int k (f i) :: aggL f r (i + 1)
def HasL (ks : List IntKind) (f : Nat → Int) : Prop := ∀ i, i < ks.length → (ks.getD i .u8).has (f i)
def isAggT (P : Program) (t : TypeId) : Bool := match P.underlying t with
  | some (.struct _) | some (.array _ _) => true
  | _ => false
theorem aggL_len (f : Nat → Int) : ∀ (ks : List IntKind) (i : Nat), (aggL f ks i).length = ks.length
  | [], _ => rfl
  | _ :: r, i => by simp [aggL, aggL_len f r (i + 1)]
theorem aggL_get (f : Nat → Int) : ∀ (ks : List IntKind) (i j : Nat), (aggL f ks i)[j]? = (ks[j]?).map fun k => .int k (f (i + j))
  | [], _, _ => by simp [aggL]
  | k :: r, i, 0 => by simp [aggL]
  | k :: r, i, j + 1 => by
    simp only [aggL, List.getElem?_cons_succ, aggL_get f r (i + 1) j]
    congr 1
    funext k
    congr 2
    omega

section
variable {P : Program}
def numV : Value → Int
  | .int _ n => n
  | _ => 0
theorem cell_int {W : World} {r : Reach} {b0 : Nat} {t : TypeId} {k : IntKind} {v : Value} (ht : P.underlying t = some (.int k)) (h : Cell.okWide P W r b0 t v) : v = .int k (numV v) ∧ k.has (numV v) := by
  unfold Cell.okWide at h
  rw [ht] at h
  cases v <;> simp only [Cell.ok, ht] at h <;> first | exact h.elim | skip
  obtain ⟨rfl, h⟩ := h
  exact ⟨rfl, h⟩
theorem arg_cells {W : World} {t : TypeId} {v : Value} {b0 : Nat} {r : Reach} {ts : List TypeId} (ks : List IntKind) (ha : isAggT P t = true) (hts : P.cellTypes P.depth t = some ts) (hc : P.cellsOf t = ks.length)
    (hk : ts.map P.underlying = ks.map fun k => some (.int k)) (hval : Value.okWide P W r b0 t v) : ∃ f : Nat → Int, VRel (Cx.start W) (.agg (aggL f ks 0)) v ∧ HasL ks f := by
  have hl : ts.length = ks.length := by
    have := congrArg List.length hk
    simpa using this
  obtain ⟨cs, rfl, hs, ts', hts', _, hcell⟩ : ∃ cs, v = .agg cs ∧ cs.size = P.cellsOf t ∧ Row.okWide P W r b0 t cs := by
    unfold Value.okWide at hval
    unfold isAggT at ha
    split at ha
    · rename_i hu; rw [hu] at hval; exact hval
    · rename_i hu; rw [hu] at hval; exact hval
    · cases ha
  rw [hts] at hts'
  cases hts'
  have each : ∀ (i : Nat) (k : IntKind), ks[i]? = some k → ∃ u, cs[i]? = some u ∧ u = .int k (numV u) ∧ k.has (numV u) := by
    intro i k hi
    have hlt := (List.getElem?_eq_some_iff.1 hi).1
    have hlt2 : i < cs.size := by omega
    obtain ⟨u, hu, hok⟩ := hcell i cs[i] (Array.getElem?_eq_getElem hlt2)
    rw [Nat.mod_eq_of_lt (by omega)] at hu
    have h1 : (ts.map P.underlying)[i]? = some (P.underlying u) := by rw [List.getElem?_map, hu]; rfl
    rw [hk, List.getElem?_map, hi] at h1
    have h2 : P.underlying u = some (.int k) := by simpa using h1.symm
    exact ⟨cs[i], Array.getElem?_eq_getElem hlt2, cell_int h2 hok⟩
  refine ⟨fun i => numV (cs.getD i (.bool false)), .agg (by rw [aggL_len, hs, hc]) fun i v u h1 h2 => ?_, fun i hi => ?_⟩
  · rw [aggL_get] at h1
    obtain ⟨k, hk1, rfl⟩ := Option.map_eq_some_iff.1 h1
    obtain ⟨u', hu1, hu2, _⟩ := each i k hk1
    rw [h2] at hu1
    cases hu1
    have : numV (cs.getD (0 + i) (.bool false)) = numV u := by
      rw [Nat.zero_add, Array.getD_eq_getD_getElem?, h2]
      rfl
    rw [this, hu2]
    exact .mk_int _ _ _
  · obtain ⟨u', hu1, hu2, hu3⟩ := each i ks[i] (List.getElem?_eq_getElem hi)
    rw [List.getD_eq_getElem?_getD, List.getElem?_eq_getElem hi]
    show (ks[i]).has (numV (cs.getD i (.bool false)))
    rw [Array.getD_eq_getD_getElem?, hu1]
    exact hu3
theorem has_u16 {n : Int} (h : IntKind.u16.has n) : 0 ≤ n ∧ n < 65536 := by
  simp [IntKind.has, IntKind.min, IntKind.max, IntKind.signed, IntKind.bits] at h
  omega
theorem has_u8 {n : Int} (h : IntKind.u8.has n) : 0 ≤ n ∧ n < 256 := by
  simp [IntKind.has, IntKind.min, IntKind.max, IntKind.signed, IntKind.bits] at h
  omega
theorem has_i64 {n : Int} (h : IntKind.i64.has n) : -9223372036854775808 ≤ n ∧ n ≤ 9223372036854775807 := by
  simp [IntKind.has, IntKind.min, IntKind.max, IntKind.signed, IntKind.bits] at h
  omega
end
end Go.E
/-! EngZp. -/
namespace Go.E
open Go.ChangeShapes Go.WideShapes Go.ChangeAt Go.RowKit Go.ChangeMaps

def repK : Nat → List IntKind → List IntKind
  | 0, _ => []
  | n + 1, ks => ks ++ repK n ks
theorem repK_get {ks : List IntKind} : ∀ {n i : Nat} {k : IntKind}, (repK n ks)[i]? = some k → ∃ j r, j < n ∧ r < ks.length ∧ i = j * ks.length + r ∧ ks[r]? = some k
  | 0, i, k, h => by simp [repK] at h
  | n + 1, i, k, h => by
    by_cases hi : i < ks.length
    · rw [repK, List.getElem?_append_left hi] at h
      exact ⟨0, i, by omega, hi, by omega, h⟩
    · rw [repK, List.getElem?_append_right (by omega)] at h
      obtain ⟨j, r, h1, h2, h3, h4⟩ := repK_get h
      refine ⟨j + 1, r, by omega, h2, ?_, h4⟩
      rw [Nat.succ_mul]
      omega
inductive FlatT (P : Program) : TypeId → List IntKind → Prop
  | int {t : TypeId} {k : IntKind} (h : P.underlying t = some (.int k)) : FlatT P t [k]
  | arr {t e : TypeId} {n : Nat} {ks : List IntKind} (h : P.underlying t = some (.array n e)) (he : FlatT P e ks) (hc : P.cellsOf e = ks.length) : FlatT P t (repK n ks)

section
variable {H : Type} {enc : TypeId × Value → H} {P : Program} {w : World} {base : Nat} {spare : Nat → Bool} {held : Bool}
theorem flat_trod {t : TypeId} {ks : List IntKind} (hf : FlatT P t ks) : ∀ {fuel : Nat} {cs : List Value} {x : DataW H × List MemPlace}, DataW.trod enc P w base spare held fuel t cs = some x →
    ∀ (i : Nat) (k : IntKind), ks[i]? = some k → ∃ n, cs[i]? = some (.int k n) ∧ (Lit.int k n).wf = true := by
  induction hf with
  | int h =>
    intro fuel cs x hx i k hi
    obtain ⟨n, rfl, _, hw⟩ := DataW.trod_int h hx
    cases i with
    | succ i => simp at hi
    | zero =>
      simp only [List.getElem?_cons_zero, Option.some.injEq] at hi
      subst hi
      exact ⟨n, rfl, hw⟩
  | arr h he hc ih =>
    intro fuel cs x hx i k hi
    obtain ⟨xs, m, _, _, _, hl, hel⟩ := DataW.trod_array h hx
    obtain ⟨j, r, h1, h2, rfl, h4⟩ := repK_get hi
    have hj := hel j h1
    rw [List.getElem?_eq_getElem (by omega)] at hj
    obtain ⟨n, hn, hw⟩ := ih hj r k h4
    refine ⟨n, ?_, hw⟩
    rw [List.getElem?_take, if_pos (by omega), List.getElem?_drop, hc] at hn
    exact hn

theorem add_add (r o x y : Nat) : ((⟨r, o, none⟩ : Addr).add x).add y = (⟨r, o, none⟩ : Addr).add (x + y) := by
  unfold Addr.add
  by_cases hx : x = 0 <;> by_cases hy : y = 0 <;> simp [hx, hy]
  omega
theorem wf_has {k : IntKind} {n : Int} (h : (Lit.int k n).wf = true) : k.has n := by
  simp only [Lit.wf, Bool.and_eq_true, decide_eq_true_eq] at h
  exact h
theorem arg_rows {W : World} {t e : TypeId} {v : Value} {d : DataW H} {ps : List MemPlace} {b0 : Nat} {r : Reach} (ks : List IntKind) (ht : P.underlying t = some (.slice e)) (he : FlatT P e ks) (hc : P.cellsOf e = ks.length) (hpos : 0 < ks.length)
    (hval : Value.okWide P W r b0 t v) (h : DataW.Trod enc P W 0 (fun _ => true) true t v d ps) :
    ∃ (n : Nat) (D : Nat → Nat → Int), VRel (Cx.start W) (.ro ks.length n (fun i => aggL (D i) ks 0)) v ∧ n ≤ maxLen ∧ ∀ i, i < n → HasL ks (D i) := by
  obtain ⟨A, len0, cap0, rfl⟩ := okWide_slice ht hval
  obtain ⟨fuel, hf⟩ := h
  rcases DataW.trod_slice ht hf with ⟨hcs, _⟩ | ⟨a, len, cap, elems, rest, n, _, hcs, _, _, hl, hm, hlen, hel, _, _⟩
  · simp [Value.cells] at hcs
    obtain ⟨rfl, rfl, rfl⟩ := hcs
    exact ⟨0, fun _ _ => 0, .closed (.roNil _ _), by simp, fun i hi => by omega⟩
  · simp [Value.cells] at hcs
    obtain ⟨rfl, rfl, rfl⟩ := hcs
    by_cases h0 : len0 = 0
    · subst h0
      exact ⟨0, fun _ _ => 0, .closed (.roNil _ _), by simp, fun i hi => by omega⟩
    have each : ∀ i, i < len0 → ∀ (j : Nat) (k : IntKind), ks[j]? = some k → ∃ m, W.cell? ((a.add (i * ks.length)).add j) = some (.int k m) ∧ (Lit.int k m).wf = true := by
      intro i hi j k hj
      have h1 := hel i hi
      rw [List.getElem?_eq_getElem (by omega), Option.bind_eq_some_iff] at h1
      obtain ⟨cs, h1, h2⟩ := h1
      obtain ⟨m, hm1, hm2⟩ := flat_trod he h2 j k hj
      refine ⟨m, ?_, hm2⟩
      have hjlt := (List.getElem?_eq_some_iff.1 hj).1
      unfold World.cells? at h1
      split at h1
      · have := mapM_some_get h1 j j (by rw [hc]; simp [hjlt])
        rw [← hm1, ← this, hc]
      · cases h1
    obtain ⟨k0, hk0⟩ : ∃ k, ks[0]? = some k := ⟨ks[0], List.getElem?_eq_getElem hpos⟩
    obtain ⟨m0, c0, _⟩ := each 0 (by omega) 0 k0 hk0
    have hsp : a.spot = none := by
      have := World.cell?_spot c0
      simpa [Addr.add] using this
    obtain ⟨b, o, s⟩ := a
    simp only at hsp
    subst hsp
    obtain ⟨cs, tt, fr, hb⟩ : ∃ cs t fr, W.heap[b]? = some (.cells cs t fr) := by
      simp only [Addr.add, Nat.zero_mul, if_true, World.cell?] at c0
      split at c0
      · rename_i cs t fr hb
        exact ⟨cs, t, fr, hb⟩
      · cases c0
    have cell : ∀ i, i < len0 → ∀ (j : Nat) (k : IntKind), ks[j]? = some k → ∃ m, cs[o + i * ks.length + j]? = some (.int k m) ∧ (Lit.int k m).wf = true := by
      intro i hi j k hj
      obtain ⟨m, h1, h2⟩ := each i hi j k hj
      refine ⟨m, ?_, h2⟩
      rw [add_add] at h1
      by_cases hx : i * ks.length + j = 0
      · rw [hx] at h1
        have e : o + i * ks.length + j = o := by omega
        rw [e]
        simpa [Addr.add, World.cell?, hb] using h1
      · simp only [Addr.add, hx, if_false, World.cell?, hb] at h1
        rw [Nat.add_assoc]
        exact h1
    refine ⟨len0, fun i j => numV (cs.getD (o + i * ks.length + j) (.bool false)), .closed (.ro hl (fun h => h) hb (fun i hi => aggL_len _ _ _) (fun i hi => ?_) (fun i hi j v u h1 h2 => ?_)), by omega, fun i hi j hj => ?_⟩
    · obtain ⟨m, h1, _⟩ := cell i hi (ks.length - 1) ks[ks.length - 1] (List.getElem?_eq_getElem (by omega))
      have := (Array.getElem?_eq_some_iff.1 h1).1
      omega
    · rw [aggL_get] at h1
      obtain ⟨k, hk1, rfl⟩ := Option.map_eq_some_iff.1 h1
      obtain ⟨m, h3, _⟩ := cell i hi j k hk1
      have h3' := h3
      rw [h2] at h3
      cases h3
      have : numV (cs.getD (o + i * ks.length + (0 + j)) (.bool false)) = m := by
        rw [Nat.zero_add, Array.getD_eq_getD_getElem?, h3']
        rfl
      show RRel _ _ (.int k (numV (cs.getD (o + i * ks.length + (0 + j)) (.bool false)))) _
      rw [this]
      exact .int _ _
    · obtain ⟨m, h1, h2⟩ := cell i hi j ks[j] (List.getElem?_eq_getElem hj)
      rw [List.getD_eq_getElem?_getD, List.getElem?_eq_getElem hj]
      show (ks[j]).has (numV (cs.getD (o + i * ks.length + j) (.bool false)))
      rw [Array.getD_eq_getD_getElem?, h1]
      exact wf_has h2
end
end Go.E
/-! EngZq. -/
namespace Go.E
open Go.ChangeShapes Go.WideShapes Go.ChangeAt Go.RowKit Go.ChangeMaps

section
variable {H : Type} {enc : TypeId × Value → H} {P : Program}
theorem arg_bsi {W : World} {t : TypeId} {f0 f1 f2 : Field} {te : TypeId} {k k' : IntKind} {v : Value} {d : DataW H} {ps : List MemPlace} {b0 : Nat} {r : Reach}
    (ht : P.underlying t = some (.struct #[f0, f1, f2])) (h0 : P.underlying f0.type = some .bool) (h1 : P.underlying f1.type = some (.slice te)) (he : P.underlying te = some (.int k)) (h2 : P.underlying f2.type = some (.int k'))
    (hc : P.cellsOf t = 3) (c0 : P.cellsOf f0.type = 1) (c1 : P.cellsOf f1.type = 1) (c2 : P.cellsOf f2.type = 1) (ce : P.cellsOf te = 1) (o0 : f0.offset = 0) (o1 : f1.offset = 1) (o2 : f2.offset = 2)
    (hval : Value.okWide P W r b0 t v) (h : DataW.Trod enc P W 0 (fun _ => true) true t v d ps) :
    ∃ (n : Bool) (l : List Int) (e : Int), VRel (Cx.start W) (.agg [.bool n, ints k l, .int k' e]) v ∧ l.length ≤ maxLen ∧ (∀ n ∈ l, (Lit.int k n).wf = true) ∧ (Lit.int k' e).wf = true := by
  obtain ⟨cs, rfl, hs⟩ := okWide_struct ht hval
  obtain ⟨fuel, hf⟩ := h
  obtain ⟨y0, y1, y2, m, _, hl, t0, t1, t2⟩ := Go.Deep.trod_struct3 ht hf
  obtain ⟨a, b, c, hcs⟩ : ∃ a b c, cs.toList = [a, b, c] := by
    have hl3 : cs.toList.length = 3 := by simpa using hs.trans hc
    match h : cs.toList, hl3 with
    | [a, b, c], _ => exact ⟨a, b, c, rfl⟩
  have hcells : (Value.agg cs).cells.toList = [a, b, c] := by simp [Value.cells, hcs]
  rw [hcells, o0, c0] at t0
  rw [hcells, o1, c1] at t1
  rw [hcells, o2, c2] at t2
  obtain ⟨n, e0, _⟩ := DataW.trod_bool h0 t0
  obtain ⟨e, e2, _, w2⟩ := DataW.trod_int h2 t2
  simp at e0 e2
  subst e0 e2
  have slot : ∃ l : List Int, VRel (Cx.start W) (ints k l) b ∧ l.length ≤ maxLen ∧ ∀ n ∈ l, (Lit.int k n).wf = true := by
    rcases open_ints h1 he ce t1 with ⟨hb, _⟩ | ⟨a', len, cap, zs, hb, _, hl', hm, hz, _, hcell, hwz⟩
    · simp at hb
      subst hb
      exact ⟨[], .closed (.roNil _ _), by simp, by simp⟩
    · simp at hb
      subst hb
      simp only [if_true] at hz
      exact ⟨zs.take len, ints_start hl' (by omega) hcell, by simp; omega, fun n hn => hwz n (List.mem_of_mem_take hn)⟩
  obtain ⟨l, r1, b1, w1⟩ := slot
  refine ⟨n, l, e, ?_, b1, w1, w2⟩
  refine .agg (by simp [← Array.length_toList, hcs]) fun i v u a1 a2 => ?_
  rw [← Array.getElem?_toList, hcs] at a2
  match i with
  | 0 => cases a1; cases a2; exact .mk_bool _ _
  | 1 => cases a1; cases a2; exact r1
  | 2 => cases a1; cases a2; exact .mk_int _ _ _
  | i + 3 => cases a1

theorem cell_bool {W : World} {r : Reach} {b0 : Nat} {t : TypeId} {v : Value} (ht : P.underlying t = some .bool) (h : Cell.okWide P W r b0 t v) : ∃ b, v = .bool b := by
  unfold Cell.okWide at h
  rw [ht] at h
  cases v <;> simp only [Cell.ok, ht] at h <;> first | exact h.elim | skip
  exact ⟨_, rfl⟩
/-- A struct of a bool and whole numbers. -/
theorem arg_bcells {W : World} {t tb : TypeId} {v : Value} {b0 : Nat} {r : Reach} {ts : List TypeId} (ks : List IntKind) (ha : isAggT P t = true) (hts : P.cellTypes P.depth t = some (tb :: ts)) (hc : P.cellsOf t = ks.length + 1)
    (htb : P.underlying tb = some .bool) (hk : ts.map P.underlying = ks.map fun k => some (.int k)) (hval : Value.okWide P W r b0 t v) : ∃ (n : Bool) (f : Nat → Int), VRel (Cx.start W) (.agg (.bool n :: aggL f ks 0)) v ∧ HasL ks f := by
  have hl : ts.length = ks.length := by
    have := congrArg List.length hk
    simpa using this
  obtain ⟨cs, rfl, hs, ts', hts', _, hcell⟩ : ∃ cs, v = .agg cs ∧ cs.size = P.cellsOf t ∧ Row.okWide P W r b0 t cs := by
    unfold Value.okWide at hval
    unfold isAggT at ha
    split at ha
    · rename_i hu; rw [hu] at hval; exact hval
    · rename_i hu; rw [hu] at hval; exact hval
    · cases ha
  rw [hts] at hts'
  cases hts'
  have first : ∃ n, cs[0]? = some (.bool n) := by
    have hlt : 0 < cs.size := by omega
    obtain ⟨u, hu, hok⟩ := hcell 0 cs[0] (Array.getElem?_eq_getElem hlt)
    have : (tb :: ts)[0]? = some u := by simpa using hu
    cases this
    obtain ⟨n, hn⟩ := cell_bool htb hok
    exact ⟨n, by rw [Array.getElem?_eq_getElem hlt, hn]⟩
  have each : ∀ (i : Nat) (k : IntKind), ks[i]? = some k → ∃ u, cs[i + 1]? = some u ∧ u = .int k (numV u) ∧ k.has (numV u) := by
    intro i k hi
    have hlt := (List.getElem?_eq_some_iff.1 hi).1
    have hlt2 : i + 1 < cs.size := by omega
    obtain ⟨u, hu, hok⟩ := hcell (i + 1) cs[i + 1] (Array.getElem?_eq_getElem hlt2)
    rw [Nat.mod_eq_of_lt (by simp; omega)] at hu
    have hu : ts[i]? = some u := by simpa using hu
    have h1 : (ts.map P.underlying)[i]? = some (P.underlying u) := by rw [List.getElem?_map, hu]; rfl
    rw [hk, List.getElem?_map, hi] at h1
    have h2 : P.underlying u = some (.int k) := by simpa using h1.symm
    exact ⟨cs[i + 1], Array.getElem?_eq_getElem hlt2, cell_int h2 hok⟩
  obtain ⟨n, hn⟩ := first
  refine ⟨n, fun i => numV (cs.getD (i + 1) (.bool false)), .agg (by rw [List.length_cons, aggL_len, hs, hc]) fun i v u h1 h2 => ?_, fun i hi => ?_⟩
  · cases i with
    | zero =>
      cases h1
      rw [hn] at h2
      cases h2
      exact .mk_bool _ _
    | succ i =>
      rw [List.getElem?_cons_succ, aggL_get] at h1
      obtain ⟨k, hk1, rfl⟩ := Option.map_eq_some_iff.1 h1
      obtain ⟨u', hu1, hu2, _⟩ := each i k hk1
      rw [h2] at hu1
      cases hu1
      have : numV (cs.getD (0 + i + 1) (.bool false)) = numV u := by
        rw [Nat.zero_add, Array.getD_eq_getD_getElem?, h2]
        rfl
      rw [this, hu2]
      exact .mk_int _ _ _
  · obtain ⟨u', hu1, hu2, hu3⟩ := each i ks[i] (List.getElem?_eq_getElem hi)
    rw [List.getD_eq_getElem?_getD, List.getElem?_eq_getElem hi]
    show (ks[i]).has (numV (cs.getD (i + 1) (.bool false)))
    rw [Array.getD_eq_getD_getElem?, hu1]
    exact hu3
end
/-- A table that the row lists lies where the text lays it. -/
theorem tab_at {P : Program} {W : World} {name : String} {k : IntKind} {zs : List Int} {g : Nat} (hg : P.globalNamed name = some g) (h : Lib.TabIs P W name k zs) : ∃ ty fr, W.heap[g]? = some (.cells (zs.map fun z => Value.int k z).toArray ty fr) := by
  unfold Lib.TabIs World.var? at h
  rw [hg, Option.bind_some] at h
  split at h
  · rename_i cs ty fr hb
    cases h
    exact ⟨ty, fr, hb⟩
  · cases h
end Go.E
/-! EngZs. -/
namespace Go.E
section
variable {H : Type} {enc : TypeId × Value → H}
theorem returns_sized {a : Assume} {C : Checked} {os : Os} {f : FuncId} {fn : Func} {s : ChangeSpec} {conds : List PathCond} {apart fresh handsOn again : Bool}
    (own : ownKnob C.prog.godebug = none) (started : os.Started) (noInit : C.prog.inits.idxOf? f = none) (hfn : C.prog.funcs[f]? = some fn)
    (witness : ∃ (w : World) (tape : Tape) (i : Input), w.os = os ∧ (w.forCall tape i).Shaped C.prog ∧ i.vars = [] ∧ Input.okWide C.prog (w.forCall tape i) .any w.heap.size f i ∧
      s.pre6 enc C.prog fn conds apart (w.forCall tape i).memory i.args ∧ a.holds C.prog (lone (Frame.enter C.prog f i.args .normal) [] (w.forCall tape i)))
    (contract : ∀ (W : World) (base : Nat) (args : Array Value) (ds gs : List (DataW H)) (before : List MemPlace),
      (∀ (j : Nat) t v, fn.params[j]? = some t → args[j]? = some v → Value.okWide C.prog W .any base t v) →
      DataW.Whole enc C.prog fn.params.toList s.vars apart W args.toList ds gs before →
      (DataW.weightsEach C.prog (fn.params.toList ++ s.plain.varTypes C.prog) (ds ++ gs)).all (· ≤ reachBytes) = true →
      Calls C.prog f args W fun e W' => ∃ v, e = .returned v ∧ s.post enc C.prog fn apart fresh handsOn again W args v W') :
    ReturnsInHanded a C os f .any (s.pre6 enc C.prog fn conds apart) (s.post enc C.prog fn apart fresh handsOn again) := by
  refine returnsInHanded_of_calls own started noInit witness ?_
  intro w tape i _ _ _ hok hpre hholds
  obtain ⟨_, _, _, fn', hfn', _, _, _, _, hval⟩ := hok
  have e : fn' = fn := Option.some.inj (hfn'.symm.trans hfn)
  subst e
  obtain ⟨⟨ds, gs, before, hw, hc⟩, hz⟩ := hpre
  have hw' := DataW.Whole.of_heap (w' := w.forCall tape i) (by rfl) hw
  refine (contract (w.forCall tape i) w.heap.size i.args ds gs before hval hw' (hz.weights hw)).mono fun e W' ⟨v, he, hp⟩ => ?_
  subst he
  exact ChangeSpec.post_blind hp
theorem mem_weightsAll {P : Program} {e : TypeId} {d : DataW H} {x : Nat} (hx : x ∈ d.weights P e) : ∀ {es : List (DataW H)} {i : Nat}, es[i]? = some d → x ∈ DataW.weightsAll P e es
  | [], i, h => by simp at h
  | c :: r, 0, h => by
    simp only [List.getElem?_cons_zero, Option.some.injEq] at h
    subst h
    rw [DataW.weightsAll]
    exact List.mem_append_left _ hx
  | c :: r, i + 1, h => by
    rw [DataW.weightsAll]
    exact List.mem_append_right _ (mem_weightsAll hx (i := i) (by simpa using h))
/-- The bytes of a slice that lies in a slice of pairs. -/
theorem nested_weights {P : Program} {t e e1 : TypeId} {f0 f1 : Field} (ht : P.underlying t = some (.slice e)) (hst : P.underlying e = some (.struct #[f0, f1])) (h1 : P.underlying f1.type = some (.slice e1))
    {es rs us ws : List (DataW H)} {i : Nat} {a : DataW H} (hi : es[i]? = some (.agg [a, .slice us ws])) : (us.length + ws.length) * P.bytesOf e1 ∈ DataW.weights P t (.slice es rs) := by
  rw [DataW.weights]
  simp only [ht]
  refine List.mem_cons_of_mem _ (List.mem_append_left _ (mem_weightsAll ?_ hi))
  rw [DataW.weights]
  simp only [hst, List.map_cons, List.map_nil]
  rw [DataW.weightsEach, DataW.weightsEach]
  refine List.mem_append_right _ (List.mem_append_left _ ?_)
  rw [DataW.weights]
  simp only [h1]
  exact List.mem_cons_self
/-- So they are bounded. -/
theorem nested_bound {P : Program} {t e e1 : TypeId} {f0 f1 : Field} (ht : P.underlying t = some (.slice e)) (hst : P.underlying e = some (.struct #[f0, f1])) (h1 : P.underlying f1.type = some (.slice e1))
    {n : Nat} {m : Nat → Nat} {d : DataW H} (h : (d = .nil ∧ n = 0) ∨ ∃ es rs, d = .slice es rs ∧ es.length = n ∧ ∀ i, i < n → ∃ a b, es[i]? = some (.agg [a, b]) ∧ ((b = .nil ∧ m i = 0) ∨ ∃ us ws, b = .slice us ws ∧ us.length = m i))
    (hw : ∀ x ∈ DataW.weights P t d, x ≤ reachBytes) : ∀ i, i < n → m i * P.bytesOf e1 ≤ 140737488355328 := by
  intro i hi
  rcases h with ⟨_, h0⟩ | ⟨es, rs, rfl, _, h⟩
  · omega
  · obtain ⟨a, b, hi, hb⟩ := h i hi
    rcases hb with ⟨_, h0⟩ | ⟨us, ws, rfl, hl⟩
    · rw [h0]; omega
    · have := hw _ (nested_weights ht hst h1 hi)
      have h2 : m i * P.bytesOf e1 ≤ (us.length + ws.length) * P.bytesOf e1 := Nat.mul_le_mul_right _ (by omega)
      have h3 : reachBytes = 140737488351232 := rfl
      omega
end
end Go.E
/-! EngZt. -/
namespace Go.E
section
variable {P : Program}
/-- Cells read otherwise. -/
def eqvB : Blk → Blk → Prop
  | .cells l, .cells l' => EqvL Eqv l l'
  | b, b' => b = b'
inductive EqvH : Heap → Heap → Prop
  | nil : EqvH [] []
  | cons {b b' : Blk} {r r' : Heap} (h : eqvB b b') (hr : EqvH r r') : EqvH (b :: r) (b' :: r')
theorem eqvB_refl (b : Blk) : eqvB b b := by
  have hl : ∀ l : List AVal, EqvL Eqv l l := fun l => by
    induction l with
    | nil => exact .nil
    | cons a r ih => exact .cons (Eqv.same a) ih
  cases b <;> first | exact hl _ | rfl
theorem EqvH.refl (H : Heap) : EqvH H H := by
  induction H with
  | nil => exact .nil
  | cons b r ih => exact .cons (eqvB_refl b) ih
theorem eqvB_kind {b b' : Blk} (h : eqvB b b') : b'.kind = b.kind := by
  cases b <;> cases b' <;> first | rfl | (simp only [eqvB] at h; first | (cases h; rfl) | cases h)
theorem eqvL_len {l l' : List AVal} (h : EqvL Eqv l l') : l'.length = l.length := by
  induction h with
  | nil => rfl
  | cons _ _ ih => simp [ih]
theorem eqvL_at {l l' : List AVal} (h : EqvL Eqv l l') : ∀ {j : Nat} {v : AVal}, l'[j]? = some v → ∃ v0, l[j]? = some v0 ∧ Eqv v0 v := by
  induction h with
  | nil => intro j v hj; simp at hj
  | cons h _ ih =>
    intro j v hj
    cases j with
    | zero =>
      simp only [List.getElem?_cons_zero, Option.some.injEq] at hj
      subst hj
      exact ⟨_, rfl, h⟩
    | succ j => exact ih hj
theorem eqvB_eq {b b' : Blk} (h : eqvB b b') (hn : ∀ l, b ≠ .cells l) : b = b' := by
  cases b with
  | cells l => exact absurd rfl (hn l)
  | _ => exact h
theorem EqvH.at {H H0 : Heap} (h : EqvH H H0) : ∀ (i : Nat) (b : Blk), H[i]? = some b → ∃ b', H0[i]? = some b' ∧ eqvB b b' := by
  induction h with
  | nil => intro i b hb; simp at hb
  | cons h _ ih =>
    intro i b hb
    cases i with
    | zero =>
      simp only [List.getElem?_cons_zero, Option.some.injEq] at hb
      subst hb
      exact ⟨_, rfl, h⟩
    | succ i => exact ih i b hb
theorem EqvH.back {H H0 : Heap} (h : EqvH H H0) : ∀ (i : Nat) (b' : Blk), H0[i]? = some b' → ∃ b, H[i]? = some b ∧ eqvB b b' := by
  induction h with
  | nil => intro i b hb; simp at hb
  | cons h _ ih =>
    intro i b hb
    cases i with
    | zero =>
      simp only [List.getElem?_cons_zero, Option.some.injEq] at hb
      subst hb
      exact ⟨_, rfl, h⟩
    | succ i => exact ih i b hb
theorem EqvH.len {H H0 : Heap} (h : EqvH H H0) : H0.length = H.length := by
  induction h with
  | nil => rfl
  | cons _ _ ih => simp [ih]
def Cx.as (c : Cx) (H0 : Heap) : Cx := ⟨c.φ, c.X, H0, c.w⟩
theorem as_img {c : Cx} {H0 : Heap} (h : EqvH c.H H0) {r : Nat} : Img (c.as H0) r ↔ Img c r := by
  constructor
  · rintro ⟨b, x, o, h1, h2, h3⟩
    obtain ⟨y, h4, h5⟩ := h.back b x h1
    exact ⟨b, y, o, h4, by rw [← live_kind (eqvB_kind h5)]; exact h2, h3⟩
  · rintro ⟨b, x, o, h1, h2, h3⟩
    obtain ⟨y, h4, h5⟩ := h.at b x h1
    exact ⟨b, y, o, h4, by rw [live_kind (eqvB_kind h5)]; exact h2, h3⟩
theorem as_fr {c0 c : Cx} {H0 : Heap} (h : EqvH c.H H0) (hf : Fr c0 c) : Fr c0 (c.as H0) where
  os := hf.os
  tape := hf.tape
  output := hf.output
  size := hf.size
  keep := hf.keep
  shape := hf.shape
  X := hf.X
  blocks := fun b blk hb => by
    obtain ⟨b1, h1, h2, h3⟩ := hf.blocks b blk hb
    obtain ⟨b2, h4, h5⟩ := h.at b b1 h1
    exact ⟨b2, h4, (eqvB_kind h5).trans h2, h3⟩
  img := fun b blk r o hb h1 hl hφ => by
    obtain ⟨y, h4, h5⟩ := h.back b blk h1
    exact hf.img b y r o hb h4 (by rw [← live_kind (eqvB_kind h5)]; exact hl) hφ
theorem as_rel {c : Cx} {H0 : Heap} (h : EqvH c.H H0) (hh : HRel c) {v : AVal} {u : Value} (hv : VRel c v u) : VRel (c.as H0) v u :=
  hv.mono (as_fr h (Fr.refl c)) hh.img
theorem as_heap {c : Cx} {H0 : Heap} (h : EqvH c.H H0) (hh : HRel c) : HRel (c.as H0) where
  holds := fun b blk hb hl => by
    obtain ⟨y, h4, h5⟩ := h.back b blk hb
    have hk := eqvB_kind h5
    rcases hh.holds b y h4 (by rw [← live_kind hk]; exact hl) with ⟨h6, h7⟩ | ⟨r, o, h6, h7, h8⟩
    · refine .inl ⟨?_, h7⟩
      by_cases hc : ∃ l, y = .cells l
      · obtain ⟨l, rfl⟩ := hc
        exact h6.elim
      · rw [← eqvB_eq h5 fun l e => hc ⟨l, e⟩]
        exact h6
    · refine .inr ⟨r, o, h6, h7, ?_⟩
      cases y with
      | cells l =>
        cases blk with
        | cells l' =>
          obtain ⟨cs, t, fr, a1, a2, a3, a4⟩ := h8
          have hlen := eqvL_len h5
          refine ⟨cs, t, fr, a1, a2, by rw [hlen]; exact a3, fun j v u b1 b2 => ?_⟩
          obtain ⟨v0, q1, q2⟩ := eqvL_at h5 b1
          exact eqv_rel q2 (as_rel h hh (a4 j v0 u q1 b2))
        | _ => cases h5
      | dead => rw [← eqvB_eq h5 fun l e => by cases e]; trivial
      | ints k l => rw [← eqvB_eq h5 fun l e => by cases e]; exact h8
      | rows s n f =>
        rw [← eqvB_eq h5 fun l e => by cases e]
        exact h8
      | iter s p => rw [← eqvB_eq h5 fun l e => by cases e]; exact h8
      | sb l => rw [← eqvB_eq h5 fun l e => by cases e]; exact h8
  small := hh.small
  inj := fun i i' x x' r o o' h1 h2 h3 h4 h5 h6 => by
    obtain ⟨y, g1, g2⟩ := h.back i x h1
    obtain ⟨y', g1', g2'⟩ := h.back i' x' h3
    exact hh.inj i i' y y' r o o' g1 (by rw [← live_kind (eqvB_kind g2)]; exact h2) g1' (by rw [← live_kind (eqvB_kind g2')]; exact h4) h5 h6
/-- At the end the blocks 'sel' are kept, and read otherwise. -/
theorem callN_end (sel : List Nat) {f : FuncId} {args : List AVal} {H : Heap} {v0 : AVal} {H0 : Heap}
    (h : callN P f args H fun v H' => selOK H.length H'.length sel = true ∧ Eqv (renS sel v) v0 ∧ EqvH (selH sel H') H0) : callN P f args H fun v H' => v = v0 ∧ H' = H0 := by
  rw [callN_iff] at h ⊢
  refine ⟨h.1, ?_⟩
  rintro c us rfl hg hh ha
  refine (h.2 c us rfl hg hh ha).mono ?_
  rintro e w' ⟨u, v, c', rfl, rfl, ⟨hs, he, hH⟩, hf, hh', hv⟩
  simp only [selOK, Bool.and_eq_true, List.all_eq_true, decide_eq_true_eq, List.mem_range, beq_iff_eq] at hs
  obtain ⟨⟨h1, h2⟩, h3⟩ := hs
  have h1 : ∀ b ∈ sel, b < c'.H.length := fun b hb => by have := h1 b hb; simpa using this
  have hsel := sel_heap h1 h2 hh'
  refine ⟨u, v0, (c'.sel sel).as H0, rfl, rfl, ⟨rfl, rfl⟩, as_fr hH (sel_fr h1 h2 h3 hf), as_heap hH hsel, as_rel hH hsel (eqv_rel he (renS_rel h1 hv))⟩
end
end Go.E
/-! EngZu. -/
namespace Go.E
def unr (body : AQ → List AVal → Heap → Prop) (Q : AQ) : Nat → List AVal → Heap → Prop
  | 0, _, _ => False
  | k + 1, tm, H => body (seqQ (fun _ tm' H' => unr body Q k tm' H') Q) tm H
theorem loop_unr (k : Nat) {n0 : Nat} {body : AQ → List AVal → Heap → Prop} {Q : AQ} {tm : List AVal} {H : Heap} (h : unr body Q k tm H) : loopN n0 body Q tm H := by
  unfold loopN
  refine ⟨Nat × List AVal × Heap, fun s => s.2.1, fun s => s.2.2, fun s => unr body Q s.1 s.2.1 s.2.2, fun s => s.1, fun s tm' H' => unr body Q (s.1 - 1) tm' H', ⟨(k, tm, H), h, WeakS.refl _ _ _⟩, ?_, ?_⟩
  · rintro ⟨j, tm', H'⟩ hj
    cases j with
    | zero => exact hj.elim
    | succ j => exact hj
  · rintro ⟨j, tm0, H0⟩ tm' H' hj h
    cases j with
    | zero => exact hj.elim
    | succ j => exact ⟨(j, tm', H'), h, Nat.lt_succ_self j, WeakS.refl _ _ _⟩
end Go.E
/-! EngZv. -/
namespace Go.E
section
variable {P : Program}
theorem merge_same {H : Heap} {sel : List Nat} {H1 : Heap} (hl : H1.length = sel.length) (hm : ∀ i b, sel[i]? = some b → backB sel H.length (H1.getD i .dead) = H.getD b .dead) : mergeH H sel H1 = H := by
  unfold mergeH
  simp only
  rw [List.drop_eq_nil_of_le (by omega), List.map_nil, List.append_nil]
  refine List.ext_getElem? fun b => ?_
  rw [List.getElem?_map]
  by_cases hb : b < H.length
  · rw [List.getElem?_range hb, Option.map_some, List.getElem?_eq_getElem hb]
    have hd : H.getD b .dead = H[b] := by rw [List.getD_eq_getElem?_getD, List.getElem?_eq_getElem hb]; rfl
    cases hp : posOf sel b with
    | none => simp only; rw [hd]
    | some i => simp only; rw [hm i b (posOf_at hp), hd]
  · rw [List.getElem?_eq_none (by simpa using hb), List.getElem?_eq_none (by omega)]
    rfl
theorem readN_of (sel : List Nat) {f : FuncId} {l : List AVal} {H : Heap} {v : AVal} (hs : selOK' H.length sel = true) (hv : v.closed2 = true) (hb : ∀ n, backV sel n v = v)
    (h : callN P f (l.map (renS sel)) (selH sel H) fun x H' => x = v ∧ H' = selH sel H) (hm : ∀ n, (selH sel H).map (backB sel n) = sel.map fun b => H.getD b .dead) : readN P f l H v := by
  refine ⟨hv, fun ext => ?_⟩
  simp only [selOK', Bool.and_eq_true, List.all_eq_true, decide_eq_true_eq] at hs
  obtain ⟨h1, hn⟩ := hs
  have h0 : ∀ b ∈ sel, b < H.length := fun b hb => by have := h1 b hb; simpa using this
  rw [callN_iff] at h ⊢
  refine ⟨h.1, ?_⟩
  rintro c us hc hg hh ha
  have hget : ∀ b, b < H.length → c.H.getD b .dead = H.getD b .dead := fun b hlt => by
    rw [hc, List.getD_eq_getElem?_getD, List.getD_eq_getElem?_getD, List.getElem?_append_left hlt]
  have hlt : ∀ b ∈ sel, b < c.H.length := fun b hb => by have := h0 b hb; rw [hc, List.length_append]; omega
  have e1 : selH sel c.H = selH sel H := by
    unfold selH
    exact List.map_congr_left fun b hb => by rw [hget b (h0 b hb)]
  refine (h.2 (c.sel sel) us e1 (hg.sub rfl fun r hr => by obtain ⟨b, _, blk, o, q1, q2, q3⟩ := sel_img hlt hr; exact ⟨b, blk, o, q1, q2, q3⟩) (sel_heap hlt hn hh) (back_list (fun h => renS_rel hlt h) ha)).mono ?_
  rintro e w' ⟨u, x, c1, rfl, rfl, ⟨hx, hH1⟩, hf, hh1, hvx⟩
  refine ⟨u, backV sel c.H.length x, c.merge c1 sel, rfl, rfl, ⟨by rw [hx]; exact hb _, ?_⟩, merge_fr hlt hn hf, merge_heap hlt hn hf hh hh1, back_rel hlt hn hf hvx⟩
  show mergeH c.H sel c1.H = H ++ ext
  rw [← hc, hH1]
  refine merge_same (by simp [selH]) fun i b hi => ?_
  have hbm := List.mem_of_getElem? hi
  have := congrArg (fun L => L[i]?) (hm c.H.length)
  simp only [List.getElem?_map, hi, Option.map_some] at this
  rw [hget b (h0 b hbm)]
  have hsel : (selH sel H)[i]? = some (renB sel (H.getD b .dead)) := by
    unfold selH
    rw [List.getElem?_map, hi]
    rfl
  rw [hsel, Option.map_some] at this
  rw [List.getD_eq_getElem?_getD, hsel]
  exact Option.some.inj this
end
end Go.E
/-! EngZw. -/
namespace Go.E
open Go.ChangeShapes Go.WideShapes Go.ChangeAt Go.RowKit Go.ChangeMaps
section
variable {H : Type} {enc : TypeId × Value → H} {P : Program}
/-- A struct of whole numbers. -/
theorem flat_struct {W : World} {t : TypeId} {fs : Array Field} {ks : List IntKind} (ht : P.underlying t = some (.struct fs)) (hfs : ∀ (i : Nat) (k : IntKind), ks[i]? = some k → ∃ f, fs[i]? = some f ∧ f.offset = i ∧ P.cellsOf f.type = 1 ∧ P.underlying f.type = some (.int k))
    {fuel : Nat} {cs : List Value} {x : DataW H × List MemPlace} (h : DataW.trod enc P W 0 (fun _ => true) true fuel t cs = some x) (i : Nat) (k : IntKind) (hi : ks[i]? = some k) : ∃ n, cs[i]? = some (.int k n) ∧ (Lit.int k n).wf = true := by
  obtain ⟨xs, n, _, _, hl, hx, hf⟩ := DataW.trod_struct ht h
  obtain ⟨f, hf1, ho, hc1, hu⟩ := hfs i k hi
  have h1 := hf i f hf1
  have hlt := (Array.getElem?_eq_some_iff.1 hf1).1
  rw [List.getElem?_eq_getElem (by omega)] at h1
  obtain ⟨m, hm, _, hw⟩ := DataW.trod_int hu h1
  refine ⟨m, ?_, hw⟩
  rw [ho, hc1] at hm
  have h2 : ((cs.drop i).take 1)[0]? = some (.int k m) := by rw [hm]; rfl
  simpa [List.getElem?_take, List.getElem?_drop] using h2
/-- One slice of rows: what it holds, and how long the data that is read off it is. -/
theorem trod_rows {W : World} {t e : TypeId} {v : Value} {fuel : Nat} {x : DataW H × List MemPlace} (ks : List IntKind) (ht : P.underlying t = some (.slice e)) (he : ∀ {fuel : Nat} {cs : List Value} {x : DataW H × List MemPlace}, DataW.trod enc P W 0 (fun _ => true) true fuel e cs = some x → ∀ (i : Nat) (k : IntKind), ks[i]? = some k → ∃ n, cs[i]? = some (.int k n) ∧ (Lit.int k n).wf = true) (hc : P.cellsOf e = ks.length) (hpos : 0 < ks.length)
    (hf : DataW.trod enc P W 0 (fun _ => true) true fuel t [v] = some x) :
    ∃ (n : Nat) (D : Nat → Nat → Int), RRel W (fun _ => False) (.ro ks.length n (fun i => aggL (D i) ks 0)) v ∧ n ≤ maxLen ∧ (∀ i, i < n → HasL ks (D i)) ∧
      ((x.1 = .nil ∧ n = 0) ∨ ∃ es rs, x.1 = .slice es rs ∧ es.length = n) := by
  rcases DataW.trod_slice ht hf with ⟨hcs, hx⟩ | ⟨a, len0, cap0, elems, rest, n, _, hcs, hx, _, hl, hm, hlen, hel, _, _⟩
  · simp only [List.cons.injEq, and_true] at hcs
    subst hcs
    exact ⟨0, fun _ _ => 0, .roNil _ _, by simp, fun i hi => by omega, .inl ⟨by rw [hx], rfl⟩⟩
  · simp only [List.cons.injEq, and_true] at hcs
    subst hcs
    have hxd : (x.1 = .nil ∧ len0 = 0) ∨ ∃ es rs, x.1 = .slice es rs ∧ es.length = len0 := .inr ⟨_, _, by rw [hx], by simpa using hlen⟩
    by_cases h0 : len0 = 0
    · subst h0
      exact ⟨0, fun _ _ => 0, .roNil _ _, by simp, fun i hi => by omega, hxd⟩
    have each : ∀ i, i < len0 → ∀ (j : Nat) (k : IntKind), ks[j]? = some k → ∃ m, W.cell? ((a.add (i * ks.length)).add j) = some (.int k m) ∧ (Lit.int k m).wf = true := by
      intro i hi j k hj
      have h1 := hel i hi
      rw [List.getElem?_eq_getElem (by omega), Option.bind_eq_some_iff] at h1
      obtain ⟨cs, h1, h2⟩ := h1
      obtain ⟨m, hm1, hm2⟩ := he h2 j k hj
      refine ⟨m, ?_, hm2⟩
      have hjlt := (List.getElem?_eq_some_iff.1 hj).1
      unfold World.cells? at h1
      split at h1
      · have := mapM_some_get h1 j j (by rw [hc]; simp [hjlt])
        rw [← hm1, ← this, hc]
      · cases h1
    obtain ⟨k0, hk0⟩ : ∃ k, ks[0]? = some k := ⟨ks[0], List.getElem?_eq_getElem hpos⟩
    obtain ⟨m0, c0, _⟩ := each 0 (by omega) 0 k0 hk0
    have hsp : a.spot = none := by
      have := World.cell?_spot c0
      simpa [Addr.add] using this
    obtain ⟨b, o, s⟩ := a
    simp only at hsp
    subst hsp
    obtain ⟨cs, tt, fr, hb⟩ : ∃ cs t fr, W.heap[b]? = some (.cells cs t fr) := by
      simp only [Addr.add, Nat.zero_mul, if_true, World.cell?] at c0
      split at c0
      · rename_i cs t fr hb
        exact ⟨cs, t, fr, hb⟩
      · cases c0
    have cell : ∀ i, i < len0 → ∀ (j : Nat) (k : IntKind), ks[j]? = some k → ∃ m, cs[o + i * ks.length + j]? = some (.int k m) ∧ (Lit.int k m).wf = true := by
      intro i hi j k hj
      obtain ⟨m, h1, h2⟩ := each i hi j k hj
      refine ⟨m, ?_, h2⟩
      rw [add_add] at h1
      by_cases hx : i * ks.length + j = 0
      · rw [hx] at h1
        have e : o + i * ks.length + j = o := by omega
        rw [e]
        simpa [Addr.add, World.cell?, hb] using h1
      · simp only [Addr.add, hx, if_false, World.cell?, hb] at h1
        rw [Nat.add_assoc]
        exact h1
    refine ⟨len0, fun i j => numV (cs.getD (o + i * ks.length + j) (.bool false)), .ro hl (fun h => h) hb (fun i hi => aggL_len _ _ _) (fun i hi => ?_) (fun i hi j v u h1 h2 => ?_), by omega, fun i hi j hj => ?_, hxd⟩
    · obtain ⟨m, h1, _⟩ := cell i hi (ks.length - 1) ks[ks.length - 1] (List.getElem?_eq_getElem (by omega))
      have := (Array.getElem?_eq_some_iff.1 h1).1
      omega
    · rw [aggL_get] at h1
      obtain ⟨k, hk1, rfl⟩ := Option.map_eq_some_iff.1 h1
      obtain ⟨m, h3, _⟩ := cell i hi j k hk1
      have h3' := h3
      rw [h2] at h3
      cases h3
      have : numV (cs.getD (o + i * ks.length + (0 + j)) (.bool false)) = m := by
        rw [Nat.zero_add, Array.getD_eq_getD_getElem?, h3']
        rfl
      show RRel _ _ (.int k (numV (cs.getD (o + i * ks.length + (0 + j)) (.bool false)))) _
      rw [this]
      exact .int _ _
    · obtain ⟨m, h1, h2⟩ := cell i hi j ks[j] (List.getElem?_eq_getElem hj)
      rw [List.getD_eq_getElem?_getD, List.getElem?_eq_getElem hj]
      show (ks[j]).has (numV (cs.getD (o + i * ks.length + j) (.bool false)))
      rw [Array.getD_eq_getD_getElem?, h1]
      exact wf_has h2
/-- A slice of pairs, a number and a slice of rows. -/
theorem arg_nested {W : World} {t e e1 : TypeId} {f0 f1 : Field} {v : Value} {d : DataW H} {ps : List MemPlace} {b0 : Nat} {r : Reach} (ks : List IntKind) (ht : P.underlying t = some (.slice e)) (hst : P.underlying e = some (.struct #[f0, f1]))
    (h0 : f0.offset = 0 ∧ P.cellsOf f0.type = 1 ∧ P.underlying f0.type = some (.int .i64)) (h1 : f1.offset = 1 ∧ P.cellsOf f1.type = 1 ∧ P.underlying f1.type = some (.slice e1)) (hce : P.cellsOf e = 2)
    (he : ∀ {fuel : Nat} {cs : List Value} {x : DataW H × List MemPlace}, DataW.trod enc P W 0 (fun _ => true) true fuel e1 cs = some x → ∀ (i : Nat) (k : IntKind), ks[i]? = some k → ∃ n, cs[i]? = some (.int k n) ∧ (Lit.int k n).wf = true)
    (hc : P.cellsOf e1 = ks.length) (hpos : 0 < ks.length) (hval : Value.okWide P W r b0 t v) (h : DataW.Trod enc P W 0 (fun _ => true) true t v d ps) :
    ∃ (n : Nat) (num : Nat → Int) (m : Nat → Nat) (D : Nat → Nat → Nat → Int), VRel (Cx.start W) (.ro 2 n (fun i => [.int .i64 (num i), .ro ks.length (m i) (fun j => aggL (D i j) ks 0)])) v ∧ n ≤ maxLen ∧
      (∀ i, i < n → IntKind.i64.has (num i) ∧ m i ≤ maxLen ∧ ∀ j, j < m i → HasL ks (D i j)) ∧
      ((d = .nil ∧ n = 0) ∨ ∃ es rs, d = .slice es rs ∧ es.length = n ∧ ∀ i, i < n → ∃ a b, es[i]? = some (.agg [a, b]) ∧ ((b = .nil ∧ m i = 0) ∨ ∃ us ws, b = .slice us ws ∧ us.length = m i)) := by
  obtain ⟨A, len0, cap0, rfl⟩ := okWide_slice ht hval
  obtain ⟨fuel, hf⟩ := h
  rcases DataW.trod_slice ht hf with ⟨hcs, hx⟩ | ⟨a, len, cap, elems, rest, n, _, hcs, hx, _, hl, hm, hlen, hel, _, _⟩
  · simp [Value.cells] at hcs
    obtain ⟨rfl, rfl, rfl⟩ := hcs
    simp only [Prod.mk.injEq] at hx
    exact ⟨0, fun _ => 0, fun _ => 0, fun _ _ _ => 0, .closed (.roNil _ _), by simp, fun i hi => by omega, .inl ⟨hx.1, rfl⟩⟩
  · simp [Value.cells] at hcs
    obtain ⟨rfl, rfl, rfl⟩ := hcs
    simp only [Prod.mk.injEq] at hx
    have each : ∀ i, ∃ (y : Int) (m : Nat) (D : Nat → Nat → Int) (u : Value), i < len0 → W.cell? ((a.add (i * 2)).add 0) = some (.int .i64 y) ∧ W.cell? ((a.add (i * 2)).add 1) = some u ∧ IntKind.i64.has y ∧
        RRel W (fun _ => False) (.ro ks.length m (fun j => aggL (D j) ks 0)) u ∧ m ≤ maxLen ∧ (∀ j, j < m → HasL ks (D j)) ∧
        ∃ p q, (elems.map (·.1))[i]? = some (.agg [p, q]) ∧ ((q = .nil ∧ m = 0) ∨ ∃ us ws, q = .slice us ws ∧ us.length = m) := by
      intro i
      by_cases hi : i < len0
      · have g1 := hel i hi
        rw [List.getElem?_eq_getElem (by omega), Option.bind_eq_some_iff] at g1
        obtain ⟨cs, g1, g2⟩ := g1
        obtain ⟨y0, y1, n', hy, hcl, k0, k1⟩ := trod_struct2 hst g2
        rw [h0.1, h0.2.1] at k0
        rw [h1.1, h1.2.1] at k1
        obtain ⟨y, hy0, _, hw⟩ := DataW.trod_int h0.2.2 k0
        rw [hce] at hcl
        obtain ⟨c0, c1, rfl⟩ : ∃ c0 c1, cs = [c0, c1] := by
          match cs, hcl with
          | [c0, c1], _ => exact ⟨c0, c1, rfl⟩
        simp at hy0 k1
        subst hy0
        obtain ⟨m, D, r1, r2, r3, r4⟩ := trod_rows ks h1.2.2 he hc hpos k1
        have cells : ∀ j u, [Value.int .i64 y, c1][j]? = some u → W.cell? ((a.add (i * 2)).add j) = some u := by
          intro j u hj
          have hjlt := (List.getElem?_eq_some_iff.1 hj).1
          have hj2 : j < 2 := by simpa using hjlt
          unfold World.cells? at g1
          split at g1
          · have := mapM_some_get g1 j j (by rw [hce]; simp [hj2])
            rw [← hj, ← this, hce]
          · cases g1
        exact ⟨y, m, D, c1, fun _ => ⟨cells 0 _ rfl, cells 1 _ rfl, wf_has hw, r1, r2, r3, y0.1, y1.1, by rw [List.getElem?_map, List.getElem?_eq_getElem (by omega)]; simp [hy], r4⟩⟩
      · exact ⟨0, 0, fun _ _ => 0, .nilFunc, fun h => absurd h hi⟩
    have key := fun i (hi : i < len0) => (each i).choose_spec.choose_spec.choose_spec.choose_spec hi
    refine ⟨len0, fun i => (each i).choose, fun i => (each i).choose_spec.choose, fun i => (each i).choose_spec.choose_spec.choose, ?_, by omega, fun i hi => ?_, .inr ⟨_, _, hx.1, by simpa using hlen, fun i hi => (key i hi).2.2.2.2.2.2⟩⟩
    · by_cases hz : len0 = 0
      · subst hz
        exact .closed (.roNil _ _)
      obtain ⟨u0, c0⟩ : ∃ u, W.cell? ((a.add (0 * 2)).add 0) = some u := ⟨_, (key 0 (by omega)).1⟩
      have hsp : a.spot = none := by
        have := World.cell?_spot c0
        simpa [Addr.add] using this
      obtain ⟨b, o, s⟩ := a
      simp only at hsp
      subst hsp
      obtain ⟨cs, tt, fr, hb⟩ : ∃ cs t fr, W.heap[b]? = some (.cells cs t fr) := by
        simp only [Addr.add, Nat.zero_mul, if_true, World.cell?] at c0
        split at c0
        · rename_i cs t fr hb
          exact ⟨cs, t, fr, hb⟩
        · cases c0
      have cell : ∀ i j u, W.cell? (((⟨b, o, none⟩ : Addr).add (i * 2)).add j) = some u → cs[o + i * 2 + j]? = some u := by
        intro i j u hh
        rw [add_add] at hh
        by_cases hx : i * 2 + j = 0
        · rw [hx] at hh
          have e : o + i * 2 + j = o := by omega
          rw [e]
          simpa [Addr.add, World.cell?, hb] using hh
        · simp only [Addr.add, hx, if_false, World.cell?, hb] at hh
          rw [Nat.add_assoc]
          exact hh
      refine .closed (.ro hl (fun h => h) hb (fun i hi => rfl) (fun i hi => ?_) (fun i hi j v u g1 g2 => ?_))
      · have := (Array.getElem?_eq_some_iff.1 (cell i 1 _ (key i hi).2.1)).1
        omega
      · match j, g1 with
        | 0, g1 =>
          simp only [List.getElem?_cons_zero, Option.some.injEq] at g1
          rw [cell i 0 _ (key i hi).1] at g2
          cases g2
          subst g1
          exact .int _ _
        | 1, g1 =>
          simp only [List.getElem?_cons_succ, List.getElem?_cons_zero, Option.some.injEq] at g1
          rw [cell i 1 _ (key i hi).2.1] at g2
          cases g2
          subst g1
          exact (key i hi).2.2.2.1
        | j + 2, g1 => simp at g1
    · exact ⟨(key i hi).2.2.1, (key i hi).2.2.2.2.1, (key i hi).2.2.2.2.2.1⟩
end
end Go.E
/-! EngZx. -/
namespace Go.E
open Go.RowKit
section
variable {P : Program} {n0 : Nat} {f : FuncId} {tm : List AVal} {H : Heap} {k : List AVal → AVal → Heap → Prop} {c c' : Cx}

/-- What stays known of a value. -/
def keepV (v : AVal) : AVal := match v with
  | .ptr a => .ptr a
  | .agg l => (match allFlat0 l with | true => .agg l | false => .any)
  | v => (match v.flat0 with | true => v | false => .any)
def keepL : List AVal → (List AVal → Prop) → Prop
  | [], k => k []
  | v :: r, k => force (keepV v) fun v' => keepL r fun r' => k (v' :: r')
theorem keepL_iff {l : List AVal} {k : List AVal → Prop} : keepL l k ↔ k (l.map keepV) := by
  induction l generalizing k with
  | nil => exact Iff.rfl
  | cons v r ih => simp only [keepL, force_iff, ih, List.map_cons]
/-- The heap behind such a call: block b is 'nb'; of the others what stays known. -/
def keepH (b : Nat) (nb : Blk) : Nat → Heap → (Heap → Prop) → Prop
  | _, [], k => k []
  | i, x :: r, k => (match Nat.beq i b with
    | true => keepH b nb (i + 1) r fun r' => k (nb :: r')
    | false => (match x with
      | .cells cs => keepL cs fun cs' => keepH b nb (i + 1) r fun r' => k (.cells cs' :: r')
      | .ints kk l => keepH b nb (i + 1) r fun r' => k (.ints kk l :: r')
      | .dead => keepH b nb (i + 1) r fun r' => k (.dead :: r')
      | _ => False))
def Kept (x x' : Blk) : Prop := (∃ cs, x = .cells cs ∧ x' = .cells (cs.map keepV)) ∨ (∃ kk l, x = .ints kk l ∧ x' = .ints kk l) ∨ (x = .dead ∧ x' = .dead)
theorem keepH_at {b : Nat} {nb : Blk} : ∀ {H : Heap} {i : Nat} {k : Heap → Prop}, keepH b nb i H k → ∃ H', k H' ∧ H'.length = H.length ∧ ∀ j x, H[j]? = some x → ∃ x', H'[j]? = some x' ∧ ((i + j = b ∧ x' = nb) ∨ (i + j ≠ b ∧ Kept x x')) := by
  intro H
  induction H with
  | nil => intro i k h; exact ⟨[], h, rfl, fun j x hx => by simp at hx⟩
  | cons y r ih =>
    intro i k h
    have put : ∀ (y' : Blk), ((i = b ∧ y' = nb) ∨ (i ≠ b ∧ Kept y y')) → (keepH b nb (i + 1) r fun r' => k (y' :: r')) →
        ∃ H', k H' ∧ H'.length = (y :: r).length ∧ ∀ j x, (y :: r)[j]? = some x → ∃ x', H'[j]? = some x' ∧ ((i + j = b ∧ x' = nb) ∨ (i + j ≠ b ∧ Kept x x')) := by
      intro y' hy h
      obtain ⟨r', h1, h2, h3⟩ := ih h
      refine ⟨y' :: r', h1, by simp [h2], fun j x hx => ?_⟩
      cases j with
      | zero =>
        simp only [List.getElem?_cons_zero, Option.some.injEq] at hx
        subst hx
        exact ⟨y', rfl, hy⟩
      | succ j =>
        rw [List.getElem?_cons_succ] at hx
        obtain ⟨x', q1, q2⟩ := h3 j x hx
        refine ⟨x', by rw [List.getElem?_cons_succ]; exact q1, ?_⟩
        rw [show i + (j + 1) = i + 1 + j by omega]
        exact q2
    unfold keepH at h
    split at h
    · rename_i hb
      exact put nb (.inl ⟨Nat.eq_of_beq_eq_true hb, rfl⟩) h
    · rename_i hb
      have hne := Nat.ne_of_beq_eq_false hb
      split at h
      · rw [keepL_iff] at h
        exact put _ (.inr ⟨hne, .inl ⟨_, rfl, rfl⟩⟩) h
      · exact put _ (.inr ⟨hne, .inr (.inl ⟨_, _, rfl, rfl⟩)⟩) h
      · exact put _ (.inr ⟨hne, .inr (.inr ⟨rfl, rfl⟩)⟩) h
      · exact h.elim
theorem Kept.kind {x x' : Blk} (h : Kept x x') : x'.kind = x.kind := by
  rcases h with ⟨cs, rfl, rfl⟩ | ⟨kk, l, rfl, rfl⟩ | ⟨rfl, rfl⟩ <;> rfl

theorem allFlat0_mem : ∀ {l : List AVal}, allFlat0 l = true → ∀ v ∈ l, v.flat0 = true
  | [], _ => by simp
  | x :: r, h => by
    unfold allFlat0 at h
    split at h
    · rename_i hx
      intro v hv
      rcases List.mem_cons.1 hv with rfl | hv
      · exact hx
      · exact allFlat0_mem h v hv
    · cases h
theorem keepV_rel (hb : ∀ (i : Nat) (x : Blk), c.H[i]? = some x → ∃ x' : Blk, c'.H[i]? = some x' ∧ x'.kind = x.kind) (hφ : c'.φ = c.φ) {v : AVal} {u : Value} (h : VRel c v u) : VRel c' (keepV v) u := by
  unfold keepV
  split
  · cases h with
    | closed h => cases h
    | ptr h1 h2 =>
      obtain ⟨x', q1, q2⟩ := hb _ _ h1
      refine .ptr q1 fun hl => ?_
      obtain ⟨r, o, h3, h4⟩ := h2 (by rw [← live_kind q2]; exact hl)
      exact ⟨r, o, by rw [hφ]; exact h3, by rw [h4, lin_kind q2]⟩
  · split
    · rename_i l hl
      obtain ⟨us, rfl, h1, h2⟩ := h.inv_agg
      exact .agg h1 fun i v u a1 a2 => flat0_rel (h2 i v u a1 a2) (allFlat0_mem hl v (List.mem_of_getElem? a1))
    · exact .any _
  · split
    · rename_i hv
      exact flat0_rel h hv
    · exact .any _

/-- A call that writes bytes to a strings.Builder of the function's own. -/
theorem callT_sbw {T e : TypeId} (hT : seatSB = some (T, e)) (he : Enters P f) {l : List UInt8} {s : ByteArray}
    (hs : ∀ (r : Nat) (l : List UInt8) (s : ByteArray) (w : World), Lib.IsBuilderF T e r r (Lib.byteCells l) w → l.length + s.size ≤ 140737488355328 → r ≤ w.heap.size →
      Calls P f #[.pointer (some ⟨r, 0, none⟩), .string s] w fun ee w' => ∃ u, ee = .returned u ∧ Lib.IsBuilderF T e r r (Lib.byteCells (l ++ s.data.toList)) w' ∧ Below r w w' ∧
        (∀ q, q < w.heap.size → q ≠ r → ¬ SbBuf w r q → w'.heap[q]? = w.heap[q]?) ∧ ∀ g, SbBuf w' r g → SbBuf w r g ∨ w.heap.size ≤ g)
    (b : Nat) (hb : H[b]? = some (.sb l)) (hn : n0 ≤ b) (hl : l.length + s.size ≤ 140737488355328)
    (hk : keepL tm fun tm' => keepH b (.sb (l ++ s.data.toList)) 0 H fun H' => k tm' .any H') : callT P n0 f [.ptr ⟨b, 0, 0⟩, .str s] tm H k := by
  rw [callT_iff]
  refine ⟨he, ?_⟩
  rintro c0 c us vals rfl hg hf rfl hh ha ht
  rw [keepL_iff] at hk
  obtain ⟨H', hk, hlen, hback⟩ := keepH_at hk
  obtain ⟨u0, u1, hus⟩ : ∃ u0 u1, us = #[u0, u1] := by
    have := ha.1
    match us, this with
    | ⟨[u0, u1]⟩, _ => exact ⟨u0, u1, rfl⟩
  subst hus
  have h1 := ha.2 1 _ u1 rfl rfl
  obtain rfl := h1.inv_str
  have h0 := ha.2 0 _ u0 rfl rfl
  obtain ⟨r, o, hφ, rfl⟩ : ∃ r o, c.φ b = some (r, o) ∧ u0 = .pointer (some ⟨r, o + 0, none⟩) := by
    cases h0 with
    | closed h => cases h
    | ptr q1 q2 =>
      rw [hb] at q1; cases q1
      obtain ⟨r, o, q3, q4⟩ := q2 rfl
      exact ⟨r, o, q3, by rw [q4]; rfl⟩
  obtain ⟨hX, hold⟩ := hh.at_ hb rfl hφ
  obtain ⟨rfl, T', e', hT', hB, hbuf⟩ := hold
  rw [hT] at hT'
  cases hT'
  have hr0 : c0.w.heap.size ≤ r := hf.img b _ r 0 hn hb rfl hφ
  have hr1 : r < c.w.heap.size := hh.small r hX
  refine (hs r l s c.w hB hl (Nat.le_of_lt hr1)).mono ?_
  rintro ee w' ⟨u, rfl, g1, g2, g3, g4⟩
  have hkind : ∀ (i : Nat) (x : Blk), c.H[i]? = some x → ∃ x' : Blk, H'[i]? = some x' ∧ x'.kind = x.kind := by
    intro i x hx
    obtain ⟨x', q1, q2⟩ := hback i x hx
    refine ⟨x', q1, ?_⟩
    rcases q2 with ⟨hi, rfl⟩ | ⟨_, q2⟩
    · rw [Nat.zero_add] at hi
      subst hi
      rw [hb] at hx; cases hx
      rfl
    · exact q2.kind
  have hold : ∀ {i : Nat} {x' : Blk}, H'[i]? = some x' → ∃ x, c.H[i]? = some x ∧ x'.kind = x.kind ∧ ((i = b ∧ x' = .sb (l ++ s.data.toList)) ∨ (i ≠ b ∧ Kept x x')) := by
    intro i x' hx
    have hlt := (List.getElem?_eq_some_iff.1 hx).1
    rw [hlen] at hlt
    have hx0 := List.getElem?_eq_getElem hlt
    obtain ⟨x1, q1, q2⟩ := hback i _ hx0
    obtain ⟨x2, q3, q4⟩ := hkind i _ hx0
    rw [hx] at q1 q3
    cases q1; cases q3
    rw [Nat.zero_add] at q2
    exact ⟨_, hx0, q4, q2⟩
  have hsame : ∀ q, c.X q → q ≠ r → w'.heap[q]? = c.w.heap[q]? := fun q hq hne => g3 q (hh.small q hq) hne fun hs => hbuf q hs hq
  refine ⟨_, .any, ⟨c.φ, c.X, H', w'⟩, tm.map keepV, rfl, rfl, hk, ?_, ?_, .any _, ?_⟩
  · exact {
      os := g2.os.trans hf.os
      tape := g2.tape.trans hf.tape
      output := g2.output.trans hf.output
      size := Nat.le_trans hf.size g2.size
      keep := fun q hq hno => (g2.block q (by omega)).trans (hf.keep q hq hno)
      shape := fun q hq => (shape_of_heap (g2.block q (by omega))).trans (hf.shape q hq)
      X := fun q hq => hf.X q hq
      blocks := fun i x hi => by
        obtain ⟨x1, q1, q2, q3⟩ := hf.blocks i x hi
        obtain ⟨x2, q4, q5⟩ := hkind i x1 q1
        exact ⟨x2, q4, q5.trans q2, q3⟩
      img := fun i x q o hi hx hlx hφ' => by
        obtain ⟨x1, q1, q2, _⟩ := hold hx
        exact hf.img i x1 q o hi q1 (by rw [← live_kind q2]; exact hlx) hφ' }
  · refine ⟨fun i x hi hlx => ?_, fun q hq => Nat.lt_of_lt_of_le (hh.small q hq) g2.size, fun i i' x x' q o o' hi hlx hi' hlx' h1 h2 => ?_⟩
    · obtain ⟨x1, q1, q2, q3⟩ := hold hi
      have hl1 : x1.live = true := by rw [← live_kind q2]; exact hlx
      rcases q3 with ⟨rfl, rfl⟩ | ⟨hne, q3⟩
      · refine .inr ⟨r, 0, hφ, hX, rfl, T, e, hT, g1, fun g hg hxg => ?_⟩
        rcases g4 g hg with h | h
        · exact hbuf g h hxg
        · have := hh.small g hxg
          omega
      · rcases hh.holds i x1 q1 hl1 with ⟨v1, v2⟩ | ⟨q, o, v1, v2, v3⟩
        · refine .inl ⟨?_, v2⟩
          rcases q3 with ⟨cs, rfl, rfl⟩ | ⟨kk, l, rfl, rfl⟩ | ⟨rfl, rfl⟩
          · exact v1.elim
          · exact v1
          · cases hl1
        · have hqr : q ≠ r := fun e => hne (hh.inj i b x1 _ q o 0 q1 hl1 hb rfl v1 (by rw [e]; exact hφ))
          refine .inr ⟨q, o, v1, v2, ?_⟩
          have hs := hsame q v2 hqr
          rcases q3 with ⟨cs, rfl, rfl⟩ | ⟨kk, l, rfl, rfl⟩ | ⟨rfl, rfl⟩
          · obtain ⟨us, t, fr, a1, a2, a3, a4⟩ := v3
            refine ⟨us, t, fr, hs.trans a1, a2, by simpa using a3, fun j v u b1 b2 => ?_⟩
            rw [List.getElem?_map] at b1
            obtain ⟨v0, hv0, rfl⟩ := Option.map_eq_some_iff.1 b1
            exact keepV_rel (c := c) (c' := ⟨c.φ, c.X, H', w'⟩) hkind rfl (a4 j v0 u hv0 b2)
          · obtain ⟨us, t, fr, a1, a2⟩ := v3
            exact ⟨us, t, fr, hs.trans a1, a2⟩
          · cases hl1
    · obtain ⟨x1, q1, q2, _⟩ := hold hi
      obtain ⟨x2, q3, q4, _⟩ := hold hi'
      exact hh.inj i i' x1 x2 q o o' q1 (by rw [← live_kind q2]; exact hlx) q3 (by rw [← live_kind q4]; exact hlx') h1 h2
  · refine ⟨by simpa using ht.1, fun i v u a1 a2 => ?_⟩
    rw [List.getElem?_map] at a1
    obtain ⟨v0, hv0, rfl⟩ := Option.map_eq_some_iff.1 a1
    exact keepV_rel (c := c) (c' := ⟨c.φ, c.X, H', w'⟩) hkind rfl (ht.2 i v0 u hv0 a2)

/-- What is known of values wherever they are. -/
def flatV (v : AVal) : AVal := match v.flat0 with | true => v | false => .any
def flatL : List AVal → (List AVal → Prop) → Prop
  | [], k => k []
  | v :: r, k => force (flatV v) fun v' => flatL r fun r' => k (v' :: r')
theorem flatL_iff {l : List AVal} {k : List AVal → Prop} : flatL l k ↔ k (l.map flatV) := by
  induction l generalizing k with
  | nil => exact Iff.rfl
  | cons v r ih => simp only [flatL, force_iff, ih, List.map_cons]
/-- The string that a strings.Builder of the function's own holds; nothing is known of memory behind it. -/
theorem callT_sbs {T e : TypeId} (hT : seatSB = some (T, e)) (he : Enters P f) {l : List UInt8}
    (hs : ∀ (r : Nat) (l : List UInt8) (w : World), Lib.IsBuilderF T e r r (Lib.byteCells l) w → r ≤ w.heap.size →
      Calls P f #[.pointer (some ⟨r, 0, none⟩)] w fun ee w' => ee = .returned (.string ⟨l.toArray⟩) ∧ Below r w w')
    (b : Nat) (hb : H[b]? = some (.sb l)) (hk : flatL tm fun tm' => k tm' (.str ⟨l.toArray⟩) []) : callT P 0 f [.ptr ⟨b, 0, 0⟩] tm H k := by
  rw [callT_iff]
  refine ⟨he, ?_⟩
  rintro c0 c us vals hn0 hg hf rfl hh ha ht
  rw [flatL_iff] at hk
  obtain ⟨u0, hus⟩ : ∃ u0, us = #[u0] := by
    have := ha.1
    match us, this with
    | ⟨[u0]⟩, _ => exact ⟨u0, rfl⟩
  subst hus
  have h0 := ha.2 0 _ u0 rfl rfl
  obtain ⟨r, o, hφ, rfl⟩ : ∃ r o, c.φ b = some (r, o) ∧ u0 = .pointer (some ⟨r, o + 0, none⟩) := by
    cases h0 with
    | closed h => cases h
    | ptr q1 q2 =>
      rw [hb] at q1; cases q1
      obtain ⟨r, o, q3, q4⟩ := q2 rfl
      exact ⟨r, o, q3, by rw [q4]; rfl⟩
  obtain ⟨hX, hold⟩ := hh.at_ hb rfl hφ
  obtain ⟨rfl, T', e', hT', hB, hbuf⟩ := hold
  rw [hT] at hT'
  cases hT'
  have hr0 : c0.w.heap.size ≤ r := hf.img b _ r 0 (by omega) hb rfl hφ
  have hr1 : r < c.w.heap.size := hh.small r hX
  have hnil : c0.H = [] := List.eq_nil_of_length_eq_zero hn0
  refine (hs r l c.w hB (Nat.le_of_lt hr1)).mono ?_
  rintro ee w' ⟨rfl, g2⟩
  refine ⟨_, .str ⟨l.toArray⟩, ⟨fun _ => none, c.X, [], w'⟩, tm.map flatV, rfl, rfl, hk, ?_, ?_, .mk_str _ _, ?_⟩
  · exact {
      os := g2.os.trans hf.os
      tape := g2.tape.trans hf.tape
      output := g2.output.trans hf.output
      size := Nat.le_trans hf.size g2.size
      keep := fun q hq hno => (g2.block q (by omega)).trans (hf.keep q hq hno)
      shape := fun q hq => (shape_of_heap (g2.block q (by omega))).trans (hf.shape q hq)
      X := fun q hq => hf.X q hq
      blocks := fun i x hi => by rw [hnil] at hi; simp at hi
      img := fun i x q o hi hx hlx hφ' => by simp at hx }
  · exact ⟨fun i x hi => by simp at hi, fun q hq => Nat.lt_of_lt_of_le (hh.small q hq) g2.size, fun i i' x x' q o o' hi => by simp at hi⟩
  · refine ⟨by simpa using ht.1, fun i v u a1 a2 => ?_⟩
    rw [List.getElem?_map] at a1
    obtain ⟨v0, hv0, rfl⟩ := Option.map_eq_some_iff.1 a1
    unfold flatV
    split
    · rename_i hv
      exact flat0_rel (ht.2 i v0 u hv0 a2) hv
    · exact .any _

/-- A contract out of a walk that leaves what was there, over whatever blocks. -/
theorem callN_of_walk {args : List AVal} {R : AVal → Prop} (he : Enters P f)
    (h : ∀ (c : Cx) (us : Array Value), c.H = H → HRel c → CRel c args us.toList → Calls P f us c.w fun e w' => ∃ u v, e = .returned u ∧ Below c.w.heap.size c.w w' ∧ (∀ c', VRel c' v u) ∧ R v) : callN P f args H fun v H' => R v ∧ H' = H := by
  rw [callN_iff]
  refine ⟨he, ?_⟩
  rintro c us hH hg hh ha
  refine (h c us hH hh ha).mono ?_
  rintro e w' ⟨u, v, rfl, hb, hv, hR⟩
  have hf : Fr c { c with w := w' } := {
    os := hb.os
    tape := hb.tape
    output := hb.output
    size := hb.size
    keep := fun r hr _ => hb.block r hr
    shape := fun r hr => shape_of_heap (hb.block r hr)
    X := fun r _ => Iff.rfl
    blocks := fun b blk hb => ⟨blk, hb, rfl, rfl⟩
    img := fun b blk r o hi hb _ _ => by have := (List.getElem?_eq_some_iff.1 hb).1; exact absurd this (Nat.not_lt.2 hi) }
  refine ⟨u, v, { c with w := w' }, rfl, rfl, ⟨hR, hH⟩, hf, ⟨fun b blk hb' hl => ?_, fun r hr => Nat.lt_of_lt_of_le (hh.small r hr) hb.size, hh.inj⟩, hv _⟩
  rcases hh.holds b blk hb' hl with h0 | ⟨r, o, h1, h2, h3⟩
  · exact .inl h0
  · exact .inr ⟨r, o, h1, h2, h3.mono hf hh.img (hb.block r (hh.small r h2))⟩
end
end Go.E
