/- The engine, part zj: a nil result seen as an empty own block. -/
import Derived.Test.YthedobkhfdpdaaaE4
import Derived.OpenShut
import Derived.Deep.Strs
import Derived.Lib.LaidTab
import Derived.Handed
set_option linter.unusedVariables false
set_option linter.unusedSimpArgs false
namespace Go.E
end Go.E
namespace Go.E
theorem callT_part {P : Program} {n0 : Nat} {f : FuncId} {args tm : List AVal} {H : Heap} {k : List AVal → AVal → Heap → Prop} (sel : List Nat) {R : AVal → Heap → Prop} (hs : selOK' H.length sel = true)
    (h : callN P f (args.map (renS sel)) (selH sel H) R) (hk : ∀ v H', R v H' → ∀ x G, x = backV sel H.length v → G = mergeH H sel H' → k tm x G) : callT P n0 f args tm H k :=
  callT_frame sel hs h fun v H' hR => hk v H' hR _ _ rfl rfl
end Go.E
namespace Go.E
section
variable {P : Program} {c : Cx} {b : Nat} {cs : List AVal}
end
end Go.E
namespace Go.E
inductive Plan where
  | done
  | pick (x : Nat) (p : Plan)
  | fork (x y : Nat) (p q : Plan)
  | fork3 (x y z : Nat) (p q r : Plan)
  | alts (q : Plan)
  | alt (x : Nat) (p q : Plan)
  | stop
def picks : List Nat → Plan → Plan
  | [], p => p
  | x :: l, p => .pick x (picks l p)
def opB (all : List Oper) (x : Nat) : Bool := match all[x]? with
  | some o => okO o.op || appO o.op
  | none => false
def pickG (all : List Oper) (tbl : List Nat) (R : List Nat) (x : Nat) : Bool :=
  R.contains x && readyB all R x && (match all[x]? with
    | some o => (okO o.op || appO o.op) && R.all fun z => Nat.beq z x || (tbl.getD z 0).testBit x || (match all[z]? with | some oz => passesG all o oz | none => false)
    | none => false)
def okT (all : List Oper) (tbl : List Nat) : Plan → List Nat → Option (List Nat) → Bool
  | .done, R, none => R.isEmpty
  | .pick x p, R, none => pickG all tbl R x && okT all tbl p (R.erase x) none
  | .fork x y p q, R, none => (R.all fun z => !(readyB all R z) || Nat.beq z x || Nat.beq z y) && R.contains x && readyB all R x && opB all x && opB all y && okT all tbl p (R.erase x) none && okT all tbl q (R.erase y) none
  | .fork3 x y z p q r, R, none => (R.all fun w => !(readyB all R w) || Nat.beq w x || Nat.beq w y || Nat.beq w z) && R.contains x && readyB all R x && opB all x && opB all y && opB all z && okT all tbl p (R.erase x) none && okT all tbl q (R.erase y) none && okT all tbl r (R.erase z) none
  | .alts q, R, none => (R.any fun z => readyB all R z) && okT all tbl q R (some [])
  | .alt x p q, R, some l => opB all x && okT all tbl p (R.erase x) none && okT all tbl q R (some (x :: l))
  | .stop, R, some l => R.all fun z => !(readyB all R z) || l.contains z
  | _, _, _ => false
def treeOK (all : List Oper) (plan : Plan) : Bool :=
  ((List.range all.length).all fun i => (predsAt all i).all fun p => Nat.blt p all.length) && okT all (befTbl all []) plan (List.range all.length) none
def stepG (C : CallH) (T : TEnv) (n0 : Nat) (all : List Oper) (o : Oper) (tm : List AVal) (H : Heap) (K : List AVal → Heap → Prop) : Prop :=
  match o.guard with
  | none => opW C T n0 o.op tm H fun tm v H => putW tm o.dst v fun tm => K tm H
  | some (j, want) =>
    match dstOf all j with
    | none => False
    | some d => (match tm.getD d .any with
      | .bool b => branch b
          (setL tm d (.bool true) fun tm => match want with
            | true => opW C T n0 o.op tm H fun tm v H => putW tm o.dst v fun tm => K tm H
            | false => putW tm o.dst (.tuple []) fun tm => K tm H)
          (setL tm d (.bool false) fun tm => match want with
            | false => opW C T n0 o.op tm H fun tm v H => putW tm o.dst v fun tm => K tm H
            | true => putW tm o.dst (.tuple []) fun tm => K tm H)
      | .tuple [] => putW tm o.dst (.tuple []) fun tm => K tm H
      | _ => False)
def runT (C : CallH) (T : TEnv) (n0 : Nat) (all : List Oper) : Plan → List AVal → Heap → (List AVal → Heap → Prop) → Prop
  | .done, tm, H, Q => Q tm H
  | .pick x p, tm, H, Q => match all[x]? with
    | some o => stepG C T n0 all o tm H fun tm H => runT C T n0 all p tm H Q
    | none => False
  | .fork x y p q, tm, H, Q => (match all[x]? with
    | some o => stepG C T n0 all o tm H fun tm H => runT C T n0 all p tm H Q
    | none => False) ∧ (match all[y]? with
    | some o => stepG C T n0 all o tm H fun tm H => runT C T n0 all q tm H Q
    | none => False)
  | .fork3 x y z p q r, tm, H, Q => (match all[x]? with
    | some o => stepG C T n0 all o tm H fun tm H => runT C T n0 all p tm H Q
    | none => False) ∧ (match all[y]? with
    | some o => stepG C T n0 all o tm H fun tm H => runT C T n0 all q tm H Q
    | none => False) ∧ (match all[z]? with
    | some o => stepG C T n0 all o tm H fun tm H => runT C T n0 all r tm H Q
    | none => False)
  | .alts q, tm, H, Q => runT C T n0 all q tm H Q
  | .alt x p q, tm, H, Q => (match all[x]? with
    | some o => stepG C T n0 all o tm H fun tm H => runT C T n0 all p tm H Q
    | none => False) ∧ runT C T n0 all q tm H Q
  | .stop, _, _, _ => True
section
variable {P : Program} {T : TEnv} {n0 : Nat} {all : List Oper}
theorem set_same {tm : List AVal} {d : Nat} {v : AVal} (h : tm.getD d .any = v) (hv : v ≠ .any) : tm.set d v = tm := by
  refine List.ext_getElem? fun i => ?_
  rw [List.getElem?_set]
  split
  · rename_i e
    subst e
    rw [List.getD_eq_getElem?_getD] at h
    cases hg : tm[d]? with
    | none => rw [hg] at h; exact absurd h.symm hv
    | some w =>
      rw [hg] at h
      have hlt := (List.getElem?_eq_some_iff.1 hg).1
      simp only [Option.getD_some] at h
      rw [h]
      split
      · rfl
      · rename_i hn; exact absurd hlt hn
  · rfl
theorem stepG_one {o : Oper} {tm : List AVal} {H : Heap} {K : List AVal → Heap → Prop} (h : stepG (detC P) T n0 all o tm H K) : oneG P T n0 all o tm H K := by
  unfold stepG at h
  unfold oneG statG
  cases hg : o.guard with
  | none => rw [hg] at h; exact h
  | some g =>
    obtain ⟨j, want⟩ := g
    rw [hg] at h
    simp only at h ⊢
    cases hd : dstOf all j with
    | none => rw [hd] at h; exact h.elim
    | some d =>
      rw [hd] at h
      simp only at h ⊢
      split at h
      · rename_i b hb
        have h := branch_at h
        have e := set_same hb (fun h => by cases h)
        rw [hb]
        cases b <;> cases want <;> simp only [setL_iff, e, if_true, Bool.false_eq_true, if_false] at h <;> simp only [beq_self_eq_true]
        · exact h
        · exact putW_iff.1 h
        · exact putW_iff.1 h
        · exact h
      · rename_i hb
        rw [hb]
        exact putW_iff.1 h
      · exact h.elim
theorem oneG_mono' {o : Oper} (hc : (okO o.op || appO o.op) = true) {tm : List AVal} {H : Heap} {K K' : List AVal → Heap → Prop} (h : oneG P T n0 all o tm H K) (hk : ∀ tm H, K tm H → K' tm H) : oneG P T n0 all o tm H K' := by
  unfold oneG at h ⊢
  split at h
  · exact h.elim
  · exact one_mono' hc h hk
  · exact hk _ _ h
theorem tree_ok {tbl : List Nat} (ht : TblOK all tbl) {Q0 Q : List AVal → Heap → Prop} (hQ : ∀ tm H, Q0 tm H → ∃ tm' H', WeakS n0 tm H tm' H' ∧ Q tm' H') : ∀ (plan : Plan) (R : List Nat) (tm : List AVal) (H : Heap), (okT all tbl plan R none = true → runT (detC P) T n0 all plan tm H Q0 → exploreG P T n0 all R.length R tm H Q) ∧
    ∀ l, okT all tbl plan R (some l) = true → runT (detC P) T n0 all plan tm H Q0 → ∀ z ∈ R, ReadyR all R z → z ∈ l ∨ ∃ o, all[z]? = some o ∧ oneG P T n0 all o tm H fun tm H => exploreG P T n0 all (R.erase z).length (R.erase z) tm H Q := by
  intro plan
  induction plan with
  | done =>
    refine fun R tm H => ⟨fun hp h => ?_, fun l hp => by simp [okT] at hp⟩
    have : R = [] := by simpa [okT] using hp
    subst this
    exact ⟨rfl, hQ _ _ h⟩
  | pick x p ih =>
    refine fun R tm H => ⟨fun hp h => ?_, fun l hp => by simp [okT] at hp⟩
    simp only [okT, Bool.and_eq_true] at hp
    obtain ⟨hpick, hp⟩ := hp
    simp only [pickG, Bool.and_eq_true] at hpick
    obtain ⟨⟨hx, hr⟩, hpick⟩ := hpick
    have hx' : x ∈ R := by simpa using hx
    have hlen := List.length_erase_of_mem hx'
    have hpos := List.length_pos_of_mem hx'
    have el : R.length = (R.erase x).length + 1 := by omega
    simp only [runT] at h
    split at h
    · rename_i o ho
      rw [ho] at hpick
      simp only [Bool.and_eq_true] at hpick
      obtain ⟨hok, hpick⟩ := hpick
      rw [el]
      refine .inl ⟨x, o, hx', fun q hq => ?_, ho, fun z hz hzx => ?_, ?_⟩
      · have := List.all_eq_true.1 hr q hq
        simpa using this
      · have := List.all_eq_true.1 hpick z hz
        simp only [Bool.or_eq_true] at this
        rcases this with (h1 | h1) | h1
        · exact absurd (Nat.eq_of_beq_eq_true h1) hzx
        · exact .inl (ht z x h1)
        · split at h1
          · rename_i oz hoz
            exact .inr ⟨oz, hoz, h1⟩
          · cases h1
      · exact oneG_mono' hok (stepG_one h) fun tm H h => (ih (R.erase x) tm H).1 hp h
    · exact h.elim
  | fork x y p q ihp ihq =>
    refine fun R tm H => ⟨fun hp h => ?_, fun l hp => by simp [okT] at hp⟩
    simp only [okT, Bool.and_eq_true] at hp
    obtain ⟨⟨⟨⟨⟨⟨hall, hx⟩, hr⟩, hox⟩, hoy⟩, hp⟩, hq⟩ := hp
    have hx' : x ∈ R := by simpa using hx
    have hlen := List.length_erase_of_mem hx'
    have hpos := List.length_pos_of_mem hx'
    have el : R.length = (R.erase x).length + 1 := by omega
    obtain ⟨h1, h2⟩ := h
    rw [el]
    refine .inr ⟨⟨x, hx', fun q hq => ?_⟩, fun z hz hrz => ?_⟩
    · have := List.all_eq_true.1 hr q hq
      simpa using this
    · have hzl := List.length_erase_of_mem hz
      have ez : (R.erase x).length = (R.erase z).length := by omega
      have hrb : readyB all R z = true := by
        unfold readyB
        rw [List.all_eq_true]
        intro p hp
        have := hrz p hp
        simpa using this
      have := List.all_eq_true.1 hall z hz
      rw [hrb] at this
      simp only [Bool.not_true, Bool.false_or, Bool.or_eq_true] at this
      rw [ez]
      rcases this with hzx | hzy
      · have := Nat.eq_of_beq_eq_true hzx
        subst this
        unfold opB at hox
        split at h1
        · rename_i o ho
          rw [ho] at hox
          exact ⟨o, ho, oneG_mono' hox (stepG_one h1) fun tm H h => (ihp (R.erase z) tm H).1 hp h⟩
        · exact h1.elim
      · have := Nat.eq_of_beq_eq_true hzy
        subst this
        unfold opB at hoy
        split at h2
        · rename_i o ho
          rw [ho] at hoy
          exact ⟨o, ho, oneG_mono' hoy (stepG_one h2) fun tm H h => (ihq (R.erase z) tm H).1 hq h⟩
        · exact h2.elim
  | fork3 x y z0 p q r ihp ihq ihr =>
    refine fun R tm H => ⟨fun hp h => ?_, fun l hp => by simp [okT] at hp⟩
    simp only [okT, Bool.and_eq_true] at hp
    obtain ⟨⟨⟨⟨⟨⟨⟨⟨hall, hx⟩, hr⟩, hox⟩, hoy⟩, hoz⟩, hp⟩, hq⟩, hr2⟩ := hp
    have hx' : x ∈ R := by simpa using hx
    have hlen := List.length_erase_of_mem hx'
    have hpos := List.length_pos_of_mem hx'
    have el : R.length = (R.erase x).length + 1 := by omega
    obtain ⟨h1, h2, h3⟩ := h
    rw [el]
    refine .inr ⟨⟨x, hx', fun q hq => ?_⟩, fun z hz hrz => ?_⟩
    · have := List.all_eq_true.1 hr q hq
      simpa using this
    · have hzl := List.length_erase_of_mem hz
      have ez : (R.erase x).length = (R.erase z).length := by omega
      have hrb : readyB all R z = true := by
        unfold readyB
        rw [List.all_eq_true]
        intro p hp
        have := hrz p hp
        simpa using this
      have := List.all_eq_true.1 hall z hz
      rw [hrb] at this
      simp only [Bool.not_true, Bool.false_or, Bool.or_eq_true] at this
      rw [ez]
      rcases this with (hzx | hzy) | hzz
      · have := Nat.eq_of_beq_eq_true hzx
        subst this
        unfold opB at hox
        split at h1
        · rename_i o ho
          rw [ho] at hox
          exact ⟨o, ho, oneG_mono' hox (stepG_one h1) fun tm H h => (ihp (R.erase z) tm H).1 hp h⟩
        · exact h1.elim
      · have := Nat.eq_of_beq_eq_true hzy
        subst this
        unfold opB at hoy
        split at h2
        · rename_i o ho
          rw [ho] at hoy
          exact ⟨o, ho, oneG_mono' hoy (stepG_one h2) fun tm H h => (ihq (R.erase z) tm H).1 hq h⟩
        · exact h2.elim
      · have := Nat.eq_of_beq_eq_true hzz
        subst this
        unfold opB at hoz
        split at h3
        · rename_i o ho
          rw [ho] at hoz
          exact ⟨o, ho, oneG_mono' hoz (stepG_one h3) fun tm H h => (ihr (R.erase z) tm H).1 hr2 h⟩
        · exact h3.elim
  | alts q ihq =>
    refine fun R tm H => ⟨fun hp h => ?_, fun l hp => by simp [okT] at hp⟩
    simp only [okT, Bool.and_eq_true] at hp
    obtain ⟨hany, hp⟩ := hp
    have key := (ihq R tm H).2 [] hp h
    obtain ⟨x, hx, hr⟩ := List.any_eq_true.1 hany
    have hlen := List.length_erase_of_mem hx
    have hpos := List.length_pos_of_mem hx
    have el : R.length = (R.erase x).length + 1 := by omega
    rw [el]
    refine .inr ⟨⟨x, hx, fun q hq => ?_⟩, fun z hz hrz => ?_⟩
    · have := List.all_eq_true.1 hr q hq
      simpa using this
    · have hzl := List.length_erase_of_mem hz
      have ez : (R.erase x).length = (R.erase z).length := by omega
      rw [ez]
      exact (key z hz hrz).resolve_left (by simp)
  | alt x p q ihp ihq =>
    refine fun R tm H => ⟨fun hp => by simp [okT] at hp, fun l hp h z hz hrz => ?_⟩
    simp only [okT, Bool.and_eq_true] at hp
    obtain ⟨⟨hox, hp⟩, hq⟩ := hp
    obtain ⟨h1, h2⟩ := h
    rcases (ihq R tm H).2 (x :: l) hq h2 z hz hrz with hm | hm
    · rcases List.mem_cons.1 hm with e | hm
      · subst e
        right
        unfold opB at hox
        split at h1
        · rename_i o ho
          rw [ho] at hox
          exact ⟨o, ho, oneG_mono' hox (stepG_one h1) fun tm H h => (ihp (R.erase z) tm H).1 hp h⟩
        · exact h1.elim
      · exact .inl hm
    · exact .inr hm
  | stop =>
    refine fun R tm H => ⟨fun hp => by simp [okT] at hp, fun l hp h z hz hrz => ?_⟩
    left
    have hrb : readyB all R z = true := by
      unfold readyB
      rw [List.all_eq_true]
      intro p hp
      have := hrz p hp
      simpa using this
    have := List.all_eq_true.1 hp z hz
    rw [hrb] at this
    simpa using this
theorem draw_tree (plan : Plan) {tm : List AVal} {H : Heap} {Q : List AVal → Heap → Prop} (hp : treeOK all plan = true) (h : runT (detC P) T n0 all plan tm H Q) : drawN P T n0 all tm H Q := by
  unfold drawN
  simp only [treeOK, Bool.and_eq_true] at hp
  obtain ⟨h2, h3⟩ := hp
  refine ⟨tm, H, WeakS.refl _ _ _, fun i p hpi => ?_, .inr (.inl ?_)⟩
  · by_cases hi : i < all.length
    · have := List.all_eq_true.1 (List.all_eq_true.1 h2 i (List.mem_range.2 hi)) p hpi
      have : p + 1 ≤ all.length := Nat.le_of_ble_eq_true this
      omega
    · simp only [predsAt, List.getElem?_eq_none (Nat.le_of_not_lt hi)] at hpi
      cases hpi
  · have := (tree_ok (P := P) (T := T) (n0 := n0) (Q0 := Q) (Q := Q) (tbl_ok all [] [] rfl rfl (fun z x h => by simp at h)) (fun tm H h => ⟨tm, H, WeakS.refl _ _ _, h⟩) plan (List.range all.length) tm H).1 h3 h
    rw [List.length_range] at this
    exact this
@[irreducible] def endN (n0 : Nat) (Q : List AVal → Heap → Prop) (tm : List AVal) (H : Heap) : Prop := ∃ tm' H', WeakS n0 tm H tm' H' ∧ Q tm' H'
theorem end_weak {n0 : Nat} {tm tm' : List AVal} {H H' : Heap} {Q : List AVal → Heap → Prop} (hw : WeakS n0 tm H tm' H') (h : Q tm' H') : endN n0 Q tm H := by
  unfold endN
  exact ⟨tm', H', hw, h⟩
theorem draw_treeW (plan : Plan) {tm : List AVal} {H : Heap} {Q : List AVal → Heap → Prop} (hp : treeOK all plan = true) (h : runT (detC P) T n0 all plan tm H (endN n0 Q)) : drawN P T n0 all tm H Q := by
  unfold drawN
  simp only [treeOK, Bool.and_eq_true] at hp
  obtain ⟨h2, h3⟩ := hp
  refine ⟨tm, H, WeakS.refl _ _ _, fun i p hpi => ?_, .inr (.inl ?_)⟩
  · by_cases hi : i < all.length
    · have := List.all_eq_true.1 (List.all_eq_true.1 h2 i (List.mem_range.2 hi)) p hpi
      have : p + 1 ≤ all.length := Nat.le_of_ble_eq_true this
      omega
    · simp only [predsAt, List.getElem?_eq_none (Nat.le_of_not_lt hi)] at hpi
      cases hpi
  · have := (tree_ok (P := P) (T := T) (n0 := n0) (Q0 := endN n0 Q) (Q := Q) (tbl_ok all [] [] rfl rfl (fun z x h => by simp at h)) (fun tm H h => by unfold endN at h; exact h) plan (List.range all.length) tm H).1 h3 h
    rw [List.length_range] at this
    exact this
def lastW (P : Program) (T : TEnv) (n0 : Nat) (all : List Oper) (m : Nat) (Q : List AVal → Heap → Prop) (tm : List AVal) (H : Heap) : Prop := match all[m]? with
  | some o => (match o.guard with
    | none => opW (callT P n0) T n0 o.op tm H fun tm v H => putW tm o.dst v fun tm => Q tm H
    | some _ => False)
  | none => False
def okL (all : List Oper) (tbl : List Nat) (m : Nat) : List Nat → List Nat → Bool
  | [], R => R == [m]
  | x :: p, R => pickG all tbl R x && okL all tbl m p (R.erase x)
def lastOK (all : List Oper) (m : Nat) (plan : List Nat) : Bool :=
  ((List.range all.length).all fun i => (predsAt all i).all fun p => Nat.blt p all.length) && !(predsAt all m).contains m && ((List.range all.length).all fun i => Nat.beq i m || ((befTbl all []).getD m 0).testBit i) &&
    Nat.beq all.length (plan.length + 1) && okL all (befTbl all []) m plan (List.range all.length)
theorem list_okL {tbl : List Nat} (ht : TblOK all tbl) {m : Nat} (hl : LastOp all m) {Q : List AVal → Heap → Prop} : ∀ (plan R : List Nat) (tm : List AVal) (H : Heap), okL all tbl m plan R = true → runT (detC P) T n0 all (picks plan .done) tm H (lastW P T n0 all m Q) → exploreL P T n0 all plan.length R tm H Q := by
  intro plan
  induction plan with
  | nil =>
    intro R tm H hp h
    have : R = [m] := by simpa [okL] using hp
    subst this
    simp only [picks, runT, lastW] at h
    split at h
    · rename_i o ho
      split at h
      · rename_i hg
        exact ⟨m, o, rfl, hl, ho, hg, h⟩
      · exact h.elim
    · exact h.elim
  | cons x p ih =>
    intro R tm H hp h
    simp only [okL, Bool.and_eq_true] at hp
    obtain ⟨hpick, hp⟩ := hp
    simp only [pickG, Bool.and_eq_true] at hpick
    obtain ⟨⟨hx, hr⟩, hpick⟩ := hpick
    have hx' : x ∈ R := by simpa using hx
    simp only [picks, runT] at h
    split at h
    · rename_i o ho
      rw [ho] at hpick
      simp only [Bool.and_eq_true] at hpick
      obtain ⟨hok, hpick⟩ := hpick
      refine .inl ⟨x, o, hx', fun q hq => ?_, ho, fun z hz hzx => ?_, ?_⟩
      · have := List.all_eq_true.1 hr q hq
        simpa using this
      · have := List.all_eq_true.1 hpick z hz
        simp only [Bool.or_eq_true] at this
        rcases this with (h1 | h1) | h1
        · exact absurd (Nat.eq_of_beq_eq_true h1) hzx
        · exact .inl (ht z x h1)
        · split at h1
          · rename_i oz hoz
            exact .inr ⟨oz, hoz, h1⟩
          · cases h1
      · exact oneG_mono' hok (stepG_one h) fun tm H h => ih (R.erase x) tm H hp h
    · exact h.elim
theorem draw_last (m : Nat) (plan : List Nat) {tm : List AVal} {H : Heap} {Q : List AVal → Heap → Prop} (hp : lastOK all m plan = true) (h : runT (detC P) T n0 all (picks plan .done) tm H (lastW P T n0 all m Q)) : drawN P T n0 all tm H Q := by
  unfold drawN
  simp only [lastOK, Bool.and_eq_true] at hp
  obtain ⟨⟨⟨⟨h1, h2⟩, h3⟩, h4⟩, h5⟩ := hp
  have ht := tbl_ok all [] [] rfl rfl (fun z x h => by simp at h)
  have hl : LastOp all m := by
    refine ⟨fun hm => ?_, fun i hi hne => ?_⟩
    · simp only [Bool.not_eq_true'] at h2
      rw [List.contains_iff_mem.2 hm] at h2
      cases h2
    · have := List.all_eq_true.1 h3 i (List.mem_range.2 hi)
      simp only [Bool.or_eq_true] at this
      rcases this with h | h
      · exact absurd (Nat.eq_of_beq_eq_true h) hne
      · exact ht m i h
  refine ⟨tm, H, WeakS.refl _ _ _, fun i p hpi => ?_, .inr (.inr ⟨plan.length, Nat.eq_of_beq_eq_true h4, ?_⟩)⟩
  · by_cases hi : i < all.length
    · have := List.all_eq_true.1 (List.all_eq_true.1 h1 i (List.mem_range.2 hi)) p hpi
      have : p + 1 ≤ all.length := Nat.le_of_ble_eq_true this
      omega
    · simp only [predsAt, List.getElem?_eq_none (Nat.le_of_not_lt hi)] at hpi
      cases hpi
  · exact list_okL (P := P) (T := T) (n0 := n0) ht hl plan (List.range all.length) tm H h5 h
end
end Go.E
namespace Go.E
open Go.ChangeShapes Go.WideShapes Go.ChangeAt Go.RowKit Go.ChangeMaps
def aggL (f : Nat → Int) : List IntKind → Nat → List AVal
  | [], _ => []
  | k :: r, i => .int k (f i) :: aggL f r (i + 1)
def HasL (ks : List IntKind) (f : Nat → Int) : Prop := ∀ i, i < ks.length → (ks.getD i .u8).has (f i)
theorem aggL_len (f : Nat → Int) : ∀ (ks : List IntKind) (i : Nat), (aggL f ks i).length = ks.length
  | [], _ => rfl
  | _ :: r, i => by simp [aggL, aggL_len f r (i + 1)]
theorem aggL_get (f : Nat → Int) : ∀ (ks : List IntKind) (i j : Nat), (aggL f ks i)[j]? = (ks[j]?).map fun k => .int k (f (i + j))
  | [], _, _ => by simp [aggL]
  | k :: r, i, 0 => by simp [aggL]
  | k :: r, i, j + 1 => by
    simp only [aggL, List.getElem?_cons_succ, aggL_get f r (i + 1) j]
    congr 1
    funext k
    congr 2
    omega
section
variable {P : Program}
def numV : Value → Int
  | .int _ n => n
  | _ => 0
theorem has_u8 {n : Int} (h : IntKind.u8.has n) : 0 ≤ n ∧ n < 256 := by
  simp [IntKind.has, IntKind.min, IntKind.max, IntKind.signed, IntKind.bits] at h
  omega
theorem has_i64 {n : Int} (h : IntKind.i64.has n) : -9223372036854775808 ≤ n ∧ n ≤ 9223372036854775807 := by
  simp [IntKind.has, IntKind.min, IntKind.max, IntKind.signed, IntKind.bits] at h
  omega
end
end Go.E
namespace Go.E
open Go.ChangeShapes Go.WideShapes Go.ChangeAt Go.RowKit Go.ChangeMaps
def repK : Nat → List IntKind → List IntKind
  | 0, _ => []
  | n + 1, ks => ks ++ repK n ks
inductive FlatT (P : Program) : TypeId → List IntKind → Prop
  | int {t : TypeId} {k : IntKind} (h : P.underlying t = some (.int k)) : FlatT P t [k]
  | arr {t e : TypeId} {n : Nat} {ks : List IntKind} (h : P.underlying t = some (.array n e)) (he : FlatT P e ks) (hc : P.cellsOf e = ks.length) : FlatT P t (repK n ks)
section
variable {H : Type} {enc : TypeId × Value → H} {P : Program} {w : World} {base : Nat} {spare : Nat → Bool} {held : Bool}
theorem add_add (r o x y : Nat) : ((⟨r, o, none⟩ : Addr).add x).add y = (⟨r, o, none⟩ : Addr).add (x + y) := by
  unfold Addr.add
  by_cases hx : x = 0 <;> by_cases hy : y = 0 <;> simp [hx, hy]
  omega
theorem wf_has {k : IntKind} {n : Int} (h : (Lit.int k n).wf = true) : k.has n := by
  simp only [Lit.wf, Bool.and_eq_true, decide_eq_true_eq] at h
  exact h
end
end Go.E
namespace Go.E
open Go.ChangeShapes Go.WideShapes Go.ChangeAt Go.RowKit Go.ChangeMaps
section
variable {H : Type} {enc : TypeId × Value → H} {P : Program}
end
end Go.E
namespace Go.E
section
variable {H : Type} {enc : TypeId × Value → H}
theorem returns_sized {a : Assume} {C : Checked} {os : Os} {f : FuncId} {fn : Func} {s : ChangeSpec} {conds : List PathCond} {apart fresh handsOn again : Bool}
    (own : ownKnob C.prog.godebug = none) (started : os.Started) (noInit : C.prog.inits.idxOf? f = none) (hfn : C.prog.funcs[f]? = some fn)
    (witness : ∃ (w : World) (tape : Tape) (i : Input), w.os = os ∧ (w.forCall tape i).Shaped C.prog ∧ i.vars = [] ∧ Input.okWide C.prog (w.forCall tape i) .any w.heap.size f i ∧
      s.pre6 enc C.prog fn conds apart (w.forCall tape i).memory i.args ∧ a.holds C.prog (lone (Frame.enter C.prog f i.args .normal) [] (w.forCall tape i)))
    (contract : ∀ (W : World) (base : Nat) (args : Array Value) (ds gs : List (DataW H)) (before : List MemPlace),
      (∀ (j : Nat) t v, fn.params[j]? = some t → args[j]? = some v → Value.okWide C.prog W .any base t v) →
      DataW.Whole enc C.prog fn.params.toList s.vars apart W args.toList ds gs before →
      (DataW.weightsEach C.prog (fn.params.toList ++ s.plain.varTypes C.prog) (ds ++ gs)).all (· ≤ reachBytes) = true →
      Calls C.prog f args W fun e W' => ∃ v, e = .returned v ∧ s.post enc C.prog fn apart fresh handsOn again W args v W') :
    ReturnsInHanded a C os f .any (s.pre6 enc C.prog fn conds apart) (s.post enc C.prog fn apart fresh handsOn again) := by
  refine returnsInHanded_of_calls own started noInit witness ?_
  intro w tape i _ _ _ hok hpre hholds
  obtain ⟨_, _, _, fn', hfn', _, _, _, _, hval⟩ := hok
  have e : fn' = fn := Option.some.inj (hfn'.symm.trans hfn)
  subst e
  obtain ⟨⟨ds, gs, before, hw, hc⟩, hz⟩ := hpre
  have hw' := DataW.Whole.of_heap (w' := w.forCall tape i) (by rfl) hw
  refine (contract (w.forCall tape i) w.heap.size i.args ds gs before hval hw' (hz.weights hw)).mono fun e W' ⟨v, he, hp⟩ => ?_
  subst he
  exact ChangeSpec.post_blind hp
theorem mem_weightsAll {P : Program} {e : TypeId} {d : DataW H} {x : Nat} (hx : x ∈ d.weights P e) : ∀ {es : List (DataW H)} {i : Nat}, es[i]? = some d → x ∈ DataW.weightsAll P e es
  | [], i, h => by simp at h
  | c :: r, 0, h => by
    simp only [List.getElem?_cons_zero, Option.some.injEq] at h
    subst h
    rw [DataW.weightsAll]
    exact List.mem_append_left _ hx
  | c :: r, i + 1, h => by
    rw [DataW.weightsAll]
    exact List.mem_append_right _ (mem_weightsAll hx (i := i) (by simpa using h))
theorem nested_weights {P : Program} {t e e1 : TypeId} {f0 f1 : Field} (ht : P.underlying t = some (.slice e)) (hst : P.underlying e = some (.struct #[f0, f1])) (h1 : P.underlying f1.type = some (.slice e1))
    {es rs us ws : List (DataW H)} {i : Nat} {a : DataW H} (hi : es[i]? = some (.agg [a, .slice us ws])) : (us.length + ws.length) * P.bytesOf e1 ∈ DataW.weights P t (.slice es rs) := by
  rw [DataW.weights]
  simp only [ht]
  refine List.mem_cons_of_mem _ (List.mem_append_left _ (mem_weightsAll ?_ hi))
  rw [DataW.weights]
  simp only [hst, List.map_cons, List.map_nil]
  rw [DataW.weightsEach, DataW.weightsEach]
  refine List.mem_append_right _ (List.mem_append_left _ ?_)
  rw [DataW.weights]
  simp only [h1]
  exact List.mem_cons_self
theorem nested_bound {P : Program} {t e e1 : TypeId} {f0 f1 : Field} (ht : P.underlying t = some (.slice e)) (hst : P.underlying e = some (.struct #[f0, f1])) (h1 : P.underlying f1.type = some (.slice e1))
    {n : Nat} {m : Nat → Nat} {d : DataW H} (h : (d = .nil ∧ n = 0) ∨ ∃ es rs, d = .slice es rs ∧ es.length = n ∧ ∀ i, i < n → ∃ a b, es[i]? = some (.agg [a, b]) ∧ ((b = .nil ∧ m i = 0) ∨ ∃ us ws, b = .slice us ws ∧ us.length = m i))
    (hw : ∀ x ∈ DataW.weights P t d, x ≤ reachBytes) : ∀ i, i < n → m i * P.bytesOf e1 ≤ 140737488355328 := by
  intro i hi
  rcases h with ⟨_, h0⟩ | ⟨es, rs, rfl, _, h⟩
  · omega
  · obtain ⟨a, b, hi, hb⟩ := h i hi
    rcases hb with ⟨_, h0⟩ | ⟨us, ws, rfl, hl⟩
    · rw [h0]; omega
    · have := hw _ (nested_weights ht hst h1 hi)
      have h2 : m i * P.bytesOf e1 ≤ (us.length + ws.length) * P.bytesOf e1 := Nat.mul_le_mul_right _ (by omega)
      have h3 : reachBytes = 140737488351232 := rfl
      omega
end
end Go.E
namespace Go.E
section
variable {P : Program}
def eqvB : Blk → Blk → Prop
  | .cells l, .cells l' => EqvL Eqv l l'
  | b, b' => b = b'
inductive EqvH : Heap → Heap → Prop
  | nil : EqvH [] []
  | cons {b b' : Blk} {r r' : Heap} (h : eqvB b b') (hr : EqvH r r') : EqvH (b :: r) (b' :: r')
theorem eqvB_refl (b : Blk) : eqvB b b := by
  have hl : ∀ l : List AVal, EqvL Eqv l l := fun l => by
    induction l with
    | nil => exact .nil
    | cons a r ih => exact .cons (Eqv.same a) ih
  cases b <;> first | exact hl _ | rfl
theorem EqvH.refl (H : Heap) : EqvH H H := by
  induction H with
  | nil => exact .nil
  | cons b r ih => exact .cons (eqvB_refl b) ih
theorem eqvB_kind {b b' : Blk} (h : eqvB b b') : b'.kind = b.kind := by
  cases b <;> cases b' <;> first | rfl | (simp only [eqvB] at h; first | (cases h; rfl) | cases h)
theorem eqvL_len {l l' : List AVal} (h : EqvL Eqv l l') : l'.length = l.length := by
  induction h with
  | nil => rfl
  | cons _ _ ih => simp [ih]
theorem eqvL_at {l l' : List AVal} (h : EqvL Eqv l l') : ∀ {j : Nat} {v : AVal}, l'[j]? = some v → ∃ v0, l[j]? = some v0 ∧ Eqv v0 v := by
  induction h with
  | nil => intro j v hj; simp at hj
  | cons h _ ih =>
    intro j v hj
    cases j with
    | zero =>
      simp only [List.getElem?_cons_zero, Option.some.injEq] at hj
      subst hj
      exact ⟨_, rfl, h⟩
    | succ j => exact ih hj
theorem eqvB_eq {b b' : Blk} (h : eqvB b b') (hn : ∀ l, b ≠ .cells l) : b = b' := by
  cases b with
  | cells l => exact absurd rfl (hn l)
  | _ => exact h
theorem EqvH.at {H H0 : Heap} (h : EqvH H H0) : ∀ (i : Nat) (b : Blk), H[i]? = some b → ∃ b', H0[i]? = some b' ∧ eqvB b b' := by
  induction h with
  | nil => intro i b hb; simp at hb
  | cons h _ ih =>
    intro i b hb
    cases i with
    | zero =>
      simp only [List.getElem?_cons_zero, Option.some.injEq] at hb
      subst hb
      exact ⟨_, rfl, h⟩
    | succ i => exact ih i b hb
theorem EqvH.back {H H0 : Heap} (h : EqvH H H0) : ∀ (i : Nat) (b' : Blk), H0[i]? = some b' → ∃ b, H[i]? = some b ∧ eqvB b b' := by
  induction h with
  | nil => intro i b hb; simp at hb
  | cons h _ ih =>
    intro i b hb
    cases i with
    | zero =>
      simp only [List.getElem?_cons_zero, Option.some.injEq] at hb
      subst hb
      exact ⟨_, rfl, h⟩
    | succ i => exact ih i b hb
theorem EqvH.len {H H0 : Heap} (h : EqvH H H0) : H0.length = H.length := by
  induction h with
  | nil => rfl
  | cons _ _ ih => simp [ih]
def Cx.as (c : Cx) (H0 : Heap) : Cx := ⟨c.φ, c.X, H0, c.w⟩
theorem as_fr {c0 c : Cx} {H0 : Heap} (h : EqvH c.H H0) (hf : Fr c0 c) : Fr c0 (c.as H0) where
  os := hf.os
  tape := hf.tape
  output := hf.output
  size := hf.size
  keep := hf.keep
  shape := hf.shape
  X := hf.X
  blocks := fun b blk hb => by
    obtain ⟨b1, h1, h2, h3⟩ := hf.blocks b blk hb
    obtain ⟨b2, h4, h5⟩ := h.at b b1 h1
    exact ⟨b2, h4, (eqvB_kind h5).trans h2, h3⟩
  img := fun b blk r o hb h1 hl hφ => by
    obtain ⟨y, h4, h5⟩ := h.back b blk h1
    exact hf.img b y r o hb h4 (by rw [← live_kind (eqvB_kind h5)]; exact hl) hφ
theorem as_rel {c : Cx} {H0 : Heap} (h : EqvH c.H H0) (hh : HRel c) {v : AVal} {u : Value} (hv : VRel c v u) : VRel (c.as H0) v u :=
  hv.mono (as_fr h (Fr.refl c)) hh.img
theorem as_heap {c : Cx} {H0 : Heap} (h : EqvH c.H H0) (hh : HRel c) : HRel (c.as H0) where
  holds := fun b blk hb hl => by
    obtain ⟨y, h4, h5⟩ := h.back b blk hb
    have hk := eqvB_kind h5
    rcases hh.holds b y h4 (by rw [← live_kind hk]; exact hl) with ⟨h6, h7⟩ | ⟨r, o, h6, h7, h8⟩
    · refine .inl ⟨?_, h7⟩
      by_cases hc : ∃ l, y = .cells l
      · obtain ⟨l, rfl⟩ := hc
        exact h6.elim
      · rw [← eqvB_eq h5 fun l e => hc ⟨l, e⟩]
        exact h6
    · refine .inr ⟨r, o, h6, h7, ?_⟩
      cases y with
      | cells l =>
        cases blk with
        | cells l' =>
          obtain ⟨cs, t, fr, a1, a2, a3, a4⟩ := h8
          have hlen := eqvL_len h5
          refine ⟨cs, t, fr, a1, a2, by rw [hlen]; exact a3, fun j v u b1 b2 => ?_⟩
          obtain ⟨v0, q1, q2⟩ := eqvL_at h5 b1
          exact eqv_rel q2 (as_rel h hh (a4 j v0 u q1 b2))
        | _ => cases h5
      | dead => rw [← eqvB_eq h5 fun l e => by cases e]; trivial
      | ints k l => rw [← eqvB_eq h5 fun l e => by cases e]; exact h8
      | rows s n f =>
        rw [← eqvB_eq h5 fun l e => by cases e]
        exact h8
      | iter s p => rw [← eqvB_eq h5 fun l e => by cases e]; exact h8
      | sb l => rw [← eqvB_eq h5 fun l e => by cases e]; exact h8
  small := hh.small
  inj := fun i i' x x' r o o' h1 h2 h3 h4 h5 h6 => by
    obtain ⟨y, g1, g2⟩ := h.back i x h1
    obtain ⟨y', g1', g2'⟩ := h.back i' x' h3
    exact hh.inj i i' y y' r o o' g1 (by rw [← live_kind (eqvB_kind g2)]; exact h2) g1' (by rw [← live_kind (eqvB_kind g2')]; exact h4) h5 h6
theorem callN_end (sel : List Nat) {f : FuncId} {args : List AVal} {H : Heap} {v0 : AVal} {H0 : Heap}
    (h : callN P f args H fun v H' => selOK H.length H'.length sel = true ∧ Eqv (renS sel v) v0 ∧ EqvH (selH sel H') H0) : callN P f args H fun v H' => v = v0 ∧ H' = H0 := by
  rw [callN_iff] at h ⊢
  refine ⟨h.1, ?_⟩
  rintro c us rfl hg hh ha
  refine (h.2 c us rfl hg hh ha).mono ?_
  rintro e w' ⟨u, v, c', rfl, rfl, ⟨hs, he, hH⟩, hf, hh', hv⟩
  simp only [selOK, Bool.and_eq_true, List.all_eq_true, decide_eq_true_eq, List.mem_range, beq_iff_eq] at hs
  obtain ⟨⟨h1, h2⟩, h3⟩ := hs
  have h1 : ∀ b ∈ sel, b < c'.H.length := fun b hb => by have := h1 b hb; simpa using this
  have hsel := sel_heap h1 h2 hh'
  refine ⟨u, v0, (c'.sel sel).as H0, rfl, rfl, ⟨rfl, rfl⟩, as_fr hH (sel_fr h1 h2 h3 hf), as_heap hH hsel, as_rel hH hsel (eqv_rel he (renS_rel h1 hv))⟩
end
end Go.E
namespace Go.E
def unr (body : AQ → List AVal → Heap → Prop) (Q : AQ) : Nat → List AVal → Heap → Prop
  | 0, _, _ => False
  | k + 1, tm, H => body (seqQ (fun _ tm' H' => unr body Q k tm' H') Q) tm H
theorem loop_unr (k : Nat) {n0 : Nat} {body : AQ → List AVal → Heap → Prop} {Q : AQ} {tm : List AVal} {H : Heap} (h : unr body Q k tm H) : loopN n0 body Q tm H := by
  unfold loopN
  refine ⟨Nat × List AVal × Heap, fun s => s.2.1, fun s => s.2.2, fun s => unr body Q s.1 s.2.1 s.2.2, fun s => s.1, fun s tm' H' => unr body Q (s.1 - 1) tm' H', ⟨(k, tm, H), h, WeakS.refl _ _ _⟩, ?_, ?_⟩
  · rintro ⟨j, tm', H'⟩ hj
    cases j with
    | zero => exact hj.elim
    | succ j => exact hj
  · rintro ⟨j, tm0, H0⟩ tm' H' hj h
    cases j with
    | zero => exact hj.elim
    | succ j => exact ⟨(j, tm', H'), h, Nat.lt_succ_self j, WeakS.refl _ _ _⟩
end Go.E
namespace Go.E
section
variable {P : Program}
theorem merge_same {H : Heap} {sel : List Nat} {H1 : Heap} (hl : H1.length = sel.length) (hm : ∀ i b, sel[i]? = some b → backB sel H.length (H1.getD i .dead) = H.getD b .dead) : mergeH H sel H1 = H := by
  unfold mergeH
  simp only
  rw [List.drop_eq_nil_of_le (by omega), List.map_nil, List.append_nil]
  refine List.ext_getElem? fun b => ?_
  rw [List.getElem?_map]
  by_cases hb : b < H.length
  · rw [List.getElem?_range hb, Option.map_some, List.getElem?_eq_getElem hb]
    have hd : H.getD b .dead = H[b] := by rw [List.getD_eq_getElem?_getD, List.getElem?_eq_getElem hb]; rfl
    cases hp : posOf sel b with
    | none => simp only; rw [hd]
    | some i => simp only; rw [hm i b (posOf_at hp), hd]
  · rw [List.getElem?_eq_none (by simpa using hb), List.getElem?_eq_none (by omega)]
    rfl
theorem readN_of (sel : List Nat) {f : FuncId} {l : List AVal} {H : Heap} {v : AVal} (hs : selOK' H.length sel = true) (hv : v.closed2 = true) (hb : ∀ n, backV sel n v = v)
    (h : callN P f (l.map (renS sel)) (selH sel H) fun x H' => x = v ∧ H' = selH sel H) (hm : ∀ n, (selH sel H).map (backB sel n) = sel.map fun b => H.getD b .dead) : readN P f l H v := by
  refine ⟨hv, fun ext => ?_⟩
  simp only [selOK', Bool.and_eq_true, List.all_eq_true, decide_eq_true_eq] at hs
  obtain ⟨h1, hn⟩ := hs
  have h0 : ∀ b ∈ sel, b < H.length := fun b hb => by have := h1 b hb; simpa using this
  rw [callN_iff] at h ⊢
  refine ⟨h.1, ?_⟩
  rintro c us hc hg hh ha
  have hget : ∀ b, b < H.length → c.H.getD b .dead = H.getD b .dead := fun b hlt => by
    rw [hc, List.getD_eq_getElem?_getD, List.getD_eq_getElem?_getD, List.getElem?_append_left hlt]
  have hlt : ∀ b ∈ sel, b < c.H.length := fun b hb => by have := h0 b hb; rw [hc, List.length_append]; omega
  have e1 : selH sel c.H = selH sel H := by
    unfold selH
    exact List.map_congr_left fun b hb => by rw [hget b (h0 b hb)]
  refine (h.2 (c.sel sel) us e1 (hg.sub rfl fun r hr => by obtain ⟨b, _, blk, o, q1, q2, q3⟩ := sel_img hlt hr; exact ⟨b, blk, o, q1, q2, q3⟩) (sel_heap hlt hn hh) (back_list (fun h => renS_rel hlt h) ha)).mono ?_
  rintro e w' ⟨u, x, c1, rfl, rfl, ⟨hx, hH1⟩, hf, hh1, hvx⟩
  refine ⟨u, backV sel c.H.length x, c.merge c1 sel, rfl, rfl, ⟨by rw [hx]; exact hb _, ?_⟩, merge_fr hlt hn hf, merge_heap hlt hn hf hh hh1, back_rel hlt hn hf hvx⟩
  show mergeH c.H sel c1.H = H ++ ext
  rw [← hc, hH1]
  refine merge_same (by simp [selH]) fun i b hi => ?_
  have hbm := List.mem_of_getElem? hi
  have := congrArg (fun L => L[i]?) (hm c.H.length)
  simp only [List.getElem?_map, hi, Option.map_some] at this
  rw [hget b (h0 b hbm)]
  have hsel : (selH sel H)[i]? = some (renB sel (H.getD b .dead)) := by
    unfold selH
    rw [List.getElem?_map, hi]
    rfl
  rw [hsel, Option.map_some] at this
  rw [List.getD_eq_getElem?_getD, hsel]
  exact Option.some.inj this
end
end Go.E
namespace Go.E
open Go.ChangeShapes Go.WideShapes Go.ChangeAt Go.RowKit Go.ChangeMaps
section
variable {H : Type} {enc : TypeId × Value → H} {P : Program}
theorem flat_struct {W : World} {t : TypeId} {fs : Array Field} {ks : List IntKind} (ht : P.underlying t = some (.struct fs)) (hfs : ∀ (i : Nat) (k : IntKind), ks[i]? = some k → ∃ f, fs[i]? = some f ∧ f.offset = i ∧ P.cellsOf f.type = 1 ∧ P.underlying f.type = some (.int k))
    {fuel : Nat} {cs : List Value} {x : DataW H × List MemPlace} (h : DataW.trod enc P W 0 (fun _ => true) true fuel t cs = some x) (i : Nat) (k : IntKind) (hi : ks[i]? = some k) : ∃ n, cs[i]? = some (.int k n) ∧ (Lit.int k n).wf = true := by
  obtain ⟨xs, n, _, _, hl, hx, hf⟩ := DataW.trod_struct ht h
  obtain ⟨f, hf1, ho, hc1, hu⟩ := hfs i k hi
  have h1 := hf i f hf1
  have hlt := (Array.getElem?_eq_some_iff.1 hf1).1
  rw [List.getElem?_eq_getElem (by omega)] at h1
  obtain ⟨m, hm, _, hw⟩ := DataW.trod_int hu h1
  refine ⟨m, ?_, hw⟩
  rw [ho, hc1] at hm
  have h2 : ((cs.drop i).take 1)[0]? = some (.int k m) := by rw [hm]; rfl
  simpa [List.getElem?_take, List.getElem?_drop] using h2
theorem trod_rows {W : World} {t e : TypeId} {v : Value} {fuel : Nat} {x : DataW H × List MemPlace} (ks : List IntKind) (ht : P.underlying t = some (.slice e)) (he : ∀ {fuel : Nat} {cs : List Value} {x : DataW H × List MemPlace}, DataW.trod enc P W 0 (fun _ => true) true fuel e cs = some x → ∀ (i : Nat) (k : IntKind), ks[i]? = some k → ∃ n, cs[i]? = some (.int k n) ∧ (Lit.int k n).wf = true) (hc : P.cellsOf e = ks.length) (hpos : 0 < ks.length)
    (hf : DataW.trod enc P W 0 (fun _ => true) true fuel t [v] = some x) :
    ∃ (n : Nat) (D : Nat → Nat → Int), RRel W (fun _ => False) (.ro ks.length n (fun i => aggL (D i) ks 0)) v ∧ n ≤ maxLen ∧ (∀ i, i < n → HasL ks (D i)) ∧
      ((x.1 = .nil ∧ n = 0) ∨ ∃ es rs, x.1 = .slice es rs ∧ es.length = n) := by
  rcases DataW.trod_slice ht hf with ⟨hcs, hx⟩ | ⟨a, len0, cap0, elems, rest, n, _, hcs, hx, _, hl, hm, hlen, hel, _, _⟩
  · simp only [List.cons.injEq, and_true] at hcs
    subst hcs
    exact ⟨0, fun _ _ => 0, .roNil _ _, by simp, fun i hi => by omega, .inl ⟨by rw [hx], rfl⟩⟩
  · simp only [List.cons.injEq, and_true] at hcs
    subst hcs
    have hxd : (x.1 = .nil ∧ len0 = 0) ∨ ∃ es rs, x.1 = .slice es rs ∧ es.length = len0 := .inr ⟨_, _, by rw [hx], by simpa using hlen⟩
    by_cases h0 : len0 = 0
    · subst h0
      exact ⟨0, fun _ _ => 0, .roNil _ _, by simp, fun i hi => by omega, hxd⟩
    have each : ∀ i, i < len0 → ∀ (j : Nat) (k : IntKind), ks[j]? = some k → ∃ m, W.cell? ((a.add (i * ks.length)).add j) = some (.int k m) ∧ (Lit.int k m).wf = true := by
      intro i hi j k hj
      have h1 := hel i hi
      rw [List.getElem?_eq_getElem (by omega), Option.bind_eq_some_iff] at h1
      obtain ⟨cs, h1, h2⟩ := h1
      obtain ⟨m, hm1, hm2⟩ := he h2 j k hj
      refine ⟨m, ?_, hm2⟩
      have hjlt := (List.getElem?_eq_some_iff.1 hj).1
      unfold World.cells? at h1
      split at h1
      · have := mapM_some_get h1 j j (by rw [hc]; simp [hjlt])
        rw [← hm1, ← this, hc]
      · cases h1
    obtain ⟨k0, hk0⟩ : ∃ k, ks[0]? = some k := ⟨ks[0], List.getElem?_eq_getElem hpos⟩
    obtain ⟨m0, c0, _⟩ := each 0 (by omega) 0 k0 hk0
    have hsp : a.spot = none := by
      have := World.cell?_spot c0
      simpa [Addr.add] using this
    obtain ⟨b, o, s⟩ := a
    simp only at hsp
    subst hsp
    obtain ⟨cs, tt, fr, hb⟩ : ∃ cs t fr, W.heap[b]? = some (.cells cs t fr) := by
      simp only [Addr.add, Nat.zero_mul, if_true, World.cell?] at c0
      split at c0
      · rename_i cs t fr hb
        exact ⟨cs, t, fr, hb⟩
      · cases c0
    have cell : ∀ i, i < len0 → ∀ (j : Nat) (k : IntKind), ks[j]? = some k → ∃ m, cs[o + i * ks.length + j]? = some (.int k m) ∧ (Lit.int k m).wf = true := by
      intro i hi j k hj
      obtain ⟨m, h1, h2⟩ := each i hi j k hj
      refine ⟨m, ?_, h2⟩
      rw [add_add] at h1
      by_cases hx : i * ks.length + j = 0
      · rw [hx] at h1
        have e : o + i * ks.length + j = o := by omega
        rw [e]
        simpa [Addr.add, World.cell?, hb] using h1
      · simp only [Addr.add, hx, if_false, World.cell?, hb] at h1
        rw [Nat.add_assoc]
        exact h1
    refine ⟨len0, fun i j => numV (cs.getD (o + i * ks.length + j) (.bool false)), .ro hl (fun h => h) hb (fun i hi => aggL_len _ _ _) (fun i hi => ?_) (fun i hi j v u h1 h2 => ?_), by omega, fun i hi j hj => ?_, hxd⟩
    · obtain ⟨m, h1, _⟩ := cell i hi (ks.length - 1) ks[ks.length - 1] (List.getElem?_eq_getElem (by omega))
      have := (Array.getElem?_eq_some_iff.1 h1).1
      omega
    · rw [aggL_get] at h1
      obtain ⟨k, hk1, rfl⟩ := Option.map_eq_some_iff.1 h1
      obtain ⟨m, h3, _⟩ := cell i hi j k hk1
      have h3' := h3
      rw [h2] at h3
      cases h3
      have : numV (cs.getD (o + i * ks.length + (0 + j)) (.bool false)) = m := by
        rw [Nat.zero_add, Array.getD_eq_getD_getElem?, h3']
        rfl
      show RRel _ _ (.int k (numV (cs.getD (o + i * ks.length + (0 + j)) (.bool false)))) _
      rw [this]
      exact .int _ _
    · obtain ⟨m, h1, h2⟩ := cell i hi j ks[j] (List.getElem?_eq_getElem hj)
      rw [List.getD_eq_getElem?_getD, List.getElem?_eq_getElem hj]
      show (ks[j]).has (numV (cs.getD (o + i * ks.length + j) (.bool false)))
      rw [Array.getD_eq_getD_getElem?, h1]
      exact wf_has h2
theorem arg_nested {W : World} {t e e1 : TypeId} {f0 f1 : Field} {v : Value} {d : DataW H} {ps : List MemPlace} {b0 : Nat} {r : Reach} (ks : List IntKind) (ht : P.underlying t = some (.slice e)) (hst : P.underlying e = some (.struct #[f0, f1]))
    (h0 : f0.offset = 0 ∧ P.cellsOf f0.type = 1 ∧ P.underlying f0.type = some (.int .i64)) (h1 : f1.offset = 1 ∧ P.cellsOf f1.type = 1 ∧ P.underlying f1.type = some (.slice e1)) (hce : P.cellsOf e = 2)
    (he : ∀ {fuel : Nat} {cs : List Value} {x : DataW H × List MemPlace}, DataW.trod enc P W 0 (fun _ => true) true fuel e1 cs = some x → ∀ (i : Nat) (k : IntKind), ks[i]? = some k → ∃ n, cs[i]? = some (.int k n) ∧ (Lit.int k n).wf = true)
    (hc : P.cellsOf e1 = ks.length) (hpos : 0 < ks.length) (hval : Value.okWide P W r b0 t v) (h : DataW.Trod enc P W 0 (fun _ => true) true t v d ps) :
    ∃ (n : Nat) (num : Nat → Int) (m : Nat → Nat) (D : Nat → Nat → Nat → Int), VRel (Cx.start W) (.ro 2 n (fun i => [.int .i64 (num i), .ro ks.length (m i) (fun j => aggL (D i j) ks 0)])) v ∧ n ≤ maxLen ∧
      (∀ i, i < n → IntKind.i64.has (num i) ∧ m i ≤ maxLen ∧ ∀ j, j < m i → HasL ks (D i j)) ∧
      ((d = .nil ∧ n = 0) ∨ ∃ es rs, d = .slice es rs ∧ es.length = n ∧ ∀ i, i < n → ∃ a b, es[i]? = some (.agg [a, b]) ∧ ((b = .nil ∧ m i = 0) ∨ ∃ us ws, b = .slice us ws ∧ us.length = m i)) := by
  obtain ⟨A, len0, cap0, rfl⟩ := okWide_slice ht hval
  obtain ⟨fuel, hf⟩ := h
  rcases DataW.trod_slice ht hf with ⟨hcs, hx⟩ | ⟨a, len, cap, elems, rest, n, _, hcs, hx, _, hl, hm, hlen, hel, _, _⟩
  · simp [Value.cells] at hcs
    obtain ⟨rfl, rfl, rfl⟩ := hcs
    simp only [Prod.mk.injEq] at hx
    exact ⟨0, fun _ => 0, fun _ => 0, fun _ _ _ => 0, .closed (.roNil _ _), by simp, fun i hi => by omega, .inl ⟨hx.1, rfl⟩⟩
  · simp [Value.cells] at hcs
    obtain ⟨rfl, rfl, rfl⟩ := hcs
    simp only [Prod.mk.injEq] at hx
    have each : ∀ i, ∃ (y : Int) (m : Nat) (D : Nat → Nat → Int) (u : Value), i < len0 → W.cell? ((a.add (i * 2)).add 0) = some (.int .i64 y) ∧ W.cell? ((a.add (i * 2)).add 1) = some u ∧ IntKind.i64.has y ∧
        RRel W (fun _ => False) (.ro ks.length m (fun j => aggL (D j) ks 0)) u ∧ m ≤ maxLen ∧ (∀ j, j < m → HasL ks (D j)) ∧
        ∃ p q, (elems.map (·.1))[i]? = some (.agg [p, q]) ∧ ((q = .nil ∧ m = 0) ∨ ∃ us ws, q = .slice us ws ∧ us.length = m) := by
      intro i
      by_cases hi : i < len0
      · have g1 := hel i hi
        rw [List.getElem?_eq_getElem (by omega), Option.bind_eq_some_iff] at g1
        obtain ⟨cs, g1, g2⟩ := g1
        obtain ⟨y0, y1, n', hy, hcl, k0, k1⟩ := trod_struct2 hst g2
        rw [h0.1, h0.2.1] at k0
        rw [h1.1, h1.2.1] at k1
        obtain ⟨y, hy0, _, hw⟩ := DataW.trod_int h0.2.2 k0
        rw [hce] at hcl
        obtain ⟨c0, c1, rfl⟩ : ∃ c0 c1, cs = [c0, c1] := by
          match cs, hcl with
          | [c0, c1], _ => exact ⟨c0, c1, rfl⟩
        simp at hy0 k1
        subst hy0
        obtain ⟨m, D, r1, r2, r3, r4⟩ := trod_rows ks h1.2.2 he hc hpos k1
        have cells : ∀ j u, [Value.int .i64 y, c1][j]? = some u → W.cell? ((a.add (i * 2)).add j) = some u := by
          intro j u hj
          have hjlt := (List.getElem?_eq_some_iff.1 hj).1
          have hj2 : j < 2 := by simpa using hjlt
          unfold World.cells? at g1
          split at g1
          · have := mapM_some_get g1 j j (by rw [hce]; simp [hj2])
            rw [← hj, ← this, hce]
          · cases g1
        exact ⟨y, m, D, c1, fun _ => ⟨cells 0 _ rfl, cells 1 _ rfl, wf_has hw, r1, r2, r3, y0.1, y1.1, by rw [List.getElem?_map, List.getElem?_eq_getElem (by omega)]; simp [hy], r4⟩⟩
      · exact ⟨0, 0, fun _ _ => 0, .nilFunc, fun h => absurd h hi⟩
    have key := fun i (hi : i < len0) => (each i).choose_spec.choose_spec.choose_spec.choose_spec hi
    refine ⟨len0, fun i => (each i).choose, fun i => (each i).choose_spec.choose, fun i => (each i).choose_spec.choose_spec.choose, ?_, by omega, fun i hi => ?_, .inr ⟨_, _, hx.1, by simpa using hlen, fun i hi => (key i hi).2.2.2.2.2.2⟩⟩
    · by_cases hz : len0 = 0
      · subst hz
        exact .closed (.roNil _ _)
      obtain ⟨u0, c0⟩ : ∃ u, W.cell? ((a.add (0 * 2)).add 0) = some u := ⟨_, (key 0 (by omega)).1⟩
      have hsp : a.spot = none := by
        have := World.cell?_spot c0
        simpa [Addr.add] using this
      obtain ⟨b, o, s⟩ := a
      simp only at hsp
      subst hsp
      obtain ⟨cs, tt, fr, hb⟩ : ∃ cs t fr, W.heap[b]? = some (.cells cs t fr) := by
        simp only [Addr.add, Nat.zero_mul, if_true, World.cell?] at c0
        split at c0
        · rename_i cs t fr hb
          exact ⟨cs, t, fr, hb⟩
        · cases c0
      have cell : ∀ i j u, W.cell? (((⟨b, o, none⟩ : Addr).add (i * 2)).add j) = some u → cs[o + i * 2 + j]? = some u := by
        intro i j u hh
        rw [add_add] at hh
        by_cases hx : i * 2 + j = 0
        · rw [hx] at hh
          have e : o + i * 2 + j = o := by omega
          rw [e]
          simpa [Addr.add, World.cell?, hb] using hh
        · simp only [Addr.add, hx, if_false, World.cell?, hb] at hh
          rw [Nat.add_assoc]
          exact hh
      refine .closed (.ro hl (fun h => h) hb (fun i hi => rfl) (fun i hi => ?_) (fun i hi j v u g1 g2 => ?_))
      · have := (Array.getElem?_eq_some_iff.1 (cell i 1 _ (key i hi).2.1)).1
        omega
      · match j, g1 with
        | 0, g1 =>
          simp only [List.getElem?_cons_zero, Option.some.injEq] at g1
          rw [cell i 0 _ (key i hi).1] at g2
          cases g2
          subst g1
          exact .int _ _
        | 1, g1 =>
          simp only [List.getElem?_cons_succ, List.getElem?_cons_zero, Option.some.injEq] at g1
          rw [cell i 1 _ (key i hi).2.1] at g2
          cases g2
          subst g1
          exact (key i hi).2.2.2.1
        | j + 2, g1 => simp at g1
    · exact ⟨(key i hi).2.2.1, (key i hi).2.2.2.2.1, (key i hi).2.2.2.2.2.1⟩
end
end Go.E
namespace Go.E
open Go.RowKit
section
variable {P : Program} {n0 : Nat} {f : FuncId} {tm : List AVal} {H : Heap} {k : List AVal → AVal → Heap → Prop} {c c' : Cx}
def keepV (v : AVal) : AVal := match v with
  | .ptr a => .ptr a
  | .agg l => (match allFlat0 l with | true => .agg l | false => .any)
  | v => (match v.flat0 with | true => v | false => .any)
def Kept (x x' : Blk) : Prop := (∃ cs, x = .cells cs ∧ x' = .cells (cs.map keepV)) ∨ (∃ kk l, x = .ints kk l ∧ x' = .ints kk l) ∨ (x = .dead ∧ x' = .dead)
theorem Kept.kind {x x' : Blk} (h : Kept x x') : x'.kind = x.kind := by
  rcases h with ⟨cs, rfl, rfl⟩ | ⟨kk, l, rfl, rfl⟩ | ⟨rfl, rfl⟩ <;> rfl
end
end Go.E
