/- The engine, part K: make, stores, ranges over strings. -/
import Derived.Test.YthedobkhfdpdaaaE1
import Derived.Laws.BytesString
import Derived.LoopN
import Derived.Scope
set_option linter.unusedVariables false
set_option linter.unusedSimpArgs false
namespace Go.E
section
variable {P : Program} {T : TEnv} {C : CallH} {c0 c : Cx} {a : Act} {o : Oper} {tm : List AVal} {k : List AVal → AVal → Heap → Prop}
theorem wrap_small {n : Int} (h0 : 0 ≤ n) (h1 : n ≤ 2 ^ 47) : IntKind.i64.wrap n = n := by
  show IntKind.wrap .i64 n = n
  unfold IntKind.wrap
  simp [IntKind.bits, IntKind.signed]
  omega
theorem rep_get (z : Array Value) (n i : Nat) (h0 : 0 < z.size) (hi : i < n) : ((Array.range n).map (z[· % z.size]!))[i]? = z[i % z.size]? := by
  have hm : i % z.size < z.size := Nat.mod_lt _ h0
  simp only [Array.getElem?_map, Array.getElem?_range, hi, if_true, Option.map_some]
  rw [getElem!_pos z _ hm, Array.getElem?_eq_getElem hm]
theorem ok_makeSlice (hT : TOK P T) {n0 : Nat} {t : TypeId} {lx cx : Operand} (ho : o.op = .makeSlice t lx cx) (hf : Fr c0 c) (ht : TRel c tm a.tmps) (hh : HRel c) (h : opW C T n0 (.makeSlice t lx cx) tm c.H k) : Res P C o a c0 c k := by
  have el := eval_rel ht lx
  have ec := eval_rel ht cx
  simp only [opW] at h
  split at h
  · rename_i e z p k1 l k2 cp hti h1 h2
    rw [h1] at el
    rw [h2] at ec
    have hd := hT.slice hti
    split at h
    · rename_i es bytes desc z p he
      obtain ⟨⟨hl0, hlc, hby, hc47⟩, h⟩ := need_iff.1 h
      obtain ⟨v, hzr, hze⟩ := hT.zero he rfl
      obtain ⟨ii, d, hi, _, hti'⟩ := hT.info he
      have hbytes : ii.bytes = bytes := by injection hti' with a b; exact b.symm
      have hzl : z.length = v.cells.size := by rw [hze]; simp
      have run : v.cells.size = es → 0 < es → (execOp a.eval o).run P c.w = .ok (.value (.slice (some ⟨c.w.heap.size, 0, none⟩) l.toNat cp.toNat)) (c.w.alloc (.cells ((Array.range (cp.toNat * es)).map (v.cells[· % v.cells.size]!)) e)) := by
        intro hsz h0
        have w1 : IntKind.i64.wrap l = l := wrap_small hl0 (by omega)
        have w2 : IntKind.i64.wrap cp = cp := wrap_small (by omega) hc47
        have c1 : ¬ (cp < 0) := by omega
        have c2 : ¬ ((bytes : Int) * cp > 2 ^ 48) := by rw [Int.mul_comm]; omega
        have c3 : ¬ (l < 0) := by omega
        have c4 : ¬ (l > cp) := by omega
        have hem : ∀ f : Nat → Value, (Array.range 0).map f = #[] := fun f => by apply Array.ext_getElem?; intro i; simp
        simp only [execOp, ho, el.inv_int, ec.inv_int, Instr.makeSlice]
        simp only [Sem.run_bind, run_underlying hd, Result.andThen_ok, asInt, asIntOf, Sem.run_pure, typeInfo, run_program, hi, hbytes, w1, w2]
        simp only [c1, c2, c3, c4, decide_false, Bool.or_false, Bool.false_eq_true, if_false, run_askRoom, Result.andThen_ok, hT.size he, or_false, false_or]
        by_cases hn : cp.toNat * es = 0
        · simp [hT.size he, hn, hem, newRow]
        · simp [hT.size he, hn, hzr, newRow]
      have get : ∀ i, i < cp.toNat * es → 0 < es → v.cells.size = es → ((Array.range (cp.toNat * es)).map (v.cells[· % v.cells.size]!))[i]? = v.cells[i % es]? := fun i hi h0 hsz => by
        rw [rep_get v.cells _ i (by omega) hi, hsz]
      split at h
      · rename_i kk k' n _
        obtain ⟨h3, h⟩ := whenB_iff.1 h
        obtain ⟨h4, h⟩ := whenB_iff.1 h
        have h3 := Nat.eq_of_beq_eq_true h3
        have h4 := sameKind_iff.1 h4
        have hsz : v.cells.size = es := by rw [← hzl, h3]; rfl
        have h0 : 0 < es := by omega
        have hv0 : v.cells[0]? = some (.int k' n) := by
          have : ∃ u, v.cells[0]? = some u := ⟨v.cells[0]'(by omega), Array.getElem?_eq_getElem (by omega)⟩
          obtain ⟨u, hu⟩ := this
          have hz0 : ([AVal.int k' n] : List AVal)[0]? = some (AVal.ofV1 u) := by rw [hze, List.getElem?_map, Array.getElem?_toList, hu]; rfl
          simp only [List.getElem?_cons_zero, Option.some.injEq] at hz0
          have := ofV1_rel c u
          rw [← hz0] at this
          rw [hu, this.inv_int]
        have cell : ∀ i, i < cp.toNat → ((Array.range (cp.toNat * es)).map (v.cells[· % v.cells.size]!))[i]? = some (.int kk n) := fun i hi => by
          rw [get i (by rw [h3]; omega) h0 hsz, h3, Nat.mod_one, hv0, h4]
        rcases choice_iff.1 h with h5 | h5
        · refine res_more hf ht hh h5 (vrel_newro hh (by omega) (by simp [h3]; omega) fun i hi => ⟨rfl, fun j u w g1 g2 => ?_⟩) (run hsz h0)
          cases j with
          | zero =>
            simp only [List.getElem?_cons_zero, Option.some.injEq] at g1
            subst g1
            rw [Nat.mul_one, Nat.add_zero, cell i (by omega)] at g2
            cases g2
            exact .int _ _
          | succ j => simp at g1
        · rw [newW_iff] at h5
          refine res_push hf ht hh h5 (vrel_newslice (by omega) fun _ => by simp [stride, h3]) (holds_ints (unf0 _) (by simp [h3]; omega) fun j x hx => ?_) (run hsz h0)
          have hj := (List.getElem?_eq_some_iff.1 hx).1
          simp only [List.length_replicate] at hj
          rw [List.getElem?_replicate, if_pos hj] at hx
          cases hx
          exact cell j (by omega)
      · exact h.elim
      · obtain ⟨h0, h⟩ := whenB_iff.1 h
        rw [lenL_iff] at h
        obtain ⟨h3, h⟩ := whenB_iff.1 h
        obtain ⟨h4, h⟩ := whenB_iff.1 h
        have h0 : 0 < es := by simp [Nat.blt] at h0; omega
        have h3 := Nat.eq_of_beq_eq_true h3
        have hsz : v.cells.size = es := by rw [← hzl, h3]
        have hle : l.toNat * es ≤ cp.toNat * es := Nat.mul_le_mul_right _ (by omega)
        have hrow : ∀ i, i < l.toNat → z.length = es ∧ ∀ (j : Nat) (x : AVal) (u : Value), z[j]? = some x → ((Array.range (cp.toNat * es)).map (v.cells[· % v.cells.size]!))[i * es + j]? = some u → RRel c.w c.X x u := by
          intro i hi
          refine ⟨h3, fun j x u g1 g2 => ?_⟩
          have hj := (List.getElem?_eq_some_iff.1 g1).1
          have : i * es + es ≤ l.toNat * es := by rw [← Nat.succ_mul]; exact Nat.mul_le_mul_right _ hi
          rw [get _ (by omega) h0 hsz, Nat.mul_comm, Nat.mul_add_mod, Nat.mod_eq_of_lt (by omega)] at g2
          rw [hze, List.getElem?_map, Array.getElem?_toList, g2] at g1
          cases g1
          exact closed_rel (ofV1_rel c u) (allClosed_mem h4 _ (by rw [hze]; exact List.mem_map.2 ⟨u, List.mem_of_getElem? (by rw [Array.getElem?_toList]; exact g2), rfl⟩))
        rcases choice_iff.1 h with h5 | h5
        · exact res_more hf ht hh h5 (vrel_newro hh (by omega) (by simp; omega) hrow) (run hsz h0)
        · rw [newW_iff] at h5
          exact res_push hf ht hh h5 (vrel_newslice (by omega) fun _ => by simp [stride]) (holds_rows hh (unf0 _) (by simp; omega) hrow) (run hsz h0)
    · exact h.elim
  · exact h.elim
theorem res_put {b r off : Nat} {blk0 blk : Blk} {ob ob0 : Obj} {v : AVal} {u : Value} {n : Next} (hf : Fr c0 c) (ht : TRel c tm a.tmps) (hh : HRel c) (hb : c.H[b]? = some blk0) (hk : blk.kind = blk0.kind) (hl : blk0.live = true) (hφ : c.φ b = some (r, off))
    (hr0 : c.w.heap[r]? = some ob0) (hs : (match ob0 with | .cells cs t _ => some (t, cs.size) | _ => none) = (match ob with | .cells cs t _ => some (t, cs.size) | _ => none))
    (hK : k tm v (c.H.set b blk)) (hv : ∀ c', VRel c' v u) (hn : n = .value u ∨ (n = .skip ∧ u = undef))
    (hold : Fr c (c.put b blk r ob) → Holds (c.put b blk r ob) r off blk)
    (hr : (execOp a.eval o).run P c.w = .ok n (setBlk c.w r ob)) : Res P C o a c0 c k := by
  have hfr := Cx.put_fr hb hk hl hφ hr0 hs
  exact .val tm v u (c.put b blk r ob) n hK (hv _) (hf.trans hfr) (ht.mono hfr hh.img) (Cx.put_heap hh hb hl (by rw [live_kind hk]; exact hl) hφ hfr (hold hfr)) hn hr
theorem ok_store (hT : TOK P T) {n0 : Nat} {t : TypeId} {x y : Operand} (ho : o.op = .store t x y) (hf : Fr c0 c) (ht : TRel c tm a.tmps) (hh : HRel c) (h : opW C T n0 (.store t x y) tm c.H k) : Res P C o a c0 c k := by
  have ex := eval_rel ht x
  have ey := eval_rel ht y
  simp only [opW] at h
  split at h
  · rename_i n hn
    obtain ⟨hn0, h⟩ := whenB_iff.1 h
    have hn0 : 0 < n := by simp [Nat.blt] at hn0; omega
    rw [force_iff] at h
    obtain ⟨h1, h⟩ := whenB_iff.1 h
    rw [lenL_iff] at h
    obtain ⟨h2, h⟩ := whenB_iff.1 h
    have h2 := Nat.eq_of_beq_eq_true h2
    have hcr := cells_rel ey h1
    have hone := allOne_rel hcr h1
    have hus : (a.eval y).cells.size = n := by rw [← h2, hcr.1]; simp
    generalize evalO tm y = v at h h1 h2 hcr ey
    have unit : ∀ c' : Cx, VRel c' (.tuple []) undef := fun c' => .tuple rfl (by simp)
    -- the run, at a block of cells
    have run : ∀ {r off : Nat} {cs : Array Value} {t' : TypeId} {fr : Nat × Nat}, a.eval x = .pointer (some ⟨r, off, none⟩) → c.w.heap[r]? = some (.cells cs t' fr) → off + n ≤ cs.size → Unf fr cs.size → 0 < n →
        (execOp a.eval o).run P c.w = .ok .skip (setBlk c.w r (.cells (splA cs off (a.eval y).cells.toList) t' fr)) := by
      intro r off cs t' fr hx hb hle hfr hn0
      have hst := run_stores (P := P) (off := off) (a.eval y).cells.toList 0 c.w cs hb (by simpa [hus] using hle) hfr.1 hone
      have hne : (a.eval y).cells.toList ≠ [] := by
        intro e
        have := congrArg List.length e
        simp [hus] at this
        omega
      rw [if_neg hne, Nat.add_zero] at hst
      simp only [execOp, ho, hx, Instr.storeAt, Instr.sureAddr, Sem.run_bind, Sem.run_pure, Result.andThen_ok, storeVar, sizeT_ok hT hn, hus, ne_eq, not_true_eq_false, if_false]
      simp [hst]
    unfold storeW at h
    split at h
    · rename_i b i j heq
      rw [heq] at ex
      obtain ⟨p, hp⟩ := ex.inv_ptr
      rw [hp] at ex
      split at h
      · rename_i l hb
        obtain ⟨r, off, hφ, hpe⟩ := ex.ptr_live hb rfl
        obtain ⟨hX, cells, t', fr, hw, hfr, hle, hrel⟩ := hh.at_ hb rfl hφ
        obtain ⟨h3, h4⟩ := spliceL_iff h
        rw [setL_iff] at h4
        simp only [lin] at hpe
        refine res_put (blk := .cells (l.take (i + j) ++ v.cells ++ l.drop (i + j + v.cells.length))) hf ht hh hb rfl rfl hφ hw (ob := .cells (splA cells (off + (i + j)) (a.eval y).cells.toList) t' fr) ?_ h4 unit (.inr ⟨rfl, rfl⟩) (fun hfc => ?_) (run (by rw [hp, hpe]) hw (by omega) hfr (by omega))
        · simp [splA_size (cs := cells) (off := off + (i + j)) (vs := (a.eval y).cells.toList) (by simp [hus]; omega)]
        · have hsz := splA_size (cs := cells) (off := off + (i + j)) (vs := (a.eval y).cells.toList) (by simp [hus]; omega)
          refine ⟨_, t', fr, setBlk_same (lt_of_heap hw), by rw [hsz]; exact hfr, by rw [hsz, splice_len _ _ _ h3]; exact hle, fun q x' u' g1 g2 => ?_⟩
          rw [splice_get _ _ _ _ h3] at g1
          rw [splA_get (by simp [hus]; omega)] at g2
          simp only [Array.length_toList, hus] at g2
          by_cases hq : i + j ≤ q ∧ q < i + j + v.cells.length
          · rw [if_pos hq] at g1
            rw [if_pos (by omega)] at g2
            exact (hcr.2 (q - (i + j)) x' u' g1 (by rw [← g2]; congr 1; omega)).mono hfc hh.img
          · rw [if_neg hq] at g1
            rw [if_neg (by omega)] at g2
            exact (hrel q x' u' g1 g2).mono hfc hh.img
      · rename_i kk l hb
        obtain ⟨r, off, hφ, hpe⟩ := ex.ptr_live hb rfl
        obtain ⟨hX, cells, t', fr, hw, hfr, hle, hrel⟩ := hh.at_ hb rfl hφ
        simp only [lin] at hpe
        split at h
        · rename_i k' m
          obtain ⟨h3, h⟩ := whenB_iff.1 h
          obtain ⟨h4, h⟩ := need_iff.1 h
          rw [setL_iff] at h
          have h3 := sameKind_iff.1 h3
          have hn1 : n = 1 := by rw [← h2]; rfl
          have hey := ey.inv_int
          rw [hey] at run hus
          refine res_put (blk := .ints kk (l.set (i + j) m)) hf ht hh hb rfl rfl hφ hw (ob := .cells (splA cells (off + (i + j)) (Value.int k' m).cells.toList) t' fr) ?_ h unit (.inr ⟨rfl, rfl⟩) (fun hfc => ?_) (run (by rw [hp, hpe]) hw (by omega) hfr (by omega))
          · simp [splA_size (cs := cells) (off := off + (i + j)) (vs := (Value.int k' m).cells.toList) (by simp [Value.cells]; omega)]
          · have hsz := splA_size (cs := cells) (off := off + (i + j)) (vs := (Value.int k' m).cells.toList) (by simp [Value.cells]; omega)
            refine ⟨_, t', fr, setBlk_same (lt_of_heap hw), by rw [hsz]; exact hfr, by rw [hsz, List.length_set]; exact hle, fun q x' g1 => ?_⟩
            rw [splA_get (by simp [Value.cells]; omega)]
            simp only [Value.cells, List.length_cons, List.length_nil]
            by_cases hq : q = i + j
            · subst hq
              rw [List.getElem?_set_self h4] at g1
              cases g1
              simp [h3]
            · rw [List.getElem?_set_ne (Ne.symm hq)] at g1
              have hno : ¬ (off + (i + j) ≤ off + q ∧ off + q < off + (i + j) + (0 + 1)) := by omega
              simp only [hno, if_false]
              exact hrel q x' g1
        · exact h.elim
      · rename_i sz m f hb
        obtain ⟨r, off, hφ, hpe⟩ := ex.ptr_live hb rfl
        obtain ⟨hX, cells, t', fr, hw, hfr, hle, hrel⟩ := hh.at_ hb rfl hφ
        simp only [lin] at hpe
        obtain ⟨h3, h⟩ := whenB_iff.1 h
        rw [lenL_iff] at h
        obtain ⟨⟨hi, hj⟩, h⟩ := need_iff.1 h
        rw [setL_iff, h2] at h
        have hlen := (hrel i hi).1
        have hile : i * sz + sz ≤ m * sz := by rw [← Nat.succ_mul]; exact Nat.mul_le_mul_right _ hi
        have hsz := splA_size (cs := cells) (off := off + (i * sz + j)) (vs := (a.eval y).cells.toList) (by simp [hus]; omega)
        refine res_put (blk := .rows sz m fun q => if q = i then (f i).take j ++ v.cells ++ (f i).drop (j + n) else f q) hf ht hh hb rfl rfl hφ hw (ob := .cells (splA cells (off + (i * sz + j)) (a.eval y).cells.toList) t' fr) (by simp [hsz]) h unit (.inr ⟨rfl, rfl⟩) (fun hfc => ?_) (run (by rw [hp, hpe]) hw (by omega) hfr hn0)
        refine ⟨_, t', fr, setBlk_same (lt_of_heap hw), by rw [hsz]; exact hfr, by rw [hsz]; exact hle, fun q hq => ?_⟩
        have get : ∀ z, (splA cells (off + (i * sz + j)) (a.eval y).cells.toList)[z]? = if off + (i * sz + j) ≤ z ∧ z < off + (i * sz + j) + n then (a.eval y).cells.toList[z - (off + (i * sz + j))]? else cells[z]? := fun z => by
          rw [splA_get (by simp [hus]; omega)]
          simp [hus]
        by_cases hqi : q = i
        · subst hqi
          simp only [if_true]
          have hs3 : j + v.cells.length ≤ (f q).length := by rw [hlen]; exact hj
          refine ⟨by rw [← h2, splice_len _ _ _ hs3, hlen], fun z x' u' g1 g2 => ?_⟩
          rw [← h2, splice_get _ _ _ _ hs3] at g1
          rw [get] at g2
          by_cases hz : j ≤ z ∧ z < j + v.cells.length
          · rw [if_pos hz] at g1
            rw [if_pos (by omega)] at g2
            exact (closed_rel (hcr.2 (z - j) x' u' g1 (by rw [← g2]; congr 1; omega)) (allClosed_mem h3 x' (List.mem_of_getElem? g1))).mono (hfc.quiet hh.img)
          · rw [if_neg hz] at g1
            rw [if_neg (by omega)] at g2
            exact ((hrel q hi).2 z x' u' g1 g2).mono (hfc.quiet hh.img)
        · simp only [hqi, if_false]
          refine ⟨(hrel q hq).1, fun z x' u' g1 g2 => ?_⟩
          have hzl := (List.getElem?_eq_some_iff.1 g1).1
          rw [(hrel q hq).1] at hzl
          rw [get, if_neg ?_] at g2
          · exact ((hrel q hq).2 z x' u' g1 g2).mono (hfc.quiet hh.img)
          · intro hbad
            rcases Nat.lt_or_gt_of_ne hqi with hlt | hgt
            · have : q * sz + sz ≤ i * sz := by rw [← Nat.succ_mul]; exact Nat.mul_le_mul_right _ hlt
              omega
            · have : i * sz + sz ≤ q * sz := by rw [← Nat.succ_mul]; exact Nat.mul_le_mul_right _ hgt
              omega
      · exact h.elim
    · exact h.elim
  · exact h.elim
end
end Go.E
namespace Go.E
section
variable {P : Program} {T : TEnv} {C : CallH} {c0 c c' : Cx} {a : Act} {o : Oper} {tm : List AVal} {k : List AVal → AVal → Heap → Prop}
theorem ok_range (hT : TOK P T) {n0 : Nat} {t : TypeId} {x : Operand} (ho : o.op = .range t x) (hf : Fr c0 c) (ht : TRel c tm a.tmps) (hh : HRel c) (h : opW C T n0 (.range t x) tm c.H k) : Res P C o a c0 c k := by
  have e := eval_rel ht x
  simp only [opW] at h
  split at h
  · rename_i z p s hti heq
    rw [heq] at e
    rw [newW_iff] at h
    exact res_push (ob := .stringIter s 0) hf ht hh h (vrel_newptr _ _) ⟨rfl, push_heap_new c _ _⟩
      (by simp [execOp, ho, e.inv_str, Instr.range, run_underlying (hT.str hti)])
  · exact h.elim
theorem run_getObj' {w : World} {r : Nat} {s : ByteArray} {pos : Nat} (h : w.heap[r]? = some (.stringIter s pos)) : (getObj r).run P w = .ok (.stringIter s pos) w := by
  simp [getObj, Sem.run, h]
theorem run_setObj' {w : World} {r : Nat} {s : ByteArray} {pos : Nat} (h : w.heap[r]? = some (.stringIter s pos)) (ob : Obj) : (setObj r ob).run P w = .ok () (setBlk w r ob) := by
  simp [setObj, Sem.run, h, setBlk]
theorem ok_next {n0 : Nat} {x : Operand} (ho : o.op = .next x true) (hf : Fr c0 c) (ht : TRel c tm a.tmps) (hh : HRel c) (h : opW C T n0 (.next x true) tm c.H k) : Res P C o a c0 c k := by
  have e := eval_rel ht x
  simp only [opW] at h
  split at h
  · rename_i b heq
    rw [heq] at e
    obtain ⟨p, hp⟩ := e.inv_ptr
    rw [hp] at e
    split at h
    · rename_i s pos hb
      obtain ⟨r, off, hφ, hpe⟩ := e.ptr_live hb rfl
      obtain ⟨hX, hoff, hw⟩ := hh.at_ hb rfl hφ
      subst hoff
      simp only [lin, Nat.add_zero] at hpe
      have h := branch_at h
      by_cases hlt : pos < s.size
      · simp only [hlt, decide_true, if_true] at h
        rw [setL_iff] at h
        refine res_put (blk := .iter s (pos + (Utf8.decode s pos).2)) (ob := .stringIter s (pos + (Utf8.decode s pos).2)) (u := .tuple #[.bool true, .int .i64 pos, .int .i32 (Utf8.decode s pos).1]) hf ht hh hb rfl rfl hφ hw rfl h
          (fun c' => .tuple rfl fun i v u h1 h2 => ?_) (.inl rfl) (fun hfc => ⟨rfl, setBlk_same (lt_of_heap hw)⟩) ?_
        · match i, h1, h2 with
          | 0, h1, h2 => simp at h1 h2; subst h1; subst h2; exact .mk_bool c' _
          | 1, h1, h2 => simp at h1 h2; subst h1; subst h2; exact .mk_int c' _ _
          | 2, h1, h2 => simp at h1 h2; subst h1; subst h2; exact .mk_int c' _ _
          | n + 3, h1, h2 => simp at h1
        · simp [execOp, ho, hp, hpe, Instr.next, run_getObj' hw, hlt, run_setObj' hw, goInt]
      · simp only [hlt, decide_false, Bool.false_eq_true, if_false] at h
        refine .val tm _ (.tuple #[.bool false]) c _ h (.tuple rfl fun i v u h1 h2 => ?_) hf ht hh (.inl rfl) ?_
        · match i, h1, h2 with
          | 0, h1, h2 => simp at h1 h2; subst h1; subst h2; exact .mk_bool c _
          | n + 1, h1, h2 => simp at h1
        · simp [execOp, ho, hp, hpe, Instr.next, run_getObj' hw, hlt]
    · exact h.elim
  · exact h.elim
theorem scrubW_iff {b : Nat} : ∀ {tm : List AVal} {K : List AVal → Prop}, scrubW b tm K ↔ K (tm.map (scrubV b)) := by
  intro tm
  induction tm with
  | nil => intro K; simp [scrubW]
  | cons v r ih => intro K; simp [scrubW, force_iff, ih]
def scrubBlk (b : Nat) : Blk → Blk
  | .cells cs => .cells (cs.map (scrubV b))
  | x => x
theorem scrubB_iff {b : Nat} {x : Blk} {K : Blk → Prop} : scrubB b x K ↔ K (scrubBlk b x) := by
  cases x <;> simp [scrubB, scrubBlk, scrubW_iff]
theorem scrubH_iff {b : Nat} : ∀ {H : Heap} {K : Heap → Prop}, scrubH b H K ↔ K (H.map (scrubBlk b)) := by
  intro H
  induction H with
  | nil => intro K; simp [scrubH]
  | cons v r ih => intro K; simp [scrubH, scrubB_iff, ih]
theorem scrub_kind (b : Nat) (x : Blk) : (scrubBlk b x).kind = x.kind := by cases x <;> rfl
structure Mv (c c' : Cx) (b : Nat) (blk : Blk) : Prop where
  os : c'.w.os = c.w.os
  tape : c'.w.tape = c.w.tape
  output : c'.w.output = c.w.output
  size : c.w.heap.size ≤ c'.w.heap.size
  keep : ∀ r, r < c.w.heap.size → (∀ o, c.φ b ≠ some (r, o)) → c'.w.heap[r]? = c.w.heap[r]?
  shape : ∀ r, r < c.w.heap.size → c'.w.shape? r = c.w.shape? r
  X : ∀ r, r < c.w.heap.size → (c'.X r ↔ c.X r)
  small : ∀ r, c'.X r → r < c'.w.heap.size
  φ : ∀ b', b' ≠ b → c'.φ b' = c.φ b'
  H : c'.H = (c.H.map (scrubBlk b)).set b blk
  at_ : (blk.void ∧ c'.φ b = none) ∨ ∃ r o, c'.φ b = some (r, o) ∧ c'.X r ∧ Holds c' r o blk ∧ ((∃ o', c.φ b = some (r, o')) ∨ c.w.heap.size ≤ r)
theorem Mv.quiet {b : Nat} {blk blk0 : Blk} (h : Mv c c' b blk) (hh : HRel c) (hb : c.H[b]? = some blk0) (hl : blk0.live = true) : Quiet c c' := fun r o hr hx => by
  have hlt := lt_of_heap hr
  refine ⟨?_, fun hx' => hx ((h.X r hlt).1 hx')⟩
  rw [h.keep r hlt fun o' e => hx (hh.at_ hb hl e).1]
  exact hr
theorem Mv.get {b : Nat} {blk : Blk} (h : Mv c c' b blk) {b' : Nat} (hne : b' ≠ b) {x : Blk} (hx : c.H[b']? = some x) : c'.H[b']? = some (scrubBlk b x) := by
  rw [h.H, List.getElem?_set_ne (Ne.symm hne), List.getElem?_map, hx]
  rfl
theorem lin_scrub (b : Nat) (x : Blk) (y : AAddr) : lin (scrubBlk b x) y = lin x y := lin_kind (scrub_kind b x) y
theorem room_of_shape {w w' : World} {r n : Nat} (hs : ∀ r, r < w.heap.size → w'.shape? r = w.shape? r) (h : Room w r n) : Room w' r n := by
  obtain ⟨cs, t, fr, hb, hn⟩ := h
  have hlt := lt_of_heap hb
  have hs := hs r hlt
  simp only [World.shape?, hb] at hs
  split at hs
  · rename_i cs' t' fr' hb'
    simp only [Option.some.injEq, Prod.mk.injEq] at hs
    exact ⟨cs', t', fr', hb', by omega⟩
  · cases hs
theorem Mv.vrel {b : Nat} {blk blk0 : Blk} (h : Mv c c' b blk) (hh : HRel c) (hb : c.H[b]? = some blk0) (hl : blk0.live = true) : ∀ (d : Nat) (v : AVal) (u : Value), v.names b d = false → VRel c v u → VRel c' v u := by
  have hq := h.quiet hh hb hl
  intro d
  induction d with
  | zero => intro v u hn _; simp [AVal.names] at hn
  | succ d ih =>
    intro v u hn hv
    cases hv with
    | closed hr => exact .closed (hr.mono hq)
    | any u => exact .any u
    | ptr hb' hp =>
      rename_i y p blk'
      have hne : y.blk ≠ b := Nat.ne_of_beq_eq_false hn
      refine .ptr (h.get hne hb') fun hl' => ?_
      obtain ⟨r, o, h1, h2⟩ := hp (by rw [← live_kind (scrub_kind b blk')]; exact hl')
      exact ⟨r, o, (h.φ _ hne).trans h1, by rw [h2, lin_scrub]⟩
    | slice hb' hk hp =>
      rename_i y n kk A blk'
      have hne : y.blk ≠ b := Nat.ne_of_beq_eq_false hn
      refine .slice (h.get hne hb') hk fun hl' => ?_
      rcases hp (by rw [← live_kind (scrub_kind b blk')]; exact hl') with h0 | ⟨r, o, h1, h2, h3⟩
      · exact .inl h0
      · exact .inr ⟨r, o, (h.φ _ hne).trans h1, by rw [h2, lin_scrub], fun hg => by rw [lin_scrub, stride_kind (scrub_kind b blk')]; exact room_of_shape h.shape (h3 (by rw [← grows_kind (scrub_kind b blk')]; exact hg))⟩
    | roptr hi hx hb hlen hin hrel => exact .roptr hi (hq _ _ hb hx).2 (hq _ _ hb hx).1 hlen hin (fun i hi j v u h1 h2 => (hrel i hi j v u h1 h2).mono hq)
    | agg hl hrel =>
      refine .agg hl fun i v u h1 h2 => ih v u ?_ (hrel i v u h1 h2)
      simp only [AVal.names, List.any_eq_false] at hn
      simpa using hn v (List.mem_of_getElem? h1)
    | tuple hl hrel =>
      refine .tuple hl fun i v u h1 h2 => ih v u ?_ (hrel i v u h1 h2)
      simp only [AVal.names, List.any_eq_false] at hn
      simpa using hn v (List.mem_of_getElem? h1)
    | fn hl hrel hl' hrel' =>
      simp only [AVal.names, Bool.or_eq_false_iff, List.any_eq_false] at hn
      refine .fn hl (fun i v u h1 h2 => ih v u ?_ (hrel i v u h1 h2)) hl' (fun i v u h1 h2 => ih v u ?_ (hrel' i v u h1 h2))
      · simpa using hn.1 v (List.mem_of_getElem? h1)
      · simpa using hn.2 v (List.mem_of_getElem? h1)
theorem Mv.scrub {b : Nat} {blk blk0 : Blk} (h : Mv c c' b blk) (hh : HRel c) (hb : c.H[b]? = some blk0) (hl : blk0.live = true) {v : AVal} {u : Value} (hv : VRel c v u) : VRel c' (scrubV b v) u := by
  unfold scrubV
  cases hn : v.names b 4 with
  | true => exact .any u
  | false => exact h.vrel hh hb hl 4 v u hn hv
theorem Mv.trel {b : Nat} {blk blk0 : Blk} (h : Mv c c' b blk) (hh : HRel c) (hb : c.H[b]? = some blk0) (hl : blk0.live = true) {us : Array Value} (ht : TRel c tm us) : TRel c' (tm.map (scrubV b)) us :=
  ⟨by simp [ht.1], fun i v u h1 h2 => by
    rw [List.getElem?_map] at h1
    obtain ⟨v0, hv0, rfl⟩ := Option.map_eq_some_iff.1 h1
    exact h.scrub hh hb hl (ht.2 i v0 u hv0 h2)⟩
theorem Mv.heap {b : Nat} {blk blk0 : Blk} (h : Mv c c' b blk) (hh : HRel c) (hb : c.H[b]? = some blk0) (hl : blk0.live = true) : HRel c' := by
  have hq := h.quiet hh hb hl
  have hlt := (List.getElem?_eq_some_iff.1 hb).1
  have back : ∀ {b' : Nat} {x : Blk}, b' ≠ b → c'.H[b']? = some x → ∃ y, c.H[b']? = some y ∧ x = scrubBlk b y := by
    intro b' x hne hx
    rw [h.H, List.getElem?_set_ne (Ne.symm hne), List.getElem?_map] at hx
    obtain ⟨y, hy, rfl⟩ := Option.map_eq_some_iff.1 hx
    exact ⟨y, hy, rfl⟩
  have mine : ∀ {x : Blk}, c'.H[b]? = some x → x = blk := by
    intro x hx
    rw [h.H, List.getElem?_set_self (by simpa using hlt)] at hx
    cases hx; rfl
  have other : ∀ {b' : Nat} {y : Blk} {r o : Nat}, b' ≠ b → c.H[b']? = some y → y.live = true → c.φ b' = some (r, o) → (∀ o', c.φ b ≠ some (r, o')) ∧ r < c.w.heap.size := by
    intro b' y r o hne hy hly hf
    exact ⟨fun o' e => hne (hh.inj b' b _ _ r o o' hy hly hb hl hf e), (hh.at_ hy hly hf).2.lt hly⟩
  refine ⟨?_, h.small, ?_⟩
  · intro b' x hx hlx
    by_cases e : b' = b
    · subst e
      have := mine hx
      subst this
      rcases h.at_ with h0 | ⟨r, o, h1, h2, h3, _⟩
      · exact .inl h0
      · exact .inr ⟨r, o, h1, h2, h3⟩
    · obtain ⟨y, hy, rfl⟩ := back e hx
      have hly : y.live = true := by rw [← live_kind (scrub_kind b y)]; exact hlx
      rcases hh.holds b' y hy hly with ⟨h1, h2⟩ | ⟨r, o, h1, h2, h3⟩
      · refine .inl ⟨?_, (h.φ _ e).trans h2⟩
        cases y <;> simp_all [Blk.void, scrubBlk]
      · obtain ⟨hno, hr⟩ := other e hy hly h1
        have heq := h.keep r hr hno
        refine .inr ⟨r, o, (h.φ _ e).trans h1, (h.X r hr).2 h2, ?_⟩
        cases y with
        | dead => trivial
        | cells l =>
          obtain ⟨cs, t, fr, g1, g2, g3, g4⟩ := h3
          refine ⟨cs, t, fr, heq.trans g1, g2, by simpa using g3, fun j v u q1 q2 => ?_⟩
          rw [List.getElem?_map] at q1
          obtain ⟨v0, hv0, rfl⟩ := Option.map_eq_some_iff.1 q1
          exact h.scrub hh hb hl (g4 j v0 u hv0 q2)
        | ints kk l =>
          obtain ⟨cs, t, fr, g1, g2, g3, g4⟩ := h3
          exact ⟨cs, t, fr, heq.trans g1, g2, g3, g4⟩
        | rows sz n f =>
          obtain ⟨cs, t, fr, g1, g2, g3, g4⟩ := h3
          exact ⟨cs, t, fr, heq.trans g1, g2, g3, fun i hi => ⟨(g4 i hi).1, fun j v u q1 q2 => ((g4 i hi).2 j v u q1 q2).mono hq⟩⟩
        | iter s pos => exact ⟨h3.1, heq.trans h3.2⟩
        | sb l => exact holds_sb hq heq h3
  · intro b1 b2 x1 x2 r o1 o2 h1 l1 h2 l2 f1 f2
    have key : ∀ {b' : Nat} {x : Blk} {o' o'' : Nat}, b' ≠ b → c'.H[b']? = some x → x.live = true → c'.φ b' = some (r, o') → c'.φ b = some (r, o'') → False := by
      intro b' x o' o'' hne hx hlx hf hfb
      obtain ⟨y, hy, rfl⟩ := back hne hx
      have hly : y.live = true := by rw [← live_kind (scrub_kind b y)]; exact hlx
      rw [h.φ _ hne] at hf
      obtain ⟨hno, hr⟩ := other hne hy hly hf
      rcases h.at_ with ⟨_, h0⟩ | ⟨r', o3, g1, _, _, g2⟩
      · rw [h0] at hfb; cases hfb
      · rw [hfb] at g1
        cases g1
        rcases g2 with ⟨o4, g2⟩ | g2
        · exact hno o4 g2
        · omega
    by_cases e1 : b1 = b
    · by_cases e2 : b2 = b
      · rw [e1, e2]
      · rw [e1] at f1; exact (key e2 h2 l2 f2 f1).elim
    · by_cases e2 : b2 = b
      · rw [e2] at f2; exact (key e1 h1 l1 f1 f2).elim
      · obtain ⟨y1, hy1, rfl⟩ := back e1 h1
        obtain ⟨y2, hy2, rfl⟩ := back e2 h2
        rw [h.φ _ e1] at f1
        rw [h.φ _ e2] at f2
        exact hh.inj b1 b2 _ _ r o1 o2 hy1 (by rw [← live_kind (scrub_kind b y1)]; exact l1) hy2 (by rw [← live_kind (scrub_kind b y2)]; exact l2) f1 f2
theorem Mv.fr {b : Nat} {blk blk0 : Blk} (h : Mv c c' b blk) (hb : c.H[b]? = some blk0) (hl : blk0.live = true) (hk : blk.kind = blk0.kind) (hn : c0.H.length ≤ b) (hf : Fr c0 c) : Fr c0 c' where
  os := h.os.trans hf.os
  tape := h.tape.trans hf.tape
  output := h.output.trans hf.output
  size := Nat.le_trans hf.size h.size
  keep := fun r hr hno => by
    rw [h.keep r (Nat.lt_of_lt_of_le hr hf.size) ?_, hf.keep r hr hno]
    intro o e
    have := hf.img b blk0 r o hn hb hl e
    omega
  shape := fun r hr => (h.shape r (Nat.lt_of_lt_of_le hr hf.size)).trans (hf.shape r hr)
  X := fun r hr => (h.X r (Nat.lt_of_lt_of_le hr hf.size)).trans (hf.X r hr)
  blocks := fun b' x hx => by
    have hlt := (List.getElem?_eq_some_iff.1 hx).1
    obtain ⟨x', h1, h2, h3⟩ := hf.blocks b' x hx
    have hne : b' ≠ b := by omega
    exact ⟨_, h.get hne h1, (scrub_kind b x').trans h2, (h.φ _ hne).trans h3⟩
  img := fun b' x r o hle hx hlx hfx => by
    by_cases e : b' = b
    · subst e
      rcases h.at_ with ⟨_, h0⟩ | ⟨r', o', g1, _, _, g2⟩
      · rw [h0] at hfx; cases hfx
      · rw [hfx] at g1
        cases g1
        rcases g2 with ⟨o4, g2⟩ | g2
        · exact hf.img b' blk0 r o4 hle hb hl g2
        · have := hf.size
          omega
    · rw [h.H, List.getElem?_set_ne (Ne.symm e), List.getElem?_map] at hx
      obtain ⟨y, hy, rfl⟩ := Option.map_eq_some_iff.1 hx
      rw [h.φ _ e] at hfx
      exact hf.img b' y r o hle hy (by rw [← live_kind (scrub_kind b y)]; exact hlx) hfx
end
end Go.E
namespace Go.E
section
variable {P : Program} {T : TEnv} {C : CallH} {c0 c c' : Cx} {a : Act} {o : Oper} {tm : List AVal} {k : List AVal → AVal → Heap → Prop}
structure Src (P : Program) (c : Cx) (es : Nat) (u : Value) (m : Nat) (row : Nat → List AVal) (ws : Array Value) : Prop where
  len : ∀ w, (Builtin.lenOf u).run P w = .ok m w
  cells : ∀ w : World, w.heap = c.w.heap → (Builtin.firstCells es m u).run P w = .ok ws w
  size : ws.size = m * es
  rows : ∀ i, i < m → (row i).length = es ∧ ∀ (j : Nat) (v : AVal) (u : Value), (row i)[j]? = some v → ws[i * es + j]? = some u → RRel c.w c.X v u
  one : ∀ u ∈ ws.toList, oneU u = true
theorem rrel_one {w : World} {X : Nat → Prop} {v : AVal} {u : Value} (h : RRel w X v u) : oneU u = true := by cases h <;> rfl
theorem first_seg {r off n es : Nat} {cs : Array Value} {t : TypeId} {fr : Nat × Nat} {cap len : Nat} {w : World} (hb : w.heap[r]? = some (.cells cs t fr)) (hle : off + n * es ≤ cs.size) :
    (Builtin.firstCells es n (.slice (some ⟨r, off, none⟩) len cap)).run P w = .ok ((cs.toList.drop off).take (n * es)).toArray w := by
  have hl : ((cs.toList.drop off).take (n * es)).length = n * es := by simp; omega
  have := run_loadCells_list (P := P) w ⟨r, off, none⟩ ((cs.toList.drop off).take (n * es)) (fun q v hv => by
    rw [add_none, cell_of_row w r _ cs t fr hb]
    simp only [List.getElem?_take, List.getElem?_drop] at hv
    split at hv
    · rwa [Array.getElem?_toList] at hv
    · cases hv)
  rw [hl] at this
  exact this
theorem src_seg {r off m es cap len : Nat} {cs : Array Value} {t : TypeId} {fr : Nat × Nat} {row : Nat → List AVal} (h0 : 0 < es) (hb : c.w.heap[r]? = some (.cells cs t fr)) (hle : off + m * es ≤ cs.size) (hlen : len = m)
    (hrow : ∀ i, i < m → (row i).length = es ∧ ∀ (j : Nat) (v : AVal) (u : Value), (row i)[j]? = some v → cs[off + i * es + j]? = some u → RRel c.w c.X v u) :
    Src P c es (.slice (some ⟨r, off, none⟩) len cap) m row ((cs.toList.drop off).take (m * es)).toArray := by
  have get : ∀ q, q < m * es → ((cs.toList.drop off).take (m * es)).toArray[q]? = cs[off + q]? := fun q hq => by
    simp only [List.getElem?_toArray, List.getElem?_take, List.getElem?_drop, hq, if_true, Array.getElem?_toList]
  have hrow' : ∀ i, i < m → (row i).length = es ∧ ∀ (j : Nat) (v : AVal) (u : Value), (row i)[j]? = some v → ((cs.toList.drop off).take (m * es)).toArray[i * es + j]? = some u → RRel c.w c.X v u := by
    intro i hi
    refine ⟨(hrow i hi).1, fun j v u h1 h2 => ?_⟩
    have hj := (List.getElem?_eq_some_iff.1 h1).1
    rw [(hrow i hi).1] at hj
    have : i * es + es ≤ m * es := by rw [← Nat.succ_mul]; exact Nat.mul_le_mul_right _ hi
    rw [get _ (by omega)] at h2
    exact (hrow i hi).2 j v u h1 (by rw [Nat.add_assoc]; exact h2)
  refine ⟨fun w => by simp [Builtin.lenOf, hlen], fun w hw => first_seg (by rw [hw]; exact hb) hle, by simp; omega, hrow', fun u hu => ?_⟩
  obtain ⟨q, hq, rfl⟩ := List.mem_iff_getElem.1 hu
  have hq' : q < m * es := by simp at hq; omega
  have hi : q / es < m := (Nat.div_lt_iff_lt_mul h0).2 hq'
  have hj : q % es < es := Nat.mod_lt _ h0
  have hx : (row (q / es))[q % es]? = some ((row (q / es))[q % es]'(by rw [(hrow _ hi).1]; exact hj)) := List.getElem?_eq_getElem _
  refine rrel_one ((hrow' (q / es) hi).2 (q % es) _ _ hx ?_)
  have hdm : q / es * es + q % es = q := by rw [Nat.mul_comm]; exact Nat.div_add_mod q es
  rw [hdm, ← Array.getElem?_toList]
  exact List.getElem?_eq_getElem hq
theorem src_nil {es : Nat} {u : Value} {A : Option Addr} {cap : Nat} (hu : u = .slice A 0 cap) (row : Nat → List AVal) : Src P c es u 0 row #[] := by
  subst hu
  refine ⟨fun w => by simp [Builtin.lenOf], fun w _ => ?_, by simp, fun i hi => by omega, fun u hu => by simp at hu⟩
  cases A with
  | none => simp [Builtin.firstCells]
  | some x => simp [Builtin.firstCells, loadCells, loadCellsFrom]
theorem src_ok {es : Nat} (h0 : 0 < es) {x : AVal} {u : Value} (hh : HRel c) (hx : VRel c x u) {K : Nat → (Nat → List AVal) → Prop} (h : srcW es c.H x K) : ∃ m row ws, K m row ∧ Src P c es u m row ws := by
  unfold srcW at h
  split at h
  · rename_i sz m row
    obtain ⟨hs, h⟩ := whenB_iff.1 h
    have hs := Nat.eq_of_beq_eq_true hs
    cases hx with
    | closed hx => cases hx with
      | roNil A cap => exact ⟨0, row, #[], h, src_nil rfl row⟩
      | ro hc hxx hb hlen hin hrel =>
        rename_i r off cap cs t fr
        rw [hs] at hin hlen hrel
        by_cases hm : m = 0
        · subst hm
          exact ⟨0, row, #[], h, src_nil rfl row⟩
        · have hle : off + m * es ≤ cs.size := by
            have := hin (m - 1) (by omega)
            have e : m * es = (m - 1) * es + es := by rw [← Nat.succ_mul]; congr 1; omega
            omega
          exact ⟨m, row, _, h, src_seg h0 hb hle rfl fun i hi => ⟨hlen i hi, hrel i hi⟩⟩
  · exact ⟨0, _, #[], h, src_nil hx.inv_nilslice _⟩
  · rename_i b i0 m
    obtain ⟨A, cap, hu, hk⟩ := hx.inv_slice
    subst hu
    split at h
    · rename_i kk l hb
      obtain ⟨hs, h⟩ := whenB_iff.1 h
      have hs := Nat.eq_of_beq_eq_true hs
      obtain ⟨hle, h⟩ := need_iff.1 h
      rcases hx.slice_live hb rfl with ⟨h1, _⟩ | ⟨r, off, hφ, hA, _⟩
      · subst h1
        exact ⟨0, _, #[], h, src_nil rfl _⟩
      · subst hA
        obtain ⟨_, cs, t, fr, hw, _, hcl, hrel⟩ := hh.at_ hb rfl hφ
        simp only [lin, Nat.add_zero]
        refine ⟨m, _, _, h, src_seg h0 hw (by rw [hs]; omega) rfl fun i hi => ⟨by rw [hs]; rfl, fun j v u h1 h2 => ?_⟩⟩
        cases j with
        | zero =>
          simp only [List.getElem?_cons_zero, Option.some.injEq] at h1
          subst h1
          have := hrel (i0 + i) l[i0 + i] (List.getElem?_eq_getElem (by omega))
          rw [hs, Nat.mul_one, Nat.add_zero, Nat.add_assoc, this] at h2
          cases h2
          rw [List.getD_eq_getElem?_getD, List.getElem?_eq_getElem (by omega)]
          exact .int _ _
        | succ j => simp at h1
    · rename_i sz n f hb
      obtain ⟨hs, h⟩ := whenB_iff.1 h
      have hs := Nat.eq_of_beq_eq_true hs
      obtain ⟨hle, h⟩ := need_iff.1 h
      rcases hx.slice_live hb rfl with ⟨h1, _⟩ | ⟨r, off, hφ, hA, _⟩
      · subst h1
        exact ⟨0, _, #[], h, src_nil rfl _⟩
      · subst hA
        obtain ⟨_, cs, t, fr, hw, _, hcl, hrel⟩ := hh.at_ hb rfl hφ
        simp only [lin, Nat.add_zero]
        rw [hs] at hcl hrel ⊢
        have hmul : (i0 + m) * es ≤ n * es := Nat.mul_le_mul_right _ hle
        rw [Nat.add_mul] at hmul
        refine ⟨m, _, _, h, src_seg h0 hw (by omega) rfl fun i hi => ⟨(hrel (i0 + i) (by omega)).1, fun j v u h1 h2 => (hrel (i0 + i) (by omega)).2 j v u h1 ?_⟩⟩
        rw [Nat.add_mul, ← h2]
        congr 1
        omega
    · exact h.elim
  · rename_i s
    obtain ⟨hs, h⟩ := whenB_iff.1 h
    have hs := Nat.eq_of_beq_eq_true hs
    rw [hx.inv_str]
    have hex : (s.extract 0 s.size) = s := by simp
    refine ⟨s.size, _, s.data.map fun b => .int .u8 b.toNat, h, fun w => by simp [Builtin.lenOf], fun w _ => by simp [Builtin.firstCells], by rw [hs]; simp, fun i hi => ⟨by rw [hs]; rfl, fun j v u h1 h2 => ?_⟩, fun u hu => ?_⟩
    · cases j with
      | zero =>
        simp only [List.getElem?_cons_zero, Option.some.injEq] at h1
        subst h1
        rw [hs, Nat.mul_one, Nat.add_zero, Array.getElem?_map] at h2
        obtain ⟨b, hb, rfl⟩ := Option.map_eq_some_iff.1 h2
        rw [List.getD_eq_getElem?_getD, Array.getElem?_toList, hb]
        exact .int _ _
      | succ j => simp at h1
    · simp only [Array.toList_map, List.mem_map] at hu
      obtain ⟨b, _, rfl⟩ := hu
      rfl
  · exact h.elim
theorem grow_le (newLen : Nat) : ∀ (rounds c : Nat), c < newLen → Builtin.growBy newLen rounds c ≤ newLen + (newLen + 768) / 4 := by
  intro rounds
  induction rounds with
  | zero => intro c h; simp [Builtin.growBy]; omega
  | succ r ih =>
    intro c h
    unfold Builtin.growBy
    rw [if_neg (by omega)]
    by_cases h2 : c + (c + 768) / 4 < newLen
    · exact ih _ h2
    · have : Builtin.growBy newLen r (c + (c + 768) / 4) = c + (c + 768) / 4 := by
        cases r with
        | zero => rfl
        | succ r => unfold Builtin.growBy; rw [if_pos (by omega)]
      rw [this]
      omega
theorem next_le2 (need cap : Nat) (h : cap < need) : Builtin.nextslicecap need cap ≤ need + need / 4 + 512 := by
  unfold Builtin.nextslicecap
  split
  · omega
  · split
    · omega
    · have := grow_le need 4 cap h
      omega
theorem big2 {k b x : Nat} (hroom : k * b ≤ 2 ^ 47) (hx : x ≤ k + k / 4 + 512) (hby : b ≤ 1048576) : ¬ (281474976710656 < x * b) := by
  have h1 : x * b ≤ (k + k / 4 + 512) * b := Nat.mul_le_mul_right _ hx
  have h2 : (k + k / 4 + 512) * b = k * b + k / 4 * b + 512 * b := by rw [Nat.add_mul, Nat.add_mul]
  have h3 : 4 * (k / 4 * b) ≤ k * b := by
    rw [← Nat.mul_assoc]
    exact Nat.mul_le_mul_right _ (by omega)
  omega
theorem srcD (hT : TOK P T) {t2 : Nat} {ti2 : TI} (ht2 : T[t2]? = some ti2) (hni : isSrcD ti2.desc = true) : (∃ e, P.underlying t2 = some (.slice e)) ∨ P.underlying t2 = some .string := by
  obtain ⟨d2, hd2, hde⟩ := hT.desc ht2
  rw [hde] at hni
  cases d2 <;> try (simp [tdOf, isSrcD] at hni; done)
  · exact .inr hd2
  · exact .inl ⟨_, hd2⟩
theorem append_fits (hT : TOK P T) {t e t2 : Nat} {te ti2 : TI} {sz0 by0 : Nat} {z0 p0} (hti : T[t]? = some ⟨sz0, by0, .slice e, z0, p0⟩) (he : T[e]? = some te) (ht2 : T[t2]? = some ti2) (hni : isSrcD ti2.desc = true)
    {A : Option Addr} {n cap m : Nat} {u : Value} {row} {ws : Array Value} (hs : Src P c te.size u m row ws) (hfit : n + m ≤ cap) (ty : TypeId) {w' : World}
    (hst : (match A with | some a => (storeCells (a.add (n * te.size)) ws.toList).run P c.w | none => .ok () c.w) = .ok () w') :
    (Builtin.append_ #[t, t2] ty #[.slice A n cap, u]).run P c.w = .ok (.slice A (n + m) cap) w' := by
  cases A with
  | none =>
    have hw : w' = c.w := by injection hst with _ h; exact h.symm
    rw [hw]
    rcases srcD hT ht2 hni with ⟨e2, hd2⟩ | hd2 <;> simp [Builtin.append_, run_underlying (hT.slice hti), hT.size he, run_underlying hd2, hs.len, hs.cells c.w rfl, hfit]
  | some x =>
    rcases srcD hT ht2 hni with ⟨e2, hd2⟩ | hd2 <;> simp [Builtin.append_, run_underlying (hT.slice hti), hT.size he, run_underlying hd2, hs.len, hs.cells c.w rfl, hfit, hst]
theorem append_grows (hT : TOK P T) {t e t2 : Nat} {te ti2 : TI} {sz0 by0 : Nat} {z0 p0} (hti : T[t]? = some ⟨sz0, by0, .slice e, z0, p0⟩) (he : T[e]? = some te) (ht2 : T[t2]? = some ti2) (hni : isSrcD ti2.desc = true)
    {A : Option Addr} {n cap m : Nat} {u zv : Value} {row} {ws ol : Array Value} (hs : Src P c te.size u m row ws) (hfit : cap < n + m) (hb0 : 0 < te.bytes) (hby : te.bytes ≤ 1048576) (hroom : roomFor (n + m) te.bytes) (hz : ∀ w, (zeroValue e).run P w = .ok zv w)
    (hol : (Builtin.firstCells te.size n (.slice A n cap)).run P c.w.drew = .ok ol c.w.drew) (hcs : (Builtin.firstCells te.size m u).run P c.w.drew = .ok ws c.w.drew) (ty : TypeId) :
    ∃ nc, n + m ≤ nc ∧ (Builtin.append_ #[t, t2] ty #[.slice A n cap, u]).run P c.w = .ok (.slice (some ⟨c.w.heap.size, 0, none⟩) (n + m) nc) (c.w.drew.alloc (.cells (ol ++ ws ++ Builtin.zeroCells zv.cells (nc - (n + m))) e)) := by
  obtain ⟨ii, d, hi, hd, rfl⟩ := hT.info he
  simp only at hb0 hby hroom hs hol hcs
  have hnx := next_le2 (n + m) cap hfit
  unfold roomFor at hroom
  have hbig : ¬ (281474976710656 < Builtin.nextslicecap (n + m) cap * ii.bytes) := big2 hroom hnx hby
  have hlen : n + m ≤ 2 ^ 47 := by
    have : (n + m) * 1 ≤ (n + m) * ii.bytes := Nat.mul_le_mul_left _ hb0
    omega
  have h63 : ¬ (9223372036854775807 < (n : Int) + (m : Int)) := by omega
  refine ⟨grownCap c.w (n + m) cap e, grownCap_ge c.w (n + m) cap e, ?_⟩
  rcases srcD hT ht2 hni with ⟨e2, hd2⟩ | hd2 <;>
    simp [Builtin.append_, run_underlying (hT.slice hti), sizeOf, typeInfo, hi, run_underlying hd2, hs.len, Nat.not_le.2 hfit, h63, hbig, Question.forced, hol, hcs, hz, newRow, grownCap]
end
end Go.E
namespace Go.E
section
variable {P : Program} {T : TEnv} {C : CallH} {c0 c c' : Cx} {a : Act} {o : Oper} {tm : List AVal} {k : List AVal → AVal → Heap → Prop}
def RowsAt (c : Cx) (cs : Array Value) (off es n : Nat) (f : Nat → List AVal) : Prop :=
  ∀ i, i < n → (f i).length = es ∧ ∀ (j : Nat) (v : AVal) (u : Value), (f i)[j]? = some v → cs[off + i * es + j]? = some u → RRel c.w c.X v u
theorem irow_get {kk : IntKind} {l : List Int} {i : Nat} (h : i < l.length) : irow kk l i = [.int kk l[i]] := by
  simp [irow, List.getD_eq_getElem?_getD, List.getElem?_eq_getElem h]
theorem RowsAt.of_ints {cs : Array Value} {off : Nat} {kk : IntKind} {l : List Int} (h : ∀ (j : Nat) (x : Int), l[j]? = some x → cs[off + j]? = some (.int kk x)) : RowsAt c cs off 1 l.length (irow kk l) := by
  intro i hi
  refine ⟨rfl, fun j v u h1 h2 => ?_⟩
  rw [irow_get hi] at h1
  cases j with
  | zero =>
    simp only [List.getElem?_cons_zero, Option.some.injEq] at h1
    subst h1
    rw [Nat.mul_one, Nat.add_zero, h i l[i] (List.getElem?_eq_getElem hi)] at h2
    cases h2
    exact .int _ _
  | succ j => simp at h1
theorem RowsAt.to_ints {cs : Array Value} {off : Nat} {kk : IntKind} {l : List Int} (hle : off + l.length ≤ cs.size) (h : RowsAt c cs off 1 l.length (irow kk l)) : ∀ (j : Nat) (x : Int), l[j]? = some x → cs[off + j]? = some (.int kk x) := by
  intro j x hx
  have hj := (List.getElem?_eq_some_iff.1 hx).1
  have hu : cs[off + j]? = some cs[off + j] := Array.getElem?_eq_getElem (by omega)
  have := (h j hj).2 0 (.int kk x) cs[off + j] (by rw [irow_get hj, List.getElem?_cons_zero, (List.getElem?_eq_some_iff.1 hx).2]) (by rw [Nat.mul_one, Nat.add_zero]; exact hu)
  cases hcs : cs[off + j] <;> rw [hcs] at this <;> cases this
  rw [hu, hcs]
theorem RowsAt.congr {cs : Array Value} {off es n : Nat} {f g : Nat → List AVal} (h : RowsAt c cs off es n f) (he : ∀ i, i < n → g i = f i) : RowsAt c cs off es n g := by
  intro i hi
  rw [he i hi]
  exact h i hi
theorem RowsAt.mono {cs : Array Value} {off es n : Nat} {f : Nat → List AVal} (h : RowsAt c cs off es n f) (hq : Quiet c c') : RowsAt c' cs off es n f :=
  fun i hi => ⟨(h i hi).1, fun j v u h1 h2 => ((h i hi).2 j v u h1 h2).mono hq⟩
theorem RowsAt.cat {cs1 cs2 cs : Array Value} {o1 o2 off es n m : Nat} {f g : Nat → List AVal} (h1 : RowsAt c cs1 o1 es n f) (h2 : RowsAt c cs2 o2 es m g)
    (e1 : ∀ q, q < n * es → cs[off + q]? = cs1[o1 + q]?) (e2 : ∀ q, q < m * es → cs[off + n * es + q]? = cs2[o2 + q]?) : RowsAt c cs off es (n + m) (catRows n f g) := by
  intro i hi
  by_cases h : i < n
  · simp only [catRows, h, if_true]
    refine ⟨(h1 i h).1, fun j v u g1 g2 => (h1 i h).2 j v u g1 ?_⟩
    have hj := (List.getElem?_eq_some_iff.1 g1).1
    rw [(h1 i h).1] at hj
    have : i * es + es ≤ n * es := by rw [← Nat.succ_mul]; exact Nat.mul_le_mul_right _ h
    rw [Nat.add_assoc] at g2 ⊢
    rw [← e1 _ (by omega)]
    exact g2
  · simp only [catRows, h, if_false]
    have hm : i - n < m := by omega
    refine ⟨(h2 _ hm).1, fun j v u g1 g2 => (h2 _ hm).2 j v u g1 ?_⟩
    have hj := (List.getElem?_eq_some_iff.1 g1).1
    rw [(h2 _ hm).1] at hj
    have : (i - n) * es + es ≤ m * es := by rw [← Nat.succ_mul]; exact Nat.mul_le_mul_right _ hm
    have hie : i * es = n * es + (i - n) * es := by rw [← Nat.add_mul]; congr 1; omega
    rw [Nat.add_assoc, ← e2 _ (by omega), ← g2]
    congr 1
    omega
theorem Src.rowsAt {es m : Nat} {u : Value} {row} {ws : Array Value} (h : Src P c es u m row ws) : RowsAt c ws 0 es m row :=
  fun i hi => ⟨(h.rows i hi).1, fun j v u h1 h2 => (h.rows i hi).2 j v u h1 (by rw [Nat.zero_add] at h2; exact h2)⟩
theorem rowsInts_len (kk : IntKind) (m : Nat) (row) : (rowsInts kk m row).length = m := by simp [rowsInts]
theorem rowsInts_row {kk : IntKind} {m : Nat} {row} (h : isRow kk m row) : ∀ i, i < m → irow kk (rowsInts kk m row) i = row i := by
  intro i hi
  obtain ⟨n, hn⟩ := h i hi
  rw [irow_get (by rw [rowsInts_len]; exact hi), hn]
  simp [rowsInts, hn, rowInt, sameKind_iff.2 rfl]
theorem catInts_row {kk : IntKind} {l : List Int} {i0 n m : Nat} {row} (hl : i0 + n = l.length) (h : isRow kk m row) : ∀ i, i < n + m → irow kk (l.drop i0 ++ rowsInts kk m row) i = catRows n (fun i => irow kk l (i0 + i)) row i := by
  intro i hi
  have hlen : (l.drop i0).length = n := by simp; omega
  by_cases hn : i < n
  · simp only [catRows, hn, if_true]
    rw [irow_get (by simp [rowsInts_len]; omega), irow_get (by omega), List.getElem_append_left (by omega)]
    simp
  · simp only [catRows, hn, if_false]
    rw [irow_get (by simp [rowsInts_len]; omega), List.getElem_append_right (by omega)]
    have := rowsInts_row h (i - n) (by omega)
    rw [irow_get (by rw [rowsInts_len]; omega)] at this
    rw [← this]
    simp only [hlen]
def Cx.ghost (c : Cx) (blk : Blk) : Cx := { c with φ := fun i => if i = c.H.length then none else c.φ i, H := c.H ++ [blk] }
theorem Cx.ghost_fr (c : Cx) (blk : Blk) : Fr c (c.ghost blk) where
  os := rfl
  tape := rfl
  output := rfl
  size := Nat.le_refl _
  keep := fun _ _ _ => rfl
  shape := fun _ _ => rfl
  X := fun _ _ => Iff.rfl
  blocks := fun b blk' hb => by
    have hlt := (List.getElem?_eq_some_iff.1 hb).1
    exact ⟨blk', by simp only [Cx.ghost]; rw [List.getElem?_append_left hlt]; exact hb, rfl, by simp only [Cx.ghost]; rw [if_neg (by omega)]⟩
  img := fun b blk' r o' hle hb hl hf => by
    have hlt := (List.getElem?_eq_some_iff.1 hb).1
    simp only [Cx.ghost, List.length_append, List.length_cons, List.length_nil] at hlt
    have hbe : b = c.H.length := by omega
    simp [Cx.ghost, hbe] at hf
theorem Cx.ghost_heap {c : Cx} (h : HRel c) {blk : Blk} (hv : blk.void) : HRel (c.ghost blk) := by
  have old : ∀ {b : Nat} {x : Blk}, b ≠ c.H.length → (c.ghost blk).H[b]? = some x → c.H[b]? = some x := by
    intro b x hne hb
    have hlt := (List.getElem?_eq_some_iff.1 hb).1
    simp only [Cx.ghost, List.length_append, List.length_cons, List.length_nil] at hlt hb
    rwa [List.getElem?_append_left (by omega)] at hb
  refine ⟨fun b x hb hl => ?_, h.small, fun b1 b2 x1 x2 r o1 o2 h1 l1 h2 l2 f1 f2 => ?_⟩
  · by_cases e : b = c.H.length
    · subst e
      simp only [Cx.ghost, List.getElem?_append_right (Nat.le_refl _), Nat.sub_self, List.getElem?_cons_zero, Option.some.injEq] at hb
      subst hb
      exact .inl ⟨hv, by simp [Cx.ghost]⟩
    · have hb' := old e hb
      rcases h.holds b x hb' hl with ⟨h1, h2⟩ | ⟨r, o', h1, h2, h3⟩
      · exact .inl ⟨h1, by simp only [Cx.ghost]; rw [if_neg e]; exact h2⟩
      · exact .inr ⟨r, o', by simp only [Cx.ghost]; rw [if_neg e]; exact h1, h2, h3.mono (c.ghost_fr blk) h.img rfl⟩
  · by_cases e1 : b1 = c.H.length
    · simp [Cx.ghost, e1] at f1
    · by_cases e2 : b2 = c.H.length
      · simp [Cx.ghost, e2] at f2
      · simp only [Cx.ghost, if_neg e1] at f1
        simp only [Cx.ghost, if_neg e2] at f2
        exact h.inj b1 b2 _ _ r o1 o2 (old e1 h1) l1 (old e2 h2) l2 f1 f2
def Cx.drw (c : Cx) : Cx := { c with w := c.w.drew }
theorem Cx.drw_fr (c : Cx) : Fr c c.drw where
  os := rfl
  tape := rfl
  output := rfl
  size := Nat.le_refl _
  keep := fun _ _ _ => rfl
  shape := fun _ _ => rfl
  X := fun _ _ => Iff.rfl
  blocks := fun b blk' hb => ⟨blk', hb, rfl, rfl⟩
  img := fun b blk _ _ hle hb _ _ => by
    have hlt := (List.getElem?_eq_some_iff.1 hb).1
    simp only [Cx.drw] at hlt
    omega
theorem Cx.drw_heap {c : Cx} (h : HRel c) : HRel c.drw where
  holds := fun b blk hb hl => by
    rcases h.holds b blk hb hl with h0 | ⟨r, o', h1, h2, h3⟩
    · exact .inl h0
    · exact .inr ⟨r, o', h1, h2, h3.mono c.drw_fr h.img rfl⟩
  small := h.small
  inj := h.inj
theorem zeroCells_size (z : Array Value) (n : Nat) : (Builtin.zeroCells z n).size = n * z.size := by simp [Builtin.zeroCells]
def Cx.mv (c : Cx) (b : Nat) (blk : Blk) (x : Option (Nat × Nat)) (X' : Nat → Prop) (w' : World) : Cx :=
  { φ := fun i => if i = b then x else c.φ i, X := X', H := (c.H.map (scrubBlk b)).set b blk, w := w' }
inductive IsRows (es : Nat) : Blk → Nat → (Nat → List AVal) → Prop where
  | ints {kk : IntKind} {l : List Int} (h : es = 1) : IsRows es (.ints kk l) l.length (irow kk l)
  | rows {n : Nat} {f : Nat → List AVal} : IsRows es (.rows es n f) n f
theorem IsRows.live {es n : Nat} {blk f} (h : IsRows es blk n f) : blk.live = true := by cases h <;> rfl
theorem IsRows.grows {es n : Nat} {blk f} (h : IsRows es blk n f) : blk.grows = true := by cases h <;> rfl
theorem IsRows.stride {es n : Nat} {blk f} (h : IsRows es blk n f) : stride blk = es := by
  cases h with
  | ints h => simp [Go.E.stride, h]
  | rows => rfl
theorem IsRows.lin {es n : Nat} {blk f} (h : IsRows es blk n f) (b i : Nat) : lin blk ⟨b, i, 0⟩ = i * es := by
  cases h with
  | ints h => simp [Go.E.lin, h]
  | rows => simp [Go.E.lin]
theorem IsRows.void {es n : Nat} {blk f} (h : IsRows es blk n f) (hn : n = 0) : blk.void := by
  cases h with
  | ints _ => exact List.length_eq_zero_iff.1 hn
  | rows => exact hn
theorem IsRows.at_ {es n : Nat} {blk f} (h : IsRows es blk n f) {c : Cx} {r off : Nat} (hh : Holds c r off blk) : ∃ cs t fr, c.w.heap[r]? = some (.cells cs t fr) ∧ Unf fr cs.size ∧ off + n * es ≤ cs.size ∧ RowsAt c cs off es n f := by
  cases h with
  | ints h =>
    obtain ⟨cs, t, fr, h1, h2, h3, h4⟩ := hh
    subst h
    exact ⟨cs, t, fr, h1, h2, by omega, .of_ints h4⟩
  | rows => exact hh
theorem IsRows.mk {es n : Nat} {blk f} (h : IsRows es blk n f) {c : Cx} {r off : Nat} {cs : Array Value} {t : TypeId} {fr : Nat × Nat} (hw : c.w.heap[r]? = some (.cells cs t fr)) (hfr : Unf fr cs.size) (hle : off + n * es ≤ cs.size) (hr : RowsAt c cs off es n f) : Holds c r off blk := by
  cases h with
  | ints h =>
    subst h
    exact ⟨cs, t, fr, hw, hfr, by omega, hr.to_ints (by omega)⟩
  | rows => exact ⟨cs, t, fr, hw, hfr, hle, hr⟩
theorem stores_world {w : World} {r off : Nat} {cs : Array Value} {t : TypeId} {fr : Nat × Nat} {ws : List Value} (hb : w.heap[r]? = some (.cells cs t fr)) (hle : off + ws.length ≤ cs.size) (hfr : Unf fr cs.size) (hone : ∀ v ∈ ws, oneU v = true) :
    ∃ w', (storeCells ⟨r, off, none⟩ ws).run P w = .ok () w' ∧ w'.heap[r]? = some (.cells (splA cs off ws) t fr) ∧ (∀ r', r' ≠ r → w'.heap[r']? = w.heap[r']?) ∧ w'.heap.size = w.heap.size ∧ w'.os = w.os ∧ w'.tape = w.tape ∧ w'.output = w.output := by
  have h := run_stores (P := P) (off := off) ws 0 w cs hb (by omega) hfr.1 hone
  by_cases he : ws = []
  · subst he
    refine ⟨w, by simpa using h, ?_, fun _ _ => rfl, rfl, rfl, rfl, rfl⟩
    have : splA cs off [] = cs := by
      apply Array.ext_getElem?
      intro q
      rw [splA_get (by simpa using hle), if_neg (by simp <;> omega)]
    rw [this]; exact hb
  · rw [if_neg he, Nat.add_zero] at h
    exact ⟨_, h, setBlk_same (lt_of_heap hb), fun r' hr => setBlk_other (Ne.symm hr), setBlk_size _ _ _, rfl, rfl, rfl⟩
theorem shape_same {w w' : World} {r : Nat} (h : w'.heap[r]? = w.heap[r]?) : w'.shape? r = w.shape? r := by simp [World.shape?, h]
theorem append_own (hT : TOK P T) {t e t2 : Nat} {te ti2 : TI} {sz0 by0 : Nat} {z0 p0} (hti : T[t]? = some ⟨sz0, by0, .slice e, z0, p0⟩) (he : T[e]? = some te) (ht2 : T[t2]? = some ti2) (hni : isSrcD ti2.desc = true) {zv : Value} (hz : ∀ w, (zeroValue e).run P w = .ok zv w) (hzs : zv.cells.size = te.size)
    (h0 : 0 < te.size) (hb0 : 0 < te.bytes) (hby : te.bytes ≤ 1048576)
    {b i0 n N m : Nat} {u : Value} {row ws} {A : Option Addr} {cap : Nat} {blk blk' : Blk} {f f' : Nat → List AVal} (hv : VRel c (.slice ⟨b, i0, 0⟩ n) (.slice A n cap)) (hb : c.H[b]? = some blk) (hR : IsRows te.size blk N f) (hN : i0 + n = N)
    (hs : Src P c te.size u m row ws) (hroom : roomFor (n + m) te.bytes) (hR' : IsRows te.size blk' (n + m) f') (hf' : ∀ i, i < n + m → f' i = catRows n (fun i => f (i0 + i)) row i)
    (hh : HRel c) (ty : TypeId) : ∃ c' nv, Mv c c' b blk' ∧ VRel c' (.slice ⟨b, 0, 0⟩ (n + m)) nv ∧ (Builtin.append_ #[t, t2] ty #[.slice A n cap, u]).run P c.w = .ok nv c'.w := by
  have hl := hR.live
  have hl' := hR'.live
  have hlt := (List.getElem?_eq_some_iff.1 hb).1
  have hk : n ≤ cap := by
    cases hv with
    | closed h => cases h
    | slice _ hk _ => exact hk
  have getb : ∀ {x X' w'}, (c.mv b blk' x X' w').H[b]? = some blk' := by
    intro x X' w'
    simp only [Cx.mv]
    rw [List.getElem?_set_self (by simpa using hlt)]
  have φb : ∀ {x X' w'}, (c.mv b blk' x X' w').φ b = x := by intro x X' w'; simp [Cx.mv]
  -- where the slice lies
  have loc := hv.slice_live hb hl
  rw [hR.lin, hR.stride] at loc
  have subrow : ∀ {cs : Array Value} {o : Nat}, RowsAt c cs o te.size N f → RowsAt c cs (o + i0 * te.size) te.size n (fun i => f (i0 + i)) := by
    intro cs o h i hi
    refine ⟨(h (i0 + i) (by omega)).1, fun j v u h1 h2 => (h (i0 + i) (by omega)).2 j v u h1 ?_⟩
    rw [Nat.add_mul, ← h2]
    congr 1
    omega
  by_cases hfit : n + m ≤ cap
  · rcases loc with ⟨hn0, hc0⟩ | ⟨r, off, hφ, hA, hroomw⟩
    · -- nothing at all
      have hm0 : m = 0 := by omega
      have hws : ws = #[] := by
        have := hs.size
        rw [hm0, Nat.zero_mul] at this
        exact Array.eq_empty_of_size_eq_zero this
      have hrun := append_fits hT hti he ht2 hni hs hfit ty (A := A) (w' := c.w) (by
        rw [hws]
        cases A <;> simp [storeCells])
      refine ⟨c.mv b blk' none c.X c.w, _, ⟨rfl, rfl, rfl, Nat.le_refl _, fun _ _ _ => rfl, fun _ _ => rfl, fun _ _ => Iff.rfl, hh.small, fun b' hne => by simp [Cx.mv, hne], rfl, .inl ⟨hR'.void (by omega), φb⟩⟩, .slice getb hfit fun _ => .inl ⟨by omega, hc0⟩, hrun⟩
    · -- in place
      subst hA
      obtain ⟨hX, hold⟩ := hh.at_ hb hl hφ
      obtain ⟨cs, t', fr, hw, hfr, hle, hrows⟩ := hR.at_ hold
      obtain ⟨cs2, t2', fr2, hw2, hcap⟩ := hroomw hR.grows
      rw [hw] at hw2
      cases hw2
      have hmul : (n + m) * te.size ≤ cap * te.size := Nat.mul_le_mul_right _ hfit
      rw [Nat.add_mul] at hmul
      obtain ⟨w', hst, g1, g2, g3, g4, g5, g6⟩ := stores_world (P := P) (w := c.w) (off := off + i0 * te.size + n * te.size) (ws := ws.toList) hw (by simp [hs.size]; omega) hfr hs.one
      have hrun := append_fits hT hti he ht2 hni hs hfit ty (A := some ⟨r, off + i0 * te.size, none⟩) (w' := w') (by simp only [add_none]; exact hst)
      have hsz : (splA cs (off + i0 * te.size + n * te.size) ws.toList).size = cs.size := splA_size (by simp [hs.size]; omega)
      have hq : Quiet c (c.mv b blk' (some (r, off + i0 * te.size)) c.X w') := fun r' ob hr hx => ⟨by show w'.heap[r']? = _; rw [g2 r' fun e => hx (e ▸ hX)]; exact hr, hx⟩
      refine ⟨c.mv b blk' (some (r, off + i0 * te.size)) c.X w', _, ⟨g4, g5, g6, by show c.w.heap.size ≤ w'.heap.size; omega, fun r' _ hno => g2 r' fun e => hno off (e ▸ hφ), fun r' hr' => ?_, fun _ _ => Iff.rfl, fun r' hr' => by show r' < w'.heap.size; rw [g3]; exact hh.small r' hr', fun b' hne => by simp [Cx.mv, hne], rfl, ?_⟩, .slice getb hfit fun _ => .inr ⟨r, off + i0 * te.size, φb, by rw [hR'.lin]; simp, fun _ => ?_⟩, hrun⟩
      · show w'.shape? r' = _
        by_cases e : r' = r
        · subst e
          simp [World.shape?, g1, hw, hsz]
        · exact shape_same (g2 r' e)
      · refine .inr ⟨r, off + i0 * te.size, φb, hX, hR'.mk g1 (by rw [hsz]; exact hfr) (by rw [hsz, Nat.add_mul]; omega) ?_, .inl ⟨off, hφ⟩⟩
        refine RowsAt.congr (RowsAt.cat ((subrow hrows).mono hq) (hs.rowsAt.mono hq) (fun q hqq => ?_) (fun q hqq => ?_)) hf'
        · rw [splA_get (by simp [hs.size]; omega), if_neg (by omega)]
        · rw [splA_get (by simp [hs.size]; omega), if_pos (by simp [hs.size]; omega), Array.getElem?_toList]
          congr 1
          omega
      · exact ⟨_, _, _, g1, by rw [hsz, hR'.lin, hR'.stride]; omega⟩
  · -- a new block
    have hgr : cap < n + m := by omega
    have hol : ∃ ol : Array Value, (∀ w : World, w.heap = c.w.heap → (Builtin.firstCells te.size n (.slice A n cap)).run P w = .ok ol w) ∧ ol.size = n * te.size ∧ RowsAt c ol 0 te.size n (fun i => f (i0 + i)) := by
      rcases loc with ⟨hn0, _⟩ | ⟨r, off, hφ, hA, hroomw⟩
      · refine ⟨#[], fun w _ => ?_, by simp [hn0], fun i hi => by omega⟩
        rw [hn0]
        cases A <;> simp [Builtin.firstCells, loadCells, loadCellsFrom]
      · subst hA
        obtain ⟨hX, hold⟩ := hh.at_ hb hl hφ
        obtain ⟨cs, t', fr, hw, hfr, hle, hrows⟩ := hR.at_ hold
        rw [← hN, Nat.add_mul] at hle
        refine ⟨((cs.toList.drop (off + i0 * te.size)).take (n * te.size)).toArray, fun w hwh => ?_, by simp; omega, fun i hi => ⟨(subrow hrows i hi).1, fun j v u h1 h2 => (subrow hrows i hi).2 j v u h1 ?_⟩⟩
        · have := first_seg (P := P) (w := w) (r := r) (off := off + i0 * te.size) (n := n) (es := te.size) (cap := cap) (len := n) (by rw [hwh]; exact hw) (by omega)
          exact this
        · have hj := (List.getElem?_eq_some_iff.1 h1).1
          rw [(subrow hrows i hi).1] at hj
          have : i * te.size + te.size ≤ n * te.size := by rw [← Nat.succ_mul]; exact Nat.mul_le_mul_right _ hi
          rw [Nat.zero_add, List.getElem?_toArray, List.getElem?_take, if_pos (by omega), List.getElem?_drop, Array.getElem?_toList] at h2
          rw [Nat.add_assoc]
          exact h2
    obtain ⟨ol, hol, hols, holr⟩ := hol
    have hcs : (Builtin.firstCells te.size m u).run P c.w.drew = .ok ws c.w.drew := hs.cells c.w.drew rfl
    obtain ⟨nc, hnc, hrun⟩ := append_grows hT hti he ht2 hni hs hgr hb0 hby hroom hz (hol c.w.drew rfl) hcs ty
    have hws : (ol ++ ws ++ Builtin.zeroCells zv.cells (nc - (n + m))).size = nc * te.size := by
      simp only [Array.size_append, hols, hs.size, zeroCells_size, hzs]
      rw [← Nat.add_mul, ← Nat.add_mul]
      congr 1
      omega
    have hmul : (n + m) * te.size ≤ nc * te.size := Nat.mul_le_mul_right _ hnc
    have hmul' := hmul
    rw [Nat.add_mul] at hmul'
    have hnew : (c.w.drew.alloc (.cells (ol ++ ws ++ Builtin.zeroCells zv.cells (nc - (n + m))) e)).heap[c.w.heap.size]? = some (.cells (ol ++ ws ++ Builtin.zeroCells zv.cells (nc - (n + m))) e) := heap_alloc_new c.w.drew _
    have hkeep : ∀ r, r < c.w.heap.size → (c.w.drew.alloc (.cells (ol ++ ws ++ Builtin.zeroCells zv.cells (nc - (n + m))) e)).heap[r]? = c.w.heap[r]? := fun r hr => heap_alloc_old c.w.drew _ hr
    have hsize : (c.w.drew.alloc (.cells (ol ++ ws ++ Builtin.zeroCells zv.cells (nc - (n + m))) e)).heap.size = c.w.heap.size + 1 := by simp
    have hq : Quiet c (c.mv b blk' (some (c.w.heap.size, 0)) (fun r => c.X r ∨ r = c.w.heap.size) (c.w.drew.alloc (.cells (ol ++ ws ++ Builtin.zeroCells zv.cells (nc - (n + m))) e))) := fun r' ob hr hx => by
      have hr' := lt_of_heap hr
      exact ⟨(hkeep r' hr').trans hr, fun h => h.elim hx (by omega)⟩
    refine ⟨c.mv b blk' (some (c.w.heap.size, 0)) (fun r => c.X r ∨ r = c.w.heap.size) (c.w.drew.alloc (.cells (ol ++ ws ++ Builtin.zeroCells zv.cells (nc - (n + m))) e)), _, ⟨rfl, rfl, rfl, by simp only [Cx.mv]; rw [hsize]; omega, fun r' hr' _ => hkeep r' hr', fun r' hr' => shape_same (hkeep r' hr'), fun r' hr' => ⟨fun h => h.elim id (by omega), .inl⟩, fun r' hr' => ?_, fun b' hne => by simp [Cx.mv, hne], rfl, ?_⟩, .slice getb hnc fun _ => .inr ⟨c.w.heap.size, 0, φb, by rw [hR'.lin]; simp, fun _ => ?_⟩, hrun⟩
    · simp only [Cx.mv]
      rw [hsize]
      rcases hr' with h | h
      · have := hh.small r' h; omega
      · omega
    · refine .inr ⟨c.w.heap.size, 0, φb, .inr rfl, hR'.mk hnew (unf0 _) (by rw [hws]; omega) ?_, .inr (Nat.le_refl _)⟩
      refine RowsAt.congr (RowsAt.cat (holr.mono hq) (hs.rowsAt.mono hq) (fun q hqq => ?_) (fun q hqq => ?_)) hf'
      · simp only [Nat.zero_add]
        rw [Array.append_assoc, Array.getElem?_append_left (by omega)]
      · simp only [Nat.zero_add]
        rw [Array.append_assoc, Array.getElem?_append_right (by omega), Array.getElem?_append_left (by rw [hs.size]; omega), hols, Nat.add_sub_cancel_left]
    · exact ⟨_, _, _, hnew, by rw [hws, hR'.lin, hR'.stride]; omega⟩
end
end Go.E
namespace Go.E
section
variable {P : Program} {T : TEnv} {C : CallH} {c0 c c' : Cx} {a : Act} {o : Oper} {tm : List AVal} {k : List AVal → AVal → Heap → Prop}
theorem ok_append (hT : TOK P T) {args : Array Operand} {ts : Array TypeId} (ho : o.op = .call ⟨.builtin .append, args, ts⟩) (hf : Fr c0 c) (ht : TRel c tm a.tmps) (hh : HRel c) (h : opW C T c0.H.length (.call ⟨.builtin .append, args, ts⟩) tm c.H k) : Res P C o a c0 c k := by
  simp only [opW] at h
  split at h
  · rename_i s x t t2 hargs hts
    have hargs : args = #[s, x] := by rw [← Array.toArray_toList (xs := args), hargs]
    have hts : ts = #[t, t2] := by rw [← Array.toArray_toList (xs := ts), hts]
    subst hargs; subst hts
    split at h
    · rename_i e z0 p0 ti2 hti ht2
      cases he : T[e]? with
      | none => simp [he] at h
      | some te =>
        simp only [he] at h
        cases hz : te.zero with
        | none => simp [hz] at h
        | some z =>
          simp only [hz] at h
          obtain ⟨hni, h⟩ := whenB_iff.1 h
          obtain ⟨h0, h⟩ := whenB_iff.1 h
          obtain ⟨hby, h⟩ := whenB_iff.1 h
          rw [lenL_iff] at h
          obtain ⟨hzl, h⟩ := whenB_iff.1 h
          rw [force_iff, force_iff] at h
          have h0 : 0 < te.size := by simp [Nat.blt] at h0; omega
          rw [Bool.and_eq_true] at hby
          have hb0 : 0 < te.bytes := by have := hby.1; simp [Nat.blt] at this; omega
          have hb1 : te.bytes ≤ 1048576 := Nat.le_of_ble_eq_true hby.2
          have hzl := Nat.eq_of_beq_eq_true hzl
          obtain ⟨zv, hzr, hze⟩ := hT.zero he hz
          have hzs : zv.cells.size = te.size := by rw [← hzl, hze]; simp
          have es := eval_rel ht s
          have ex := eval_rel ht x
          unfold appendW at h
          obtain ⟨m, row, ws, h, hs⟩ := src_ok (P := P) h0 hh ex h
          have ev : ∀ {nv w'}, (Builtin.append_ #[t, t2] o.type #[a.eval s, a.eval x]).run P c.w = .ok nv w' → (execOp a.eval o).run P c.w = .ok (.value nv) w' := by
            intro nv w' hr
            simp [execOp, ho, resolve, invoke, builtin, hr]
          split at h
          · rename_i heq
            rw [heq] at es
            have es := es.inv_nilslice
            rw [es] at ev
            obtain ⟨hroom, h⟩ := need_iff.1 h
            -- both ways
            have both : ∀ {blk : Blk} {f : Nat → List AVal}, IsRows te.size blk m f → (∀ i, i < m → f i = row i) → choice (k tm (.ro te.size m row) c.H) (newW c.H blk fun b H' => k tm (.slice ⟨b, 0, 0⟩ m) H') → Res P C o a c0 c k := by
              intro blk f hR hfr h
              by_cases hm : m = 0
              · subst hm
                have hws : ws = #[] := by
                  have := hs.size
                  rw [Nat.zero_mul] at this
                  exact Array.eq_empty_of_size_eq_zero this
                have hrun := ev (append_fits hT hti he ht2 hni hs (A := none) (n := 0) (cap := 0) (Nat.le_refl 0) o.type (w' := c.w) rfl)
                rcases choice_iff.1 h with h | h
                · exact .val tm _ _ c _ h (.closed (.roNil none 0)) hf ht hh (.inl rfl) hrun
                · rw [newW_iff] at h
                  refine .val tm _ (.slice none 0 0) (c.ghost blk) _ h (.slice (blk := blk) (by simp [Cx.ghost]) (Nat.le_refl 0) fun _ => .inl ⟨rfl, rfl⟩) (hf.trans (c.ghost_fr blk)) (ht.mono (c.ghost_fr blk) hh.img) (Cx.ghost_heap hh (hR.void rfl)) (.inl rfl) hrun
              · have hroom' : roomFor (0 + m) te.bytes := by rw [Nat.zero_add]; exact hroom
                obtain ⟨nc, hnc, hrun⟩ := append_grows hT hti he ht2 hni hs (A := none) (n := 0) (cap := 0) (by omega) hb0 hb1 hroom' hzr (ol := #[]) (by simp [Builtin.firstCells]) (hs.cells c.w.drew rfl) o.type
                rw [Nat.zero_add] at hnc hrun
                have hrun := ev hrun
                have hhd := Cx.drw_heap hh
                have hfd := hf.trans c.drw_fr
                have htd := ht.mono c.drw_fr hh.img
                have hsz : (#[] ++ ws ++ Builtin.zeroCells zv.cells (nc - m)).size = nc * te.size := by
                  simp only [Array.size_append, hs.size, zeroCells_size, hzs, List.size_toArray, List.length_nil, Nat.zero_add]
                  rw [← Nat.add_mul]
                  congr 1
                  omega
                have hmul : m * te.size ≤ nc * te.size := Nat.mul_le_mul_right _ hnc
                have hrow : RowsAt c.drw (#[] ++ ws ++ Builtin.zeroCells zv.cells (nc - m)) 0 te.size m row := by
                  intro i hi
                  refine ⟨(hs.rows i hi).1, fun j v u h1 h2 => ((hs.rows i hi).2 j v u h1 ?_).mono (c.drw_fr.quiet hh.img)⟩
                  have hj := (List.getElem?_eq_some_iff.1 h1).1
                  rw [(hs.rows i hi).1] at hj
                  have : i * te.size + te.size ≤ m * te.size := by rw [← Nat.succ_mul]; exact Nat.mul_le_mul_right _ hi
                  rw [Nat.zero_add, Array.empty_append, Array.getElem?_append_left (by rw [hs.size]; omega)] at h2
                  exact h2
                rcases choice_iff.1 h with h | h
                · refine .val tm _ _ (c.drw.more (.cells (#[] ++ ws ++ Builtin.zeroCells zv.cells (nc - m)) e)) _ h (vrel_newro hhd hnc (by rw [hsz]; exact hmul) fun i hi => ⟨(hrow i hi).1, fun j v u h1 h2 => (hrow i hi).2 j v u h1 (by rw [Nat.zero_add]; exact h2)⟩)
                    (hfd.trans (Cx.more_fr _ _)) (htd.mono (Cx.more_fr _ _) hhd.img) (Cx.more_heap hhd _) (.inl rfl) hrun
                · rw [newW_iff] at h
                  refine .val tm _ _ (c.drw.push (.cells (#[] ++ ws ++ Builtin.zeroCells zv.cells (nc - m)) e) blk) _ h (vrel_newslice hnc fun _ => by rw [hsz, hR.stride]; exact Nat.le_refl _) (hfd.trans (Cx.push_fr _ _ _)) (htd.mono (Cx.push_fr _ _ _) hhd.img)
                    (Cx.push_heap hhd _ _ (hR.mk (push_heap_new c.drw _ _) (unf0 _) (by rw [hsz]; omega) ?_)) (.inl rfl) hrun
                  exact (hrow.mono ((c.drw.push_fr _ _).quiet hhd.img)).congr hfr
            split at h
            · rename_i kk _
              obtain ⟨h1, h⟩ := whenB_iff.1 h
              have h1 := Nat.eq_of_beq_eq_true h1
              obtain ⟨hir, h⟩ := need_iff.1 h
              have hR : IsRows te.size (.ints kk (rowsInts kk m row)) (rowsInts kk m row).length (irow kk (rowsInts kk m row)) := .ints h1
              rw [rowsInts_len] at hR
              exact both hR (rowsInts_row hir) h
            · exact both .rows (fun _ _ => rfl) h
          · rename_i b i0 n heq
            rw [heq] at es
            obtain ⟨A, cap, hu, hk⟩ := es.inv_slice
            rw [hu] at es ev
            obtain ⟨hle, h⟩ := whenB_iff.1 h
            have hle := Nat.le_of_ble_eq_true hle
            obtain ⟨hroom, h⟩ := need_iff.1 h
            have go : ∀ {blk blk' : Blk} {N : Nat} {f f' : Nat → List AVal}, c.H[b]? = some blk → IsRows te.size blk N f → i0 + n = N → IsRows te.size blk' (n + m) f' → (∀ i, i < n + m → f' i = catRows n (fun i => f (i0 + i)) row i) → blk'.kind = blk.kind →
                k (tm.map (scrubV b)) (.slice ⟨b, 0, 0⟩ (n + m)) ((c.H.map (scrubBlk b)).set b blk') → Res P C o a c0 c k := by
              intro blk blk' N f f' hb hR hN hR' hf' hkind hk'
              obtain ⟨c', nv, hmv, hnv, hrun⟩ := append_own hT hti he ht2 hni hzr hzs h0 hb0 hb1 es hb hR hN hs hroom hR' hf' hh o.type
              rw [← hmv.H] at hk'
              exact .val _ _ _ c' _ hk' hnv (hmv.fr hb hR.live hkind hle hf) (hmv.trel hh hb hR.live ht) (hmv.heap hh hb hR.live) (.inl rfl) (ev hrun)
            split at h
            · rename_i kk l hb
              split at h
              · rename_i kk' _
                obtain ⟨h1, h⟩ := whenB_iff.1 h
                have h1 := Nat.eq_of_beq_eq_true h1
                obtain ⟨h2, h⟩ := whenB_iff.1 h
                have h2 := sameKind_iff.1 h2
                obtain ⟨⟨hN, hir⟩, h⟩ := need_iff.1 h
                rw [scrubW_iff, scrubH_iff, setL_iff] at h
                have hR' : IsRows te.size (.ints kk (l.drop i0 ++ rowsInts kk m row)) (l.drop i0 ++ rowsInts kk m row).length (irow kk (l.drop i0 ++ rowsInts kk m row)) := .ints h1
                have hlen : (l.drop i0 ++ rowsInts kk m row).length = n + m := by simp [rowsInts_len]; omega
                rw [hlen] at hR'
                exact go hb (.ints h1) hN hR' (catInts_row hN hir) rfl h
              · exact h.elim
            · rename_i sz n' f hb
              obtain ⟨h1, h⟩ := whenB_iff.1 h
              have h1 := Nat.eq_of_beq_eq_true h1
              obtain ⟨hN, h⟩ := need_iff.1 h
              rw [scrubW_iff, scrubH_iff, setL_iff] at h
              rw [h1] at h hb
              exact go hb .rows hN .rows (fun _ _ => rfl) rfl h
            · exact h.elim
          · exact h.elim
    · exact h.elim
  · exact h.elim
theorem fold_push : ∀ (l : List Int) (s : ByteArray), l.foldl (fun r n => r.push (UInt8.ofNat n.toNat)) s = ⟨s.data ++ (l.map fun n => UInt8.ofNat n.toNat).toArray⟩ := by
  intro l
  induction l with
  | nil => intro s; simp
  | cons n l ih =>
    intro s
    rw [List.foldl_cons, ih]
    congr 1
    simp [ByteArray.push]
def markOf (fr : Nat × Nat) (n : Nat) : Nat × Nat := if fr.1 == fr.2 then (n, n + 1) else (min fr.1 n, max fr.2 (n + 1))
theorem unf_mark {fr : Nat × Nat} {n : Nat} (h : Unf fr n) : Unf (markOf fr n) n := by
  unfold markOf
  split
  · exact ⟨fun j hj => by simp; omega, by simp⟩
  · rename_i hne
    have hne : fr.1 ≠ fr.2 := by simpa using hne
    have := h.2
    have hge : n ≤ fr.1 := by
      rcases Nat.lt_or_ge fr.1 n with hlt | hge
      · exact absurd ⟨Nat.le_refl _, by omega⟩ (h.1 fr.1 hlt)
      · exact hge
    exact ⟨fun j hj => by simp only [Nat.min_eq_right hge]; omega, by simp only [Nat.min_eq_right hge]; omega⟩
theorem run_mark {w : World} {src e r off n cap : Nat} {cs : Array Value} {t : TypeId} {fr : Nat × Nat} (hsl : P.underlying src = some (.slice e)) (hel : P.underlying e = some (.int .u8)) (hw : w.heap[r]? = some (.cells cs t fr)) :
    (convert src src (.slice (some ⟨r, off, none⟩) n cap)).run P w = .ok (.slice (some ⟨r, off, none⟩) n cap) (setBlk w r (.cells cs t (markOf fr cs.size))) := by
  have hsh : w.shape? r = some (t, cs.size) := by simp only [World.shape?, hw]
  have hfz : w.freeze ⟨r, cs.size, none⟩ 1 = setBlk w r (.cells cs t (markOf fr cs.size)) := by
    unfold World.freeze setBlk markOf
    rw [if_neg (by decide)]
    congr 1
    apply Array.ext_getElem?
    intro i
    have hr := lt_of_heap hw
    rw [Array.getElem?_modify, Array.getElem?_setIfInBounds]
    by_cases hi : r = i
    · subst hi
      rw [if_pos rfl, if_pos rfl, if_pos hr, hw]
      obtain ⟨lo, hi⟩ := fr
      rfl
    · simp [hi]
  simp [convert, run_underlying hsl, run_underlying hel, markStringish, hsh]
  exact hfz
theorem ok_conv (hT : TOK P T) {src dst : Nat} {x : Operand} (ho : o.op = .convert src dst x) (hf : Fr c0 c) (ht : TRel c tm a.tmps) (hh : HRel c) {n0 : Nat} (h : opW C T n0 (.convert src dst x) tm c.H k) : Res P C o a c0 c k := by
  have ex := eval_rel ht x
  simp only [opW, convW] at h
  split at h
  · rename_i x1 x2 s1 b1 e z1 p1 s2 b2 z2 p2 heq hd
    split at h
    · rename_i hte
      have hsrc := run_underlying (hT.slice heq)
      have hdst := run_underlying (hT.str hd)
      have hel := run_underlying (hT.int hte)
      have hns : ∀ s, evalO tm x ≠ .str s := by
        intro s hs
        rw [hs] at h
        exact h
      have h : srcW 1 c.H (evalO tm x) fun m row => need (isRow .u8 m row) (k tm (.str (bytesI (rowsInts .u8 m row))) c.H) := by
        unfold noStr at h
        split at h
        · exact h.elim
        · exact h
      have hsl : ∃ A len cap, a.eval x = .slice A len cap := by
        unfold srcW at h
        split at h
        · rename_i heq; rw [heq] at ex; obtain ⟨A, cap, hu, _⟩ := ex.inv_ro; exact ⟨A, _, cap, hu⟩
        · rename_i heq; rw [heq] at ex; exact ⟨_, _, _, ex.inv_nilslice⟩
        · rename_i heq; rw [heq] at ex; obtain ⟨A, cap, hu, _⟩ := ex.inv_slice; exact ⟨A, _, cap, hu⟩
        · rename_i s heq; exact (hns s heq).elim
        · exact h.elim
      obtain ⟨A, len, cap, hu⟩ := hsl
      obtain ⟨m, row, ws, hk, hs⟩ := src_ok (P := P) Nat.one_pos hh ex h
      obtain ⟨hir, hk⟩ := need_iff.1 hk
      rw [hu] at hs
      have hlen : len = m := by
        have := hs.len c.w
        simp [Builtin.lenOf] at this
        exact this
      subst hlen
      have hws : ws = ((rowsInts .u8 len row).map (Value.int .u8)).toArray := by
        apply Array.ext
        · rw [hs.size]; simp [rowsInts_len]
        · intro i h1 h2
          have hi : i < len := by rw [hs.size] at h1; omega
          obtain ⟨q, hq⟩ := hir i hi
          have h3 := (hs.rows i hi).2 0 (.int .u8 q) ws[i] (by rw [hq]; rfl) (by simp [h1])
          have h4 : ws[i] = .int .u8 q := by
            generalize ws[i] = u at h3
            cases h3
            rfl
          rw [h4]
          simp [rowsInts, hq, rowInt, sameKind]
      have hrun : (Conv.bytesToString (.slice A len cap)).run P c.w = .ok (.string (bytesI (rowsInts .u8 len row))) c.w := by
        cases A with
        | none =>
          have h0 := hs.cells c.w rfl
          simp [Builtin.firstCells] at h0
          have : ws.size = 0 := by rw [h0]; rfl
          rw [hs.size] at this
          have : len = 0 := by omega
          subst this
          simp [Conv.bytesToString, Sem.run_pure, bytesI, rowsInts]
          rfl
        | some A =>
          have h0 := hs.cells c.w rfl
          simp only [Builtin.firstCells, Nat.mul_one] at h0
          rw [hws] at h0
          rw [run_bytesToString c.w A len cap _ h0, fold_push]
          simp [bytesI]
      exact .val tm _ _ c _ hk (VRel.mk_str c _) hf ht hh (.inl rfl) (by
        simp only [execOp, ho, hu]
        simp only [convert, Sem.run_bind, hsrc, hdst, hel, Result.andThen, hrun, Sem.run_pure])
    · exact h.elim
  · unfold markW at h
    split at h
    · rename_i hsd
      have hsd : src = dst := Nat.eq_of_beq_eq_true hsd
      subst hsd
      split at h
      · rename_i e z p b i0 j0 n hti hx
        rw [hx] at ex
        split at h
        · rename_i s2 b2 z2 p2 kk l hte hb
          obtain ⟨hn, h⟩ := need_iff.1 h
          have hsl := hT.slice hti
          have hel := hT.int hte
          generalize he0 : a.eval x = u0 at ex
          cases ex with
          | closed h => cases h
          | slice q1 hk q2 =>
            rename_i cap A blk
            rw [hb] at q1; cases q1
            rcases q2 rfl with ⟨e0, _⟩ | ⟨r, o, hφ, hA, hroom⟩
            · omega
            · obtain ⟨hX, cs, t, fr, hw, hfr, hle, hrel⟩ := hh.at_ hb rfl hφ
              subst hA
              have hv : VRel c (.slice ⟨b, i0, j0⟩ n) (.slice (some ⟨r, o + lin (.ints kk l) ⟨b, i0, j0⟩, none⟩) n cap) := .slice hb hk fun _ => .inr ⟨r, o, hφ, rfl, hroom⟩
              have hfc := Cx.put_fr (blk := .ints kk l) (ob := .cells cs t (markOf fr cs.size)) hb rfl rfl hφ hw rfl
              have hset : c.H.set b (.ints kk l) = c.H := by
                have hlt := (List.getElem?_eq_some_iff.1 hb).1
                have he := (List.getElem?_eq_some_iff.1 hb).2
                rw [← he]
                exact List.set_getElem_self hlt
              refine .val tm _ _ (c.put b (.ints kk l) r (.cells cs t (markOf fr cs.size))) _ ?_ (hv.mono hfc hh.img) (hf.trans hfc) (ht.mono hfc hh.img) (Cx.put_heap hh hb rfl rfl hφ hfc ?_) (.inl rfl) ?_
              · show k tm _ (c.H.set b (.ints kk l))
                rw [hset]
                exact h
              · exact ⟨cs, t, _, setBlk_same (lt_of_heap hw), unf_mark hfr, hle, hrel⟩
              · simp only [execOp, ho, he0]
                rw [Sem.run_bind, run_mark hsl hel hw]
                rfl
        · exact h.elim
      · exact res_of_ok ho (read_ok hT ht hh h) hf ht hh
    · exact res_of_ok ho (read_ok hT ht hh h) hf ht hh
theorem ok_copy (hT : TOK P T) {n0 : Nat} {args : Array Operand} {ts : Array TypeId} (ho : o.op = .call ⟨.builtin .copy, args, ts⟩) (hf : Fr c0 c) (ht : TRel c tm a.tmps) (hh : HRel c) (h : opW C T n0 (.call ⟨.builtin .copy, args, ts⟩) tm c.H k) : Res P C o a c0 c k := by
  simp only [opW] at h
  split at h
  rotate_left
  · exact h.elim
  rename_i d s t tr ha hts
  have ed := eval_rel ht d
  have es' := eval_rel ht s
  split at h
  rotate_left
  · exact h.elim
  rename_i e z0 by0 p0 b i0 j0 n b' i1 j1 m hti hd hs
  rw [hd] at ed
  rw [hs] at es'
  obtain ⟨A, cap, hu, hk⟩ := ed.inv_slice
  obtain ⟨A', cap', hu', hk'⟩ := es'.inv_slice
  rw [hu] at ed
  rw [hu'] at es'
  split at h
  rotate_left
  · exact h.elim
  rename_i es cs cs' he hb hb'
  obtain ⟨hpos, h⟩ := need_iff.1 h
  obtain ⟨h1, h2, h⟩ := dropTakeL_iff h
  obtain ⟨h3, h⟩ := whenB_iff.1 h
  obtain ⟨h4, h⟩ := spliceL_iff h
  rw [setL_iff] at h
  generalize hq : Nat.min m n = q at *
  have hqm : q ≤ m := by rw [← hq]; exact Nat.min_le_left _ _
  have hqn : q ≤ n := by rw [← hq]; exact Nat.min_le_right _ _
  have hq0 : q ≠ 0 := fun h0 => by rw [h0, Nat.zero_mul] at hpos; omega
  rcases ed.slice_live hb rfl with ⟨h0, _⟩ | ⟨r, off, hφ, hA, _⟩
  · omega
  rcases es'.slice_live hb' rfl with ⟨h0, _⟩ | ⟨r', off', hφ', hA', _⟩
  · omega
  subst hA
  subst hA'
  obtain ⟨hX, cells, t', fr, hw, hfr, hle, hrel⟩ := hh.at_ hb rfl hφ
  obtain ⟨hX', cells', t'', fr', hw', hfr', hle', hrel'⟩ := hh.at_ hb' rfl hφ'
  simp only [lin] at hu hu'
  have hl : ((cs'.drop (i1 + j1)).take (q * es)).length = q * es := by simp; omega
  rw [hl] at h4 h
  let us : List Value := (cells'.toList.drop (off' + (i1 + j1))).take (q * es)
  have hus : us.length = q * es := by simp [us]; omega
  have get : ∀ y, y < q * es → us[y]? = cells'[off' + (i1 + j1) + y]? := fun y hy => by
    simp only [us, List.getElem?_take, List.getElem?_drop, hy, if_true, Array.getElem?_toList]
  have hcr : CRel c ((cs'.drop (i1 + j1)).take (q * es)) us := ⟨by rw [hl, hus], fun i v u g1 g2 => by
    have hi : i < q * es := by have := (List.getElem?_eq_some_iff.1 g1).1; omega
    rw [get i hi] at g2
    rw [List.getElem?_take, if_pos hi, List.getElem?_drop] at g1
    exact hrel' _ v u g1 (by rw [← Nat.add_assoc] ; exact g2)⟩
  have hone := allOne_rel hcr h3
  have hne : us ≠ [] := by
    intro e0
    rw [e0] at hus
    simp at hus
    omega
  have hst := run_stores (P := P) (off := off + (i0 + j0)) us 0 c.w cells hw (by rw [hus]; omega) hfr.1 hone
  rw [if_neg hne, Nat.add_zero] at hst
  have hfc : (Builtin.firstCells es q (.slice (some ⟨r', off' + (i1 + j1), none⟩) m cap')).run P c.w = .ok us.toArray c.w := first_seg hw' (by omega)
  refine res_put (blk := .cells (cs.take (i0 + j0) ++ (cs'.drop (i1 + j1)).take (q * es) ++ cs.drop (i0 + j0 + q * es))) hf ht hh hb rfl rfl hφ hw (ob := .cells (splA cells (off + (i0 + j0)) us) t' fr) (u := .int .i64 (q : Int)) (n := .value (.int .i64 (q : Int))) ?_ h (fun c' => .mk_int c' _ _) (.inl rfl) (fun hfc' => ?_) ?_
  · simp [splA_size (cs := cells) (off := off + (i0 + j0)) (vs := us) (by rw [hus]; omega)]
  · have hsz := splA_size (cs := cells) (off := off + (i0 + j0)) (vs := us) (by rw [hus]; omega)
    have h4' : i0 + j0 + ((cs'.drop (i1 + j1)).take (q * es)).length ≤ cs.length := by rw [hl]; exact h4
    have hsl := splice_len cs ((cs'.drop (i1 + j1)).take (q * es)) (i0 + j0) h4'
    have hsg := splice_get cs ((cs'.drop (i1 + j1)).take (q * es)) (i0 + j0)
    rw [hl] at hsl
    refine ⟨_, t', fr, setBlk_same (lt_of_heap hw), by rw [hsz]; exact hfr, by rw [hsz, hsl]; exact hle, fun y x' u' g1 g2 => ?_⟩
    have hsg := hsg y h4'
    rw [hl] at hsg
    rw [hsg] at g1
    rw [splA_get (by rw [hus]; omega)] at g2
    rw [hus] at g2
    by_cases hy : i0 + j0 ≤ y ∧ y < i0 + j0 + q * es
    · rw [if_pos hy] at g1
      rw [if_pos (by omega)] at g2
      exact (hcr.2 (y - (i0 + j0)) x' u' g1 (by rw [← g2]; congr 1; omega)).mono hfc' hh.img
    · rw [if_neg hy] at g1
      rw [if_neg (by omega)] at g2
      exact (hrel y x' u' g1 g2).mono hfc' hh.img
  · have hargs : args.map a.eval = #[.slice (some ⟨r, off + (i0 + j0), none⟩) n cap, .slice (some ⟨r', off' + (i1 + j1), none⟩) m cap'] := by
      apply Array.ext'
      rw [Array.toList_map, ha]
      simp [hu, hu']
    have htd : ts[0]? = some t := by rw [← Array.getElem?_toList, hts]; rfl
    simp only [execOp, ho, resolve, invoke, builtin, Sem.run_bind, Sem.run_pure, Result.andThen_ok, hargs]
    simp [Builtin.copy_, htd, run_underlying (hT.slice hti), sizeT_ok hT he, Builtin.lenOf, hq, hfc, hst, goInt]
theorem ok_call {n0 : Nat} {f : Operand} {args : Array Operand} {ts : Array TypeId} (hfn : ∀ fid, ∀ vs : Array Value, (callFunc fid vs).run P c.w = .ok (.enter fid vs) c.w ∨ ∀ l tm H k', ¬ C fid l tm H k') (ho : o.op = .call ⟨.value f, args, ts⟩) (ht : TRel c tm a.tmps) (h : opW C T n0 (.call ⟨.value f, args, ts⟩) tm c.H k) : Res P C o a c0 c k := by
  have ef := eval_rel ht f
  simp only [opW] at h
  split at h
  · rename_i fid first cap heq
    rw [heq] at ef
    rw [evalL_iff, appL_iff, appL_iff] at h
    obtain ⟨us, vs, hu, h1, h2⟩ := ef.inv_fn
    rcases hfn fid (us ++ (args.map a.eval ++ vs)) with hrun | hno
    · refine .call fid _ (us ++ (args.map a.eval ++ vs)) tm h ?_ ht ?_
      · simp only [Array.toList_append, Array.toList_map, List.append_assoc]
        exact (CRel.of_agg h1.1 h1.2).append ((evals_rel ht args.toList).append (.of_agg h2.1 h2.2))
      · simp [execOp, ho, resolve, hu, Deferred.ofValue, invoke, hrun]
    · exact (hno _ _ _ _ h).elim
  · exact h.elim
theorem op_ok (hT : TOK P T) (hfn : ∀ fid, ∀ vs : Array Value, (callFunc fid vs).run P c.w = .ok (.enter fid vs) c.w ∨ ∀ l tm H k', ¬ C fid l tm H k') (hf : Fr c0 c) (ht : TRel c tm a.tmps) (hh : HRel c) (h : opW C T c0.H.length o.op tm c.H k) : Res P C o a c0 c k := by
  generalize hop : o.op = op at h
  cases op with
  | alloc t => exact ok_alloc hT hop hf ht hh h
  | box t x => exact ok_box hop hf ht hh h
  | buildSlice t n ps => exact ok_buildSlice hT hop hf ht hh h
  | makeSlice t x y => exact ok_makeSlice hT hop hf ht hh h
  | convert src dst x => exact ok_conv hT hop hf ht hh h
  | store t x y => exact ok_store hT hop hf ht hh h
  | range t x => exact ok_range hT hop hf ht hh h
  | sliceToArrayPointer t x => exact res_of_ok hop (read_ok hT ht hh h) hf ht hh
  | next x b =>
    cases b with
    | true => exact ok_next hop hf ht hh h
    | false => exact res_of_ok hop (read_ok hT ht hh h) hf ht hh
  | call cl =>
    obtain ⟨callee, args, ts⟩ := cl
    cases callee with
    | value f => exact ok_call hfn hop ht h
    | builtin b =>
      cases b with
      | append => exact ok_append hT hop hf ht hh h
      | copy => exact ok_copy hT hop hf ht hh h
      | _ => exact res_of_ok hop (read_ok hT ht hh h) hf ht hh
    | invoke x y => exact res_of_ok hop (read_ok hT ht hh h) hf ht hh
  | _ => exact res_of_ok hop (read_ok hT ht hh h) hf ht hh
end
end Go.E
namespace Go.E
def Enters (P : Program) (f : FuncId) : Prop := ∀ (vs : Array Value) (w : World), (callFunc f vs).run P w = .ok (.enter f vs) w
theorem enters_of {P : Program} {f : FuncId} {fn : Func} {cd : Code} (h : P.funcs[f]? = some fn) (hb : fn.body = some cd) (hn : (fn.name == "runtime.NumGoroutine") = false) : Enters P f := fun vs w => by
  have hn' : fn.name ≠ "runtime.NumGoroutine" := by simpa using hn
  simp [callFunc, h, hb, hn']
@[irreducible] def callN (P : Program) (f : FuncId) (args : List AVal) (H : Heap) (k : AVal → Heap → Prop) : Prop :=
  Enters P f ∧ ∀ (c : Cx) (us : Array Value), c.H = H → GOK c → HRel c → CRel c args us.toList →
    Calls P f us c.w fun e w' => ∃ u v c', e = .returned u ∧ c'.w = w' ∧ k v c'.H ∧ Fr c c' ∧ HRel c' ∧ VRel c' v u
theorem callN_iff {P : Program} {f : FuncId} {args : List AVal} {H : Heap} {k : AVal → Heap → Prop} : callN P f args H k ↔ Enters P f ∧ ∀ (c : Cx) (us : Array Value), c.H = H → GOK c → HRel c → CRel c args us.toList →
    Calls P f us c.w fun e w' => ∃ u v c', e = .returned u ∧ c'.w = w' ∧ k v c'.H ∧ Fr c c' ∧ HRel c' ∧ VRel c' v u := by
  unfold callN; exact Iff.rfl
theorem callN_mono {P : Program} {f : FuncId} {args : List AVal} {H : Heap} {k k' : AVal → Heap → Prop} (h : callN P f args H k) (hk : ∀ v H', k v H' → k' v H') : callN P f args H k' := by
  rw [callN_iff] at h ⊢
  refine ⟨h.1, fun c us h1 hg h2 h3 => (h.2 c us h1 hg h2 h3).mono ?_⟩
  rintro e w' ⟨u, v, c', a1, a2, a3, a4⟩
  exact ⟨u, v, c', a1, a2, hk _ _ a3, a4⟩
@[irreducible] def callT (P : Program) (n0 : Nat) (f : FuncId) (args tm : List AVal) (H : Heap) (k : List AVal → AVal → Heap → Prop) : Prop :=
  Enters P f ∧ ∀ (c0 c : Cx) (us vals : Array Value), c0.H.length = n0 → GOK c0 → Fr c0 c → c.H = H → HRel c → CRel c args us.toList → CRel c tm vals.toList →
    Calls P f us c.w fun e w' => ∃ u v c' tm', e = .returned u ∧ c'.w = w' ∧ k tm' v c'.H ∧ Fr c0 c' ∧ HRel c' ∧ VRel c' v u ∧ CRel c' tm' vals.toList
theorem callT_iff {P : Program} {n0 : Nat} {f : FuncId} {args tm : List AVal} {H : Heap} {k : List AVal → AVal → Heap → Prop} : callT P n0 f args tm H k ↔ Enters P f ∧ ∀ (c0 c : Cx) (us vals : Array Value), c0.H.length = n0 → GOK c0 → Fr c0 c → c.H = H → HRel c → CRel c args us.toList → CRel c tm vals.toList →
    Calls P f us c.w fun e w' => ∃ u v c' tm', e = .returned u ∧ c'.w = w' ∧ k tm' v c'.H ∧ Fr c0 c' ∧ HRel c' ∧ VRel c' v u ∧ CRel c' tm' vals.toList := by
  unfold callT; exact Iff.rfl
theorem CRel.mono {c c' : Cx} (h : Fr c c') (hX : ∀ r, Img c r → c.X r) {vs : List AVal} {us : List Value} (hr : CRel c vs us) : CRel c' vs us := ⟨hr.1, fun i v u h1 h2 => (hr.2 i v u h1 h2).mono h hX⟩
theorem callT_of_N {P : Program} {n0 : Nat} {f : FuncId} {args tm : List AVal} {H : Heap} {k : List AVal → AVal → Heap → Prop} (h : callN P f args H fun v H' => k tm v H') : callT P n0 f args tm H k := by
  rw [callN_iff] at h
  rw [callT_iff]
  refine ⟨h.1, ?_⟩
  rintro c0 c us vals hn hg hf rfl hh ha ht
  refine (h.2 c us rfl (hf.gok hg) hh ha).mono ?_
  rintro e w' ⟨u, v, c', h1, h2, hk, hfc, hh', hv⟩
  exact ⟨u, v, c', tm, h1, h2, hk, hf.trans hfc, hh', hv, ht.mono hfc hh.img⟩
def AExit.out : AExit → Exit
  | .normal => .normal
  | .exit i => .exit i
  | .ret => .ret
def Post (c0 : Cx) (Q : AQ) : Exit → Act → World → Prop := fun e a w => ∃ (c : Cx) (tm : List AVal) (ae : AExit), e = ae.out ∧ Q ae tm c.H ∧ c.w = w ∧ Fr c0 c ∧ SR c tm a
theorem post_mk {c0 c : Cx} {Q : AQ} {tm : List AVal} {a : Act} (ae : AExit) (h : Q ae tm c.H) (hf : Fr c0 c) (hs : SR c tm a) : Post c0 Q ae.out a c.w := ⟨c, tm, ae, rfl, h, rfl, hf, hs⟩
theorem TRel.set {c : Cx} {tm : List AVal} {us : Array Value} (h : TRel c tm us) {d : Nat} {v : AVal} {u : Value} (hv : VRel c v u) : TRel c (tm.set d v) (us.setIfInBounds d u) := by
  refine ⟨by simp [h.1], fun i x y h1 h2 => ?_⟩
  rw [List.getElem?_set] at h1
  rw [Array.getElem?_setIfInBounds] at h2
  split at h1
  · rename_i hd
    subst hd
    rw [if_pos rfl] at h2
    split at h1
    · split at h2
      · cases h1; cases h2; exact hv
      · cases h2
    · cases h1
  · rename_i hd
    rw [if_neg hd] at h2
    exact h.2 i x y h1 h2
theorem SR.put {c : Cx} {tm : List AVal} {a : Act} (h : SR c tm a) {d : Option Nat} {v : AVal} {u : Value} (hv : VRel c v u) {K : List AVal → Prop} (hk : putW tm d v K) : ∃ tm', K tm' ∧ SR c tm' (a.put d u) := by
  cases d with
  | none => exact ⟨tm, hk, h⟩
  | some d =>
    simp only [putW, setL_iff] at hk
    exact ⟨_, hk, h.tm.set hv, h.heap, h.defers⟩
theorem TRel.bool {c : Cx} {tm : List AVal} {us : Array Value} (h : TRel c tm us) {d : Nat} {b : Bool} (hb : tm.getD d .any = .bool b) : us[d]? = some (.bool b) := by
  rw [List.getD_eq_getElem?_getD] at hb
  cases hd : tm[d]? with
  | none => rw [hd] at hb; cases hb
  | some v =>
    rw [hd] at hb
    simp only [Option.getD_some] at hb
    subst hb
    have hlt := (List.getElem?_eq_some_iff.1 hd).1
    have hlt' : d < us.size := by rw [← h.1]; exact hlt
    have hu : us[d]? = some us[d] := Array.getElem?_eq_getElem hlt'
    rw [hu]
    exact congrArg some ((h.2 d _ _ hd hu).inv_bool)
theorem TRel.void {c : Cx} {tm : List AVal} {us : Array Value} (h : TRel c tm us) {d : Nat} (hb : tm.getD d .any = .tuple []) : us[d]? = some (.tuple #[]) := by
  rw [List.getD_eq_getElem?_getD] at hb
  cases hd : tm[d]? with
  | none => rw [hd] at hb; cases hb
  | some v =>
    rw [hd] at hb
    simp only [Option.getD_some] at hb
    subst hb
    have hlt := (List.getElem?_eq_some_iff.1 hd).1
    have hlt' : d < us.size := by rw [← h.1]; exact hlt
    have hu : us[d]? = some us[d] := Array.getElem?_eq_getElem hlt'
    rw [hu]
    obtain ⟨ws, h1, h2, _⟩ := (h.2 d _ _ hd hu).inv_tuple
    rw [h1]
    have : ws = #[] := Array.eq_empty_of_size_eq_zero (by simpa using h2.symm)
    rw [this]
theorem SR.fix {c : Cx} {tm : List AVal} {a : Act} (h : SR c tm a) {d : Nat} {b : Bool} (hb : a.tmps[d]? = some (.bool b)) : SR c (tm.set d (.bool b)) a := by
  have hs := h.tm.set (d := d) (VRel.mk_bool c b)
  have hlt := (Array.getElem?_eq_some_iff.1 hb)
  obtain ⟨hlt, he⟩ := hlt
  have : a.tmps.setIfInBounds d (.bool b) = a.tmps := by
    apply Array.ext
    · simp
    · intro i h1 h2
      rw [Array.getElem_setIfInBounds]
      split
      · rename_i hd; subst hd; exact he.symm
      · rfl
  rw [this] at hs
  exact ⟨hs, h.heap, h.defers⟩
section
variable {P : Program} {T : TEnv} {C : CallH} {c0 c : Cx} {a : Act} {tm : List AVal}
def CallsOK (P : Program) (n0 : Nat) (C : CallH) : Prop := ∀ f l tm H k, C f l tm H k → callT P n0 f l tm H k
theorem call_hfn {n0 : Nat} (hC : CallsOK P n0 C) (c : Cx) (fid : FuncId) (vs : Array Value) : (callFunc fid vs).run P c.w = .ok (.enter fid vs) c.w ∨ ∀ l tm H k', ¬ C fid l tm H k' := by
  by_cases h : ∃ l tm H k', C fid l tm H k'
  · obtain ⟨l, tm, H, k', h⟩ := h
    exact .inl ((callT_iff.1 (hC _ _ _ _ _ h)).1 vs c.w)
  · exact .inr fun l tm H k' h' => h ⟨l, tm, H, k', h'⟩
theorem oper_wp (hT : TOK P T) (hC : CallsOK P c0.H.length C) (hG : GOK c0) {o : Oper} {K : List AVal → Heap → Prop} {N : Act → World → Prop} {Q : Exit → Act → World → Prop}
    (hN : ∀ c tm a, Fr c0 c → SR c tm a → K tm c.H → N a c.w) (hf : Fr c0 c) (hs : SR c tm a)
    (h : opW C T c0.H.length o.op tm c.H fun tm v H => putW tm o.dst v fun tm => K tm H) : o.wp P a c.w N Q := by
  have hr := op_ok (P := P) (a := a) hT (call_hfn hC c) hf hs.tm hs.heap h
  unfold Oper.wp
  cases hr with
  | val tm' v u c' n hk hv hf' ht hh hn hr =>
    rw [hr]
    obtain ⟨tm2, hk, hs'⟩ := SR.put (a := a) ⟨ht, hh, hs.defers⟩ hv hk
    rcases hn with rfl | ⟨rfl, rfl⟩
    · exact hN _ _ _ hf' hs' hk
    · exact hN _ _ _ hf' hs' hk
  | call f vs args tm' hc ha ht hr =>
    rw [hr]
    have := (callT_iff.1 (hC _ _ _ _ _ hc)).2 c0 c args a.tmps rfl hG hf rfl hs.heap ha ⟨by simpa using ht.1, fun i v u h1 h2 => ht.2 i v u h1 (by simpa using h2)⟩
    refine this.mono ?_
    rintro e w' ⟨u, v, c', tm1, rfl, rfl, hk, hfc, hh', hv, ht'⟩
    obtain ⟨tm2, hk, hs'⟩ := SR.put (a := a) ⟨⟨by simpa using ht'.1, fun i v u h1 h2 => ht'.2 i v u h1 (by simpa using h2)⟩, hh', hs.defers⟩ hv hk
    exact hN _ _ _ hfc hs' hk
theorem ops_wp (hT : TOK P T) (hC : CallsOK P c0.H.length C) (hG : GOK c0) {all : Array Oper} {Q : AQ} : ∀ (rest : List Oper) (tm : List AVal) (c : Cx) (a : Act), Fr c0 c → SR c tm a →
    opsW C T c0.H.length all.toList rest tm c.H (Q .normal) → wpList P all (Post c0 Q) rest a c.w := by
  intro rest
  induction rest with
  | nil => exact fun tm c a hf hs h => post_mk .normal h hf hs
  | cons o rest ih =>
    intro tm c a hf hs h
    have step : ∀ tm, SR c tm a → (opW C T c0.H.length o.op tm c.H fun tm v H => putW tm o.dst v fun tm => opsW C T c0.H.length all.toList rest tm H (Q .normal)) →
        o.wp P a c.w (wpList P all (Post c0 Q) rest) (Post c0 Q) := fun tm hs h =>
      oper_wp hT hC hG (K := fun tm H => opsW C T c0.H.length all.toList rest tm H (Q .normal)) (fun c tm a hf hs h => ih tm c a hf hs h) hf hs h
    simp only [opsW] at h
    simp only [wpList]
    split at h
    · rename_i hg
      rw [if_pos (by simp [Region.wanted, hg])]
      exact .inl (step tm hs h)
    · rename_i j want hg
      split at h
      · exact h.elim
      · rename_i d hd
        split at h
        · rename_i b hb
          have hu := hs.tm.bool hb
          have hy : yielded all a.tmps j = some b := by
            unfold dstOf at hd
            split at hd
            · cases hd
            · rename_i o' ho'
              rw [Array.getElem?_toList] at ho'
              simp [yielded, ho', hd, hu]
          have h := branch_at h
          have hfix := hs.fix hu
          have no : ∀ tm, SR c tm a → (putW tm o.dst (.tuple []) fun tm => opsW C T c0.H.length all.toList rest tm c.H (Q .normal)) → wpList P all (Post c0 Q) rest (a.put o.dst undef) c.w := fun tm hs h => by
            obtain ⟨tm2, hk, hs'⟩ := hs.put (d := o.dst) (v := .tuple []) (u := undef) (.tuple (us := #[]) rfl (by simp)) h
            exact ih _ _ _ hf hs' hk
          cases b <;> cases want <;> simp only [setL_iff, if_true, Bool.false_eq_true, if_false] at h
          · rw [if_pos (by simp [Region.wanted, hg, hy])]
            exact .inl (step _ hfix h)
          · rw [if_neg (by simp [Region.wanted, hg, hy])]
            exact no _ hfix h
          · rw [if_neg (by simp [Region.wanted, hg, hy])]
            exact no _ hfix h
          · rw [if_pos (by simp [Region.wanted, hg, hy])]
            exact .inl (step _ hfix h)
        · rename_i hb
          have hu := hs.tm.void hb
          have hy : yielded all a.tmps j = none := by
            unfold dstOf at hd
            split at hd
            · cases hd
            · rename_i o' ho'
              rw [Array.getElem?_toList] at ho'
              simp [yielded, ho', hd, hu]
          rw [if_neg (by simp [Region.wanted, hg, hy])]
          obtain ⟨tm2, hk, hs'⟩ := hs.put (d := o.dst) (v := .tuple []) (u := undef) (.tuple (us := #[]) rfl (by simp)) h
          exact ih _ _ _ hf hs' hk
        · exact h.elim
structure ParOK (P : Program) (c0 : Cx) (p : Par) : Prop where
  T : TOK P p.T
  n0 : p.n0 = c0.H.length
  C : CallsOK P c0.H.length p.C
  G : GOK c0
  L : ∀ (cd : Code) (body : AQ → List AVal → Heap → Prop), (∀ Q tm c a, Fr c0 c → SR c tm a → body Q tm c.H → cd.wp P (Post c0 Q) a c.w) →
    ∀ Q tm c a, Fr c0 c → SR c tm a → p.L body Q tm c.H → (Code.loop cd).wp P (Post c0 Q) a c.w
  D : ∀ id (ops : Array Oper) Q tm c a, Fr c0 c → SR c tm a → p.D ops.toList tm c.H (Q .normal) → (Code.region id ops true).wp P (Post c0 Q) a c.w
theorem code_wp {p : Par} (hp : ParOK P c0 p) : ∀ (cd : Code) (Q : AQ) (tm : List AVal) (c : Cx) (a : Act), Fr c0 c → SR c tm a → codeW p cd Q tm c.H → cd.wp P (Post c0 Q) a c.w := by
  intro cd
  induction cd with
  | skip => exact fun Q tm c a hf hs h => wp_skip (post_mk .normal h hf hs)
  | label l => exact fun Q tm c a hf hs h => wp_label (post_mk .normal h hf hs)
  | exit i => exact fun Q tm c a hf hs h => wp_exit (post_mk (.exit i) h hf hs)
  | ret => exact fun Q tm c a hf hs h => wp_ret (post_mk .ret h hf hs)
  | region id ops draw =>
    intro Q tm c a hf hs h
    cases draw with
    | false =>
      simp only [codeW] at h
      rw [hp.n0] at h
      exact wp_region_list (ops_wp hp.T hp.C hp.G ops.toList tm c a hf hs h)
    | true => exact hp.D id ops Q tm c a hf hs h
  | seq x y ihx ihy =>
    intro Q tm c a hf hs h
    refine wp_seq (wp_mono (ihx _ tm c a hf hs h) ?_)
    rintro e a' w' ⟨c', tm', ae, rfl, hq, rfl, hf', hs'⟩
    cases ae with
    | normal => exact ihy _ tm' c' a' hf' hs' hq
    | exit i => exact post_mk (.exit i) hq hf' hs'
    | ret => exact post_mk .ret hq hf' hs'
  | cond x y z ihy ihz =>
    intro Q tm c a hf hs h
    simp only [codeW, condW] at h
    split at h
    · rename_i t
      split at h
      · rename_i b hb
        have hu := hs.tm.bool hb
        have h := branch_at h
        have hfix := hs.fix hu
        have he : a.eval (.tmp t) = .bool b := by simp [Act.eval, Array.getD_eq_getD_getElem?, hu]
        cases b
        · simp only [setL_iff, Bool.false_eq_true, if_false] at h
          exact wp_cond_false he (ihz _ _ c a hf hfix h)
        · simp only [setL_iff, if_true] at h
          exact wp_cond_true he (ihy _ _ c a hf hfix h)
      · exact h.elim
    · rename_i b
      cases b
      · exact wp_cond_false rfl (ihz _ _ c a hf hs h)
      · exact wp_cond_true rfl (ihy _ _ c a hf hs h)
    · exact h.elim
  | block id x ih =>
    intro Q tm c a hf hs h
    refine wp_block (wp_mono (ih _ tm c a hf hs h) ?_)
    rintro e a' w' ⟨c', tm', ae, rfl, hq, rfl, hf', hs'⟩
    cases ae with
    | normal => exact post_mk .normal hq hf' hs'
    | exit i =>
      simp only [blockQ] at hq
      simp only [AExit.out, Exit.inBlock]
      split at hq
      · rename_i hi
        rw [if_pos (Nat.eq_of_beq_eq_true hi)]
        exact post_mk .normal hq hf' hs'
      · rename_i hi
        rw [if_neg (Nat.ne_of_beq_eq_false hi)]
        exact post_mk (.exit i) hq hf' hs'
    | ret => exact post_mk .ret hq hf' hs'
  | loop x ih => exact fun Q tm c a hf hs h => hp.L x (codeW p x) (fun Q tm c a hf hs h => ih Q tm c a hf hs h) Q tm c a hf hs h
  | scope x ih =>
    intro Q tm c a hf hs h
    refine wp_scope_straight (wp_mono (ih _ tm c a hf hs h) ?_)
    rintro e a' w' ⟨c', tm', ae, rfl, hq, rfl, hf', hs'⟩
    cases ae with
    | normal => exact post_mk .normal hq hf' hs'
    | exit i => exact post_mk (.exit i) hq hf' hs'
    | ret => exact post_mk .ret hq hf' hs'
  | _ => intro Q tm c a hf hs h; exact h.elim
end
end Go.E
namespace Go.E
def WeakS (n0 : Nat) (tm : List AVal) (H : Heap) (tm' : List AVal) (H' : Heap) : Prop :=
  ∀ (c0 c : Cx) (a : Act), c0.H.length = n0 → Fr c0 c → SR c tm a → c.H = H → ∃ c' : Cx, c'.w = c.w ∧ c'.H = H' ∧ Fr c0 c' ∧ SR c' tm' a
theorem WeakS.refl (n0 : Nat) (tm : List AVal) (H : Heap) : WeakS n0 tm H tm H := fun _ c _ _ hf hs h => ⟨c, rfl, h, hf, hs⟩
theorem WeakS.trans {n0 : Nat} {tm tm' tm'' : List AVal} {H H' H'' : Heap} (h : WeakS n0 tm H tm' H') (h' : WeakS n0 tm' H' tm'' H'') : WeakS n0 tm H tm'' H'' := fun c0 c a hn hf hs he => by
  obtain ⟨c1, w1, e1, f1, s1⟩ := h c0 c a hn hf hs he
  obtain ⟨c2, w2, e2, f2, s2⟩ := h' c0 c1 a hn f1 s1 e1
  exact ⟨c2, w2.trans w1, e2, f2, s2⟩
@[irreducible] def loopN (n0 : Nat) (body : AQ → List AVal → Heap → Prop) (Q : AQ) (tm : List AVal) (H : Heap) : Prop :=
  ∃ (σ : Type) (st : σ → List AVal) (hp : σ → Heap) (ok : σ → Prop) (μ : σ → Nat) (J : σ → List AVal → Heap → Prop),
    (∃ s, ok s ∧ WeakS n0 tm H (st s) (hp s)) ∧ (∀ s, ok s → body (seqQ (fun _ => J s) Q) (st s) (hp s)) ∧
    ∀ s tm' H', ok s → J s tm' H' → ∃ s', ok s' ∧ μ s' < μ s ∧ WeakS n0 tm' H' (st s') (hp s')
section
variable {P : Program} {c0 : Cx}
theorem rounds_le {cd : Code} {Q : Exit → Act → World → Prop} : ∀ {n m : Nat} {a : Act} {w : World}, n ≤ m → Code.rounds P cd Q n a w → Code.rounds P cd Q m a w := by
  intro n
  induction n with
  | zero => exact fun _ h => h.elim
  | succ n ih =>
    intro m a w hm h
    obtain ⟨m, rfl⟩ : ∃ k, m = k + 1 := ⟨m - 1, by omega⟩
    rw [rounds_succ] at h ⊢
    refine wp_mono h ?_
    intro e a' w' hq
    cases e with
    | normal => exact ih (by omega) hq
    | _ => exact hq
theorem loopN_ok (cd : Code) (body : AQ → List AVal → Heap → Prop) (hb : ∀ Q tm c a, Fr c0 c → SR c tm a → body Q tm c.H → cd.wp P (Post c0 Q) a c.w) (Q : AQ)
    (tm : List AVal) (c : Cx) (a : Act) (hf : Fr c0 c) (hs : SR c tm a) (h : loopN c0.H.length body Q tm c.H) : (Code.loop cd).wp P (Post c0 Q) a c.w := by
  unfold loopN at h
  obtain ⟨σ, st, hp, ok, μ, J, ⟨s0, h0, hw⟩, hI, hJ⟩ := h
  obtain ⟨c1, hw1, e1, hf1, hs1⟩ := hw c0 c a rfl hf hs rfl
  rw [← hw1]
  have key : ∀ m s c a, μ s = m → ok s → Fr c0 c → SR c (st s) a → c.H = hp s → Code.rounds P cd (Post c0 Q) (m + 1) a c.w := by
    intro m
    induction m using Nat.strongRecOn with
    | _ m ih =>
      intro s c a hm h hf hs he
      rw [rounds_succ]
      have hb' := hI s h
      rw [← he] at hb'
      refine wp_mono (hb _ _ c a hf hs hb') ?_
      rintro e a' w' ⟨c', tm', ae, rfl, hq, rfl, hf', hs'⟩
      cases ae with
      | normal =>
        obtain ⟨s', h', hlt, hw2⟩ := hJ s tm' c'.H h hq
        obtain ⟨c2, e2, e3, hf2, hs2⟩ := hw2 c0 c' a' rfl hf' hs' rfl
        rw [← e2]
        exact rounds_le (by omega) (ih (μ s') (by omega) s' c2 a' rfl h' hf2 hs2 e3)
      | exit i => exact post_mk (.exit i) hq hf' hs'
      | ret => exact post_mk .ret hq hf' hs'
  exact wp_loop_rounds _ (key (μ s0) s0 c1 a rfl h0 hf1 hs1 e1)
variable {T : TEnv} {c : Cx} {a : Act} {tm : List AVal}
def resF (tmps : Array Value) : ResultVar → Sem Value
  | .tmp t => pure (tmps.getD t undef)
  | .cell x t => do loadVar t (← asAddr (tmps.getD x undef))
theorem resL_ok (hT : TOK P T) (hs : SR c tm a) : ∀ (rs : List ResultVar) (K : List AVal → Prop), resL T tm c.H rs K →
    ∃ vs us, K vs ∧ CRel c vs us ∧ (rs.mapM (resF a.tmps)).run P c.w = .ok us c.w := by
  intro rs
  induction rs with
  | nil => exact fun K h => ⟨[], [], h, .nil c, by simp⟩
  | cons r rs ih =>
    intro K h
    cases r with
    | tmp t =>
      simp only [resL, force_iff] at h
      obtain ⟨vs, us, hk, hr, hm⟩ := ih _ h
      have hc : (resF a.tmps (.tmp t)).run P c.w = .ok (a.tmps.getD t undef) c.w := by simp only [resF]; exact Sem.run_pure _ _ _
      refine ⟨_, (a.tmps.getD t undef) :: us, hk, ?_, by simp only [List.mapM_cons, Sem.run_bind, hc, hm, Result.andThen, Sem.run_pure]⟩
      have he : VRel c (evalO tm (.tmp t)) (a.eval (.tmp t)) := eval_rel hs.tm _
      exact (CRel.one he).append hr
    | cell x t =>
      simp only [resL] at h
      obtain ⟨v, u, hk, hv, hx⟩ := ok_load hT hs.tm hs.heap h
      obtain ⟨vs, us, hk, hr, hm⟩ := ih _ hk
      have hx := hx ⟨none, .load t (.tmp x), 0, "", #[], none⟩ rfl
      refine ⟨_, u :: us, hk, (CRel.one hv).append hr, ?_⟩
      simp only [execOp, Instr.loadAt, Act.eval] at hx
      cases hp : a.tmps.getD x undef with
      | pointer p =>
        cases p with
        | some p =>
          rw [hp] at hx
          cases hl : (loadVar t p).run P c.w with
          | ok u' w' =>
            simp [Instr.sureAddr, hl] at hx
            obtain ⟨rfl, rfl⟩ := hx
            have hc : (resF a.tmps (.cell x t)).run P c.w = .ok u' c.w := by
              simp only [resF]
              rw [hp]
              simp [asAddr, hl]
            simp only [List.mapM_cons, Sem.run_bind, hc, hm, Result.andThen, Sem.run_pure]
          | halt o w' => simp [Instr.sureAddr, hl] at hx
        | none => rw [hp] at hx; simp [Instr.sureAddr, stuck] at hx
      | _ => rw [hp] at hx; simp [Instr.sureAddr, stuck] at hx
theorem resW_ok (hT : TOK P T) (hs : SR c tm a) {fn : Func} {k : AVal → Heap → Prop} (h : resW T fn.results.toList tm c.H k) :
    ∃ v u, k v c.H ∧ VRel c v u ∧ (results fn a.tmps).run P c.w = .ok u c.w := by
  obtain ⟨vs, us, hk, hr, hm⟩ := resL_ok hT hs _ _ h
  have hrun : (results fn a.tmps).run P c.w = .ok (if h : us.toArray.size = 1 then us.toArray[0] else .tuple us.toArray) c.w := by
    have : results fn a.tmps = (do let vs ← fn.results.mapM (resF a.tmps); pure (if h : vs.size = 1 then vs[0] else .tuple vs)) := rfl
    rw [this, Array.mapM_eq_mapM_toList]
    simp only [Sem.run_bind, Sem.run_map, hm, Result.andThen, Sem.run_pure]
  rw [hrun]
  split at hk
  · rename_i v
    obtain ⟨u, rfl⟩ : ∃ u, us = [u] := by
      have := hr.1
      match us, this with
      | [u], _ => exact ⟨u, rfl⟩
    exact ⟨v, u, hk, hr.2 0 v u rfl rfl, by simp⟩
  · rename_i hne
    refine ⟨_, _, hk, .tuple (us := us.toArray) (by simpa using hr.1) (fun i v u h1 h2 => hr.2 i v u h1 (by simpa using h2)), ?_⟩
    rw [dif_neg]
    intro h1
    have : vs.length = 1 := by rw [hr.1]; simpa using h1
    match vs, this with
    | [v], _ => exact hne v rfl
theorem fun_callN {p : Par} {f : FuncId} {fn : Func} {args : List AVal} {H : Heap} {k : AVal → Heap → Prop} (hp : ∀ c0 : Cx, c0.H.length = H.length → GOK c0 → ParOK P c0 p)
    (hfn : P.funcs[f]? = some fn) (hn : (fn.name == "runtime.NumGoroutine") = false) (h : funW p fn args H k) : callN P f args H k := by
  unfold funW at h
  split at h
  · rename_i cd hb
    rw [lenL_iff, repL_iff, appL_iff] at h
    rw [callN_iff]
    refine ⟨enters_of hfn hb hn, ?_⟩
    rintro c us rfl hg hh ha
    refine calls_of_wp hfn hb (wp_mono (code_wp (hp c rfl hg) cd _ _ c _ (Fr.refl c) ?_ h) ?_)
    · refine ⟨?_, hh, rfl⟩
      have : CRel c (args ++ List.replicate (fn.ntmps - args.length) (.tuple [])) (us ++ Array.replicate (fn.ntmps - us.size) undef).toList := by
        rw [Array.toList_append]
        refine ha.append ⟨?_, ?_⟩
        · have := ha.1
          simp at this ⊢
          rw [this]
        · intro i v u h1 h2
          rw [List.getElem?_replicate] at h1
          simp only [Array.toList_replicate, List.getElem?_replicate] at h2
          split at h1
          · cases h1
            split at h2
            · cases h2; exact .tuple (us := #[]) rfl (by simp)
            · cases h2
          · cases h1
      exact ⟨by simpa using this.1, fun i v u h1 h2 => this.2 i v u h1 (by rw [Array.getElem?_toList]; exact h2)⟩
    · have fin : ∀ {c' : Cx} {tm' : List AVal} {a' : Act}, Fr c c' → SR c' tm' a' → resW p.T fn.results.toList tm' c'.H k →
          a'.defers = [] ∧ ∃ v, (results fn a'.tmps).run P c'.w = .ok v c'.w ∧ ∃ u v' c'', Ending.returned v = .returned u ∧ c''.w = c'.w ∧ k v' c''.H ∧ Fr c c'' ∧ HRel c'' ∧ VRel c'' v' u := by
        intro c' tm' a' hf' hs' hq
        obtain ⟨v, u, hk, hv, hr⟩ := resW_ok (hp c rfl hg).T hs' hq
        exact ⟨hs'.defers, u, hr, u, v, c', rfl, rfl, hk, hf', hs'.heap, hv⟩
      rintro e a' w' ⟨c', tm', ae, rfl, hq, rfl, hf', hs'⟩
      cases ae with
      | normal => exact fin hf' hs' hq
      | exit i => exact hq.elim
      | ret => exact fin hf' hs' hq
  · exact h.elim
end
end Go.E
namespace Go.E
def AVal.closedA : AVal → Bool
  | .roptr _ _ _ _ _ => true
  | v => v.closed
def allClosedA : List AVal → Bool
  | [] => true
  | v :: r => match v.closedA with | true => allClosedA r | false => false
def AVal.closed1 : AVal → Bool
  | .agg l => allClosed l
  | .fn _ a b => match allClosedA a with | true => allClosedA b | false => false
  | v => v.closedA
def allClosed1 : List AVal → Bool
  | [] => true
  | v :: r => match v.closed1 with | true => allClosed1 r | false => false
def AVal.closed2 : AVal → Bool
  | .tuple l => allClosed1 l
  | v => v.closed1
def allClosed2 : List AVal → Bool
  | [] => true
  | v :: r => match v.closed2 with | true => allClosed2 r | false => false
theorem all_mem {p : AVal → Bool} {q : List AVal → Bool} (hq : ∀ v r, q (v :: r) = true → p v = true ∧ q r = true) {cs : List AVal} (h : q cs = true) : ∀ v ∈ cs, p v = true := by
  induction cs with
  | nil => simp
  | cons x r ih =>
    intro v hv
    rcases List.mem_cons.1 hv with rfl | hv
    · exact (hq _ _ h).1
    · exact ih (hq _ _ h).2 v hv
theorem allClosedA_mem {cs : List AVal} (h : allClosedA cs = true) : ∀ v ∈ cs, v.closedA = true :=
  all_mem (fun v r h => by unfold allClosedA at h; split at h <;> simp_all) h
theorem allClosed1_mem {cs : List AVal} (h : allClosed1 cs = true) : ∀ v ∈ cs, v.closed1 = true :=
  all_mem (fun v r h => by unfold allClosed1 at h; split at h <;> simp_all) h
theorem allClosed2_mem {cs : List AVal} (h : allClosed2 cs = true) : ∀ v ∈ cs, v.closed2 = true :=
  all_mem (fun v r h => by unfold allClosed2 at h; split at h <;> simp_all) h
section
variable {P : Program} {c c' : Cx}
theorem VRel.closedA {v : AVal} {u : Value} (h : VRel c v u) (hv : v.closedA = true) (hq : Quiet c c') : VRel c' v u := by
  cases v with
  | roptr sz n row i j =>
    cases h with
    | closed h => cases h
    | roptr hi hx hb hlen hin hrel => exact .roptr hi (hq _ _ hb hx).2 (hq _ _ hb hx).1 hlen hin (fun i hi j v u h1 h2 => (hrel i hi j v u h1 h2).mono hq)
  | _ => exact .closed ((closed_rel h hv).mono hq)
theorem VRel.closed1 {v : AVal} {u : Value} (h : VRel c v u) (hv : v.closed1 = true) (hq : Quiet c c') : VRel c' v u := by
  cases v with
  | agg l =>
    obtain ⟨us, rfl, hl, hr⟩ := h.inv_agg
    exact .agg hl fun i x y h1 h2 => .closed ((closed_rel (hr i x y h1 h2) (allClosed_mem hv x (List.mem_of_getElem? h1))).mono hq)
  | fn f a b =>
    obtain ⟨us, vs, rfl, ⟨hl, hr⟩, hl', hr'⟩ := h.inv_fn
    simp only [AVal.closed1] at hv
    split at hv
    · rename_i ha
      exact .fn hl (fun i x y h1 h2 => (hr i x y h1 h2).closedA (allClosedA_mem ha x (List.mem_of_getElem? h1)) hq) hl'
        (fun i x y h1 h2 => (hr' i x y h1 h2).closedA (allClosedA_mem hv x (List.mem_of_getElem? h1)) hq)
    · cases hv
  | _ => exact h.closedA hv hq
theorem VRel.closed2 {v : AVal} {u : Value} (h : VRel c v u) (hv : v.closed2 = true) (hq : Quiet c c') : VRel c' v u := by
  cases v with
  | tuple l =>
    obtain ⟨us, rfl, hl, hr⟩ := h.inv_tuple
    exact .tuple hl fun i x y h1 h2 => (hr i x y h1 h2).closed1 (allClosed1_mem hv x (List.mem_of_getElem? h1)) hq
  | _ => exact h.closed1 hv hq
theorem CRel.closed2 {vs : List AVal} {us : List Value} (h : CRel c vs us) (hv : allClosed2 vs = true) (hq : Quiet c c') : CRel c' vs us :=
  ⟨h.1, fun i v u h1 h2 => (h.2 i v u h1 h2).closed2 (allClosed2_mem hv v (List.mem_of_getElem? h1)) hq⟩
def froze0 (H : Heap) (v : AVal) (k : AVal → Prop) : Prop := match v with
  | .slice ⟨b, i0, 0⟩ n => (match H[b]? with
    | some (.ints kk l) => need (i0 + n ≤ l.length) (k (.ro 1 n (match i0 with | 0 => irow kk l | _ => fun i => [.int kk (l.getD (i0 + i) 0)])))
    | some (.rows sz m f) => need (i0 + n ≤ m) (k (.ro sz n (match i0 with | 0 => f | _ => fun i => f (i0 + i))))
    | _ => False)
  | v => whenB v.closed (k v)
def frozeL0 (H : Heap) : List AVal → (List AVal → Prop) → Prop
  | [], k => k []
  | v :: r, k => froze0 H v fun v' => frozeL0 H r fun r' => k (v' :: r')
def froze1 (H : Heap) (v : AVal) (k : AVal → Prop) : Prop := match v with
  | .ptr ⟨b, 0, 0⟩ => (match H[b]? with
    | some (.cells cs) => frozeL0 H cs fun cs' => whenB (allClosed cs') (lenL cs' fun n => k (.roptr n 1 (fun _ => cs') 0 0))
    | _ => False)
  | .roptr _ _ _ _ _ => k v
  | v => froze0 H v k
def frozeL1 (H : Heap) : List AVal → (List AVal → Prop) → Prop
  | [], k => k []
  | v :: r, k => froze1 H v fun v' => frozeL1 H r fun r' => k (v' :: r')
def froze2 (H : Heap) (v : AVal) (k : AVal → Prop) : Prop := match v with
  | .agg l => frozeL0 H l fun l' => k (.agg l')
  | .fn f a b => frozeL1 H a fun a' => frozeL1 H b fun b' => k (.fn f a' b')
  | v => froze1 H v k
def frozeL2 (H : Heap) : List AVal → (List AVal → Prop) → Prop
  | [], k => k []
  | v :: r, k => froze2 H v fun v' => frozeL2 H r fun r' => k (v' :: r')
def frozeW (H : Heap) (v : AVal) (k : AVal → Prop) : Prop := match v with
  | .tuple l => frozeL2 H l fun l' => k (.tuple l')
  | v => froze2 H v k
def Cx.ice (c : Cx) : Cx := ⟨fun _ => none, fun r => c.X r ∧ ¬ Img c r, [], c.w⟩
theorem ice_rrel {v : AVal} {u : Value} (h : RRel c.w c.X v u) : RRel c.ice.w c.ice.X v u := by
  induction h with
  | int k n => exact .int k n
  | bool b => exact .bool b
  | str s => exact .str s
  | nilptr => exact .nilptr
  | nilslice => exact .nilslice
  | nilfn => exact .nilfn
  | roNil A c => exact .roNil A c
  | ro hc hx hb hlen hin _ ih => exact .ro hc (fun h => hx h.1) hb hlen hin ih
theorem ice_heap (hh : HRel c) : HRel c.ice where
  holds := by simp [Cx.ice]
  small := fun r h => hh.small r h.1
  inj := by simp [Cx.ice]
theorem VRel.slice_at {a : AAddr} {n : Nat} {u : Value} {blk : Blk} (h : VRel c (.slice a n) u) (hb : c.H[a.blk]? = some blk) : ∃ A k, u = .slice A n k ∧ n ≤ k ∧
    (blk.live = true → (n = 0 ∧ k = 0) ∨ ∃ r o, c.φ a.blk = some (r, o) ∧ A = some ⟨r, o + lin blk a, none⟩) := by
  cases h with
  | closed h => cases h
  | slice hb' hk hp =>
    rw [hb] at hb'; cases hb'
    refine ⟨_, _, rfl, hk, fun hl => ?_⟩
    rcases hp hl with h0 | ⟨r, o, h1, h2, _⟩
    · exact .inl h0
    · exact .inr ⟨r, o, h1, h2⟩
theorem froze0_ok (hh : HRel c) {v : AVal} {u : Value} {K : AVal → Prop} (h : VRel c v u) (hk : froze0 c.H v K) : ∃ v', K v' ∧ VRel c.ice v' u := by
  have put : ∀ {b i0 n : Nat} {blk : Blk}, c.H[b]? = some blk → blk.live = true → VRel c (.slice ⟨b, i0, 0⟩ n) u → ∀ {sz : Nat} {row : Nat → List AVal},
      (∀ r o, Holds c r o blk → ∃ cs t fr, c.w.heap[r]? = some (.cells cs t fr) ∧ ∀ i, i < n → (row i).length = sz ∧ o + lin blk ⟨b, i0, 0⟩ + i * sz + sz ≤ cs.size ∧
        ∀ j v u, (row i)[j]? = some v → cs[o + lin blk ⟨b, i0, 0⟩ + i * sz + j]? = some u → RRel c.w c.X v u) → (blk.void → n = 0) → VRel c.ice (.ro sz n row) u := by
    intro b i0 n blk hb hl h sz row hr hv
    obtain ⟨A, k, rfl, hk, hp⟩ := h.slice_at hb
    by_cases hn : n = 0
    · subst hn; exact .closed (.roNil A k)
    · rcases hp hl with ⟨h0, _⟩ | ⟨r, o, h1, rfl⟩
      · exact absurd h0 hn
      · rcases hh.holds b blk hb hl with ⟨h0, _⟩ | ⟨r', o', h2, _, h3⟩
        · exact absurd (hv h0) hn
        · have e : c.φ b = some (r, o) := h1
          rw [h2] at e; cases e
          obtain ⟨cs, t, fr, g1, g2⟩ := hr r o h3
          exact .closed (.ro hk (fun hx => hx.2 ⟨b, blk, o, hb, hl, h2⟩) g1 (fun i hi => (g2 i hi).1) (fun i hi => (g2 i hi).2.1) (fun i hi j v u h1 h2 => ice_rrel ((g2 i hi).2.2 j v u h1 h2)))
  unfold froze0 at hk
  split at hk
  · rename_i b i0 n
    split at hk
    · rename_i kk l hb
      obtain ⟨hle, hk⟩ := need_iff.1 hk
      have go : ∀ {row : Nat → List AVal}, (∀ i, row i = [.int kk (l.getD (i0 + i) 0)]) → VRel c.ice (.ro 1 n row) u := fun hrow => by
        refine put hb rfl h (fun r o hH => ?_) (fun hv => by simp only [Blk.void] at hv; subst hv; simp at hle; omega)
        obtain ⟨cs, t, fr, g1, _, g3, g4⟩ := hH
        refine ⟨cs, t, fr, g1, fun i hi => ?_⟩
        refine ⟨by rw [hrow]; rfl, by simp only [lin]; omega, fun j v u h1 h2 => ?_⟩
        rw [hrow] at h1
        cases j with
        | succ j => simp at h1
        | zero =>
          simp only [List.getElem?_cons_zero, Option.some.injEq] at h1
          subst h1
          have hlt : i0 + i < l.length := by omega
          have := g4 (i0 + i) _ (List.getElem?_eq_getElem hlt)
          simp only [lin, Nat.add_zero, Nat.mul_one] at h2
          rw [← Nat.add_assoc] at this
          rw [this] at h2
          cases h2
          rw [List.getD_eq_getElem?_getD, List.getElem?_eq_getElem hlt]
          exact .int _ _
      refine ⟨_, hk, go fun i => ?_⟩
      split
      · simp [irow]
      · rfl
    · rename_i sz m f hb
      obtain ⟨hle, hk⟩ := need_iff.1 hk
      have go : ∀ {row : Nat → List AVal}, (∀ i, row i = f (i0 + i)) → VRel c.ice (.ro sz n row) u := fun hrow => by
        refine put hb rfl h (fun r o hH => ?_) (fun hv => by simp only [Blk.void] at hv; omega)
        obtain ⟨cs, t, fr, g1, _, g3, g4⟩ := hH
        refine ⟨cs, t, fr, g1, fun i hi => ?_⟩
        have e : o + lin (.rows sz m f) ⟨b, i0, 0⟩ + i * sz = o + (i0 + i) * sz := by
          simp only [lin, Nat.add_zero]
          rw [Nat.add_mul]; omega
        have hle2 : (i0 + i) * sz + sz ≤ m * sz := by rw [← Nat.succ_mul]; exact Nat.mul_le_mul_right _ (by omega)
        rw [e, hrow]
        exact ⟨(g4 (i0 + i) (by omega)).1, by omega, (g4 (i0 + i) (by omega)).2⟩
      refine ⟨_, hk, go fun i => ?_⟩
      split
      · simp
      · rfl
    · exact hk.elim
  · obtain ⟨hc, hk⟩ := whenB_iff.1 hk
    exact ⟨_, hk, .closed (ice_rrel (closed_rel h hc))⟩
theorem frozeL0_ok (hh : HRel c) : ∀ {vs : List AVal} {us : List Value} {K : List AVal → Prop}, CRel c vs us → frozeL0 c.H vs K → ∃ vs', K vs' ∧ CRel c.ice vs' us := by
  intro vs
  induction vs with
  | nil =>
    intro us K h hk
    have : us = [] := List.eq_nil_of_length_eq_zero h.1.symm
    subst this
    exact ⟨[], hk, .nil _⟩
  | cons v vs ih =>
    intro us K h hk
    obtain ⟨u, us, rfl⟩ : ∃ u r, us = u :: r := by
      cases us with
      | nil => exact absurd h.1 (by simp)
      | cons u r => exact ⟨u, r, rfl⟩
    simp only [frozeL0] at hk
    obtain ⟨v', hk, hv⟩ := froze0_ok hh (h.2 0 v u rfl rfl) hk
    obtain ⟨vs', hk, hr⟩ := ih (us := us) ⟨by have := h.1; simpa using this, fun i x y h1 h2 => h.2 (i + 1) x y h1 h2⟩ hk
    exact ⟨_, hk, (CRel.one hv).append hr⟩
theorem froze1_ok (hh : HRel c) {v : AVal} {u : Value} {K : AVal → Prop} (h : VRel c v u) (hk : froze1 c.H v K) : ∃ v', K v' ∧ VRel c.ice v' u := by
  unfold froze1 at hk
  split at hk
  · rename_i b
    split at hk
    · rename_i cs hb
      have hp : ∃ r o, c.φ b = some (r, o) ∧ u = .pointer (some ⟨r, o, none⟩) := by
        cases h with
        | closed h => cases h
        | ptr hb' hp =>
          rw [hb] at hb'; cases hb'
          obtain ⟨r, o, h1, rfl⟩ := hp rfl
          exact ⟨r, o, h1, by simp [lin]⟩
      obtain ⟨r, o, h1, rfl⟩ := hp
      rcases hh.holds b _ hb rfl with ⟨h0, _⟩ | ⟨r', o', h2, _, h3⟩
      · exact h0.elim
      · rw [h1] at h2; cases h2
        obtain ⟨us, t, fr, g1, _, g3, g4⟩ := h3
        have hc : CRel c cs ((us.toList.drop o).take cs.length) := by
          refine ⟨by simp; omega, fun i v u h1 h2 => g4 i v u h1 ?_⟩
          rw [List.getElem?_take] at h2
          split at h2
          · rw [List.getElem?_drop, Array.getElem?_toList] at h2; exact h2
          · cases h2
        obtain ⟨cs', hk, hr⟩ := frozeL0_ok hh hc hk
        obtain ⟨hcl, hk⟩ := whenB_iff.1 hk
        rw [lenL_iff] at hk
        have hl : cs'.length = cs.length := by have := hr.1; simp at this; omega
        have hpt : (⟨r, o, none⟩ : Addr) = ⟨r, o + 0 * cs'.length + 0, none⟩ := by simp
        rw [hpt]
        refine ⟨_, hk, .roptr (c := c.ice) (sz := cs'.length) (n := 1) (row := fun _ => cs') (i := 0) (j := 0) (o := o) (r := r) (cs := us) (t := t) (fr := fr) Nat.zero_lt_one (fun hx => hx.2 ⟨b, _, o, hb, rfl, h1⟩) g1 (fun i _ => rfl) (fun i hi => by
          have : i = 0 := by omega
          subst this; simp; omega) (fun i hi j v u h1 h2 => ?_)⟩
        have : i = 0 := by omega
        subst this
        simp only [Nat.zero_mul, Nat.add_zero] at h2
        have hj := (List.getElem?_eq_some_iff.1 h1).1
        refine closed_rel (hr.2 j v u h1 ?_) (allClosed_mem hcl v (List.mem_of_getElem? h1))
        rw [List.getElem?_take, if_pos (by omega), List.getElem?_drop, Array.getElem?_toList]
        exact h2
    · exact hk.elim
  · exact ⟨_, hk, h.closedA rfl fun r ob hr hx => ⟨hr, fun hx' => hx hx'.1⟩⟩
  · exact froze0_ok hh h hk
theorem frozeL1_ok (hh : HRel c) : ∀ {vs : List AVal} {us : List Value} {K : List AVal → Prop}, CRel c vs us → frozeL1 c.H vs K → ∃ vs', K vs' ∧ CRel c.ice vs' us := by
  intro vs
  induction vs with
  | nil =>
    intro us K h hk
    have : us = [] := List.eq_nil_of_length_eq_zero h.1.symm
    subst this
    exact ⟨[], hk, .nil _⟩
  | cons v vs ih =>
    intro us K h hk
    obtain ⟨u, us, rfl⟩ : ∃ u r, us = u :: r := by
      cases us with
      | nil => exact absurd h.1 (by simp)
      | cons u r => exact ⟨u, r, rfl⟩
    simp only [frozeL1] at hk
    obtain ⟨v', hk, hv⟩ := froze1_ok hh (h.2 0 v u rfl rfl) hk
    obtain ⟨vs', hk, hr⟩ := ih (us := us) ⟨by have := h.1; simpa using this, fun i x y h1 h2 => h.2 (i + 1) x y h1 h2⟩ hk
    exact ⟨_, hk, (CRel.one hv).append hr⟩
theorem froze2_ok (hh : HRel c) {v : AVal} {u : Value} {K : AVal → Prop} (h : VRel c v u) (hk : froze2 c.H v K) : ∃ v', K v' ∧ VRel c.ice v' u := by
  unfold froze2 at hk
  split at hk
  · obtain ⟨us, rfl, hl, hr⟩ := h.inv_agg
    obtain ⟨vs', hk, hr'⟩ := frozeL0_ok hh (CRel.of_agg hl hr) hk
    exact ⟨_, hk, hr'.agg⟩
  · obtain ⟨us, vs, rfl, ⟨hl, hr⟩, hl', hr'⟩ := h.inv_fn
    obtain ⟨a', hk, g1⟩ := frozeL1_ok hh (CRel.of_agg hl hr) hk
    obtain ⟨b', hk, g2⟩ := frozeL1_ok hh (CRel.of_agg hl' hr') hk
    exact ⟨_, hk, .fn (by simpa using g1.1) (fun i x y h1 h2 => g1.2 i x y h1 (by simpa using h2)) (by simpa using g2.1) (fun i x y h1 h2 => g2.2 i x y h1 (by simpa using h2))⟩
  · exact froze1_ok hh h hk
theorem frozeL2_ok (hh : HRel c) : ∀ {vs : List AVal} {us : List Value} {K : List AVal → Prop}, CRel c vs us → frozeL2 c.H vs K → ∃ vs', K vs' ∧ CRel c.ice vs' us := by
  intro vs
  induction vs with
  | nil =>
    intro us K h hk
    have : us = [] := List.eq_nil_of_length_eq_zero h.1.symm
    subst this
    exact ⟨[], hk, .nil _⟩
  | cons v vs ih =>
    intro us K h hk
    obtain ⟨u, us, rfl⟩ : ∃ u r, us = u :: r := by
      cases us with
      | nil => exact absurd h.1 (by simp)
      | cons u r => exact ⟨u, r, rfl⟩
    simp only [frozeL2] at hk
    obtain ⟨v', hk, hv⟩ := froze2_ok hh (h.2 0 v u rfl rfl) hk
    obtain ⟨vs', hk, hr⟩ := ih (us := us) ⟨by have := h.1; simpa using this, fun i x y h1 h2 => h.2 (i + 1) x y h1 h2⟩ hk
    exact ⟨_, hk, (CRel.one hv).append hr⟩
theorem frozeW_ok (hh : HRel c) {v : AVal} {u : Value} {K : AVal → Prop} (h : VRel c v u) (hk : frozeW c.H v K) : ∃ v', K v' ∧ VRel c.ice v' u := by
  unfold frozeW at hk
  split at hk
  · obtain ⟨us, rfl, hl, hr⟩ := h.inv_tuple
    obtain ⟨vs', hk, hr'⟩ := frozeL2_ok hh (CRel.of_agg hl hr) hk
    exact ⟨_, hk, .tuple (by simpa using hr'.1) fun i x y h1 h2 => hr'.2 i x y h1 (by simpa using h2)⟩
  · exact froze2_ok hh h hk
@[irreducible] def callP (P : Program) (f : FuncId) (args : List AVal) (R : AVal → Prop) : Prop := callN P f args [] fun v _ => v.closed2 = true ∧ R v
theorem callN_of_P {f : FuncId} {args : List AVal} {H : Heap} {k : AVal → Heap → Prop} {R : AVal → Prop} (h : callP P f args R) (ha : allClosed2 args = true) (hk : ∀ v, R v → k v H) : callN P f args H k := by
  unfold callP at h
  rw [callN_iff] at h ⊢
  refine ⟨h.1, ?_⟩
  rintro c us rfl hg hh hc
  let d : Cx := ⟨fun _ => none, c.X, [], c.w⟩
  have hd : HRel d := ⟨by simp [d], hh.small, by simp [d]⟩
  refine (h.2 d us rfl (hg.sub rfl (by rintro r ⟨b, blk, o, hb, _⟩; simp [d] at hb)) hd (hc.closed2 ha fun r o h1 h2 => ⟨h1, h2⟩)).mono ?_
  rintro e w' ⟨u, v, c', rfl, rfl, ⟨hcl, hR⟩, hf, hh', hv⟩
  let e : Cx := ⟨c.φ, c'.X, c.H, c'.w⟩
  have hk' : ∀ r, r < c.w.heap.size → c'.w.heap[r]? = c.w.heap[r]? := fun r hr => hf.keep r hr (by rintro ⟨b, blk, o, hb, _⟩; simp [d] at hb)
  have hfe : Fr c e := {
    os := hf.os
    tape := hf.tape
    output := hf.output
    size := hf.size
    keep := fun r hr _ => hk' r hr
    shape := hf.shape
    X := hf.X
    blocks := fun b blk hb => ⟨blk, hb, rfl, rfl⟩
    img := fun b blk r o hlt hb _ _ => by
      have := (List.getElem?_eq_some_iff.1 hb).1
      simp only [e] at this
      omega }
  refine ⟨u, v, e, rfl, rfl, hk v hR, hfe, ⟨fun b blk hb hl => ?_, hh'.small, hh.inj⟩, hv.closed2 hcl fun r o h1 h2 => ⟨h1, h2⟩⟩
  rcases hh.holds b blk hb hl with h0 | ⟨r, o, h1, h2, h3⟩
  · exact .inl h0
  · have hlt := hh.small r h2
    exact .inr ⟨r, o, h1, (hf.X r hlt).2 h2, h3.mono hfe hh.img (hk' r hlt)⟩
end
end Go.E
namespace Go.E
def tiWith (P : Program) (t : TypeId) (b : Bool) : Option TI :=
  match P.info? t, P.underlying t with
  | some i, some d => some ⟨i.size, i.bytes, tdOf d, i.zero.map fun z => z.cells.toList.map .ofV1, b⟩
  | _, _ => none
def tenvWith (P : Program) (l : List Bool) : TEnv := (List.range P.types.size).map fun t => (tiWith P t (l.getD t false)).getD ⟨0, 0, .other, none, false⟩
theorem tok_with {P : Program} {T : TEnv} (h : tenvWith P (T.map TI.plain) = T) (hp : ((List.range P.types.size).all fun t => eqPlain P t == (T.map TI.plain).getD t false) = true) (hg : tenvGood P = true) : TOK P T := by
  refine tok_of ?_ hg
  refine Eq.trans ?_ h
  unfold tenvOf tenvWith
  refine List.map_congr_left fun t ht => ?_
  have := List.all_eq_true.1 hp t ht
  simp only [beq_iff_eq] at this
  simp only [tiOf, tiWith, this]
  rfl
theorem branch_true {T E : Prop} (h : T) : branch true T E := branch_intro (fun _ => h) (fun h => by cases h)
theorem branch_false {T E : Prop} (h : E) : branch false T E := branch_intro (fun h => by cases h) (fun _ => h)
theorem brT {b : Bool} {T E : Prop} (k : T) (h : b = true := by first | (refine decide_eq_true ?_; omega) | (refine beq_iff_eq.2 ?_; omega) | (refine bne_iff_ne.2 ?_; omega) | assumption) : branch b T E := by subst h; exact branch_true k
theorem brF {b : Bool} {T E : Prop} (k : E) (h : b = false := by first | (refine decide_eq_false ?_; omega) | (refine beq_eq_false_iff_ne.2 ?_; omega) | (refine bne_eq_false_iff_eq.2 ?_; omega) | assumption | exact bne_self_eq_false _) : branch b T E := by subst h; exact branch_false k
theorem brU {b : Bool} {T E : Prop} (k : T) (h : b = true := by first | exact beq_self_eq_true _ | (simp <;> omega)) : branch b T E := by subst h; exact branch_true k
theorem brV {b : Bool} {T E : Prop} (k : E) (h : b = false := by (simp <;> omega)) : branch b T E := by subst h; exact branch_false k
theorem ndD {p K : Prop} (k : K) (h : p := by decide) : need p K := need_intro h k
theorem ndS {p K : Prop} (k : K) (h : p := by first | omega | (simp only [List.length_cons, List.length_nil]; decide) | (simp <;> omega)) : need p K := need_intro h k
theorem brD {b : Bool} {T E : Prop} (k : T) (h : b = true := by decide) : branch b T E := by subst h; exact branch_true k
theorem brE {b : Bool} {T E : Prop} (k : E) (h : b = false := by decide) : branch b T E := by subst h; exact branch_false k
theorem stp {K G : Prop} (k : K) (h : K → G := by first | exact branch_true | exact branch_false | exact ndD | exact ndS | exact brT | exact brF | exact brD | exact brE | exact brU | exact brV) : G := h k
theorem branch_t' {b : Bool} {T E : Prop} (hb : b = true) (h : T) : branch b T E := branch_intro (fun _ => h) (fun h0 => by rw [hb] at h0; cases h0)
theorem branch_f' {b : Bool} {T E : Prop} (hb : b = false) (h : E) : branch b T E := branch_intro (fun h0 => by rw [hb] at h0; cases h0) (fun _ => h)
theorem stm {K G : Prop} (k : K) (h : K → G := by first | exact branch_true | exact branch_false | exact ndD | exact brT | exact brF | exact brU | exact brV) : G := h k
theorem sto {K G : Prop} (k : K) (h : K → G := by first | exact branch_true | exact branch_false | exact brT | exact brF) : G := h k
theorem stk {K G : Prop} (k : K) (h : K → G := by first | exact branch_t' (by decide +kernel) | exact branch_f' (by decide +kernel)) : G := h k
theorem stb {K G : Prop} (k : K) (h : K → G := by first | exact branch_true | exact branch_false | exact branch_f' (bne_self_eq_false _) | exact branch_t' (beq_self_eq_true _) | exact branch_t' (decide_eq_true rfl)) : G := h k
theorem ndO {p K : Prop} (k : K) (h : p := by omega) : need p K := need_intro h k
end Go.E
namespace Go.E
def forget : List Bool → List AVal → List AVal
  | true :: m, v :: r => v :: forget m r
  | false :: m, _ :: r => .any :: forget m r
  | [], r => r
  | _ :: _, [] => []
theorem forget_len : ∀ (m : List Bool) (tm : List AVal), (forget m tm).length = tm.length
  | true :: m, v :: r => by simp [forget, forget_len m r]
  | false :: m, v :: r => by simp [forget, forget_len m r]
  | [], r => by simp [forget]
  | _ :: _, [] => by simp [forget]
theorem forget_get : ∀ (m : List Bool) (tm : List AVal) (i : Nat) (v : AVal), (forget m tm)[i]? = some v → v = .any ∨ tm[i]? = some v
  | true :: m, x :: r, i, v, h => by
    cases i with
    | zero => exact .inr h
    | succ i => exact forget_get m r i v h
  | false :: m, x :: r, i, v, h => by
    cases i with
    | zero => exact .inl (by simpa [forget] using h.symm)
    | succ i => exact forget_get m r i v h
  | [], r, i, v, h => .inr (by simpa [forget] using h)
  | _ :: _, [], i, v, h => by simp [forget] at h
theorem weak_forget (n0 : Nat) (m : List Bool) (tm : List AVal) (H : Heap) : WeakS n0 tm H (forget m tm) H := fun c0 c a _ hf hs he => by
  refine ⟨c, rfl, he, hf, ⟨by rw [forget_len]; exact hs.tm.1, fun i v u h1 h2 => ?_⟩, hs.heap, hs.defers⟩
  rcases forget_get m tm i v h1 with rfl | h
  · exact .any u
  · exact hs.tm.2 i v u h h2
theorem loop_inv {n0 : Nat} {body : AQ → List AVal → Heap → Prop} {Q : AQ} {tm : List AVal} {H : Heap} {σ : Type} (mask : List Bool) (st : σ → List AVal) (hp : σ → Heap) (ok : σ → Prop) (μ : σ → Nat) (s0 : σ)
    (h0 : ok s0) (e0 : forget mask tm = st s0) (eH : H = hp s0)
    (h : ∀ s, ok s → body (seqQ (fun _ tm' H' => ∃ s', ok s' ∧ μ s' < μ s ∧ forget mask tm' = st s' ∧ H' = hp s') Q) (st s) (hp s)) : loopN n0 body Q tm H := by
  unfold loopN
  refine ⟨σ, st, hp, ok, μ, _, ⟨s0, h0, ?_⟩, h, ?_⟩
  · rw [← e0, ← eH]
    exact weak_forget n0 mask tm H
  · rintro s tm' H' _ ⟨s', h1, h2, h3, h4⟩
    refine ⟨s', h1, h2, ?_⟩
    rw [← h3, ← h4]
    exact weak_forget n0 mask tm' H'
end Go.E
