/- Chapter 30: Play. -/
import Derived.Test.YthedobkhfdpdaaaC47
import Derived.Test.YthedobkhfdpdaaaC38
set_option linter.unusedVariables false
set_option linter.unusedSimpArgs false
namespace Go.Proofs
open Go.E
set_option maxRecDepth 8000
def Req.Ok (r : Req) : Prop := r.c.length ≤ 1000 ∧ ∀ x ∈ r.c, 0 ≤ x.1 ∧ 0 ≤ x.2 ∧ x.2 < 65536
abbrev reqsA (rs : List Req) : AVal := .ro 3 rs.length (fun i => (rs.getD i .z).L)
def put1 (l : List Int) (x : Int × Int) : List Int := if x.1 < l.length then l.set x.1.toNat x.2 else l
def putV (l : List Int) (c : List (Int × Int)) : List Int := c.foldl put1 l
structure PlS where
  p : Pan
  l : List Int
  rs : List Req
def stepV (s : PlS) (k : Int) : PlS :=
  let r := pressV s.p k
  if r.2.k = 0 then { s with p := r.1 } else ⟨if r.2.k = 1 then fillV r.1 s.l else r.1, putV s.l r.2.c, s.rs ++ [r.2]⟩
def playV (s : PlS) (ks : List Int) : PlS := ks.foldl stepV s
structure Good (p : Pan) : Prop where
  ok : p.Ok
  may : MayF p
structure PlS.Ok (s : PlS) : Prop where
  p : Good s.p
  l : Words s.l
theorem put_len (l : List Int) (x : Int × Int) : (put1 l x).length = l.length := by
  unfold put1
  split
  · exact List.length_set
  · rfl
theorem putV_len (c : List (Int × Int)) : ∀ l : List Int, (putV l c).length = l.length := by
  induction c with
  | nil => intro l; rfl
  | cons x c ih => intro l; rw [putV, List.foldl_cons]; exact (ih _).trans (put_len l x)
theorem put_words {l : List Int} {x : Int × Int} (hl : Words l) (hx : 0 ≤ x.2 ∧ x.2 < 65536) : Words (put1 l x) := by
  unfold put1
  split
  · intro y hy
    rcases List.mem_or_eq_of_mem_set hy with h | h
    · exact hl y h
    · subst h; exact hx
  · exact hl
theorem putV_words {c : List (Int × Int)} : ∀ {l : List Int}, Words l → (∀ x ∈ c, 0 ≤ x.2 ∧ x.2 < 65536) → Words (putV l c) := by
  induction c with
  | nil => intro l hl _; exact hl
  | cons x c ih =>
    intro l hl hc
    rw [putV, List.foldl_cons]
    exact ih (put_words hl (hc x List.mem_cons_self)) fun y hy => hc y (List.mem_cons_of_mem _ hy)
theorem putV_snoc (l : List Int) (c : List (Int × Int)) (j : Nat) (hj : j < c.length) : putV l (c.take (j + 1)) = put1 (putV l (c.take j)) (c.getD j (0, 0)) := by
  rw [putV, putV, List.take_add_one, List.getElem?_eq_getElem hj, List.foldl_append, List.getD_eq_getElem?_getD, List.getElem?_eq_getElem hj]
  rfl
theorem playV_snoc (s : PlS) (ks : List Int) (j : Nat) (hj : j < ks.length) : playV s (ks.take (j + 1)) = stepV (playV s (ks.take j)) (ks.getD j 0) := by
  rw [playV, playV, List.take_add_one, List.getElem?_eq_getElem hj, List.foldl_append, List.getD_eq_getElem?_getD, List.getElem?_eq_getElem hj]
  rfl
structure PlayI (p : Pan) (l ks : List Int) (s : Nat × PlS × (Nat → List AVal)) : Prop where
  c1 : s.1 ≤ ks.length
  c2 : s.2.1 = playV ⟨p, l, []⟩ (ks.take s.1)
  c3 : Good s.2.1.p
  c4 : Words s.2.1.l
  c5 : s.2.1.l.length = l.length
  c6 : s.2.1.rs.length ≤ s.1
  c7 : ∀ j, j < s.2.1.rs.length → s.2.2 j = (s.2.1.rs.getD j .z).L
theorem snoc_rows {rs : List Req} {r : Req} {f : Nat → List AVal} (hf : ∀ j, j < rs.length → f j = (rs.getD j .z).L) :
    ∀ j, j < (rs ++ [r]).length → catRows rs.length (fun j => f (0 + j)) (chunk 3 r.L) j = ((rs ++ [r]).getD j .z).L := by
  intro j hj
  rw [List.length_append, List.length_cons, List.length_nil] at hj
  unfold catRows
  by_cases h : j < rs.length
  · rw [if_pos h]
    show f (0 + j) = _
    rw [Nat.zero_add, hf j h, List.getD_eq_getElem?_getD, List.getD_eq_getElem?_getD, List.getElem?_append_left h]
  · obtain rfl : j = rs.length := by omega
    rw [if_neg h, Nat.sub_self, List.getD_eq_getElem?_getD, List.getElem?_append_right (Nat.le_refl _), Nat.sub_self]
    rfl
theorem rows_irow (kk : IntKind) (l : List Int) : rowsInts kk l.length (irow kk l) = l := by
  have hk : sameKind kk kk = true := sameKind_iff.2 rfl
  apply List.ext_getElem
  · simp [rowsInts]
  · intro i h1 h2
    simp [rowsInts, irow, rowInt, hk, h2]
set_option maxHeartbeats 8000000 in
theorem play_ok (PG : ∀ p k, Good p → isK k = true → Good (pressV p k).1 ∧ (pressV p k).2.Ok) (FG : ∀ p l, Good p → Words l → Good (fillV p l))
    (p : Pan) (hp : Good p) (ks l : List Int) (hk : ∀ k ∈ ks, isK k = true) (hks : ks.length ≤ 1000) (hl : Words l) (hll : l.length ≤ 100000) :
    callP Try.prog 10 [p.A, ints .u8 ks, ints .u16 l] (· = .tuple [(playV ⟨p, l, []⟩ ks).p.A, reqsA (playV ⟨p, l, []⟩ ks).rs, ints .u16 (playV ⟨p, l, []⟩ ks).l, .int .i64 0]) := by
  refine callE_def env (fn := Try.f10) rfl (by decide) rfl ?_
  repeat refine stp ?_
  refine callT_E (own_c p hp.ok.N) rfl ?_
  apply need_intro
  · show l.length * 2 ≤ 2 ^ 47
    omega
  apply need_intro
  · exact isRow_irow _ _ _
  apply choice_r
  refine loop_weak (fun s : Nat × PlS × (Nat → List AVal) => slots 77 [(3, .ptr ⟨0, 0, 0⟩), (6, .ptr ⟨1, 0, 0⟩), (10, .slice ⟨2, 0, 0⟩ l.length), (11, .slice ⟨3, 0, 0⟩ s.2.1.rs.length), (23, ints .u8 ks), (24, .int .i64 ks.length), (25, .int .i64 s.1)])
    (fun s => [.cells s.2.1.p.L, .cells zL, .ints .u16 s.2.1.l, .rows 3 s.2.1.rs.length s.2.2])
    (PlayI p l ks) (fun s => ks.length - s.1) (0, ⟨p, l, []⟩, fun _ => []) ⟨Nat.zero_le _, rfl, hp, hl, rfl, Nat.zero_le _, fun j hj => absurd hj (Nat.not_lt_zero j)⟩
    ((weak_nil 11 (.rows 3 0 fun _ => []) rfl rfl).trans (weak_keep (keep 77 [3, 6, 10, 11, 23, 24, 25]) [0, 1, 2, 3] rfl rfl (by rw [rows_irow]; rfl))) ?_
  rintro ⟨i, ⟨q, m, rs⟩, f⟩ ⟨hi, hs, hq, hm, hml, hrs, hf⟩
  dsimp only at hi hs hq hm hml hrs hf
  by_cases hin : i = ks.length
  · rw [hin, List.take_length] at hs
    rw [← hs]
    repeat refine stp ?_
    show Eqv (.tuple [_, .ro 3 rs.length _, .ro 1 l.length _, _]) _
    exact .tuple (.cons (.up (.refl _)) (.cons (.up (.ro hf)) (.cons (.up (eqv_ints hml.symm fun _ _ => rfl)) (.cons (.up (.refl _)) .nil))))
  have hlt : i < ks.length := by omega
  have hkk : isK (ks.getD i 0) = true := by
    rw [List.getD_eq_getElem?_getD, List.getElem?_eq_getElem hlt]
    exact hk _ (List.getElem_mem _)
  have hg := PG q (ks.getD i 0) hq hkk
  have hst := playV_snoc ⟨p, l, []⟩ ks i hlt
  rw [← hs] at hst
  have ep := press_ok q hq.ok hq.may _ hkk
  unfold stepV at hst
  dsimp only at hst
  generalize pressV q (ks.getD i 0) = R at hst hg ep
  obtain ⟨Q, r⟩ := R
  dsimp only at hst hg ep
  obtain ⟨hQ, hr⟩ := hg
  have e1 : IntKind.i64.wrap ((i : Int) + 1) = ((i + 1 : Nat) : Int) := by rw [wi (by omega) (by omega)]; rfl
  repeat refine stp ?_
  conv => whnf
  simp only [Int.toNat_natCast]
  refine callT_E ep rfl ?_
  by_cases h0 : r.k = 0
  · rw [if_pos h0] at hst
    repeat refine stp ?_
    refine ⟨(i + 1, ⟨Q, m, rs⟩, f), ⟨hlt, hst.symm, hQ, hm, hml, by show rs.length ≤ i + 1; omega, hf⟩, by show ks.length - (i + 1) < ks.length - i; omega, weak_keep (keep 77 [3, 6, 10, 11, 23, 24, 25]) [0, 1, 2, 3] rfl ?_ rfl⟩
    show [_, _, _, _, _, _, _, _, _, _, _, _, _, _, _, _, _, _, _, _, _, _, _, _, _, _, _, _, _, _, _, _, _, _, _, _, _, _, _, _, _, _, _, _, _, _, _, _, _, _, _, _, _, _, _, _, _, _, _, _, _, _, _, _, _, _, _, _, _, _, _, _, _, _, _, _, _] = _
    rw [e1]
    rfl
  rw [if_neg h0] at hst
  by_cases h1 : r.k = 1
  · rw [if_pos h1] at hst
    have ef := fill_c Q hQ.ok ((may_iff Q).2 hQ.may) m hm (by omega)
    have hF := FG Q m hQ hm
    rw [hml] at ef
    generalize fillV Q m = F at ef hF hst
    repeat refine stp ?_
    refine callT_part [2] rfl ef ?_
    rintro v H' ⟨rfl, rfl⟩ x G hx hG
    subst hx hG
    repeat refine stp ?_
    refine loop_weak (fun j : Nat => slots 77 [(3, .ptr ⟨0, 0, 0⟩), (6, .ptr ⟨1, 0, 0⟩), (10, .slice ⟨2, 0, 0⟩ l.length), (11, .slice ⟨3, 0, 0⟩ rs.length), (15, .ptr ⟨4, 0, 0⟩), (23, ints .u8 ks), (24, .int .i64 ks.length), (25, .int .i64 i), (51, .ro 2 r.c.length (Req.row r.c)), (52, .int .i64 r.c.length), (53, .int .i64 j)])
      (fun j => [.cells F.L, .cells zL, .ints .u16 (putV m (r.c.take j)), .rows 3 rs.length f, .cells r.L])
      (fun j => j ≤ r.c.length) (fun j => r.c.length - j) 0 (Nat.zero_le _) (weak_keep (keep 77 [3, 6, 10, 11, 15, 23, 24, 25, 51, 52, 53]) [0, 1, 2, 3, 5] rfl rfl rfl) ?_
    intro j hj
    have hr1 := hr.1
    have hpl := (putV_len (r.c.take j) m).trans hml
    by_cases hjn : j = r.c.length
    · rw [hjn, List.take_length]
      repeat refine stp ?_
      apply choice_l
      repeat refine stp ?_
      apply need_intro
      · show (rs.length + 1) * 40 ≤ 2 ^ 47
        omega
      repeat refine stp ?_
      refine ⟨(i + 1, ⟨F, putV m r.c, rs ++ [r]⟩, catRows rs.length (fun j => f (0 + j)) (chunk 3 r.L)), ⟨hlt, hst.symm, hF, putV_words hm (fun x hx => (hr.2 x hx).2), (putV_len _ _).trans hml, by show (rs ++ [r]).length ≤ i + 1; rw [List.length_append]; simp; omega, snoc_rows hf⟩, by show ks.length - (i + 1) < ks.length - i; omega, weak_keep (keep 77 [3, 6, 10, 11, 23, 24, 25]) [0, 1, 2, 3] rfl ?_ ?_⟩
      · show [_, _, _, _, _, _, _, _, _, _, _, _, _, _, _, _, _, _, _, _, _, _, _, _, _, _, _, _, _, _, _, _, _, _, _, _, _, _, _, _, _, _, _, _, _, _, _, _, _, _, _, _, _, _, _, _, _, _, _, _, _, _, _, _, _, _, _, _, _, _, _, _, _, _, _, _, _] = _
        rw [e1]
        simp only [List.length_append, List.length_cons, List.length_nil]
        rfl
      · show [Blk.cells _, Blk.cells _, Blk.ints _ _, Blk.rows _ _ _] = [Blk.cells _, Blk.cells _, Blk.ints _ _, Blk.rows _ _ _]
        simp only [List.length_append, List.length_cons, List.length_nil]
        rfl
    have hjl : j < r.c.length := by omega
    have hx := hr.2 (r.c.getD j (0, 0)) (by rw [List.getD_eq_getElem?_getD, List.getElem?_eq_getElem hjl]; exact List.getElem_mem _)
    have hps := putV_snoc m r.c j hjl
    have e2 : IntKind.i64.wrap ((j : Int) + 1) = ((j + 1 : Nat) : Int) := by rw [wi (by omega) (by omega)]; rfl
    unfold put1 at hps
    rw [hpl] at hps
    by_cases ha : (r.c.getD j (0, 0)).1 < l.length
    · rw [if_pos ha] at hps
      repeat refine stp ?_
      conv => whnf
      simp only [Int.toNat_natCast]
      repeat refine stp ?_
      conv => whnf
      refine ⟨j + 1, hjl, by show r.c.length - (j + 1) < r.c.length - j; omega, weak_keep (keep 77 [3, 6, 10, 11, 15, 23, 24, 25, 51, 52, 53]) [0, 1, 2, 3, 4] rfl ?_ ?_⟩
      · show [_, _, _, _, _, _, _, _, _, _, _, _, _, _, _, _, _, _, _, _, _, _, _, _, _, _, _, _, _, _, _, _, _, _, _, _, _, _, _, _, _, _, _, _, _, _, _, _, _, _, _, _, _, _, _, _, _, _, _, _, _, _, _, _, _, _, _, _, _, _, _, _, _, _, _, _, _] = _
        rw [e2]
        rfl
      · show [Blk.cells _, Blk.cells _, Blk.ints _ _, Blk.rows _ _ _, Blk.cells _] = [Blk.cells _, Blk.cells _, Blk.ints _ (putV m (r.c.take (j + 1))), Blk.rows _ _ _, Blk.cells _]
        rw [hps]
        try rw [Nat.zero_add]
        rfl
    · rw [if_neg ha] at hps
      repeat refine stp ?_
      conv => whnf
      simp only [Int.toNat_natCast]
      repeat refine stp ?_
      conv => whnf
      refine ⟨j + 1, hjl, by show r.c.length - (j + 1) < r.c.length - j; omega, weak_keep (keep 77 [3, 6, 10, 11, 15, 23, 24, 25, 51, 52, 53]) [0, 1, 2, 3, 4] rfl ?_ ?_⟩
      · show [_, _, _, _, _, _, _, _, _, _, _, _, _, _, _, _, _, _, _, _, _, _, _, _, _, _, _, _, _, _, _, _, _, _, _, _, _, _, _, _, _, _, _, _, _, _, _, _, _, _, _, _, _, _, _, _, _, _, _, _, _, _, _, _, _, _, _, _, _, _, _, _, _, _, _, _, _] = _
        rw [e2]
        rfl
      · show [Blk.cells _, Blk.cells _, Blk.ints _ _, Blk.rows _ _ _, Blk.cells _] = [Blk.cells _, Blk.cells _, Blk.ints _ (putV m (r.c.take (j + 1))), Blk.rows _ _ _, Blk.cells _]
        rw [hps]
        try rw [Nat.zero_add]
        rfl
  · rw [if_neg h1] at hst
    repeat refine stp ?_
    refine loop_weak (fun j : Nat => slots 77 [(3, .ptr ⟨0, 0, 0⟩), (6, .ptr ⟨1, 0, 0⟩), (10, .slice ⟨2, 0, 0⟩ l.length), (11, .slice ⟨3, 0, 0⟩ rs.length), (15, .ptr ⟨4, 0, 0⟩), (23, ints .u8 ks), (24, .int .i64 ks.length), (25, .int .i64 i), (51, .ro 2 r.c.length (Req.row r.c)), (52, .int .i64 r.c.length), (53, .int .i64 j)])
      (fun j => [.cells Q.L, .cells zL, .ints .u16 (putV m (r.c.take j)), .rows 3 rs.length f, .cells r.L])
      (fun j => j ≤ r.c.length) (fun j => r.c.length - j) 0 (Nat.zero_le _) (weak_keep (keep 77 [3, 6, 10, 11, 15, 23, 24, 25, 51, 52, 53]) [0, 1, 2, 3, 5] rfl rfl rfl) ?_
    intro j hj
    have hr1 := hr.1
    have hpl := (putV_len (r.c.take j) m).trans hml
    by_cases hjn : j = r.c.length
    · rw [hjn, List.take_length]
      repeat refine stp ?_
      apply choice_l
      repeat refine stp ?_
      apply need_intro
      · show (rs.length + 1) * 40 ≤ 2 ^ 47
        omega
      repeat refine stp ?_
      refine ⟨(i + 1, ⟨Q, putV m r.c, rs ++ [r]⟩, catRows rs.length (fun j => f (0 + j)) (chunk 3 r.L)), ⟨hlt, hst.symm, hQ, putV_words hm (fun x hx => (hr.2 x hx).2), (putV_len _ _).trans hml, by show (rs ++ [r]).length ≤ i + 1; rw [List.length_append]; simp; omega, snoc_rows hf⟩, by show ks.length - (i + 1) < ks.length - i; omega, weak_keep (keep 77 [3, 6, 10, 11, 23, 24, 25]) [0, 1, 2, 3] rfl ?_ ?_⟩
      · show [_, _, _, _, _, _, _, _, _, _, _, _, _, _, _, _, _, _, _, _, _, _, _, _, _, _, _, _, _, _, _, _, _, _, _, _, _, _, _, _, _, _, _, _, _, _, _, _, _, _, _, _, _, _, _, _, _, _, _, _, _, _, _, _, _, _, _, _, _, _, _, _, _, _, _, _, _] = _
        rw [e1]
        simp only [List.length_append, List.length_cons, List.length_nil]
        rfl
      · show [Blk.cells _, Blk.cells _, Blk.ints _ _, Blk.rows _ _ _] = [Blk.cells _, Blk.cells _, Blk.ints _ _, Blk.rows _ _ _]
        simp only [List.length_append, List.length_cons, List.length_nil]
        rfl
    have hjl : j < r.c.length := by omega
    have hx := hr.2 (r.c.getD j (0, 0)) (by rw [List.getD_eq_getElem?_getD, List.getElem?_eq_getElem hjl]; exact List.getElem_mem _)
    have hps := putV_snoc m r.c j hjl
    have e2 : IntKind.i64.wrap ((j : Int) + 1) = ((j + 1 : Nat) : Int) := by rw [wi (by omega) (by omega)]; rfl
    unfold put1 at hps
    rw [hpl] at hps
    by_cases ha : (r.c.getD j (0, 0)).1 < l.length
    · rw [if_pos ha] at hps
      repeat refine stp ?_
      conv => whnf
      simp only [Int.toNat_natCast]
      repeat refine stp ?_
      conv => whnf
      refine ⟨j + 1, hjl, by show r.c.length - (j + 1) < r.c.length - j; omega, weak_keep (keep 77 [3, 6, 10, 11, 15, 23, 24, 25, 51, 52, 53]) [0, 1, 2, 3, 4] rfl ?_ ?_⟩
      · show [_, _, _, _, _, _, _, _, _, _, _, _, _, _, _, _, _, _, _, _, _, _, _, _, _, _, _, _, _, _, _, _, _, _, _, _, _, _, _, _, _, _, _, _, _, _, _, _, _, _, _, _, _, _, _, _, _, _, _, _, _, _, _, _, _, _, _, _, _, _, _, _, _, _, _, _, _] = _
        rw [e2]
        rfl
      · show [Blk.cells _, Blk.cells _, Blk.ints _ _, Blk.rows _ _ _, Blk.cells _] = [Blk.cells _, Blk.cells _, Blk.ints _ (putV m (r.c.take (j + 1))), Blk.rows _ _ _, Blk.cells _]
        rw [hps]
        try rw [Nat.zero_add]
        rfl
    · rw [if_neg ha] at hps
      repeat refine stp ?_
      conv => whnf
      simp only [Int.toNat_natCast]
      repeat refine stp ?_
      conv => whnf
      refine ⟨j + 1, hjl, by show r.c.length - (j + 1) < r.c.length - j; omega, weak_keep (keep 77 [3, 6, 10, 11, 15, 23, 24, 25, 51, 52, 53]) [0, 1, 2, 3, 4] rfl ?_ ?_⟩
      · show [_, _, _, _, _, _, _, _, _, _, _, _, _, _, _, _, _, _, _, _, _, _, _, _, _, _, _, _, _, _, _, _, _, _, _, _, _, _, _, _, _, _, _, _, _, _, _, _, _, _, _, _, _, _, _, _, _, _, _, _, _, _, _, _, _, _, _, _, _, _, _, _, _, _, _, _, _] = _
        rw [e2]
        rfl
      · show [Blk.cells _, Blk.cells _, Blk.ints _ _, Blk.rows _ _ _, Blk.cells _] = [Blk.cells _, Blk.cells _, Blk.ints _ (putV m (r.c.take (j + 1))), Blk.rows _ _ _, Blk.cells _]
        rw [hps]
        try rw [Nat.zero_add]
        rfl
end Go.Proofs
