/- GroundKeys: the law walked. -/
import Derived.Test.YthedobkhfdpdaaaC48
set_option linter.unusedVariables false
set_option linter.unusedSimpArgs false
namespace Go.Proofs
open Go.E
set_option maxRecDepth 20000
def capM (c n : Nat) : Nat := Int.toNat (if (c : Int) < (n : Int) then (c : Int) else (n : Int)) - 0
theorem capM_le (c n : Nat) : capM c n ≤ n ∧ capM c n ≤ c := by
  unfold capM
  split <;> omega
theorem capM_i (c n : Nat) : 0 ≤ (if (c : Int) < (n : Int) then (c : Int) else (n : Int)) ∧ (if (c : Int) < (n : Int) then (c : Int) else (n : Int)) ≤ n := by
  split <;> omega
abbrev sentA (n : Nat) (S : Nat → Nat → Int) : AVal := .ro 4 n (fun i => aggL (S i) [.u8, .u8, .u8, .u16] 0)
def Nns.cut (N : Nns) (c : Nat) : Nns := ⟨capM c N.n, fun i => N.num (0 + i), fun i => N.m (0 + i), fun i j => N.cm (0 + i) j⟩
theorem takeM {kk : IntKind} {l : List Int} {m : Nat} (h : m ≤ l.length) : Eqv (.ro 1 m (fun i => irow kk l (0 + i))) (ints kk (l.take m)) := by
  refine .up (.up (eqv_ints ?_ fun i hi => ?_))
  · rw [List.length_take]; omega
  · unfold irow
    rw [Nat.zero_add, List.getD_eq_getElem?_getD, List.getD_eq_getElem?_getD, List.getElem?_take_of_lt hi]
def CallsP (p q : Pan) (rs : List Req) (m l ks : List Int) : Prop :=
  callP Try.prog 10 [p.A, ints .u8 ks, ints .u16 l] (· = .tuple [q.A, .ro 3 rs.length (fun i => (rs.getD i .z).L), ints .u16 m, .int .i64 0])
def CallsW (q : Pan) (ws : List Int) : Prop := callP Try.prog 12 [q.D.A] (· = ints .u16 ws) ∧ callP Try.prog 11 [ints .u16 ws] (· = .tuple [q.D.A, .int .i64 0, .int .i64 0])
set_option maxHeartbeats 16000000 in
theorem ground_ok (N : Nns) (p : Pan) {n : Nat} {S : Nat → Nat → Int} (hS : ∀ i, i < n → HasL [.u8, .u8, .u8, .u16] (S i)) (l : List Int)
    (kc : ∀ k : Int, 1 ≤ k ∧ k ≤ 19 → callP Try.prog 6 [.int .u8 k] (· = .tuple [.int .i64 (codeM k), .int .i64 0]))
    (hnew : callP Try.prog 4 [(N.cut 20).A] (· = .tuple [p.A, .int .i64 0]))
    (hplay : ∀ ks : List Int, (∀ k ∈ ks, 1 ≤ k ∧ k ≤ 19) → ks.length ≤ 60 → ∃ q rs m ws, CallsP p q rs m (l.take (capM 2048 l.length)) ks ∧ CallsW q ws ∧ rs.length ≤ 1000 ∧ m.length ≤ 2048) :
    callP Try.prog 3 [N.A, sentA n S, ints .u16 l] (· = .bool true) := by
  have hn := capM_le 60 n
  have hl := capM_le 2048 l.length
  refine callE_def env (fn := Try.f3) rfl (by decide) rfl ?_
  repeat refine stp ?_
  refine draw_tree (picks (List.range 18) .done) (by decide +kernel) ?_
  apply need_intro
  · exact capM_i 20 N.n
  apply need_intro
  · exact capM_i 60 n
  apply need_intro
  · exact capM_i 2048 l.length
  repeat refine stp ?_
  refine callT_E hnew rfl ?_
  repeat refine stp ?_
  refine loop_weak (fun s : Nat × (Nat → List AVal) × List Int × Bool => slots 346 [(1, sentA (capM 60 n) fun i => S (0 + i)), (2, ints .u16 (l.take (capM 2048 l.length))), (7, .ptr ⟨0, 0, 0⟩), (9, .slice ⟨1, 0, 0⟩ s.1), (10, .slice ⟨2, 0, 0⟩ s.2.2.1.length), (11, .bool s.2.2.2), (12, .int .i64 s.1)])
    (fun s => [.cells p.L, .rows 16 s.1 s.2.1, .ints .u8 s.2.2.1])
    (fun s => s.1 ≤ capM 60 n ∧ SentI s.1 s.2.1 s.2.2.1 s.2.2.2) (fun s => capM 60 n - s.1) (0, fun _ => [], [], false)
    ⟨Nat.zero_le _, ⟨fun k hk => (by cases hk), Nat.le_refl _, fun _ _ => 0, fun _ => none, fun j hj => absurd hj (Nat.not_lt_zero j), fun j hj => absurd hj (Nat.not_lt_zero j), rfl, rfl⟩⟩
    (((weak_nil 9 (.rows 16 0 fun _ => []) rfl rfl).trans (weak_nil 10 (.ints .u8 []) rfl rfl)).trans ((weak_keep (tm' := slots 346 [(1, sentA (capM 60 n) fun i => S (0 + i)), (2, .ro 1 (capM 2048 l.length) (fun i => irow .u16 l (0 + i))), (7, .ptr ⟨0, 0, 0⟩), (9, .slice ⟨1, 0, 0⟩ 0), (10, .slice ⟨2, 0, 0⟩ 0), (11, .bool false), (12, .int .i64 0)]) (keep 346 [1, 2, 7, 9, 10, 11, 12]) [0, 1, 2] rfl rfl rfl).trans (weak_slot 2 (takeM hl.1) rfl))) ?_
  rintro ⟨i, f, ks, L⟩ ⟨hi, hs⟩
  dsimp only at hi hs
  generalize hln : l.take (capM 2048 l.length) = ls at hplay
  have hlen := hs.len
  by_cases hin : i = capM 60 n
  · subst hin
    have hW := hs.wrd
    obtain ⟨W, r, hf, hk, hL, hout⟩ := hW
    have eall := all_any (f := f) hf hk (by omega)
    rw [hL, hout] at eall
    obtain ⟨q, rs, m, ws, hp, ⟨hw1, hw2⟩, hb1, hb2⟩ := hplay ks hs.keys (by omega)
    unfold CallsP at hp
    have hmap : (ks.map fun k => (codeM k : Int)).length = ks.length := List.length_map _
    repeat refine stp ?_
    refine callT_freeze 1 (keep 346 [2, 7, 10, 11]) rfl rfl (by decide) ⟨by show 0 + capM 60 n ≤ capM 60 n; omega, trivial⟩ ?_
    refine callT_E eall rfl ?_
    clear eall hk hf hplay hS kc hnew hi hL hout
    generalize hcs : ks.map (fun k => (codeM k : Int)) = cs at hmap
    repeat refine stp ?_
    refine loop_weak (fun j : Nat => slots 346 [(2, ints .u16 ls), (7, .ptr ⟨0, 0, 0⟩), (10, .slice ⟨2, 0, 0⟩ ks.length), (11, .bool L), (20, ints .i64 cs), (21, .ptr ⟨1, 0, 0⟩), (22, .slice ⟨3, 0, 0⟩ j), (23, .int .i64 j)])
      (fun j => [.cells p.L, .cells [.bool L, .int .i64 (rcv r (capM 60 n)).bad], .ints .u8 ks, .ints .u8 (ks.take j)])
      (fun j => j ≤ ks.length) (fun j => ks.length - j) 0 (Nat.zero_le _) ((weak_nil 22 (.ints .u8 []) rfl rfl).trans (weak_keep (keep 346 [2, 7, 10, 11, 20, 21, 22, 23]) [0, 3, 2, 4] rfl rfl rfl)) ?_
    intro j hj
    have e2 : IntKind.i64.wrap ((j : Int) + 1) = ((j + 1 : Nat) : Int) := by rw [wi (by omega) (by omega)]; rfl
    by_cases hjn : j = ks.length
    · subst hjn
      repeat refine stp ?_
      rw [List.take_length]
      refine callT_freeze 3 (keep 346 [2, 7, 10, 11, 20, 21]) rfl rfl (by decide) ⟨by show 0 + ks.length ≤ ks.length; omega, trivial⟩ ?_
      refine callT_E hp rfl ?_
      repeat refine stp ?_
      refine callT_freeze 2 (keep 346 [10, 11, 20, 21, 26, 27, 28, 29]) rfl rfl (by decide) ⟨by show 0 + ks.length ≤ ks.length; omega, by show 0 + ks.length ≤ ks.length; omega, trivial⟩ ?_
      refine callT_E hp rfl ?_
      clear hp e2 hj hn hl hlen hcs hln
      repeat refine stp ?_
      refine loop_weak (fun j : Nat => slots 346 [(26, .ptr ⟨0, 0, 0⟩), (27, .ro 3 rs.length fun i => (rs.getD i .z).L), (28, ints .u16 m), (30, .ptr ⟨1, 0, 0⟩), (31, .ro 3 rs.length fun i => (rs.getD i .z).L), (32, ints .u16 m), (34, .int .i64 j)])
        (fun j => [.cells q.L, .cells q.L]) (fun j => j ≤ rs.length) (fun j => rs.length - j) 0 (Nat.zero_le _) (weak_keep (keep 346 [26, 27, 28, 30, 31, 32, 34]) [4, 5] rfl rfl rfl) ?_
      intro j hj
      by_cases hjn : j = rs.length
      · subst hjn
        repeat refine stp ?_
        refine loop_weak (fun j : Nat => slots 346 [(26, .ptr ⟨0, 0, 0⟩), (28, ints .u16 m), (30, .ptr ⟨1, 0, 0⟩), (32, ints .u16 m), (35, .int .i64 j)])
          (fun j => [.cells q.L, .cells q.L]) (fun j => j ≤ m.length) (fun j => m.length - j) 0 (Nat.zero_le _) (weak_keep (keep 346 [26, 28, 30, 32, 35]) [0, 1] rfl rfl rfl) ?_
        intro j hj
        by_cases hjn : j = m.length
        · subst hjn
          repeat refine stp ?_
          refine callT_E hw1 rfl ?_
          repeat refine stp ?_
          refine callT_E hw2 rfl ?_
          repeat (first | refine stp ?_ | refine callT_E live_c rfl ?_)
          show Eqv _ _
          exact .up (.up (.refl _))
        have hjl : j < m.length := by omega
        have e2 : IntKind.i64.wrap ((j : Int) + 1) = ((j + 1 : Nat) : Int) := by rw [wi (by omega) (by omega)]; rfl
        repeat refine stp ?_
        refine draw_tree (picks (List.range 9) .done) (by decide +kernel) ?_
        repeat refine stp ?_
        refine ⟨j + 1, hjl, by show m.length - (j + 1) < m.length - j; omega, weak_keep (keep 346 [26, 28, 30, 32, 35]) [0, 1] rfl ?_ rfl⟩
        show [_, _, _, _, _, _, _, _, _, _, _, _, _, _, _, _, _, _, _, _, _, _, _, _, _, _, _, _, _, _, _, _, _, _, _, _, _, _, _, _, _, _, _, _, _, _, _, _, _, _, _, _, _, _, _, _, _, _, _, _, _, _, _, _, _, _, _, _, _, _, _, _, _, _, _, _, _, _, _, _, _, _, _, _, _, _, _, _, _, _, _, _, _, _, _, _, _, _, _, _, _, _, _, _, _, _, _, _, _, _, _, _, _, _, _, _, _, _, _, _, _, _, _, _, _, _, _, _, _, _, _, _, _, _, _, _, _, _, _, _, _, _, _, _, _, _, _, _, _, _, _, _, _, _, _, _, _, _, _, _, _, _, _, _, _, _, _, _, _, _, _, _, _, _, _, _, _, _, _, _, _, _, _, _, _, _, _, _, _, _, _, _, _, _, _, _, _, _, _, _, _, _, _, _, _, _, _, _, _, _, _, _, _, _, _, _, _, _, _, _, _, _, _, _, _, _, _, _, _, _, _, _, _, _, _, _, _, _, _, _, _, _, _, _, _, _, _, _, _, _, _, _, _, _, _, _, _, _, _, _, _, _, _, _, _, _, _, _, _, _, _, _, _, _, _, _, _, _, _, _, _, _, _, _, _, _, _, _, _, _, _, _, _, _, _, _, _, _, _, _, _, _, _, _, _, _, _, _, _, _, _, _, _, _, _, _, _, _, _, _, _, _, _, _, _, _, _, _, _, _, _, _, _, _, _, _, _, _, _, _, _, _, _, _, _, _] = _
        rw [e2]
        rfl
      have hjl : j < rs.length := by omega
      have e2 : IntKind.i64.wrap ((j : Int) + 1) = ((j + 1 : Nat) : Int) := by rw [wi (by omega) (by omega)]; rfl
      repeat refine stp ?_
      refine draw_tree (picks (List.range 39) .done) (by decide +kernel) ?_
      repeat refine stp ?_
      refine ⟨j + 1, hjl, by show rs.length - (j + 1) < rs.length - j; omega, weak_keep (keep 346 [26, 27, 28, 30, 31, 32, 34]) [0, 1] rfl ?_ rfl⟩
      show [_, _, _, _, _, _, _, _, _, _, _, _, _, _, _, _, _, _, _, _, _, _, _, _, _, _, _, _, _, _, _, _, _, _, _, _, _, _, _, _, _, _, _, _, _, _, _, _, _, _, _, _, _, _, _, _, _, _, _, _, _, _, _, _, _, _, _, _, _, _, _, _, _, _, _, _, _, _, _, _, _, _, _, _, _, _, _, _, _, _, _, _, _, _, _, _, _, _, _, _, _, _, _, _, _, _, _, _, _, _, _, _, _, _, _, _, _, _, _, _, _, _, _, _, _, _, _, _, _, _, _, _, _, _, _, _, _, _, _, _, _, _, _, _, _, _, _, _, _, _, _, _, _, _, _, _, _, _, _, _, _, _, _, _, _, _, _, _, _, _, _, _, _, _, _, _, _, _, _, _, _, _, _, _, _, _, _, _, _, _, _, _, _, _, _, _, _, _, _, _, _, _, _, _, _, _, _, _, _, _, _, _, _, _, _, _, _, _, _, _, _, _, _, _, _, _, _, _, _, _, _, _, _, _, _, _, _, _, _, _, _, _, _, _, _, _, _, _, _, _, _, _, _, _, _, _, _, _, _, _, _, _, _, _, _, _, _, _, _, _, _, _, _, _, _, _, _, _, _, _, _, _, _, _, _, _, _, _, _, _, _, _, _, _, _, _, _, _, _, _, _, _, _, _, _, _, _, _, _, _, _, _, _, _, _, _, _, _, _, _, _, _, _, _, _, _, _, _, _, _, _, _, _, _, _, _, _, _, _, _, _, _, _, _, _, _] = _
      rw [e2]
      rfl
    have hjl : j < ks.length := by omega
    have hkj : 1 ≤ ks.getD j 0 ∧ ks.getD j 0 ≤ 19 := hs.keys _ (by rw [List.getD_eq_getElem?_getD, List.getElem?_eq_getElem hjl]; exact List.getElem_mem _)
    have ek := key_of hkj
    have hcj : cs.getD j 0 = (codeM (ks.getD j 0) : Int) := by
      rw [← hcs, List.getD_eq_getElem?_getD, List.getD_eq_getElem?_getD, List.getElem?_map, List.getElem?_eq_getElem hjl]
      rfl
    rw [← hcj] at ek
    repeat refine stp ?_
    conv => whnf
    simp only [Int.toNat_natCast]
    refine callT_E ek rfl ?_
    repeat refine stp ?_
    apply choice_l
    repeat refine stp ?_
    apply need_intro
    · show (j + 1) * 1 ≤ 2 ^ 47
      omega
    apply need_intro
    · exact ⟨by show 0 + j = (ks.take j).length; rw [List.length_take]; omega, isRow_irow _ _ _⟩
    repeat refine stp ?_
    refine ⟨j + 1, hjl, by show ks.length - (j + 1) < ks.length - j; omega, weak_keep (keep 346 [2, 7, 10, 11, 20, 21, 22, 23]) [0, 1, 2, 3] rfl ?_ ?_⟩
    · show [_, _, _, _, _, _, _, _, _, _, _, _, _, _, _, _, _, _, _, _, _, _, _, _, _, _, _, _, _, _, _, _, _, _, _, _, _, _, _, _, _, _, _, _, _, _, _, _, _, _, _, _, _, _, _, _, _, _, _, _, _, _, _, _, _, _, _, _, _, _, _, _, _, _, _, _, _, _, _, _, _, _, _, _, _, _, _, _, _, _, _, _, _, _, _, _, _, _, _, _, _, _, _, _, _, _, _, _, _, _, _, _, _, _, _, _, _, _, _, _, _, _, _, _, _, _, _, _, _, _, _, _, _, _, _, _, _, _, _, _, _, _, _, _, _, _, _, _, _, _, _, _, _, _, _, _, _, _, _, _, _, _, _, _, _, _, _, _, _, _, _, _, _, _, _, _, _, _, _, _, _, _, _, _, _, _, _, _, _, _, _, _, _, _, _, _, _, _, _, _, _, _, _, _, _, _, _, _, _, _, _, _, _, _, _, _, _, _, _, _, _, _, _, _, _, _, _, _, _, _, _, _, _, _, _, _, _, _, _, _, _, _, _, _, _, _, _, _, _, _, _, _, _, _, _, _, _, _, _, _, _, _, _, _, _, _, _, _, _, _, _, _, _, _, _, _, _, _, _, _, _, _, _, _, _, _, _, _, _, _, _, _, _, _, _, _, _, _, _, _, _, _, _, _, _, _, _, _, _, _, _, _, _, _, _, _, _, _, _, _, _, _, _, _, _, _, _, _, _, _, _, _, _, _, _, _, _, _, _, _, _, _, _, _, _, _] = _
      rw [e2]
      rfl
    · show [Blk.cells _, Blk.cells _, Blk.ints _ _, Blk.ints _ _] = [Blk.cells _, Blk.cells _, Blk.ints _ _, Blk.ints _ (ks.take (j + 1))]
      rw [snoc_row, List.take_add_one, List.getElem?_eq_getElem hjl, List.getD_eq_getElem?_getD, List.getElem?_eq_getElem hjl]
      rfl
  have hlt : i < capM 60 n := by omega
  have e1 : IntKind.i64.wrap ((i : Int) + 1) = ((i + 1 : Nat) : Int) := by rw [wi (by omega) (by omega)]; rfl
  have hSi : HasL [.u8, .u8, .u8, .u16] (S (0 + i)) := hS (0 + i) (by omega)
  have s0 := has_u8 (hSi 0 (by decide))
  have s1 := has_u8 (hSi 1 (by decide))
  have s2 := has_u8 (hSi 2 (by decide))
  have hK := sent_19 s0.1
  have ekc := kc _ hK
  have ew := uword_c (code_lt hK)
  repeat refine stp ?_
  refine callT_E ekc rfl ?_
  repeat refine stp ?_
  refine callT_E ew rfl ?_
  repeat refine stp ?_
  have hm := code_lt hK
  generalize hmm : codeM (sentK (S (0 + i) 0)) = m at ew hm
  apply share2 (C := fun (y : Nat → Int) b q => loopN 0 b q (slots 346 [(1, sentA (capM 60 n) fun i => S (0 + i)), (2, ints .u16 ls), (7, .ptr ⟨0, 0, 0⟩), (9, .slice ⟨1, 0, 0⟩ i), (10, .slice ⟨2, 0, 0⟩ ks.length), (11, .bool L), (12, .int .i64 i), (13, .int .u8 (sentK (S (0 + i) 0))), (16, .ptr ⟨3, 0, 0⟩), (18, .ptr ⟨4, 0, 0⟩), (19, .int .i64 0)]) [.cells p.L, .rows 16 i f, .ints .u8 ks, .cells (w16 (uwordV m)), .cells (w16 y)]) (ok := Hit m)
  · intro K
    apply branch_intro <;> intro h1
    · have h1' : S (0 + i) 1 < 16 := of_decide_eq_true h1
      repeat refine stp ?_
      refine draw_tree (picks (List.range 15) .done) (by decide +kernel) ?_
      repeat refine stp ?_
      refine need_intro (show 0 ≤ S (0 + i) 1 ∧ S (0 + i) 1 < ((16 : Nat) : Int) from ⟨s1.1, h1'⟩) ?_
      refine getL16 (x := uwordV m) (i := (S (0 + i) 1).toNat) ?ea1 ?la1 ?_
      case ea1 =>
        show 0 + (0 + Int.toNat (S (0 + i) 1) * 1) = _
        omega
      case la1 => omega
      refine need_intro (show 0 ≤ S (0 + i) 1 ∧ S (0 + i) 1 < ((16 : Nat) : Int) from ⟨s1.1, h1'⟩) ?_
      refine splice16 (x := uwordV m) (i := (S (0 + i) 1).toNat) ?eb1 ?lb1 ?_
      case eb1 =>
        show 0 + (0 + Int.toNat (S (0 + i) 1) * 1) = _
        omega
      case lb1 => omega
      repeat refine stp ?_
      refine draw_tree (picks (List.range 19) .done) (by decide +kernel) ?_
      repeat refine stp ?_
      apply branch_intro <;> intro h2
      · have h2' : S (0 + i) 2 < 16 := of_decide_eq_true h2
        repeat refine stp ?_
        apply branch_intro <;> intro h3
        · repeat refine stp ?_
          refine draw_tree (picks (List.range 15) .done) (by decide +kernel) ?_
          repeat refine stp ?_
          refine need_intro (show 0 ≤ S (0 + i) 2 ∧ S (0 + i) 2 < ((16 : Nat) : Int) from ⟨s2.1, h2'⟩) ?_
          refine getL16 (x := upd (uwordV m) (S (0 + i) 1).toNat (IntKind.u8.wrap (1 - uwordV m (S (0 + i) 1).toNat))) (i := (S (0 + i) 2).toNat) ?ea2 ?la2 ?_
          case ea2 =>
            show 0 + (0 + Int.toNat (S (0 + i) 2) * 1) = _
            omega
          case la2 => omega
          refine need_intro (show 0 ≤ S (0 + i) 2 ∧ S (0 + i) 2 < ((16 : Nat) : Int) from ⟨s2.1, h2'⟩) ?_
          refine splice16 (x := upd (uwordV m) (S (0 + i) 1).toNat (IntKind.u8.wrap (1 - uwordV m (S (0 + i) 1).toNat))) (i := (S (0 + i) 2).toNat) ?eb2 ?lb2 ?_
          case eb2 =>
            show 0 + (0 + Int.toNat (S (0 + i) 2) * 1) = _
            omega
          case lb2 => omega
          repeat refine stp ?_
          refine loopN_weak ?_ (K (upd (upd (uwordV m) (S (0 + i) 1).toNat (IntKind.u8.wrap (1 - uwordV m (S (0 + i) 1).toNat))) (S (0 + i) 2).toNat (IntKind.u8.wrap (1 - (upd (uwordV m) (S (0 + i) 1).toNat (IntKind.u8.wrap (1 - uwordV m (S (0 + i) 1).toNat))) (S (0 + i) 2).toNat))) (hit2 m _ _ _ _))
          exact weak_keep (keep 346 [1, 2, 7, 9, 10, 11, 12, 13, 16, 18, 19]) [0, 1, 2, 3, 4] rfl rfl rfl
        · repeat refine stp ?_
          refine loopN_weak ?_ (K (upd (uwordV m) (S (0 + i) 1).toNat (IntKind.u8.wrap (1 - uwordV m (S (0 + i) 1).toNat))) (hit1 m _ _))
          exact weak_keep (keep 346 [1, 2, 7, 9, 10, 11, 12, 13, 16, 18, 19]) [0, 1, 2, 3, 4] rfl rfl rfl
      · repeat refine stp ?_
        refine loopN_weak ?_ (K (upd (uwordV m) (S (0 + i) 1).toNat (IntKind.u8.wrap (1 - uwordV m (S (0 + i) 1).toNat))) (hit1 m _ _))
        exact weak_keep (keep 346 [1, 2, 7, 9, 10, 11, 12, 13, 16, 18, 19]) [0, 1, 2, 3, 4] rfl rfl rfl
    · repeat refine stp ?_
      refine draw_tree (picks (List.range 19) .done) (by decide +kernel) ?_
      repeat refine stp ?_
      apply branch_intro <;> intro h2
      · have h2' : S (0 + i) 2 < 16 := of_decide_eq_true h2
        repeat refine stp ?_
        apply branch_intro <;> intro h3
        · repeat refine stp ?_
          refine draw_tree (picks (List.range 15) .done) (by decide +kernel) ?_
          repeat refine stp ?_
          refine need_intro (show 0 ≤ S (0 + i) 2 ∧ S (0 + i) 2 < ((16 : Nat) : Int) from ⟨s2.1, h2'⟩) ?_
          refine getL16 (x := uwordV m) (i := (S (0 + i) 2).toNat) ?ea3 ?la3 ?_
          case ea3 =>
            show 0 + (0 + Int.toNat (S (0 + i) 2) * 1) = _
            omega
          case la3 => omega
          refine need_intro (show 0 ≤ S (0 + i) 2 ∧ S (0 + i) 2 < ((16 : Nat) : Int) from ⟨s2.1, h2'⟩) ?_
          refine splice16 (x := uwordV m) (i := (S (0 + i) 2).toNat) ?eb3 ?lb3 ?_
          case eb3 =>
            show 0 + (0 + Int.toNat (S (0 + i) 2) * 1) = _
            omega
          case lb3 => omega
          repeat refine stp ?_
          refine loopN_weak ?_ (K (upd (uwordV m) (S (0 + i) 2).toNat (IntKind.u8.wrap (1 - uwordV m (S (0 + i) 2).toNat))) (hit1 m _ _))
          exact weak_keep (keep 346 [1, 2, 7, 9, 10, 11, 12, 13, 16, 18, 19]) [0, 1, 2, 3, 4] rfl rfl rfl
        · repeat refine stp ?_
          refine loopN_weak ?_ (K (uwordV m) (hit0 m))
          exact weak_keep (keep 346 [1, 2, 7, 9, 10, 11, 12, 13, 16, 18, 19]) [0, 1, 2, 3, 4] rfl rfl rfl
      · repeat refine stp ?_
        refine loopN_weak ?_ (K (uwordV m) (hit0 m))
        exact weak_keep (keep 346 [1, 2, 7, 9, 10, 11, 12, 13, 16, 18, 19]) [0, 1, 2, 3, 4] rfl rfl rfl
  · intro y hy
    generalize hkk : sentK (S (0 + i) 0) = k at *
    refine loop_weak (fun s : Nat × (Nat → Int) => slots 346 [(1, sentA (capM 60 n) fun i => S (0 + i)), (2, ints .u16 ls), (7, .ptr ⟨0, 0, 0⟩), (9, .slice ⟨1, 0, 0⟩ i), (10, .slice ⟨2, 0, 0⟩ ks.length), (11, .bool L), (12, .int .i64 i), (13, .int .u8 k), (16, .ptr ⟨3, 0, 0⟩), (18, .ptr ⟨4, 0, 0⟩), (19, .int .i64 s.1)])
      (fun s => [.cells p.L, .rows 16 i f, .ints .u8 ks, .cells (w16 (uwordV m)), .cells (w16 s.2)])
      (fun s => s.1 ≤ 16 ∧ HitL m s.2) (fun s => 16 - s.1) (0, y) ⟨Nat.zero_le _, hy.lost⟩ (weak_keep (keep 346 [1, 2, 7, 9, 10, 11, 12, 13, 16, 18, 19]) [0, 1, 2, 3, 4] rfl rfl rfl) ?_
    rintro ⟨j, x⟩ ⟨hj, hx⟩
    dsimp only at hj hx
    by_cases hj16 : j = 16
    · subst hj16
      have hf : ∀ j, j < i + 1 → catRows i (fun j => f (0 + j)) (chunk 16 (w16 x)) j = if j < i then f j else w16 x := by
        intro j hj
        unfold catRows
        by_cases h : j < i
        · rw [if_pos h, if_pos h]
          show f (0 + j) = f j
          rw [Nat.zero_add]
        · rw [if_neg h, if_neg h, show j - i = 0 by omega]
          rfl
      repeat refine stp ?_
      apply choice_l
      repeat refine stp ?_
      apply need_intro
      · show (i + 1) * 16 ≤ 2 ^ 47
        omega
      repeat refine stp ?_
      rcases hx.key hm with ⟨he, hk⟩ | ⟨hne, hk⟩
      · refine branch_f' (eq16_t he) ?_
        rw [← hmm] at hk
        cases L with
        | true =>
          repeat refine stp ?_
          refine ⟨(i + 1, _, ks, k != 18), ⟨hlt, sent_lock hs hK hk hf⟩, by show capM 60 n - (i + 1) < capM 60 n - i; omega, weak_keep (keep 346 [1, 2, 7, 9, 10, 11, 12]) [0, 1, 2] rfl ?_ rfl⟩
          show [_, _, _, _, _, _, _, _, _, _, _, _, _, _, _, _, _, _, _, _, _, _, _, _, _, _, _, _, _, _, _, _, _, _, _, _, _, _, _, _, _, _, _, _, _, _, _, _, _, _, _, _, _, _, _, _, _, _, _, _, _, _, _, _, _, _, _, _, _, _, _, _, _, _, _, _, _, _, _, _, _, _, _, _, _, _, _, _, _, _, _, _, _, _, _, _, _, _, _, _, _, _, _, _, _, _, _, _, _, _, _, _, _, _, _, _, _, _, _, _, _, _, _, _, _, _, _, _, _, _, _, _, _, _, _, _, _, _, _, _, _, _, _, _, _, _, _, _, _, _, _, _, _, _, _, _, _, _, _, _, _, _, _, _, _, _, _, _, _, _, _, _, _, _, _, _, _, _, _, _, _, _, _, _, _, _, _, _, _, _, _, _, _, _, _, _, _, _, _, _, _, _, _, _, _, _, _, _, _, _, _, _, _, _, _, _, _, _, _, _, _, _, _, _, _, _, _, _, _, _, _, _, _, _, _, _, _, _, _, _, _, _, _, _, _, _, _, _, _, _, _, _, _, _, _, _, _, _, _, _, _, _, _, _, _, _, _, _, _, _, _, _, _, _, _, _, _, _, _, _, _, _, _, _, _, _, _, _, _, _, _, _, _, _, _, _, _, _, _, _, _, _, _, _, _, _, _, _, _, _, _, _, _, _, _, _, _, _, _, _, _, _, _, _, _, _, _, _, _, _, _, _, _, _, _, _, _, _, _, _, _, _, _, _, _, _] = _
          rw [e1]
          rfl
        | false =>
          repeat refine stp ?_
          apply choice_l
          repeat refine stp ?_
          apply need_intro
          · show (ks.length + 1) * 1 ≤ 2 ^ 47
            omega
          apply need_intro
          · exact ⟨Nat.zero_add _, isRow_irow _ _ _⟩
          repeat refine stp ?_
          refine ⟨(i + 1, _, ks ++ [k], false), ⟨hlt, sent_open hs hK hk hf⟩, by show capM 60 n - (i + 1) < capM 60 n - i; omega, weak_keep (keep 346 [1, 2, 7, 9, 10, 11, 12]) [0, 1, 2] rfl ?_ ?_⟩
          · show [_, _, _, _, _, _, _, _, _, _, _, _, _, _, _, _, _, _, _, _, _, _, _, _, _, _, _, _, _, _, _, _, _, _, _, _, _, _, _, _, _, _, _, _, _, _, _, _, _, _, _, _, _, _, _, _, _, _, _, _, _, _, _, _, _, _, _, _, _, _, _, _, _, _, _, _, _, _, _, _, _, _, _, _, _, _, _, _, _, _, _, _, _, _, _, _, _, _, _, _, _, _, _, _, _, _, _, _, _, _, _, _, _, _, _, _, _, _, _, _, _, _, _, _, _, _, _, _, _, _, _, _, _, _, _, _, _, _, _, _, _, _, _, _, _, _, _, _, _, _, _, _, _, _, _, _, _, _, _, _, _, _, _, _, _, _, _, _, _, _, _, _, _, _, _, _, _, _, _, _, _, _, _, _, _, _, _, _, _, _, _, _, _, _, _, _, _, _, _, _, _, _, _, _, _, _, _, _, _, _, _, _, _, _, _, _, _, _, _, _, _, _, _, _, _, _, _, _, _, _, _, _, _, _, _, _, _, _, _, _, _, _, _, _, _, _, _, _, _, _, _, _, _, _, _, _, _, _, _, _, _, _, _, _, _, _, _, _, _, _, _, _, _, _, _, _, _, _, _, _, _, _, _, _, _, _, _, _, _, _, _, _, _, _, _, _, _, _, _, _, _, _, _, _, _, _, _, _, _, _, _, _, _, _, _, _, _, _, _, _, _, _, _, _, _, _, _, _, _, _, _, _, _, _, _, _, _, _, _, _, _, _, _, _, _, _] = _
            rw [e1, List.length_append]
            rfl
          · show [Blk.cells _, Blk.rows _ _ _, Blk.ints _ _] = [Blk.cells _, Blk.rows _ _ _, Blk.ints _ _]
            rw [snoc_row]
            rfl
      · refine branch_t' (eq16_f hne) ?_
        repeat refine stp ?_
        refine ⟨(i + 1, _, ks, true), ⟨hlt, sent_bad hs hk hf⟩, by show capM 60 n - (i + 1) < capM 60 n - i; omega, weak_keep (keep 346 [1, 2, 7, 9, 10, 11, 12]) [0, 1, 2] rfl ?_ rfl⟩
        show [_, _, _, _, _, _, _, _, _, _, _, _, _, _, _, _, _, _, _, _, _, _, _, _, _, _, _, _, _, _, _, _, _, _, _, _, _, _, _, _, _, _, _, _, _, _, _, _, _, _, _, _, _, _, _, _, _, _, _, _, _, _, _, _, _, _, _, _, _, _, _, _, _, _, _, _, _, _, _, _, _, _, _, _, _, _, _, _, _, _, _, _, _, _, _, _, _, _, _, _, _, _, _, _, _, _, _, _, _, _, _, _, _, _, _, _, _, _, _, _, _, _, _, _, _, _, _, _, _, _, _, _, _, _, _, _, _, _, _, _, _, _, _, _, _, _, _, _, _, _, _, _, _, _, _, _, _, _, _, _, _, _, _, _, _, _, _, _, _, _, _, _, _, _, _, _, _, _, _, _, _, _, _, _, _, _, _, _, _, _, _, _, _, _, _, _, _, _, _, _, _, _, _, _, _, _, _, _, _, _, _, _, _, _, _, _, _, _, _, _, _, _, _, _, _, _, _, _, _, _, _, _, _, _, _, _, _, _, _, _, _, _, _, _, _, _, _, _, _, _, _, _, _, _, _, _, _, _, _, _, _, _, _, _, _, _, _, _, _, _, _, _, _, _, _, _, _, _, _, _, _, _, _, _, _, _, _, _, _, _, _, _, _, _, _, _, _, _, _, _, _, _, _, _, _, _, _, _, _, _, _, _, _, _, _, _, _, _, _, _, _, _, _, _, _, _, _, _, _, _, _, _, _, _, _, _, _, _, _, _, _, _, _, _, _, _] = _
        rw [e1]
        rfl
    have hj' : j < 16 := by omega
    have e2 : IntKind.i64.wrap ((j : Int) + 1) = ((j + 1 : Nat) : Int) := by rw [wi (by omega) (by omega)]; rfl
    repeat refine stp ?_
    refine need_intro (show 0 ≤ IntKind.u64.wrap (j : Int) from Int.emod_nonneg _ (by decide)) ?_
    repeat refine stp ?_
    apply branch_intro <;> intro hb
    · repeat refine stp ?_
      refine splice16 (x := x) (i := j) ?ec ?lc ?_
      case ec =>
        show 0 + (0 + Int.toNat ((j : Nat) : Int) * 1) = _
        omega
      case lc => exact hj'
      repeat refine stp ?_
      refine ⟨(j + 1, upd x j 2), ⟨hj', hx.lose j⟩, by show 16 - (j + 1) < 16 - j; omega, weak_keep (keep 346 [1, 2, 7, 9, 10, 11, 12, 13, 16, 18, 19]) [0, 1, 2, 3, 4] rfl ?_ rfl⟩
      show [_, _, _, _, _, _, _, _, _, _, _, _, _, _, _, _, _, _, _, _, _, _, _, _, _, _, _, _, _, _, _, _, _, _, _, _, _, _, _, _, _, _, _, _, _, _, _, _, _, _, _, _, _, _, _, _, _, _, _, _, _, _, _, _, _, _, _, _, _, _, _, _, _, _, _, _, _, _, _, _, _, _, _, _, _, _, _, _, _, _, _, _, _, _, _, _, _, _, _, _, _, _, _, _, _, _, _, _, _, _, _, _, _, _, _, _, _, _, _, _, _, _, _, _, _, _, _, _, _, _, _, _, _, _, _, _, _, _, _, _, _, _, _, _, _, _, _, _, _, _, _, _, _, _, _, _, _, _, _, _, _, _, _, _, _, _, _, _, _, _, _, _, _, _, _, _, _, _, _, _, _, _, _, _, _, _, _, _, _, _, _, _, _, _, _, _, _, _, _, _, _, _, _, _, _, _, _, _, _, _, _, _, _, _, _, _, _, _, _, _, _, _, _, _, _, _, _, _, _, _, _, _, _, _, _, _, _, _, _, _, _, _, _, _, _, _, _, _, _, _, _, _, _, _, _, _, _, _, _, _, _, _, _, _, _, _, _, _, _, _, _, _, _, _, _, _, _, _, _, _, _, _, _, _, _, _, _, _, _, _, _, _, _, _, _, _, _, _, _, _, _, _, _, _, _, _, _, _, _, _, _, _, _, _, _, _, _, _, _, _, _, _, _, _, _, _, _, _, _, _, _, _, _, _, _, _, _, _, _, _, _, _, _, _, _, _] = _
      rw [e2]
      rfl
    · repeat refine stp ?_
      refine ⟨(j + 1, x), ⟨hj', hx⟩, by show 16 - (j + 1) < 16 - j; omega, weak_keep (keep 346 [1, 2, 7, 9, 10, 11, 12, 13, 16, 18, 19]) [0, 1, 2, 3, 4] rfl ?_ rfl⟩
      show [_, _, _, _, _, _, _, _, _, _, _, _, _, _, _, _, _, _, _, _, _, _, _, _, _, _, _, _, _, _, _, _, _, _, _, _, _, _, _, _, _, _, _, _, _, _, _, _, _, _, _, _, _, _, _, _, _, _, _, _, _, _, _, _, _, _, _, _, _, _, _, _, _, _, _, _, _, _, _, _, _, _, _, _, _, _, _, _, _, _, _, _, _, _, _, _, _, _, _, _, _, _, _, _, _, _, _, _, _, _, _, _, _, _, _, _, _, _, _, _, _, _, _, _, _, _, _, _, _, _, _, _, _, _, _, _, _, _, _, _, _, _, _, _, _, _, _, _, _, _, _, _, _, _, _, _, _, _, _, _, _, _, _, _, _, _, _, _, _, _, _, _, _, _, _, _, _, _, _, _, _, _, _, _, _, _, _, _, _, _, _, _, _, _, _, _, _, _, _, _, _, _, _, _, _, _, _, _, _, _, _, _, _, _, _, _, _, _, _, _, _, _, _, _, _, _, _, _, _, _, _, _, _, _, _, _, _, _, _, _, _, _, _, _, _, _, _, _, _, _, _, _, _, _, _, _, _, _, _, _, _, _, _, _, _, _, _, _, _, _, _, _, _, _, _, _, _, _, _, _, _, _, _, _, _, _, _, _, _, _, _, _, _, _, _, _, _, _, _, _, _, _, _, _, _, _, _, _, _, _, _, _, _, _, _, _, _, _, _, _, _, _, _, _, _, _, _, _, _, _, _, _, _, _, _, _, _, _, _, _, _, _, _, _, _, _] = _
      rw [e2]
      rfl
end Go.Proofs
