/- Chapter 27: figures, WriteString and String, as the engine calls them. -/
import Derived.Test.YtdbdppoecijdhaaC1
import Derived.Test.YtdbdppoecijdhaaE5
import Derived.Test.YtdbdppoecijdhaaC5
import Derived.Test.YtdbdppoecijdhaaC7
set_option linter.unusedVariables false
set_option linter.unusedSimpArgs false
/-! Ca. -/
namespace Go.Proofs
open Go.E Go.RowKit
set_option maxRecDepth 8000

theorem figures_n (cs : List AVal) (l : List Int) (j : Nat) (hr : ∀ x ∈ l, 0 ≤ x ∧ x < 11) (hn : l.length ≤ 100) (h : ∀ i, i < l.length → cs[j + i]? = some (.int .u8 (l.getD i 0))) :
    callN Try.prog 42 [.slice ⟨0, 0, j⟩ l.length] [.cells cs] fun x H' => x = .str ⟨(figsOf l).toArray⟩ ∧ H' = [.cells cs] := by
  refine callN_of_walk (R := fun x => x = .str ⟨(figsOf l).toArray⟩) (enters_of Try.func42 rfl rfl) fun c us hH hh ha => ?_
  obtain ⟨u0, hus⟩ : ∃ u0, us = #[u0] := by
    have := ha.1
    match us, this with
    | ⟨[u0]⟩, _ => exact ⟨u0, rfl⟩
  subst hus
  have h0 := ha.2 0 _ u0 rfl rfl
  have hb : c.H[0]? = some (.cells cs) := by rw [hH]; rfl
  cases h0 with
  | closed h => cases h
  | slice q1 hk q2 =>
    rename_i k A blk
    rw [hb] at q1; cases q1
    have hw := figures_walk l l.length k A c.w rfl (by omega) hr (by
      rcases q2 rfl with ⟨e, _⟩ | ⟨r, o, q3, q4, _⟩
      · exact .inl e
      · refine .inr ⟨r, o + j, by rw [q4]; simp [lin], ?_⟩
        obtain ⟨hX, us, t, fr, g1, g2, g3, g4⟩ := hh.at_ hb rfl q3
        refine ⟨lt_of_heap g1, fun i hi => ?_⟩
        have hlt := (List.getElem?_eq_some_iff.1 (h i hi)).1
        have hu : us[o + (j + i)]? = some (us[o + (j + i)]'(by omega)) := Array.getElem?_eq_getElem _
        have := (g4 (j + i) _ _ (h i hi) hu).inv_int
        rw [Lib.cell_of_heap g1, Nat.add_assoc, hu, this])
    refine hw.mono ?_
    rintro e w' ⟨rfl, hb⟩
    exact ⟨_, _, rfl, hb, fun c' => .mk_str c' _, rfl⟩

theorem ws_full (r : Nat) (l : List UInt8) (s : ByteArray) (w : World) (h : Lib.IsBuilderF 76 5 r r (Lib.byteCells l) w) (hl : l.length + s.size ≤ 140737488355328) (hr : r ≤ w.heap.size) :
    Calls Try.prog 41 #[.pointer (some ⟨r, 0, none⟩), .string s] w fun ee w' => ∃ u, ee = .returned u ∧ Lib.IsBuilderF 76 5 r r (Lib.byteCells (l ++ s.data.toList)) w' ∧ Below r w w' ∧
      (∀ q, q < w.heap.size → q ≠ r → ¬ SbBuf w r q → w'.heap[q]? = w.heap[q]?) ∧ ∀ g, SbBuf w' r g → SbBuf w r g ∨ w.heap.size ≤ g := by
  refine (sb_writeS r r _ s w h (by rw [Lib.byteCells_length]; exact hl) hr).mono ?_
  rintro e w' ⟨rfl, h1, h2, h3, h4⟩
  refine ⟨_, rfl, ?_, h2, h3, h4⟩
  rw [Lib.byteCells_append]
  exact h1
theorem str_full (r : Nat) (l : List UInt8) (w : World) (h : Lib.IsBuilderF 76 5 r r (Lib.byteCells l) w) (hr : r ≤ w.heap.size) :
    Calls Try.prog 43 #[.pointer (some ⟨r, 0, none⟩)] w fun ee w' => ee = .returned (.string ⟨l.toArray⟩) ∧ Below r w w' := by
  refine (Try.Builder_String_any_k r r l w h hr).mono ?_
  rintro e w' ⟨rfl, _, h2, _⟩
  exact ⟨rfl, h2⟩

theorem ws_t {n0 : Nat} {tm : List AVal} {H : Heap} {k : List AVal → AVal → Heap → Prop} {l : List UInt8} {s : ByteArray} (b : Nat) (hb : H[b]? = some (.sb l)) (hn : n0 ≤ b) (hl : l.length + s.size ≤ 140737488355328)
    (hk : keepL tm fun tm' => keepH b (.sb (l ++ s.data.toList)) 0 H fun H' => k tm' .any H') : callT Try.prog n0 41 [.ptr ⟨b, 0, 0⟩, .str s] tm H k :=
  callT_sbw rfl (enters_of Try.func41 rfl rfl) ws_full b hb hn hl hk
theorem str_t {tm : List AVal} {H : Heap} {k : List AVal → AVal → Heap → Prop} {l : List UInt8} (b : Nat) (hb : H[b]? = some (.sb l)) (hk : flatL tm fun tm' => k tm' (.str ⟨l.toArray⟩) []) :
    callT Try.prog 0 43 [.ptr ⟨b, 0, 0⟩] tm H k :=
  callT_sbs rfl (enters_of Try.func43 rfl rfl) str_full b hb hk
end Go.Proofs
/-! Cb. -/
namespace Go.Proofs
open Go.E
set_option maxRecDepth 8000

def preB (k : Nat) : ByteArray := match k with
  | 0 => ⟨#[80, 82, 79, 71, 32]⟩
  | 1 => ⟨#[86, 69, 82, 66, 32]⟩
  | 2 => ⟨#[78, 79, 85, 78, 32]⟩
  | 3 => ⟨#[82, 49, 32]⟩
  | 4 => ⟨#[82, 50, 32]⟩
  | _ => ⟨#[82, 51, 32]⟩
def sgS (x : Int) : ByteArray := (⟨#[95, 43, 45]⟩ : ByteArray).extract x.toNat (IntKind.u8.wrap (x + 1)).toNat
def fgS (l : List Int) : ByteArray := ⟨(figsOf l).toArray⟩
def nlS : ByteArray := ⟨#[10]⟩
def lnA (d : Nat → Int) (k : Nat) : ByteArray := preB k ++ fgS [d (2 * k), d (2 * k + 1)] ++ nlS
def lnB (d : Nat → Int) (k : Nat) : ByteArray := preB (3 + k) ++ sgS (d (6 + 6 * k)) ++ fgS [d (7 + 6 * k), d (8 + 6 * k), d (9 + 6 * k), d (10 + 6 * k), d (11 + 6 * k)] ++ nlS
def txtL (d : Nat → Int) : List UInt8 := (((((([] ++ (lnA d 0).data.toList) ++ (lnA d 1).data.toList) ++ (lnA d 2).data.toList) ++ (lnB d 0).data.toList) ++ (lnB d 1).data.toList) ++ (lnB d 2).data.toList)
def txtS (d : Nat → Int) : ByteArray := ⟨(txtL d).toArray⟩

theorem text_bad {d : Nat → Int} (hd : WD d) (hm : mayB d = false) : callP Try.prog 31 [dispA d] (· = .str ⟨#[]⟩) := by
  refine callE_def env (fn := Try.f31) rfl (by decide) rfl ?_
  repeat refine stm ?_
  refine callT_E (may_c hd) rfl ?_
  rw [hm]
  repeat refine stm ?_
  show Eqv _ _
  exact .up (.up (.refl _))

theorem fgS_size (l : List Int) : (fgS l).size = l.length := by simp [fgS, figsOf, ByteArray.size]
theorem sgS_size {x : Int} (h0 : 0 ≤ x) (h : x < 3) : (sgS x).size = 1 := by
  obtain rfl | rfl | rfl : x = 0 ∨ x = 1 ∨ x = 2 := by omega
  all_goals rfl
theorem lnA_size (d : Nat → Int) (k : Nat) (hk : k < 3) : (lnA d k).size = 8 := by
  unfold lnA
  rw [ByteArray.size_append, ByteArray.size_append, fgS_size]
  match k, hk with
  | 0, _ => rfl
  | 1, _ => rfl
  | 2, _ => rfl
theorem lnB_size (d : Nat → Int) (k : Nat) (hk : k < 3) (h0 : 0 ≤ d (6 + 6 * k)) (h : d (6 + 6 * k) < 3) : (lnB d k).size = 10 := by
  unfold lnB
  rw [ByteArray.size_append, ByteArray.size_append, ByteArray.size_append, fgS_size, sgS_size h0 h]
  match k, hk with
  | 0, _ => rfl
  | 1, _ => rfl
  | 2, _ => rfl
theorem nd_size {a b : ByteArray} {K : Prop} (h : a.size + b.size ≤ 1000) (k : K) : need (((a.size + b.size : Nat) : Int) ≤ IntKind.i64.max) K := need_intro (by
  show _ ≤ (9223372036854775807 : Int)
  omega) k
theorem nd_sign {x : Int} {K : Prop} (h0 : 0 ≤ x) (h : x < 3) (k : K) : need (0 ≤ x ∧ x ≤ IntKind.u8.wrap (x + 1) ∧ IntKind.u8.wrap (x + 1) ≤ ((⟨#[95, 43, 45]⟩ : ByteArray).size : Nat)) K := need_intro (by
  rw [wu8 (by omega) (by omega)]
  show 0 ≤ x ∧ x ≤ x + 1 ∧ x + 1 ≤ ((3 : Nat) : Int)
  omega) k
theorem data_len (s : ByteArray) : s.data.toList.length = s.size := Array.length_toList

set_option maxHeartbeats 1000000 in
theorem text_c {d : Nat → Int} (hd : Good d) : callP Try.prog 31 [dispA d] (· = .str (txtS d)) := by
  have hm := hd.may
  have g : ∀ j, j < 24 → 0 ≤ d j ∧ d j < 11 := fun j hj => by
    have := hd j (by omega)
    have hl : lim j ≤ 11 := by
      have : j ≠ 24 := by omega
      have : j ≠ 25 := by omega
      unfold lim
      split <;> first | omega | (exfalso; omega)
    omega
  have s0 := hd 6 (by decide)
  have s1 := hd 12 (by decide)
  have s2 := hd 18 (by decide)
  simp only [lim] at s0 s1 s2
  refine callP_def env (fn := Try.f31) rfl (by decide) ?_
  repeat refine stm ?_
  refine callT_E (may_c hd.wd) rfl ?_
  rw [hm]
  repeat (first | refine ndD ?_ | refine branch_true ?_ | refine branch_false ?_ | refine brT ?_ | refine brF ?_ | refine brU ?_ | refine brV ?_ | refine loop_unr 4 ?_)
  refine draw_last 7 (List.range 7) (by decide +kernel) ?_
  repeat refine stm ?_
  refine ⟨_, readN_of [2] rfl rfl (fun _ => rfl) (figures_n _ [d 0, d 1] 0 (by simp only [List.mem_cons, List.not_mem_nil, or_false, forall_eq_or_imp, forall_eq]; exact ⟨g 0 (by decide), g 1 (by decide)⟩) (by simp only [List.length_cons, List.length_nil]; decide) (fun i hi => by match i, hi with | 0, _ => rfl | 1, _ => rfl)) (fun _ => rfl), ?_⟩
  refine nd_size (a := preB 0) (b := fgS [d 0, d 1]) (by rw [fgS_size]; simp only [List.length_cons, List.length_nil]; decide) ?_
  refine nd_size (a := preB 0 ++ fgS [d 0, d 1]) (b := nlS) (by rw [ByteArray.size_append, fgS_size]; simp only [List.length_cons, List.length_nil]; decide) ?_
  refine ws_t (l := []) (s := lnA d 0) 1 rfl (by decide) (by simp only [List.length_append, List.length_nil, data_len, lnA_size d 0 (by decide)]; decide) ?_
  repeat (first | refine ndD ?_ | refine branch_true ?_ | refine branch_false ?_ | refine brT ?_ | refine brF ?_ | refine brU ?_ | refine brV ?_ | refine loop_unr 4 ?_)
  refine draw_last 7 (List.range 7) (by decide +kernel) ?_
  repeat refine stm ?_
  refine ⟨_, readN_of [3] rfl rfl (fun _ => rfl) (figures_n _ [d 2, d 3] 0 (by simp only [List.mem_cons, List.not_mem_nil, or_false, forall_eq_or_imp, forall_eq]; exact ⟨g 2 (by decide), g 3 (by decide)⟩) (by simp only [List.length_cons, List.length_nil]; decide) (fun i hi => by match i, hi with | 0, _ => rfl | 1, _ => rfl)) (fun _ => rfl), ?_⟩
  refine nd_size (a := preB 1) (b := fgS [d 2, d 3]) (by rw [fgS_size]; simp only [List.length_cons, List.length_nil]; decide) ?_
  refine nd_size (a := preB 1 ++ fgS [d 2, d 3]) (b := nlS) (by rw [ByteArray.size_append, fgS_size]; simp only [List.length_cons, List.length_nil]; decide) ?_
  refine ws_t (l := ([] ++ (lnA d 0).data.toList)) (s := lnA d 1) 1 rfl (by decide) (by simp only [List.length_append, List.length_nil, data_len, lnA_size d 0 (by decide), lnA_size d 1 (by decide)]; decide) ?_
  repeat (first | refine ndD ?_ | refine branch_true ?_ | refine branch_false ?_ | refine brT ?_ | refine brF ?_ | refine brU ?_ | refine brV ?_ | refine loop_unr 4 ?_)
  refine draw_last 7 (List.range 7) (by decide +kernel) ?_
  repeat refine stm ?_
  refine ⟨_, readN_of [4] rfl rfl (fun _ => rfl) (figures_n _ [d 4, d 5] 0 (by simp only [List.mem_cons, List.not_mem_nil, or_false, forall_eq_or_imp, forall_eq]; exact ⟨g 4 (by decide), g 5 (by decide)⟩) (by simp only [List.length_cons, List.length_nil]; decide) (fun i hi => by match i, hi with | 0, _ => rfl | 1, _ => rfl)) (fun _ => rfl), ?_⟩
  refine nd_size (a := preB 2) (b := fgS [d 4, d 5]) (by rw [fgS_size]; simp only [List.length_cons, List.length_nil]; decide) ?_
  refine nd_size (a := preB 2 ++ fgS [d 4, d 5]) (b := nlS) (by rw [ByteArray.size_append, fgS_size]; simp only [List.length_cons, List.length_nil]; decide) ?_
  refine ws_t (l := (([] ++ (lnA d 0).data.toList) ++ (lnA d 1).data.toList)) (s := lnA d 2) 1 rfl (by decide) (by simp only [List.length_append, List.length_nil, data_len, lnA_size d 0 (by decide), lnA_size d 1 (by decide), lnA_size d 2 (by decide)]; decide) ?_
  repeat (first | refine ndD ?_ | refine branch_true ?_ | refine branch_false ?_ | refine brT ?_ | refine brF ?_ | refine brU ?_ | refine brV ?_ | refine loop_unr 4 ?_)
  refine draw_last 15 (List.range 15) (by decide +kernel) ?_
  repeat refine stm ?_
  refine nd_sign s0.1 s0.2 ?_
  refine nd_size (a := preB 3) (b := sgS (d 6)) (by rw [sgS_size s0.1 s0.2]; decide) ?_
  repeat refine stm ?_
  refine ⟨_, readN_of [5] rfl rfl (fun _ => rfl) (figures_n _ [d 7, d 8, d 9, d 10, d 11] 1 (by simp only [List.mem_cons, List.not_mem_nil, or_false, forall_eq_or_imp, forall_eq]; exact ⟨g 7 (by decide), g 8 (by decide), g 9 (by decide), g 10 (by decide), g 11 (by decide)⟩) (by simp only [List.length_cons, List.length_nil]; decide) (fun i hi => by match i, hi with | 0, _ => rfl | 1, _ => rfl | 2, _ => rfl | 3, _ => rfl | 4, _ => rfl)) (fun _ => rfl), ?_⟩
  refine nd_size (a := preB 3 ++ sgS (d 6)) (b := fgS [d 7, d 8, d 9, d 10, d 11]) (by rw [ByteArray.size_append, sgS_size s0.1 s0.2, fgS_size]; simp only [List.length_cons, List.length_nil]; decide) ?_
  refine nd_size (a := preB 3 ++ sgS (d 6) ++ fgS [d 7, d 8, d 9, d 10, d 11]) (b := nlS) (by rw [ByteArray.size_append, ByteArray.size_append, sgS_size s0.1 s0.2, fgS_size]; simp only [List.length_cons, List.length_nil]; decide) ?_
  refine ws_t (l := ((([] ++ (lnA d 0).data.toList) ++ (lnA d 1).data.toList) ++ (lnA d 2).data.toList)) (s := lnB d 0) 1 rfl (by decide) (by simp only [List.length_append, List.length_nil, data_len, lnA_size d 0 (by decide), lnA_size d 1 (by decide), lnA_size d 2 (by decide), lnB_size d 0 (by decide) s0.1 s0.2]; decide) ?_
  repeat (first | refine ndD ?_ | refine branch_true ?_ | refine branch_false ?_ | refine brT ?_ | refine brF ?_ | refine brU ?_ | refine brV ?_ | refine loop_unr 4 ?_)
  refine draw_last 15 (List.range 15) (by decide +kernel) ?_
  repeat refine stm ?_
  refine nd_sign s1.1 s1.2 ?_
  refine nd_size (a := preB 4) (b := sgS (d 12)) (by rw [sgS_size s1.1 s1.2]; decide) ?_
  repeat refine stm ?_
  refine ⟨_, readN_of [6] rfl rfl (fun _ => rfl) (figures_n _ [d 13, d 14, d 15, d 16, d 17] 1 (by simp only [List.mem_cons, List.not_mem_nil, or_false, forall_eq_or_imp, forall_eq]; exact ⟨g 13 (by decide), g 14 (by decide), g 15 (by decide), g 16 (by decide), g 17 (by decide)⟩) (by simp only [List.length_cons, List.length_nil]; decide) (fun i hi => by match i, hi with | 0, _ => rfl | 1, _ => rfl | 2, _ => rfl | 3, _ => rfl | 4, _ => rfl)) (fun _ => rfl), ?_⟩
  refine nd_size (a := preB 4 ++ sgS (d 12)) (b := fgS [d 13, d 14, d 15, d 16, d 17]) (by rw [ByteArray.size_append, sgS_size s1.1 s1.2, fgS_size]; simp only [List.length_cons, List.length_nil]; decide) ?_
  refine nd_size (a := preB 4 ++ sgS (d 12) ++ fgS [d 13, d 14, d 15, d 16, d 17]) (b := nlS) (by rw [ByteArray.size_append, ByteArray.size_append, sgS_size s1.1 s1.2, fgS_size]; simp only [List.length_cons, List.length_nil]; decide) ?_
  refine ws_t (l := (((([] ++ (lnA d 0).data.toList) ++ (lnA d 1).data.toList) ++ (lnA d 2).data.toList) ++ (lnB d 0).data.toList)) (s := lnB d 1) 1 rfl (by decide) (by simp only [List.length_append, List.length_nil, data_len, lnA_size d 0 (by decide), lnA_size d 1 (by decide), lnA_size d 2 (by decide), lnB_size d 0 (by decide) s0.1 s0.2, lnB_size d 1 (by decide) s1.1 s1.2]; decide) ?_
  repeat (first | refine ndD ?_ | refine branch_true ?_ | refine branch_false ?_ | refine brT ?_ | refine brF ?_ | refine brU ?_ | refine brV ?_ | refine loop_unr 4 ?_)
  refine draw_last 15 (List.range 15) (by decide +kernel) ?_
  repeat refine stm ?_
  refine nd_sign s2.1 s2.2 ?_
  refine nd_size (a := preB 5) (b := sgS (d 18)) (by rw [sgS_size s2.1 s2.2]; decide) ?_
  repeat refine stm ?_
  refine ⟨_, readN_of [7] rfl rfl (fun _ => rfl) (figures_n _ [d 19, d 20, d 21, d 22, d 23] 1 (by simp only [List.mem_cons, List.not_mem_nil, or_false, forall_eq_or_imp, forall_eq]; exact ⟨g 19 (by decide), g 20 (by decide), g 21 (by decide), g 22 (by decide), g 23 (by decide)⟩) (by simp only [List.length_cons, List.length_nil]; decide) (fun i hi => by match i, hi with | 0, _ => rfl | 1, _ => rfl | 2, _ => rfl | 3, _ => rfl | 4, _ => rfl)) (fun _ => rfl), ?_⟩
  refine nd_size (a := preB 5 ++ sgS (d 18)) (b := fgS [d 19, d 20, d 21, d 22, d 23]) (by rw [ByteArray.size_append, sgS_size s2.1 s2.2, fgS_size]; simp only [List.length_cons, List.length_nil]; decide) ?_
  refine nd_size (a := preB 5 ++ sgS (d 18) ++ fgS [d 19, d 20, d 21, d 22, d 23]) (b := nlS) (by rw [ByteArray.size_append, ByteArray.size_append, sgS_size s2.1 s2.2, fgS_size]; simp only [List.length_cons, List.length_nil]; decide) ?_
  refine ws_t (l := ((((([] ++ (lnA d 0).data.toList) ++ (lnA d 1).data.toList) ++ (lnA d 2).data.toList) ++ (lnB d 0).data.toList) ++ (lnB d 1).data.toList)) (s := lnB d 2) 1 rfl (by decide) (by simp only [List.length_append, List.length_nil, data_len, lnA_size d 0 (by decide), lnA_size d 1 (by decide), lnA_size d 2 (by decide), lnB_size d 0 (by decide) s0.1 s0.2, lnB_size d 1 (by decide) s1.1 s1.2, lnB_size d 2 (by decide) s2.1 s2.2]; decide) ?_
  repeat (first | refine ndD ?_ | refine branch_true ?_ | refine branch_false ?_ | refine brT ?_ | refine brF ?_ | refine brU ?_ | refine brV ?_ | refine loop_unr 4 ?_)
  refine str_t (l := txtL d) 1 rfl ?_
  repeat refine stm ?_
  exact rfl
end Go.Proofs
/-! Cc. -/
namespace Go.Proofs
open Go.E
set_option maxRecDepth 8000

theorem row_one {kk : IntKind} {n : Int} : isRow kk 1 (irow kk [n]) := fun i hi => by
  obtain rfl : i = 0 := by omega
  exact ⟨_, rfl⟩
theorem rfig_c {x : Int} (h0 : 0 ≤ x) (h : x < 11) : callP Try.prog 44 [.int .u8 x] (· = .str (fgS [x])) := by
  by_cases hx : x = 10
  · subst hx
    refine callP_def env (fn := Try.f44) rfl (by decide) ?_
    repeat refine stm ?_
    exact rfl
  obtain rfl | rfl | rfl | rfl | rfl | rfl | rfl | rfl | rfl | rfl : x = 0 ∨ x = 1 ∨ x = 2 ∨ x = 3 ∨ x = 4 ∨ x = 5 ∨ x = 6 ∨ x = 7 ∨ x = 8 ∨ x = 9 := by omega
  all_goals
    refine callP_def env (fn := Try.f44) rfl (by decide) ?_
    repeat refine stm ?_
    refine choice_l ?_
    repeat refine stm ?_
    refine need_intro row_one ?_
    exact rfl

def rgS (s a b c d e : Int) : ByteArray := sgS s ++ fgS [a] ++ fgS [b] ++ fgS [c] ++ fgS [d] ++ fgS [e]
theorem rfigs_c {s a b c d e : Int} (hs : 0 ≤ s ∧ s < 3) (ha : 0 ≤ a ∧ a < 11) (hb : 0 ≤ b ∧ b < 11) (hc : 0 ≤ c ∧ c < 11) (hd : 0 ≤ d ∧ d < 11) (he : 0 ≤ e ∧ e < 11) :
    callP Try.prog 45 [.agg [.int .u8 s, .int .u8 a, .int .u8 b, .int .u8 c, .int .u8 d, .int .u8 e]] (· = .str (rgS s a b c d e)) := by
  obtain ⟨h0, h3⟩ := hs
  obtain rfl | rfl | rfl : s = 0 ∨ s = 1 ∨ s = 2 := by omega
  all_goals
    refine callP_def env (fn := Try.f45) rfl (by decide) ?_
    repeat (first | refine stp ?_ | refine loop_unr 6 ?_)
    refine callT_E (rfig_c ha.1 ha.2) rfl ?_
    refine nd_size (by rw [fgS_size]; simp only [List.length_cons, List.length_nil]; decide) ?_
    repeat (first | refine stp ?_ | refine loop_unr 6 ?_)
    refine callT_E (rfig_c hb.1 hb.2) rfl ?_
    refine nd_size (by rw [ByteArray.size_append, fgS_size, fgS_size]; simp only [List.length_cons, List.length_nil]; decide) ?_
    repeat (first | refine stp ?_ | refine loop_unr 6 ?_)
    refine callT_E (rfig_c hc.1 hc.2) rfl ?_
    refine nd_size (by rw [ByteArray.size_append, ByteArray.size_append, fgS_size, fgS_size, fgS_size]; simp only [List.length_cons, List.length_nil]; decide) ?_
    repeat (first | refine stp ?_ | refine loop_unr 6 ?_)
    refine callT_E (rfig_c hd.1 hd.2) rfl ?_
    refine nd_size (by rw [ByteArray.size_append, ByteArray.size_append, ByteArray.size_append, fgS_size, fgS_size, fgS_size, fgS_size]; simp only [List.length_cons, List.length_nil]; decide) ?_
    repeat (first | refine stp ?_ | refine loop_unr 6 ?_)
    refine callT_E (rfig_c he.1 he.2) rfl ?_
    refine nd_size (by rw [ByteArray.size_append, ByteArray.size_append, ByteArray.size_append, ByteArray.size_append, fgS_size, fgS_size, fgS_size, fgS_size, fgS_size]; simp only [List.length_cons, List.length_nil]; decide) ?_
    repeat (first | refine stp ?_ | refine loop_unr 6 ?_)
    exact rfl
theorem rgS_size {s : Int} (hs : 0 ≤ s ∧ s < 3) (a b c d e : Int) : (rgS s a b c d e).size = 6 := by
  unfold rgS
  simp only [ByteArray.size_append, fgS_size, sgS_size hs.1 hs.2, List.length_cons, List.length_nil]

def txtR (d : Nat → Int) : ByteArray :=
  preB 0 ++ fgS [d 0] ++ fgS [d 1] ++ nlS ++ preB 1 ++ fgS [d 2] ++ fgS [d 3] ++ nlS ++ preB 2 ++ fgS [d 4] ++ fgS [d 5] ++ nlS
    ++ preB 3 ++ rgS (d 6) (d 7) (d 8) (d 9) (d 10) (d 11) ++ nlS ++ preB 4 ++ rgS (d 12) (d 13) (d 14) (d 15) (d 16) (d 17) ++ nlS ++ preB 5 ++ rgS (d 18) (d 19) (d 20) (d 21) (d 22) (d 23) ++ nlS
theorem mk_app (l : List UInt8) (s : ByteArray) : (⟨(l ++ s.data.toList).toArray⟩ : ByteArray) = ⟨l.toArray⟩ ++ s := by
  apply ByteArray.ext
  rw [ByteArray.data_append]
  apply Array.ext'
  simp
theorem mk_nil (s : ByteArray) : (⟨([] : List UInt8).toArray⟩ : ByteArray) ++ s = s := by
  apply ByteArray.ext
  rw [ByteArray.data_append]
  apply Array.ext'
  simp
theorem fgS_cons (a b : Int) (l : List Int) : fgS (a :: b :: l) = fgS [a] ++ fgS (b :: l) := by
  apply ByteArray.ext
  rw [ByteArray.data_append]
  apply Array.ext'
  simp [fgS, figsOf]
theorem txtR_eq (d : Nat → Int) : txtR d = txtS d := by
  unfold txtS txtL
  rw [mk_app, mk_app, mk_app, mk_app, mk_app, mk_app, mk_nil]
  unfold txtR lnA lnB rgS
  generalize preB = p
  generalize nlS = n
  simp only [fgS_cons, ByteArray.append_assoc, Nat.reduceMul, Nat.reduceAdd, Nat.mul_zero, Nat.add_zero, Nat.mul_one]
theorem rtext_bad {d : Nat → Int} (hm : mayB d = false) : callP Try.prog 32 [dispA d] (· = .str ⟨#[]⟩) := by
  refine callE_def env (fn := Try.f32) rfl (by decide) rfl ?_
  repeat refine stm ?_
  refine callT_E rmay_c rfl ?_
  rw [hm]
  repeat refine stm ?_
  show Eqv _ _
  exact .up (.up (.refl _))
theorem rtext_c {d : Nat → Int} (hd : Good d) : callP Try.prog 32 [dispA d] (· = .str (txtS d)) := by
  have hm := hd.may
  have g : ∀ j, j < 24 → 0 ≤ d j ∧ d j < 11 := fun j hj => by
    have := hd j (by omega)
    have hl : lim j ≤ 11 := by
      have : j ≠ 24 := by omega
      have : j ≠ 25 := by omega
      unfold lim
      split <;> first | omega | (exfalso; omega)
    omega
  have s0 := hd 6 (by decide)
  have s1 := hd 12 (by decide)
  have s2 := hd 18 (by decide)
  simp only [lim] at s0 s1 s2
  refine callP_def env (fn := Try.f32) rfl (by decide) ?_
  repeat refine stm ?_
  refine callT_E rmay_c rfl ?_
  rw [hm]
  repeat refine stm ?_
  refine choice_l ?_
  repeat refine stm ?_
  refine need_intro row_one ?_
  repeat refine stm ?_
  refine draw_tree (picks (List.range 13) .done) (by decide +kernel) ?_
  repeat refine stm ?_
  refine ⟨_, ⟨rfig_c (g 0 (by decide)).1 (g 0 (by decide)).2, rfl⟩, ?_⟩
  refine nd_size (by simp only [ByteArray.size_append, fgS_size, rgS_size s0, rgS_size s1, rgS_size s2, List.length_cons, List.length_nil]; decide) ?_
  repeat refine stm ?_
  refine ⟨_, ⟨rfig_c (g 1 (by decide)).1 (g 1 (by decide)).2, rfl⟩, ?_⟩
  refine nd_size (by simp only [ByteArray.size_append, fgS_size, rgS_size s0, rgS_size s1, rgS_size s2, List.length_cons, List.length_nil]; decide) ?_
  repeat refine stm ?_
  refine nd_size (by simp only [ByteArray.size_append, fgS_size, rgS_size s0, rgS_size s1, rgS_size s2, List.length_cons, List.length_nil]; decide) ?_
  repeat refine stm ?_
  refine draw_tree (picks (List.range 15) .done) (by decide +kernel) ?_
  repeat refine stm ?_
  refine nd_size (by simp only [ByteArray.size_append, fgS_size, rgS_size s0, rgS_size s1, rgS_size s2, List.length_cons, List.length_nil]; decide) ?_
  repeat refine stm ?_
  refine ⟨_, ⟨rfig_c (g 2 (by decide)).1 (g 2 (by decide)).2, rfl⟩, ?_⟩
  refine nd_size (by simp only [ByteArray.size_append, fgS_size, rgS_size s0, rgS_size s1, rgS_size s2, List.length_cons, List.length_nil]; decide) ?_
  repeat refine stm ?_
  refine ⟨_, ⟨rfig_c (g 3 (by decide)).1 (g 3 (by decide)).2, rfl⟩, ?_⟩
  refine nd_size (by simp only [ByteArray.size_append, fgS_size, rgS_size s0, rgS_size s1, rgS_size s2, List.length_cons, List.length_nil]; decide) ?_
  repeat refine stm ?_
  refine nd_size (by simp only [ByteArray.size_append, fgS_size, rgS_size s0, rgS_size s1, rgS_size s2, List.length_cons, List.length_nil]; decide) ?_
  repeat refine stm ?_
  refine draw_tree (picks (List.range 15) .done) (by decide +kernel) ?_
  repeat refine stm ?_
  refine nd_size (by simp only [ByteArray.size_append, fgS_size, rgS_size s0, rgS_size s1, rgS_size s2, List.length_cons, List.length_nil]; decide) ?_
  repeat refine stm ?_
  refine ⟨_, ⟨rfig_c (g 4 (by decide)).1 (g 4 (by decide)).2, rfl⟩, ?_⟩
  refine nd_size (by simp only [ByteArray.size_append, fgS_size, rgS_size s0, rgS_size s1, rgS_size s2, List.length_cons, List.length_nil]; decide) ?_
  repeat refine stm ?_
  refine ⟨_, ⟨rfig_c (g 5 (by decide)).1 (g 5 (by decide)).2, rfl⟩, ?_⟩
  refine nd_size (by simp only [ByteArray.size_append, fgS_size, rgS_size s0, rgS_size s1, rgS_size s2, List.length_cons, List.length_nil]; decide) ?_
  repeat refine stm ?_
  refine nd_size (by simp only [ByteArray.size_append, fgS_size, rgS_size s0, rgS_size s1, rgS_size s2, List.length_cons, List.length_nil]; decide) ?_
  repeat refine stm ?_
  refine draw_tree (picks (List.range 26) .done) (by decide +kernel) ?_
  repeat refine stm ?_
  refine nd_size (by simp only [ByteArray.size_append, fgS_size, rgS_size s0, rgS_size s1, rgS_size s2, List.length_cons, List.length_nil]; decide) ?_
  repeat refine stm ?_
  refine ⟨_, ⟨rfigs_c s0 (g 7 (by decide)) (g 8 (by decide)) (g 9 (by decide)) (g 10 (by decide)) (g 11 (by decide)), rfl⟩, ?_⟩
  refine nd_size (by simp only [ByteArray.size_append, fgS_size, rgS_size s0, rgS_size s1, rgS_size s2, List.length_cons, List.length_nil]; decide) ?_
  repeat refine stm ?_
  refine nd_size (by simp only [ByteArray.size_append, fgS_size, rgS_size s0, rgS_size s1, rgS_size s2, List.length_cons, List.length_nil]; decide) ?_
  repeat refine stm ?_
  refine nd_size (by simp only [ByteArray.size_append, fgS_size, rgS_size s0, rgS_size s1, rgS_size s2, List.length_cons, List.length_nil]; decide) ?_
  repeat refine stm ?_
  refine ⟨_, ⟨rfigs_c s1 (g 13 (by decide)) (g 14 (by decide)) (g 15 (by decide)) (g 16 (by decide)) (g 17 (by decide)), rfl⟩, ?_⟩
  refine nd_size (by simp only [ByteArray.size_append, fgS_size, rgS_size s0, rgS_size s1, rgS_size s2, List.length_cons, List.length_nil]; decide) ?_
  repeat refine stm ?_
  refine nd_size (by simp only [ByteArray.size_append, fgS_size, rgS_size s0, rgS_size s1, rgS_size s2, List.length_cons, List.length_nil]; decide) ?_
  repeat refine stm ?_
  refine nd_size (by simp only [ByteArray.size_append, fgS_size, rgS_size s0, rgS_size s1, rgS_size s2, List.length_cons, List.length_nil]; decide) ?_
  repeat refine stm ?_
  refine ⟨_, ⟨rfigs_c s2 (g 19 (by decide)) (g 20 (by decide)) (g 21 (by decide)) (g 22 (by decide)) (g 23 (by decide)), rfl⟩, ?_⟩
  refine nd_size (by simp only [ByteArray.size_append, fgS_size, rgS_size s0, rgS_size s1, rgS_size s2, List.length_cons, List.length_nil]; decide) ?_
  repeat refine stm ?_
  refine nd_size (by simp only [ByteArray.size_append, fgS_size, rgS_size s0, rgS_size s1, rgS_size s2, List.length_cons, List.length_nil]; decide) ?_
  repeat refine stm ?_
  exact congrArg AVal.str (txtR_eq d)
end Go.Proofs
