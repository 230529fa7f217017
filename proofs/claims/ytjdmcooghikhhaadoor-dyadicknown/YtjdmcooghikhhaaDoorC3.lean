/- Chapter 13, part of: Decimal. -/
import Derived.Test.YtjdmcooghikhhaaDoorC2
set_option linter.unusedVariables false
set_option linter.unusedSimpArgs false
/-! Of. -/
namespace Go.Proofs.N13
open Go.E
set_option maxRecDepth 8000

/-- What is left of the number: the first m limbs of a block. -/
structure DcSt where
  l : List Int
  m : Nat
  d : List Int
def DcOk (n k : Nat) (s : DcSt) : Prop := s.l.length = k ∧ s.m ≤ k ∧ Limbs s.l ∧ trimL (s.l.take s.m) = s.l.take s.m ∧ decL n = s.d ++ decL (val (s.l.take s.m))
structure DvSt where
  j : Nat
  r : Nat
  b : List Int
theorem take_len (l : List Int) {m : Nat} (h : m ≤ l.length) : (l.take m).length = m := by simp; omega
theorem limbs_take {l : List Int} (h : Limbs l) (m : Nat) : Limbs (l.take m) := fun x hx => h x (List.mem_of_mem_take hx)
theorem limbs_app {a b : List Int} (ha : Limbs a) (hb : Limbs b) : Limbs (a ++ b) := fun x hx => by
  rcases List.mem_append.1 hx with h | h
  · exact ha x h
  · exact hb x h
theorem limbs_drop {l : List Int} (h : Limbs l) (m : Nat) : Limbs (l.drop m) := fun x hx => h x (List.mem_of_mem_drop hx)
theorem take_at {l : List Int} {j : Nat} (h : j < l.length) : l.take (j + 1) = l.take j ++ [l.getD j 0] := by
  rw [List.take_add_one, List.getD_eq_getElem?_getD, List.getElem?_eq_getElem h]
  rfl
theorem mid_at {l b : List Int} {j : Nat} (h : j < l.length) : (l.take (j + 1) ++ b).getD j 0 = l.getD j 0 := by
  rw [List.getD_eq_getElem?_getD, List.getElem?_append_left (by simp; omega), List.getElem?_take, if_pos (by omega), List.getD_eq_getElem?_getD]
theorem mid_put {l b : List Int} {j : Nat} (h : j < l.length) (y : Int) : (l.take (j + 1) ++ b).set j y = l.take j ++ (y :: b) := by
  have hl : (l.take j).length = j := by simp; omega
  rw [take_at h, List.append_assoc, List.set_append_right _ _ (by omega), hl, Nat.sub_self]
  rfl

/-- The inner division: what it leaves. -/
theorem div_inv {L : List Int} (hL : Limbs L) {m j r : Nat} {b : List Int} (hm : m ≤ L.length) (hj : j + 1 ≤ m) (hr : r < 1000000000) (hv : val (L.take m) / 2 ^ (32 * (j + 1)) = val b * 1000000000 + r) {x t : Nat} (hx : L.getD j 0 = x) (ht : t = r * 4294967296 + x) :
    val (L.take m) / 2 ^ (32 * j) = val (((t / 1000000000 : Nat) : Int) :: b) * 1000000000 + t % 1000000000 ∧ t / 1000000000 < 4294967296 := by
  have hb := limb_bound hL j
  obtain ⟨h1, h2⟩ := nine_step (Q := val b) ht hr (by omega)
  refine ⟨?_, h2⟩
  have h3 := val_div (limbs_take hL m) j
  have h4 := val_div (limbs_take hL m) (j + 1)
  have h5 := val_drop_succ (L.take m) j
  have h6 : (L.take m).getD j 0 = x := by rw [List.getD_eq_getElem?_getD, List.getElem?_take, if_pos (by omega), ← List.getD_eq_getElem?_getD, hx]
  have h7 : val (L.take m) / 2 ^ (32 * (j + 1)) = val ((L.take m).drop (j + 1)) := by
    rw [h4, ← val_drop_succ]
  rw [h3, h6, Int.toNat_natCast, ← h7, hv, val, Int.toNat_natCast, ← h1]
  omega

theorem bitLen_div10 {n : Nat} (h : n ≠ 0) : bitLen (n / 10) + 1 ≤ bitLen n := by
  rw [bitLen_pos h]
  have := bitLen_mono (show n / 10 ≤ n / 2 by omega)
  omega
theorem decL_len (n : Nat) : (decL n).length ≤ bitLen n := by
  induction n using Nat.strongRecOn with
  | _ n ih =>
    by_cases h : n = 0
    · subst h; rw [decL, if_pos rfl]; simp
    · rw [decL_step h, List.length_cons]
      have := ih (n / 10) (Nat.div_lt_self (by omega) (by omega))
      have := bitLen_div10 h
      omega
theorem trimmed_zero {l : List Int} (hl : Limbs l) (ht : trimL l = l) : val l = 0 ↔ l = [] := by
  constructor
  · intro h
    rw [trim_val hl, h, limbsOf_zero] at ht
    exact ht.symm
  · rintro rfl; rfl
theorem trimL_le' (l : List Int) : (trimL l).length ≤ l.length := trimL_le l
theorem trimL_prefix : ∀ l : List Int, l.take (trimL l).length = trimL l
  | [] => rfl
  | x :: r => by
    have ih := trimL_prefix r
    simp only [trimL]
    cases h : trimL r with
    | nil =>
      simp only
      split <;> rfl
    | cons a b =>
      simp only
      rw [h] at ih
      rw [List.length_cons, List.take_succ_cons, ih]
theorem trimL_idem {l : List Int} (h : Limbs l) : trimL (trimL l) = trimL l := by
  rw [trim_val h, trim_val (limbs_limbsOf _), val_limbsOf]
theorem val_trim {l : List Int} (h : Limbs l) : val (trimL l) = val l := by rw [trim_val h, val_limbsOf]

theorem take_full {A B : List Int} {m : Nat} (h : A.length = m) : (A ++ B).take m = A := by subst h; simp

structure EmSt where
  k : Nat
  r : Nat
  d : List Int

theorem emit_step {r q k : Nat} (hk : k < 9) (hr : r < 10 ^ (9 - k)) (h : r + 10 ^ (9 - k) * q ≠ 0) :
    decL (r + 10 ^ (9 - k) * q) = (48 + ((r % 10 : Nat) : Int)) :: decL (r / 10 + 10 ^ (9 - (k + 1)) * q) ∧ r / 10 < 10 ^ (9 - (k + 1)) := by
  have hp : 10 ^ (9 - k) = 10 * 10 ^ (9 - (k + 1)) := by rw [show 9 - k = (9 - (k + 1)) + 1 by omega, Nat.pow_succ, Nat.mul_comm]
  rw [hp] at hr h ⊢
  rw [decL_step h, Nat.mul_assoc]
  generalize 10 ^ (9 - (k + 1)) = p at *
  generalize p * q = t at *
  refine ⟨?_, by omega⟩
  rw [show (r + 10 * t) % 10 = r % 10 by omega, show (r + 10 * t) / 10 = r / 10 + t by omega]

theorem getD_set (l : List Int) (k : Nat) (y : Int) (x : Nat) (h : k < l.length) : (l.set k y).getD x 0 = if x = k then y else l.getD x 0 := by
  rw [List.getD_eq_getElem?_getD, List.getElem?_set, List.getD_eq_getElem?_getD]
  by_cases hx : k = x
  · subst hx; simp [h]
  · rw [if_neg hx, if_neg (fun e => hx e.symm)]
structure RevSt where
  i : Nat
  l : List Int
set_option maxRecDepth 8000 in
set_option maxHeartbeats 4000000 in
theorem decimal_c {a : List Int} (ha : a.length ≤ 1048576) (la : Limbs a) : callP Tryd.prog 65 [ints .u32 a] (· = .str (decS (val a))) := by
  have hsa : Short a := by unfold Short; omega
  have hbl : bitLen (val a) ≤ 33554432 := by
    have := bitLen_le.2 (val_lt la)
    omega
  have hdl := decL_len (val a)
  have hll : (limbsOf (val a)).length ≤ a.length := by rw [← trim_val la]; exact trimL_le a
  have hlt : trimL (limbsOf (val a)) = limbsOf (val a) := by rw [trim_val (limbs_limbsOf _), val_limbsOf]
  have hlv := val_limbsOf (val a)
  have hlb := limbs_limbsOf (val a)
  have hno := norm_own hsa la
  generalize val a = n at *
  generalize limbsOf n = L0 at *
  refine callE_def env (fn := Tryd.f65) rfl (by decide) rfl ?_
  refine callT_frame [] rfl hno ?_
  rintro v H' ⟨rfl, rfl⟩
  refine loop_weak (fun s : DcSt => slots 91 [(3, .slice ⟨0, 0, 0⟩ s.m), (4, .slice ⟨1, 0, 0⟩ s.d.length)]) (fun s => [.ints .u32 s.l, .ints .u8 s.d])
    (DcOk n L0.length) (fun s => val (s.l.take s.m)) ⟨L0, L0.length, []⟩ ⟨rfl, Nat.le_refl _, hlb, by simp only [List.take_length]; exact hlt, by simp only [List.take_length]; rw [hlv]; rfl⟩
    ((weak_nil 4 (.ints .u8 []) rfl rfl).trans (weak_keep (keep 91 [3, 4]) [0, 1] rfl rfl rfl)) ?_
  rintro ⟨l, m, d⟩ ⟨hl, hm, hli, htr, hd⟩
  simp only at hl hm hli htr hd
  have hdlen : d.length ≤ 33554432 := by
    have := congrArg List.length hd
    rw [List.length_append] at this
    omega
  have hml := take_len l (show m ≤ l.length by omega)
  apply branch_intro <;> intro h
  · have hm0 : 0 < m := by simp at h; omega
    have hcur : val (l.take m) ≠ 0 := fun h0 => by
      have := (trimmed_zero (limbs_take hli m) htr).1 h0
      rw [this] at hml
      simp at hml
      omega
    have em : IntKind.i64.wrap ((m : Int) - 1) = (m : Int) - 1 := wi (by omega) (by omega)
    refine loop_weak (fun s : DvSt => slots 91 [(3, .slice ⟨0, 0, 0⟩ m), (4, .slice ⟨1, 0, 0⟩ d.length), (5, .int .u64 s.r), (6, .int .i64 ((s.j : Int) - 1))]) (fun s => [.ints .u32 (l.take s.j ++ (s.b ++ l.drop m)), .ints .u8 d])
      (fun s => s.j ≤ m ∧ s.b.length = m - s.j ∧ Limbs s.b ∧ s.r < 1000000000 ∧ val (l.take m) / 2 ^ (32 * s.j) = val s.b * 1000000000 + s.r) (fun s => s.j) ⟨m, 0, []⟩
      ⟨Nat.le_refl _, by simp, (fun x hx => by cases hx), by simp, by
        simp only [val]
        have := val_lt (limbs_take hli m)
        rw [hml] at this
        rw [Nat.div_eq_of_lt this]⟩
      (weak_keep (keep 91 [3, 4, 5, 6]) [0, 1] rfl (by rw [em]; rfl) (by
        show [Blk.ints _ _, Blk.ints _ _] = [Blk.ints _ _, Blk.ints _ _]
        simp only [List.nil_append, List.take_append_drop])) ?_
    rintro ⟨j, r, b⟩ ⟨hj, hb, hbl', hr, hv⟩
    simp only at hj hb hbl' hr hv
    apply branch_intro <;> intro h2
    · obtain ⟨i, rfl⟩ : ∃ i, j = i + 1 := ⟨j - 1, by simp at h2; omega⟩
      have ej : ((i + 1 : Nat) : Int) - 1 = i := by omega
      have et : ((i : Int)).toNat = i := by omega
      have xb := limb_bound hli i
      obtain ⟨x, hx⟩ : ∃ x : Nat, l.getD i 0 = x := ⟨(l.getD i 0).toNat, by omega⟩
      obtain ⟨t, ht⟩ : ∃ t, t = r * 4294967296 + x := ⟨_, rfl⟩
      obtain ⟨h3, h4⟩ := div_inv hli (m := m) (j := i) (r := r) (b := b) (by omega) (by omega) hr hv hx ht
      have hmid := mid_at (l := l) (b := b ++ l.drop m) (j := i) (by omega)
      rw [hx] at hmid
      have hbk : (l.take (i + 1) ++ (b ++ l.drop m)).length = l.length := by simp; omega
      have e1 : IntKind.u64.wrap ((r : Int) * 2 ^ (min (32 : Int).toNat IntKind.u64.bits)) = ((r * 4294967296 : Nat) : Int) := by
        have : min (32 : Int).toNat IntKind.u64.bits = 32 := by decide
        rw [this, wu64 (by omega) (by omega)]
        omega
      have e2 : IntKind.u64.wrap (x : Int) = (x : Int) := wu64 (by omega) (by omega)
      have e3 := or_shl32 (r := r) (x := x) (by omega) (by omega)
      rw [← ht] at e3
      have htl : t < 4294967296000000000 := by omega
      have e4 : IntKind.u64.wrap ((t : Int).tdiv 1000000000) = ((t / 1000000000 : Nat) : Int) := by rw [Int.tdiv_eq_ediv_of_nonneg (by omega), wu64 (by omega) (by omega)]; omega
      have e5 : IntKind.u32.wrap ((t / 1000000000 : Nat) : Int) = ((t / 1000000000 : Nat) : Int) := wu32 (by omega) (by omega)
      have e6 : (t : Int).tmod 1000000000 = ((t % 1000000000 : Nat) : Int) := by rw [Int.tmod_eq_emod_of_nonneg (by omega)]; omega
      apply need_intro
      · decide
      apply need_intro
      · simp only [ej]; omega
      apply need_intro
      · simp only [ej, et]; omega
      apply need_intro
      · decide
      apply need_intro
      · simp only [ej]; omega
      apply need_intro
      · simp only [ej, et]; omega
      apply need_intro
      · decide
      refine ⟨⟨i, t % 1000000000, ((t / 1000000000 : Nat) : Int) :: b⟩, ⟨by simp only; omega, by simp only [List.length_cons]; omega, ?_, Nat.mod_lt _ (by omega), h3⟩, by simp only; omega, weak_keep (keep 91 [3, 4, 5, 6]) [0, 1] rfl ?_ ?_⟩
      · intro y hy
        rcases List.mem_cons.1 hy with rfl | hy
        · omega
        · exact hbl' y hy
      · simp only [ej, et, Nat.zero_add, Nat.add_zero, hmid, e1, e2, e3, e6]
        rw [wi (x := (i : Int) - 1) (by omega) (by omega)]
        rfl
      · simp only [ej, et, Nat.zero_add, Nat.add_zero, hmid, e1, e2, e3, e4, e5]
        rw [mid_put (by omega)]
        rfl
    · have hj0 : j = 0 := by simp at h2; omega
      subst hj0
      rw [Nat.mul_zero, Nat.pow_zero, Nat.div_one] at hv
      have hb : b.length = m := by simpa using hb
      simp only [List.take_zero, List.nil_append]
      have hbt : (b ++ l.drop m).take m = b := take_full hb
      have hbk : (b ++ l.drop m).length = l.length := by simp; omega
      have hto := trim_own (l := b ++ l.drop m) (m := m) (by omega) (by unfold Short; omega)
      rw [hbt] at hto
      refine callT_frame [0] rfl hto ?_
      rintro v H' ⟨rfl, rfl⟩
      have hpre := trimL_prefix b
      have htl := trimL_le' b
      have hvt := val_trim hbl'
      have htk : (b ++ l.drop m).take (trimL b).length = trimL b := by
        rw [List.take_append_of_le_length htl, hpre]
      have htn : (trimL b).length = 0 ↔ val b = 0 := by
        rw [← hvt, trimmed_zero (by rw [trim_val hbl']; exact limbs_limbsOf _) (trimL_idem hbl')]
        exact List.length_eq_zero_iff
      refine loop_weak (fun s : EmSt => slots 91 [(3, .slice ⟨0, 0, 0⟩ (trimL b).length), (4, .slice ⟨1, 0, 0⟩ s.d.length), (5, .int .u64 s.r), (7, .int .i64 s.k)]) (fun s => [.ints .u32 (b ++ l.drop m), .ints .u8 s.d])
        (fun s => s.k ≤ 9 ∧ s.r < 10 ^ (9 - s.k) ∧ decL n = s.d ++ decL (s.r + 10 ^ (9 - s.k) * val b)) (fun s => 9 - s.k) ⟨0, r, d⟩
        ⟨by simp, hr, by simp only; rw [hd, hv]; congr 2; show val b * 1000000000 + r = r + 1000000000 * val b; omega⟩
        (weak_keep (keep 91 [3, 4, 5, 7]) [0, 1] rfl rfl rfl) ?_
      rintro ⟨k, r2, d2⟩ ⟨hk, hr2, hd2⟩
      simp only at hk hr2 hd2
      have hd2len : d2.length ≤ 33554432 := by
        have := congrArg List.length hd2
        rw [List.length_append] at this
        omega
      -- the end of the round
      have fin : r2 + 10 ^ (9 - k) * val b = val b → ∀ tm : List AVal, ∃ s' : DcSt, DcOk n L0.length s' ∧ val (s'.l.take s'.m) < val (l.take m) ∧ s' = ⟨b ++ l.drop m, (trimL b).length, d2⟩ := by
        intro he _
        refine ⟨_, ⟨by simp only; omega, by simp only; omega, limbs_app hbl' (limbs_drop hli m), by simp only; rw [htk]; exact trimL_idem hbl', ?_⟩, ?_, rfl⟩
        · simp only
          rw [htk, hvt, hd2, he]
        · simp only
          rw [htk, hvt]
          omega
      have emit : ∀ (hk9 : k < 9) (hne : r2 + 10 ^ (9 - k) * val b ≠ 0), k + 1 ≤ 9 ∧ r2 / 10 < 10 ^ (9 - (k + 1)) ∧ decL n = (d2 ++ [48 + ((r2 % 10 : Nat) : Int)]) ++ decL (r2 / 10 + 10 ^ (9 - (k + 1)) * val b) := by
        intro hk9 hne
        obtain ⟨h3, h4⟩ := emit_step hk9 hr2 hne
        refine ⟨by omega, h4, ?_⟩
        rw [hd2, h3, List.append_assoc]
        rfl
      have hr2b : r2 < 1000000000 := Nat.lt_of_lt_of_le hr2 (by
        show 10 ^ (9 - k) ≤ 10 ^ 9
        exact Nat.pow_le_pow_right (by omega) (by omega))
      have f1 : (r2 : Int).tmod 10 = ((r2 % 10 : Nat) : Int) := by rw [Int.tmod_eq_emod_of_nonneg (by omega)]; omega
      have f2 : IntKind.u64.wrap (48 + ((r2 % 10 : Nat) : Int)) = 48 + ((r2 % 10 : Nat) : Int) := wu64 (by omega) (by omega)
      have f3 : IntKind.u8.wrap (48 + ((r2 % 10 : Nat) : Int)) = 48 + ((r2 % 10 : Nat) : Int) := wu8 (by omega) (by omega)
      have f4 : IntKind.u64.wrap ((r2 : Int).tdiv 10) = ((r2 / 10 : Nat) : Int) := by rw [Int.tdiv_eq_ediv_of_nonneg (by omega), wu64 (by omega) (by omega)]; omega
      have f5 : IntKind.i64.wrap ((k : Int) + 1) = ((k + 1 : Nat) : Int) := by rw [wi (by omega) (by omega)]; rfl
      have leave : ∀ (he : r2 + 10 ^ (9 - k) * val b = val b) (tm : List AVal) (hp : Heap), forget (keep 91 [3, 4]) tm = slots 91 [(3, .slice ⟨0, 0, 0⟩ (trimL b).length), (4, .slice ⟨1, 0, 0⟩ d2.length)] → hp = [.ints .u32 (b ++ l.drop m), .ints .u8 d2] →
          ∃ s' : DcSt, DcOk n L0.length s' ∧ val (s'.l.take s'.m) < val (l.take m) ∧ WeakS 0 tm hp (slots 91 [(3, .slice ⟨0, 0, 0⟩ s'.m), (4, .slice ⟨1, 0, 0⟩ s'.d.length)]) [.ints .u32 s'.l, .ints .u8 s'.d] := by
        intro he tm hp h1 h2
        obtain ⟨s', a1, a2, a3⟩ := fin he tm
        subst h2
        refine ⟨s', a1, a2, ?_⟩
        rw [a3]
        rw [← h1]
        exact weak_forget 0 _ tm _
      apply branch_intro <;> intro h5
      · have hk9 : k < 9 := by simp at h5; omega
        repeat (first | refine branch_true ?_ | refine branch_false ?_)
        apply branch_intro <;> intro h6
        · have hr0 : 0 < r2 := by simp at h6; omega
          repeat (first | refine branch_true ?_ | refine branch_false ?_)
          apply need_intro
          · decide
          apply choice_l
          apply need_intro
          · show (d2.length + 1) * 1 ≤ 2 ^ 40
            omega
          apply need_intro
          · exact ⟨by simp, isRow_irow _ _ _⟩
          apply need_intro
          · decide
          refine ⟨⟨k + 1, r2 / 10, d2 ++ [48 + ((r2 % 10 : Nat) : Int)]⟩, emit hk9 (by omega), by simp only; omega, weak_keep (keep 91 [3, 4, 5, 7]) [0, 1] rfl ?_ ?_⟩
          · simp only [f4, f5, List.length_append, List.length_cons, List.length_nil]
            rfl
          · show [Blk.ints _ _, Blk.ints _ _] = _
            simp only [f1, f2, f3]
            rw [snoc_row]
        · have hr0 : r2 = 0 := by simp at h6; omega
          repeat (first | refine branch_true ?_ | refine branch_false ?_)
          apply branch_intro <;> intro h7
          · have hb0 : val b ≠ 0 := fun h0 => by
              have := htn.2 h0
              rw [this] at h7
              simp at h7
            have hpos : 0 < 10 ^ (9 - k) * val b := Nat.mul_pos (Nat.pow_pos (by omega)) (by omega)
            repeat (first | refine branch_true ?_ | refine branch_false ?_)
            apply need_intro
            · decide
            apply choice_l
            apply need_intro
            · show (d2.length + 1) * 1 ≤ 2 ^ 40
              omega
            apply need_intro
            · exact ⟨by simp, isRow_irow _ _ _⟩
            apply need_intro
            · decide
            refine ⟨⟨k + 1, r2 / 10, d2 ++ [48 + ((r2 % 10 : Nat) : Int)]⟩, emit hk9 (Nat.ne_of_gt (Nat.add_pos_right _ hpos)), by simp only; omega, weak_keep (keep 91 [3, 4, 5, 7]) [0, 1] rfl ?_ ?_⟩
            · simp only [f4, f5, List.length_append, List.length_cons, List.length_nil]
              rfl
            · show [Blk.ints _ _, Blk.ints _ _] = _
              simp only [f1, f2, f3]
              rw [snoc_row]
          · have hb0 : val b = 0 := htn.1 (by have := of_decide_eq_false h7; omega)
            repeat (first | refine branch_true ?_ | refine branch_false ?_)
            exact leave (by rw [hr0, hb0]; simp) _ _ rfl rfl
      · have hk9 : k = 9 := by simp at h5; omega
        subst hk9
        repeat (first | refine branch_true ?_ | refine branch_false ?_)
        have hr0 : r2 = 0 := by simpa using hr2
        exact leave (by rw [hr0]; simp) _ _ rfl rfl
  · have hm0 : m = 0 := by simp at h; omega
    subst hm0
    have hd : decL n = d := by
      rw [hd, List.take_zero]
      show d ++ decL 0 = d
      rw [decL, if_pos rfl, List.append_nil]
    apply branch_intro <;> intro h2
    · have hd0 : d = [] := List.eq_nil_of_length_eq_zero (by simp at h2; simp [h2])
      have hn0 : n = 0 := by
        apply Classical.byContradiction
        intro hn
        rw [decL_step hn, hd0] at hd
        cases hd
      subst hn0
      show Eqv _ _
      have : decS 0 = ⟨#[48]⟩ := by rw [decS, decD_small (by omega)]; rfl
      rw [this]
      exact .up (.up (.refl _))
    · have hn0 : n ≠ 0 := by
        rintro rfl
        rw [decL, if_pos rfl] at hd
        subst hd
        simp at h2
      have hda : ascii (decD n) = d := by rw [← hd, decL, if_neg hn0]
      have hd0 : 0 < d.length := by
        rw [← hda, ascii, List.length_map]
        by_cases h1 : n < 10
        · rw [decD_small h1]; simp
        · rw [decD_big h1]; simp
      have em : IntKind.i64.wrap ((d.length : Int) - 1) = ((d.length - 1 : Nat) : Int) := by rw [wi (by omega) (by omega)]; omega
      refine loop_weak (fun s : RevSt => slots 91 [(4, .slice ⟨0, 0, 0⟩ d.length), (8, .int .i64 s.i), (9, .int .i64 ((d.length : Int) - 1 - s.i))]) (fun s => [.ints .u8 s.l])
        (fun s => 2 * s.i ≤ d.length ∧ s.l.length = d.length ∧ ∀ x, x < d.length → s.l.getD x 0 = if x < s.i ∨ d.length - s.i ≤ x then d.getD (d.length - 1 - x) 0 else d.getD x 0) (fun s => d.length - s.i) ⟨0, d⟩
        ⟨by simp, rfl, fun x hx => by rw [if_neg (by simp only; omega)]⟩
        (weak_keep (keep 91 [4, 8, 9]) [1] rfl (by rw [em]; simp only [show ((d.length : Int) - 1 - ((0 : Nat) : Int)) = ((d.length - 1 : Nat) : Int) by omega]; rfl) rfl) ?_
      rintro ⟨i, r⟩ ⟨hi, hr, hx⟩
      simp only at hi hr hx
      apply branch_intro <;> intro h3
      · have h3 : 2 * i + 1 < d.length := by simp at h3; omega
        obtain ⟨k, hk⟩ : ∃ k : Nat, (d.length : Int) - 1 - i = k := ⟨d.length - 1 - i, by omega⟩
        have et : ((i : Int)).toNat = i := by omega
        have ek : ((k : Int)).toNat = k := by omega
        refine draw_intro [0, 1, 2, 3, 4, 5, 6, 7, 8, 9, 10, 11, 12, 13, 14, 15] (by decide +kernel) ?_
        have hki : k = d.length - 1 - i := by omega
        have ei : IntKind.i64.wrap ((i : Int) + 1) = ((i + 1 : Nat) : Int) := by rw [wi (by omega) (by omega)]; rfl
        have ej : IntKind.i64.wrap ((k : Int) - 1) = (d.length : Int) - 1 - ((i + 1 : Nat) : Int) := by rw [wi (by omega) (by omega)]; omega
        apply need_intro
        · simp only [hk]; omega
        apply need_intro
        · simp only [hk, ek]; omega
        apply need_intro
        · simp only; omega
        apply need_intro
        · simp only [et]; omega
        apply need_intro
        · simp only; omega
        apply need_intro
        · simp only [et]; omega
        apply need_intro
        · simp only [hk]; omega
        apply need_intro
        · simp only [hk, ek, List.length_set]; omega
        refine ⟨⟨i + 1, (r.set i (r.getD k 0)).set k (r.getD i 0)⟩, ⟨by simp only; omega, by simp only [List.length_set]; exact hr, fun x hxl => ?_⟩, by simp only; omega, weak_keep (keep 91 [4, 8, 9]) [0] rfl ?_ ?_⟩
        · simp only
          rw [getD_set _ _ _ _ (by rw [List.length_set]; omega), getD_set _ _ _ _ (by omega)]
          have hxi := hx i (by omega)
          have hxk := hx k (by omega)
          rw [if_neg (by omega)] at hxi hxk
          by_cases h4 : x = k
          · subst h4
            rw [if_pos rfl, if_pos (by omega), hxi]
            congr 1
            omega
          · rw [if_neg h4]
            by_cases h5 : x = i
            · subst h5
              rw [if_pos rfl, if_pos (by omega), hxk]
              congr 1
            · rw [if_neg h5, hx x hxl]
              by_cases h6 : x < i ∨ d.length - i ≤ x
              · rw [if_pos h6, if_pos (by omega)]
              · rw [if_neg h6, if_neg (by omega)]
        · simp only [hk, ei, ej]
          rfl
        · simp only [hk, et, ek, Nat.zero_add, Nat.add_zero]
          rfl
      · have h3 : ¬ 2 * i + 1 < d.length := by simp at h3; omega
        have hrev : r = d.reverse := by
          refine list_eq_of_getD (by rw [hr, List.length_reverse]) fun x hxl => ?_
          rw [hr] at hxl
          have e : d.reverse.getD x 0 = d.getD (d.length - 1 - x) 0 := by
            rw [List.getD_eq_getElem?_getD, List.getElem?_reverse hxl, ← List.getD_eq_getElem?_getD]
          rw [hx x hxl, e]
          split
          · rfl
          · congr 1
            omega
        apply need_intro
        · simp only; omega
        apply need_intro
        · exact fun _ _ => ⟨_, rfl⟩
        show Eqv _ _
        have e2 : rowsInts .u8 d.length (fun q => [AVal.int .u8 (r.getD (0 + q) 0)]) = r := by
          have := ints_of_row (kk := .u8) r
          rw [hr] at this
          rw [← this]
          congr 1
          funext q
          rw [Nat.zero_add, this]
          rfl
        rw [e2, hrev, decS, hda]
        exact .up (.up (.refl _))
end Go.Proofs.N13
/-! Og. -/
namespace Go.Proofs.N13
open Go.E
set_option maxRecDepth 8000

def shlV (v : Nat) (n : Int) : AVal := if n < 0 then .tuple [.ro 1 0 (irow .u32 []), .int .i64 2] else limited (2 ^ n.toNat * v)
theorem shlV_closed (v : Nat) (n : Int) : (shlV v n).closed2 = true := by unfold shlV; split; rfl; exact limited_closed _
def shrV (v : Nat) (n : Int) : AVal := if n < 0 then .tuple [.ro 1 0 (irow .u32 []), .int .i64 2] else limited (v / 2 ^ n.toNat)
theorem shrV_closed (v : Nat) (n : Int) : (shrV v n).closed2 = true := by unfold shrV; split; rfl; exact limited_closed _
theorem limited_zero : limited 0 = .tuple [.ro 1 0 (irow .u32 []), .int .i64 0] := by rw [limited, bitLen_zero, if_neg (by omega), limbsOf_zero]; rfl

theorem two_mid {s : Nat} (hs : s < 32) : ∃ e, 4294967296 = 2 ^ s * e ∧ 2 ^ s < 4294967296 := by
  obtain ⟨e, he⟩ := two32 hs
  refine ⟨2 * e, he, ?_⟩
  have : 2 ^ s < 2 ^ 32 := Nat.pow_lt_pow_right (by omega) hs
  exact this
/-- A limb shifted, and the carry. -/
theorem shl_limb {c x s : Nat} (hs : s < 32) (hc : c < 2 ^ s) (hx : x < 4294967296) :
    IntKind.u64.wrap ((BitVec.ofInt IntKind.u64.bits (c : Int) ||| BitVec.ofInt IntKind.u64.bits (IntKind.u64.wrap ((x : Int) * 2 ^ (min s IntKind.u64.bits)))).toNat : Int) = ((c + 2 ^ s * x : Nat) : Int) ∧ c + 2 ^ s * x < 18446744073709551616 ∧ (c + 2 ^ s * x) / 4294967296 < 2 ^ s := by
  obtain ⟨e, he, hlt⟩ := two_mid hs
  have hm : 2 ^ s * (x + 1) ≤ 2 ^ s * 4294967296 := Nat.mul_le_mul_left _ (by omega)
  rw [Nat.mul_add, Nat.mul_one] at hm
  have hb : 2 ^ s * 4294967296 ≤ 4294967296 * 4294967296 := Nat.mul_le_mul_right _ (Nat.le_of_lt hlt)
  have hdiv : (c + 2 ^ s * x) / 4294967296 < 2 ^ s := (Nat.div_lt_iff_lt_mul (by omega)).2 (by omega)
  generalize hp : 2 ^ s * x = t at *
  have e1 : IntKind.u64.wrap ((x : Int) * 2 ^ (min s IntKind.u64.bits)) = (t : Int) := by
    have h64 : IntKind.u64.bits = 64 := rfl
    rw [h64, Nat.min_eq_left (by omega)]
    have : (x : Int) * 2 ^ s = ((2 ^ s * x : Nat) : Int) := by rw [Nat.mul_comm]; simp
    rw [this, hp]
    exact wu64 (by omega) (by omega)
  rw [e1]
  have h1 : (BitVec.ofInt IntKind.u64.bits (c : Int)).toNat = c := by
    rw [BitVec.ofInt_natCast, BitVec.toNat_ofNat]
    exact Nat.mod_eq_of_lt (by show c < 18446744073709551616; omega)
  have h2 : (BitVec.ofInt IntKind.u64.bits (t : Int)).toNat = t := by
    rw [BitVec.ofInt_natCast, BitVec.toNat_ofNat]
    exact Nat.mod_eq_of_lt (by show t < 18446744073709551616; omega)
  rw [BitVec.toNat_or, h1, h2]
  have h3 := Nat.two_pow_add_eq_or_of_lt (i := s) (b := c) hc x
  rw [hp] at h3
  rw [Nat.or_comm, ← h3, Nat.add_comm t c]
  exact ⟨wu64 (by omega) (by omega), by omega, hdiv⟩
theorem shl_sum {p c x s V P : Nat} (S : Nat) (hs : s = c + S * x) (h : V + p * c = P) : V + p * (s % 4294967296) + p * 4294967296 * (s / 4294967296) = P + p * S * x := by
  have hd := Nat.div_add_mod s 4294967296
  generalize s / 4294967296 = q at *
  generalize s % 4294967296 = r at *
  have h1 : p * r + p * 4294967296 * q = p * c + p * S * x := by
    rw [Nat.mul_assoc p 4294967296, ← Nat.mul_add, Nat.add_comm r, hd, hs, Nat.mul_add, Nat.mul_assoc]
  omega

set_option maxRecDepth 4000 in
set_option maxHeartbeats 2000000 in
theorem shl_c {a : List Int} (ha : Small a) (la : Limbs a) {n : Int} (hn : -9223372036854775808 ≤ n ∧ n ≤ 9223372036854775807) : callP Tryd.prog 98 [ints .u32 a, .int .i64 n] (· = shlV (val a) n) := by
  have sa := trim_short ha.short
  refine callE_def env (fn := Tryd.f98) rfl (by decide) (shlV_closed _ _) ?_
  apply branch_intro <;> intro h
  · have h : n < 0 := by simpa using h
    show Eqv _ (shlV _ _)
    rw [shlV, if_pos h]
    exact .tuple (.cons (.up (.nil _ _)) (.cons (.up (.refl _)) .nil))
  have h : ¬ n < 0 := by simpa using h
  refine callT_E (trim_c ha.short) rfl ?_
  unfold Small at ha
  rw [trim_val la] at sa ⊢
  have na : (limbsOf (val a)).length ≤ a.length := by rw [← trim_val la]; exact trimL_le a
  have va := val_limbsOf (val a)
  have la' := limbs_limbsOf (val a)
  generalize hA : limbsOf (val a) = A at sa na va la' ⊢
  rw [← va]
  obtain ⟨k, rfl⟩ : ∃ k : Nat, n = k := ⟨n.toNat, by omega⟩
  rw [shlV, if_neg h, Int.toNat_natCast]
  apply branch_intro <;> intro h2
  · have : A = [] := List.eq_nil_of_length_eq_zero (by simpa using h2)
    subst this
    show Eqv _ (limited _)
    rw [val, Nat.mul_zero, limited_zero]
    exact .tuple (.cons (.up (.nil _ _)) (.cons (.up (.refl _)) .nil))
  have hA0 : val A ≠ 0 := fun h0 => by
    rw [← va] at hA
    rw [h0, limbsOf_zero] at hA
    subst hA
    simp at h2
  have hmul := bitLen_mul (k := k) hA0
  have big : 32768 < k + bitLen (val A) → retE (limited (2 ^ k * val A)) (.tuple [.nilslice, .int .i64 4]) [] := fun hb => by
    show Eqv _ (limited _)
    rw [limited, if_pos (by omega)]
    exact .tuple (.cons (.up (.nil _ _)) (.cons (.up (.refl _)) .nil))
  have hp1 := bitLen_pos hA0
  apply branch_intro <;> intro h3
  · have h3 : 32768 < k := by simp at h3; omega
    repeat (first | refine branch_true ?_ | refine branch_false ?_)
    exact big (by omega)
  have h3 : k ≤ 32768 := by simp at h3; omega
  repeat (first | refine branch_true ?_ | refine branch_false ?_)
  refine callT_E (bits_c sa la') rfl ?_
  repeat (first | refine branch_true ?_ | refine branch_false ?_)
  have ek : IntKind.i64.wrap (32768 - (k : Int)) = 32768 - (k : Int) := wi (by omega) (by omega)
  conv => whnf
  rw [ek]
  apply branch_intro <;> intro h4
  · exact big (by simp at h4; omega)
  have h4 : k + bitLen (val A) ≤ 32768 := by simp at h4; omega
  have t1 : (k : Int).tdiv 32 = ((k / 32 : Nat) : Int) := by rw [Int.tdiv_eq_ediv_of_nonneg (by omega)]; omega
  have t2 : (k : Int).tmod 32 = ((k % 32 : Nat) : Int) := by rw [Int.tmod_eq_emod_of_nonneg (by omega)]; omega
  have t3 : IntKind.i64.wrap ((k / 32 : Nat) : Int) = ((k / 32 : Nat) : Int) := wi (by omega) (by omega)
  have t4 : IntKind.i64.wrap (IntKind.i64.wrap (((k / 32 : Nat) : Int) + A.length) + 1) = ((k / 32 + A.length + 1 : Nat) : Int) := by rw [wi (x := ((k / 32 : Nat) : Int) + A.length) (by omega) (by omega), wi (by omega) (by omega)]; omega
  apply need_intro
  · decide
  apply need_intro
  · decide
  apply need_intro
  · simp only [t1, t3, t4]
    refine ⟨by omega, by omega, ?_, ?_⟩ <;> omega
  apply choice_r
  have hs : k % 32 < 32 := Nat.mod_lt _ (by omega)
  have hkd : 2 ^ k = 2 ^ (32 * (k / 32)) * 2 ^ (k % 32) := by rw [← Nat.pow_add, Nat.div_add_mod]
  refine loop_weak (fun s : AddSt => slots 64 [(1, .int .i64 k), (6, .slice ⟨0, 0, 0⟩ (k / 32 + s.i)), (7, .int .u64 s.c), (35, ints .u32 A), (36, .int .i64 A.length), (37, .int .i64 s.i)]) (fun s => [.ints .u32 s.out])
    (fun s => s.i ≤ A.length ∧ s.out.length = k / 32 + s.i ∧ Limbs s.out ∧ s.c < 2 ^ (k % 32) ∧ val s.out + 2 ^ (32 * (k / 32 + s.i)) * s.c = 2 ^ k * val (A.take s.i)) (fun s => A.length - s.i) ⟨0, 0, List.replicate (k / 32) 0⟩
    ⟨by simp, by simp, (fun x hx => by rw [List.eq_of_mem_replicate hx]; omega), Nat.two_pow_pos _, by simp [zeros_val, val]⟩
    (weak_keep (keep 64 [1, 6, 7, 35, 36, 37]) [0] rfl (by simp only [t1, t3, Int.toNat_natCast]; rfl) (by simp only [t1, t3, Int.toNat_natCast]; rfl)) ?_
  rintro ⟨i, c, out⟩ ⟨hi, hlen, hlo, hc, hv⟩
  simp only at hi hlen hlo hc hv
  have et : ((i : Int)).toNat = i := by omega
  have ei : IntKind.i64.wrap ((i : Int) + 1) = ((i + 1 : Nat) : Int) := by rw [wi (by omega) (by omega)]; rfl
  apply branch_intro <;> intro h5
  · have hin : i < A.length := by simp at h5; omega
    have xa := limb_bound la' i
    obtain ⟨x, hx⟩ : ∃ x : Nat, A.getD i 0 = x := ⟨(A.getD i 0).toNat, by omega⟩
    obtain ⟨s1, s2, s3⟩ := shl_limb (c := c) (x := x) hs hc (by omega)
    obtain ⟨t, ht⟩ : ∃ t, t = c + 2 ^ (k % 32) * x := ⟨_, rfl⟩
    rw [← ht] at s1 s2 s3
    have e2 : IntKind.u64.wrap (x : Int) = (x : Int) := wu64 (by omega) (by omega)
    have e3 : IntKind.u32.wrap (t : Int) = ((t % 4294967296 : Nat) : Int) := by rw [IntKind.wrap_u32]; omega
    have e4 : (t : Int).fdiv (2 ^ (min (32 : Int).toNat IntKind.u64.bits)) = ((t / 4294967296 : Nat) : Int) := by
      have : min (32 : Int).toNat IntKind.u64.bits = 32 := by decide
      rw [this, Int.fdiv_eq_ediv_of_nonneg _ (by decide)]
      omega
    apply need_intro
    · simp only; omega
    apply need_intro
    · decide
    apply need_intro
    · simp only [t2]; omega
    apply choice_l
    apply need_intro
    · show (k / 32 + i + 1) * 4 ≤ 2 ^ 40
      omega
    apply need_intro
    · exact ⟨by show 0 + (k / 32 + i) = out.length; omega, isRow_irow _ _ _⟩
    apply need_intro
    · decide
    refine ⟨⟨i + 1, t / 4294967296, out ++ [((t % 4294967296 : Nat) : Int)]⟩, ⟨by simp only; omega, by simp only [List.length_append, List.length_cons, List.length_nil]; omega, ?_, s3, ?_⟩, by simp only; omega, weak_keep (keep 64 [1, 6, 7, 35, 36, 37]) [0] rfl ?_ ?_⟩
    · intro z hz
      rcases List.mem_append.1 hz with hz | hz
      · exact hlo z hz
      · simp at hz
        omega
    · simp only
      rw [val_snoc, val_take_succ, hlen, hx, Int.toNat_natCast, Int.toNat_natCast, show k / 32 + (i + 1) = (k / 32 + i) + 1 by omega, pow_limb, shl_sum (2 ^ (k % 32)) ht hv, Nat.mul_add (2 ^ k)]
      congr 1
      rw [← Nat.mul_assoc, ← Nat.pow_add, ← Nat.pow_add]
      congr 2
      omega
    · simp only [et, hx, t2, Int.toNat_natCast, e2, s1, e4, ei]
      rfl
    · show [Blk.ints _ _] = _
      simp only [et, hx, t2, Int.toNat_natCast, e2, s1, e3]
      rw [snoc_row]
  · have hin : i = A.length := by simp at h5; omega
    subst hin
    rw [List.take_of_length_le (Nat.le_refl _)] at hv
    obtain ⟨e, he, hpl⟩ := two_mid hs
    have e3 : IntKind.u32.wrap (c : Int) = (c : Int) := wu32 (by omega) (by omega)
    apply choice_l
    apply need_intro
    · show (k / 32 + A.length + 1) * 4 ≤ 2 ^ 40
      omega
    apply need_intro
    · exact ⟨by show 0 + (k / 32 + A.length) = out.length; omega, isRow_irow _ _ _⟩
    have hc := limit_c (l := out ++ [(c : Int)]) (by unfold Short; simp only [List.length_append, List.length_cons, List.length_nil]; omega) (fun z hz => by
      rcases List.mem_append.1 hz with hz | hz
      · exact hlo z hz
      · simp at hz
        omega)
    rw [val_snoc, hlen, Int.toNat_natCast, hv] at hc
    refine callT_last 0 rfl (Nat.le_refl _) ?_ ?_
    · rw [snoc_row]; simp only [List.length_append, List.length_cons, List.length_nil]; omega
    · rw [e3, snoc_row]
      refine callT_E hc rfl ?_
      rw [limited, if_neg (by omega)]
      show Eqv _ _
      exact .up (.up (.refl _))

/-- A limb and the next one, shifted to the right. -/
theorem shr_limb {x y s : Nat} (hs : s < 32) (hx : x < 4294967296) (hy : y < 4294967296) :
    IntKind.u32.wrap ((IntKind.u64.wrap ((BitVec.ofInt IntKind.u64.bits (x : Int) ||| BitVec.ofInt IntKind.u64.bits (IntKind.u64.wrap ((y : Int) * 2 ^ (min (32 : Int).toNat IntKind.u64.bits)))).toNat : Int)).fdiv (2 ^ (min s IntKind.u64.bits))) = (((x + 4294967296 * y) / 2 ^ s % 4294967296 : Nat) : Int) := by
  have e1 : IntKind.u64.wrap ((y : Int) * 2 ^ (min (32 : Int).toNat IntKind.u64.bits)) = ((4294967296 * y : Nat) : Int) := by
    have : min (32 : Int).toNat IntKind.u64.bits = 32 := by decide
    rw [this, wu64 (by omega) (by omega)]
    omega
  have h1 : (BitVec.ofInt IntKind.u64.bits (x : Int)).toNat = x := by
    rw [BitVec.ofInt_natCast, BitVec.toNat_ofNat]
    exact Nat.mod_eq_of_lt (by show x < 18446744073709551616; omega)
  have h2 : (BitVec.ofInt IntKind.u64.bits ((4294967296 * y : Nat) : Int)).toNat = 4294967296 * y := by
    rw [BitVec.ofInt_natCast, BitVec.toNat_ofNat]
    exact Nat.mod_eq_of_lt (by show 4294967296 * y < 18446744073709551616; omega)
  rw [e1, BitVec.toNat_or, h1, h2]
  have h3 := Nat.two_pow_add_eq_or_of_lt (i := 32) (b := x) hx y
  have h32 : 2 ^ 32 * y = 4294967296 * y := rfl
  rw [h32] at h3
  rw [Nat.or_comm, ← h3, Nat.add_comm, wu64 (by omega) (by omega), shr_nat .u64 (by show s ≤ 64; omega), IntKind.wrap_u32]
  omega
theorem shr_digit {l : List Int} (h : Limbs l) {q s i : Nat} (hs : s < 32) (hi : q ≤ i) : ((l.getD i 0).toNat + 4294967296 * (l.getD (i + 1) 0).toNat) / 2 ^ s % 4294967296 = val l / (2 ^ (32 * q) * 2 ^ s) / 2 ^ (32 * (i - q)) % 4294967296 := by
  obtain ⟨e, he, hpl⟩ := two_mid hs
  have h1 := val_div h i
  have h2 := val_drop_succ l (i + 1)
  have h3 : val l / (2 ^ (32 * q) * 2 ^ s) / 2 ^ (32 * (i - q)) = val l / 2 ^ (32 * i) / 2 ^ s := by
    rw [Nat.div_div_eq_div_mul, Nat.div_div_eq_div_mul, Nat.mul_right_comm, ← Nat.pow_add]
    congr 3
    omega
  have h4 : val (l.drop (i + 1)) = (l.getD (i + 1) 0).toNat + 4294967296 * val (l.drop (i + 1 + 1)) := h2
  rw [h3, h1, h4]
  generalize (l.getD i 0).toNat = x
  generalize (l.getD (i + 1) 0).toNat = y
  generalize val (l.drop (i + 1 + 1)) = z
  have h5 : x + 4294967296 * (y + 4294967296 * z) = (x + 4294967296 * y) + 2 ^ s * (e * (4294967296 * z)) := by
    rw [← Nat.mul_assoc, ← he]
    omega
  rw [h5, Nat.add_mul_div_left _ _ (Nat.two_pow_pos _), Nat.mul_left_comm, Nat.add_mul_mod_self_left]

set_option maxRecDepth 4000 in
set_option maxHeartbeats 2000000 in
theorem shr_c {a : List Int} (ha : Small a) (la : Limbs a) {n : Int} (hn : -9223372036854775808 ≤ n ∧ n ≤ 9223372036854775807) : callP Tryd.prog 81 [ints .u32 a, .int .i64 n] (· = shrV (val a) n) := by
  unfold Small at ha
  refine callE_def env (fn := Tryd.f81) rfl (by decide) (shrV_closed _ _) ?_
  apply branch_intro <;> intro h
  · have h : n < 0 := by simpa using h
    show Eqv _ (shrV _ _)
    rw [shrV, if_pos h]
    exact .tuple (.cons (.up (.nil _ _)) (.cons (.up (.refl _)) .nil))
  have h : ¬ n < 0 := by simpa using h
  obtain ⟨k, rfl⟩ : ∃ k : Nat, n = k := ⟨n.toNat, by omega⟩
  rw [shrV, if_neg h, Int.toNat_natCast]
  have t1 : (k : Int).tdiv 32 = ((k / 32 : Nat) : Int) := by rw [Int.tdiv_eq_ediv_of_nonneg (by omega)]; omega
  have t2 : (k : Int).tmod 32 = ((k % 32 : Nat) : Int) := by rw [Int.tmod_eq_emod_of_nonneg (by omega)]; omega
  have t3 : IntKind.i64.wrap ((k / 32 : Nat) : Int) = ((k / 32 : Nat) : Int) := wi (by omega) (by omega)
  have hkd : 2 ^ k = 2 ^ (32 * (k / 32)) * 2 ^ (k % 32) := by rw [← Nat.pow_add, Nat.div_add_mod]
  apply need_intro
  · decide
  conv => whnf
  rw [t1, t3]
  apply branch_intro <;> intro h2
  · have h2 : a.length ≤ k / 32 := by simp at h2; omega
    show Eqv _ (limited _)
    have : val a / 2 ^ k = 0 := by
      refine Nat.div_eq_of_lt (Nat.lt_of_lt_of_le (val_lt la) (Nat.pow_le_pow_right (by omega) ?_))
      omega
    rw [this, limited_zero]
    exact .tuple (.cons (.up (.nil _ _)) (.cons (.up (.refl _)) .nil))
  have h2 : k / 32 < a.length := by simp at h2; omega
  have hs : k % 32 < 32 := Nat.mod_lt _ (by omega)
  refine callT_E (limbs_c a) rfl ?_
  have t4 : IntKind.i64.wrap ((a.length : Int) - ((k / 32 : Nat) : Int)) = ((a.length - k / 32 : Nat) : Int) := by rw [wi (by omega) (by omega)]; omega
  apply need_intro
  · decide
  apply need_intro
  · simp only [t1, t3, t4]
    refine ⟨by omega, by omega, ?_, ?_⟩ <;> omega
  apply choice_r
  apply need_intro
  · decide
  refine loop_weak (fun s : BitSt => slots 52 [(0, ints .u32 a), (1, .int .i64 k), (6, limbF a), (7, .slice ⟨0, 0, 0⟩ s.i), (8, .int .i64 ((k / 32 + s.i : Nat) : Int))]) (fun s => [.ints .u32 s.out])
    (fun s => k / 32 + s.i ≤ a.length ∧ s.out.length = s.i ∧ Limbs s.out ∧ val s.out = val a / 2 ^ k % 2 ^ (32 * s.i)) (fun s => a.length - s.i) ⟨0, []⟩
    ⟨by simp only; omega, rfl, (fun x hx => by cases hx), by simp [val, Nat.mod_one]⟩
    (weak_keep (keep 52 [0, 1, 6, 7, 8]) [0] rfl (by simp only [t1, t3]; rfl) rfl) ?_
  rintro ⟨i, out⟩ ⟨hi, hlen, hlo, hv⟩
  simp only at hi hlen hlo hv
  have ei : IntKind.i64.wrap (((k / 32 + i : Nat) : Int) + 1) = ((k / 32 + (i + 1) : Nat) : Int) := by rw [wi (by omega) (by omega)]; omega
  apply branch_intro <;> intro h5
  · have hin : k / 32 + i < a.length := by simp at h5; omega
    have xa := limb_bound la (k / 32 + i)
    have xb := limb_bound la (k / 32 + i + 1)
    have hd := shr_digit la (q := k / 32) (i := k / 32 + i) hs (by omega)
    rw [← hkd, show k / 32 + i - k / 32 = i by omega] at hd
    obtain ⟨x, hx⟩ : ∃ x : Nat, a.getD (k / 32 + i) 0 = x := ⟨(a.getD (k / 32 + i) 0).toNat, by omega⟩
    obtain ⟨y, hy⟩ : ∃ y : Nat, a.getD (k / 32 + i + 1) 0 = y := ⟨(a.getD (k / 32 + i + 1) 0).toNat, by omega⟩
    rw [hx, hy, Int.toNat_natCast, Int.toNat_natCast] at hd
    have hsh := shr_limb (x := x) (y := y) hs (by omega) (by omega)
    rw [hd] at hsh
    refine callT_E (limb_c (by omega) la) rfl ?_
    refine callT_E (limb_c (by rw [ei]; omega) la) rfl ?_
    apply need_intro
    · decide
    apply need_intro
    · decide
    apply need_intro
    · simp only [t2]; omega
    apply choice_l
    apply need_intro
    · show (i + 1) * 4 ≤ 2 ^ 40
      omega
    apply need_intro
    · exact ⟨by show 0 + i = out.length; omega, isRow_irow _ _ _⟩
    refine ⟨⟨i + 1, out ++ [((val a / 2 ^ k / 2 ^ (32 * i) % 4294967296 : Nat) : Int)]⟩, ⟨by simp only; omega, by simp only [List.length_append, List.length_cons, List.length_nil]; omega, ?_, ?_⟩, by simp only; omega, weak_keep (keep 52 [0, 1, 6, 7, 8]) [0] rfl ?_ ?_⟩
    · intro z hz
      rcases List.mem_append.1 hz with hz | hz
      · exact hlo z hz
      · simp at hz
        omega
    · simp only
      rw [val_snoc, hlen, Int.toNat_natCast, hv, pow_limb, Nat.mod_mul]
    · rw [ei]
      rfl
    · show [Blk.ints _ _] = _
      have e1 : ((((k / 32 + i : Nat) : Int)).toNat) = k / 32 + i := by omega
      have e2 : ((((k / 32 + (i + 1) : Nat) : Int)).toNat) = k / 32 + i + 1 := by omega
      simp only [ei, e1, e2, hx, hy, t2, Int.toNat_natCast]
      rw [hsh, snoc_row]
  · have hin : k / 32 + i = a.length := by simp at h5; omega
    have hfull : val a / 2 ^ k < 2 ^ (32 * i) := by
      refine (Nat.div_lt_iff_lt_mul (Nat.two_pow_pos _)).2 ?_
      rw [← Nat.pow_add]
      exact Nat.lt_of_lt_of_le (val_lt la) (Nat.pow_le_pow_right (by omega) (by omega))
    rw [Nat.mod_eq_of_lt hfull] at hv
    have hc := limit_c (l := out) (by unfold Short; omega) hlo
    rw [hv] at hc
    refine callT_last 0 rfl (Nat.le_refl _) hlen.symm ?_
    refine callT_E hc rfl ?_
    unfold limited
    split
    · show Eqv _ _
      exact .up (.up (.refl _))
    · show Eqv _ _
      exact .up (.up (.refl _))
end Go.Proofs.N13
