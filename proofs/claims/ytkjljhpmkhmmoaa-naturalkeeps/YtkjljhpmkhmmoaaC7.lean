/- Chapter 13, part sa: results as own blocks, for NaturalKeeps. -/
import Derived.Test.YtkjljhpmkhmmoaaC6
import Derived.Test.YtkjljhpmkhmmoaaE5
set_option linter.unusedVariables false
set_option linter.unusedSimpArgs false
/-! Sa. -/
namespace Go.Proofs
open Go.E

/-- No number, or the first limbs of an own block. -/
def OwnR (v : AVal) (b : Nat) (l : List Int) : Prop := Short l ∧ (v = .nilslice ∨ ∃ n, n ≤ l.length ∧ v = .slice ⟨b, 0, 0⟩ n)
set_option maxRecDepth 8000 in
theorem limit_own {l : List Int} {m : Nat} (hm : m ≤ l.length) (hs : Short l) (hl : Limbs l) : callN Try.prog 47 [.slice ⟨0, 0, 0⟩ m] [.ints .u32 l] fun v H' => (∃ r e, v = .tuple [r, .int .i64 e] ∧ OwnR r 0 l) ∧ H' = [.ints .u32 l] := by
  refine callN_def env (fn := Try.f47) 1 rfl rfl (by decide) ?_
  refine callT_frame [0] rfl (trim_own hm hs) ?_
  rintro v H' ⟨rfl, rfl⟩
  have hle : (trimL (l.take m)).length ≤ l.length := Nat.le_trans (trimL_le' _) (by rw [List.length_take]; omega)
  have hk : l.take (trimL (l.take m)).length = trimL (l.take m) := by
    have := trimL_prefix (l.take m)
    rw [List.take_take, Nat.min_eq_left (by have := trimL_le' (l.take m); rw [List.length_take] at this; omega)] at this
    exact this
  have hL : Limbs (trimL (l.take m)) := by
    rw [← hk]
    exact limbs_take hl _
  have hb := bits_c (l := trimL (l.take m)) (by unfold Short at *; omega) hL
  generalize trimL (l.take m) = t at *
  refine callT_lend (R := fun v => v = .int .i64 (bitLen (val t))) ?_ ?_
  · apply need_intro
    · show 0 + t.length ≤ l.length
      omega
    · refine whenB_iff.2 ⟨rfl, callP_arg (.cons (eqv_part rfl fun i hi => ?_) .nil) hb⟩
      rw [← hk]
      show [AVal.int _ _] = [AVal.int _ _]
      congr 2
      simp only [List.getD_eq_getElem?_getD, List.drop_zero, Nat.zero_add]
      rw [List.getElem?_take, if_pos hi]
  · rintro v rfl
    refine whenB_iff.2 ⟨rfl, ?_⟩
    apply branch_intro <;> intro h
    · exact ⟨⟨_, _, rfl, hs, .inl rfl⟩, rfl⟩
    · exact ⟨⟨_, _, rfl, hs, .inr ⟨_, hle, rfl⟩⟩, rfl⟩
end Go.Proofs
/-! Sb. -/
namespace Go.Proofs
open Go.E

def OwnP (v : AVal) (H' : Heap) : Prop := ∃ e, (v = .tuple [.nilslice, .int .i64 e] ∧ H' = []) ∨ ∃ l, Short l ∧ H' = [.ints .u32 l] ∧ (v = .tuple [.nilslice, .int .i64 e] ∨ ∃ n, n ≤ l.length ∧ v = .tuple [.slice ⟨0, 0, 0⟩ n, .int .i64 e])
def OwnQ (v : AVal) (H' : Heap) : Prop := ∃ n l e, n ≤ l.length ∧ Short l ∧ v = .tuple [.slice ⟨0, 0, 0⟩ n, .int .i64 e] ∧ H' = [.ints .u32 l]
theorem OwnR.pair {r : AVal} {l : List Int} {e : Int} (h : OwnR r 0 l) : OwnP (.tuple [r, .int .i64 e]) [.ints .u32 l] := by
  rcases h with ⟨hs, rfl | ⟨n, hn, rfl⟩⟩
  · exact ⟨e, .inr ⟨_, hs, rfl, .inl rfl⟩⟩
  · exact ⟨e, .inr ⟨_, hs, rfl, .inr ⟨n, hn, rfl⟩⟩⟩
theorem own_all {P : Program} {f : FuncId} {args : List AVal} (h : callN P f args [] OwnP) : callN P f args [] OwnQ := own_pair (p := Short) (by unfold Short; decide) h fun _ _ h => h

theorem add_own {a b : List Int} (ha : Small a) (hb : Small b) (la : Limbs a) (lb : Limbs b) : callN Try.prog 16 [ints .u32 a, ints .u32 b] [] OwnQ := by
  refine own_all ?_
  refine callN_def env (fn := Try.f16) 0 rfl rfl (by decide) ?_
  unfold Small at ha hb
  refine callT_E (limbs_c a) rfl ?_
  refine callT_E (limbs_c b) rfl ?_
  obtain ⟨n, hn⟩ : ∃ n : Nat, n = max a.length b.length := ⟨_, rfl⟩
  have hmax : (if (b.length : Int) > (a.length : Int) then (b.length : Int) else (a.length : Int)) = (n : Int) := by
    split <;> omega
  have hn1 : a.length ≤ n ∧ b.length ≤ n ∧ n < 1073741824 := by omega
  apply need_intro
  · simp only [hmax]
    rw [wi (by omega) (by omega)]
    omega
  apply choice_r
  refine loop_inv (keep 53 [6, 7, 8, 9, 10, 11])
    (fun s : AddSt => slots 53 [(6, limbF a), (7, limbF b), (8, .int .i64 n), (9, .slice ⟨0, 0, 0⟩ s.i), (10, .int .u64 s.c), (11, .int .i64 s.i)])
    (fun s => [.ints .u32 s.out]) (fun s => s.i ≤ n ∧ s.out.length = s.i ∧ Limbs s.out ∧ s.c ≤ 1 ∧ val s.out + 2 ^ (32 * s.i) * s.c = val (a.take s.i) + val (b.take s.i)) (fun s => n - s.i)
    ⟨0, 0, []⟩ ⟨by simp, rfl, (fun x hx => by cases hx), by simp, by simp [val]⟩ ?_ rfl ?_
  · show [_, _, _, _, _, _, _, _, _, _, _, _, _, _, _, _, _, _, _, _, _, _, _, _, _, _, _, _, _, _, _, _, _, _, _, _, _, _, _, _, _, _, _, _, _, _, _, _, _, _, _, _, _] = _
    rw [hmax]
    rfl
  rintro ⟨i, c, out⟩ ⟨hi, hlen, hlo, hc, hv⟩
  simp only at hi hlen hlo hc hv
  apply branch_intro <;> intro h
  · have hin : i < n := by simp at h; omega
    refine callT_E (limb_c (by simp) la) rfl ?_
    refine callT_E (limb_c (by simp) lb) rfl ?_
    have xa := limb_bound la i
    have xb := limb_bound lb i
    have et : ((i : Int)).toNat = i := by simp
    obtain ⟨x, hx⟩ : ∃ x : Nat, a.getD i 0 = x := ⟨(a.getD i 0).toNat, by omega⟩
    obtain ⟨y, hy⟩ : ∃ y : Nat, b.getD i 0 = y := ⟨(b.getD i 0).toNat, by omega⟩
    apply choice_l
    apply need_intro
    · show (i + 1) * 4 ≤ _
      omega
    apply need_intro
    · exact ⟨by rw [hlen]; simp, fun j hj => by
        have : j = 0 := by omega
        subst this
        exact ⟨_, rfl⟩⟩
    -- the limb and the carry
    have e1 : IntKind.u64.wrap ((x : Int) + y) = ((x + y : Nat) : Int) := by rw [wu64 (by omega) (by omega)]; omega
    have e2 : IntKind.u64.wrap ((c : Int) + ((x + y : Nat) : Int)) = ((c + x + y : Nat) : Int) := by rw [wu64 (by omega) (by omega)]; omega
    have e3 : IntKind.u32.wrap ((c + x + y : Nat) : Int) = (((c + x + y) % 4294967296 : Nat) : Int) := by rw [IntKind.wrap_u32]; omega
    have e4 : ((c + x + y : Nat) : Int).fdiv (2 ^ (min (32 : Int).toNat IntKind.u64.bits)) = (((c + x + y) / 4294967296 : Nat) : Int) := by
      have : min (32 : Int).toNat IntKind.u64.bits = 32 := by decide
      rw [this, Int.fdiv_eq_ediv_of_nonneg _ (by decide)]
      omega
    have e5 : IntKind.i64.wrap ((i : Int) + 1) = ((i + 1 : Nat) : Int) := by rw [wi (by omega) (by omega)]; omega
    apply need_intro
    · decide
    refine ⟨⟨i + 1, (c + x + y) / 4294967296, out ++ [(((c + x + y) % 4294967296 : Nat) : Int)]⟩, ⟨by simp only; omega, by simp [hlen], ?_, by simp only; omega, ?_⟩, by simp only; omega, ?_, ?_⟩
    · intro z hz
      rcases List.mem_append.1 hz with hz | hz
      · exact hlo z hz
      · simp at hz
        omega
    · simp only [val_snoc, val_take_succ, hlen, hx, hy, Int.toNat_natCast]
      have hp : 2 ^ (32 * (i + 1)) = 2 ^ (32 * i) * 4294967296 := by
        rw [Nat.mul_add, Nat.mul_one, Nat.pow_add]
      rw [hp]
      generalize 2 ^ (32 * i) = p at hv ⊢
      have hd := Nat.div_add_mod (c + x + y) 4294967296
      generalize (c + x + y) / 4294967296 = q at hd ⊢
      generalize (c + x + y) % 4294967296 = r at hd ⊢
      have : p * 4294967296 * q + p * r = p * c + p * x + p * y := by
        rw [Nat.mul_assoc, ← Nat.mul_add, hd, Nat.mul_add, Nat.mul_add]
      omega
    · show [_, _, _, _, _, _, _, _, _, _, _, _, _, _, _, _, _, _, _, _, _, _, _, _, _, _, _, _, _, _, _, _, _, _, _, _, _, _, _, _, _, _, _, _, _, _, _, _, _, _, _, _, _] = _
      simp only [et, hx, hy, e1, e2, e4, e5]
      rfl
    · simp only [et, hx, hy, e1, e2, e3, List.drop_zero]
      rfl
  · have hin : i = n := by simp at h; omega
    subst hin
    have ta : a.take i = a := List.take_of_length_le hn1.1
    have tb : b.take i = b := List.take_of_length_le hn1.2.1
    rw [ta, tb] at hv
    apply choice_l
    apply need_intro
    · show (i + 1) * 4 ≤ _
      omega
    apply need_intro
    · exact ⟨by rw [hlen]; simp, fun j hj => by
        have : j = 0 := by omega
        subst this
        exact ⟨_, rfl⟩⟩
    have e3 : IntKind.u32.wrap (c : Int) = (c : Int) := wu32 (by omega) (by omega)
    have e6 : List.drop 0 out ++ rowsInts .u32 1 (irow .u32 [IntKind.u32.wrap (c : Int)]) = out ++ [(c : Int)] := by
      rw [e3, List.drop_zero]; rfl
    have hlo' := limit_own (l := out ++ [(c : Int)]) (m := i + 1) (by simp [hlen]) (by unfold Short; simp [hlen]; omega) (by
      intro z hz
      rcases List.mem_append.1 hz with hz | hz
      · exact hlo z hz
      · simp at hz
        omega)
    rw [← e6] at hlo'
    refine callT_frame [0] rfl hlo' ?_
    rintro v H' ⟨⟨r, e, rfl, ho⟩, rfl⟩
    rcases ho with ⟨hs, rfl | ⟨n', hn', rfl⟩⟩
    · exact OwnR.pair ⟨hs, .inl rfl⟩
    · exact OwnR.pair ⟨hs, .inr ⟨n', hn', rfl⟩⟩
theorem sub_own {a b : List Int} (ha : Small a) (hb : Small b) (la : Limbs a) (lb : Limbs b) : callN Try.prog 20 [ints .u32 a, ints .u32 b] [] OwnQ := by
  refine own_all ?_
  refine callN_def env (fn := Try.f20) 0 rfl rfl (by decide) ?_
  refine callT_E (cmp_c ha hb la lb) rfl ?_
  unfold Small at ha hb
  apply branch_intro <;> intro h
  · exact ⟨_, .inl ⟨rfl, rfl⟩⟩
  have hge : val b ≤ val a := by
    unfold cmpN at h
    split at h
    · simp at h
    · omega
  refine callT_E (limbs_c a) rfl ?_
  refine callT_E (limbs_c b) rfl ?_
  apply need_intro
  · omega
  apply choice_r
  refine loop_inv (keep 51 [0, 6, 7, 8, 9, 10])
    (fun s : AddSt => slots 51 [(0, ints .u32 a), (6, limbF a), (7, limbF b), (8, .slice ⟨0, 0, 0⟩ s.i), (9, .int .u64 s.c), (10, .int .i64 s.i)])
    (fun s => [.ints .u32 s.out]) (fun s => s.i ≤ a.length ∧ s.out.length = s.i ∧ Limbs s.out ∧ s.c ≤ 1 ∧ val (a.take s.i) + 2 ^ (32 * s.i) * s.c = val s.out + val (b.take s.i)) (fun s => a.length - s.i)
    ⟨0, 0, []⟩ ⟨by simp, rfl, (fun x hx => by cases hx), by simp, by simp [val]⟩ rfl rfl ?_
  rintro ⟨i, c, out⟩ ⟨hi, hlen, hlo, hc, hv⟩
  simp only at hi hlen hlo hc hv
  apply branch_intro <;> intro h
  · have hin : i < a.length := by simp at h; omega
    refine callT_E (limb_c (by simp) la) rfl ?_
    refine callT_E (limb_c (by simp) lb) rfl ?_
    have xa := limb_bound la i
    have xb := limb_bound lb i
    have et : ((i : Int)).toNat = i := by simp
    obtain ⟨x, hx⟩ : ∃ x : Nat, a.getD i 0 = x := ⟨(a.getD i 0).toNat, by omega⟩
    obtain ⟨y, hy⟩ : ∃ y : Nat, b.getD i 0 = y := ⟨(b.getD i 0).toNat, by omega⟩
    have hx1 : x < 4294967296 := by omega
    have hy1 : y < 4294967296 := by omega
    apply choice_l
    apply need_intro
    · show (i + 1) * 4 ≤ _
      omega
    apply need_intro
    · exact ⟨by rw [hlen]; simp, fun j hj => by
        have : j = 0 := by omega
        subst this
        exact ⟨_, rfl⟩⟩
    obtain ⟨d, hd⟩ : ∃ d : Nat, d = 4294967296 + x - y - c := ⟨_, rfl⟩
    have e1 : IntKind.u64.wrap (4294967296 + (x : Int)) = ((4294967296 + x : Nat) : Int) := by rw [wu64 (by omega) (by omega)]; omega
    have e2 : IntKind.u64.wrap (((4294967296 + x : Nat) : Int) - y) = ((4294967296 + x - y : Nat) : Int) := by rw [wu64 (by omega) (by omega)]; omega
    have e3 : IntKind.u64.wrap (((4294967296 + x - y : Nat) : Int) - c) = (d : Int) := by rw [wu64 (by omega) (by omega)]; omega
    have e4 : IntKind.u32.wrap (d : Int) = ((d % 4294967296 : Nat) : Int) := by rw [IntKind.wrap_u32]; omega
    have e5 : (d : Int).fdiv (2 ^ (min (32 : Int).toNat IntKind.u64.bits)) = ((d / 4294967296 : Nat) : Int) := by
      have : min (32 : Int).toNat IntKind.u64.bits = 32 := by decide
      rw [this, Int.fdiv_eq_ediv_of_nonneg _ (by decide)]
      omega
    have e6 : IntKind.u64.wrap (1 - ((d / 4294967296 : Nat) : Int)) = ((1 - d / 4294967296 : Nat) : Int) := by rw [wu64 (by omega) (by omega)]; omega
    have e7 : IntKind.i64.wrap ((i : Int) + 1) = ((i + 1 : Nat) : Int) := by rw [wi (by omega) (by omega)]; omega
    apply need_intro
    · decide
    refine ⟨⟨i + 1, 1 - d / 4294967296, out ++ [((d % 4294967296 : Nat) : Int)]⟩, ⟨by simp only; omega, by simp [hlen], ?_, by simp only; omega, ?_⟩, by simp only; omega, ?_, ?_⟩
    · intro z hz
      rcases List.mem_append.1 hz with hz | hz
      · exact hlo z hz
      · simp at hz
        omega
    · simp only [val_snoc, val_take_succ, hlen, hx, hy, Int.toNat_natCast]
      have hp : 2 ^ (32 * (i + 1)) = 2 ^ (32 * i) * 4294967296 := by
        rw [Nat.mul_add, Nat.mul_one, Nat.pow_add]
      rw [hp]
      generalize 2 ^ (32 * i) = p at hv ⊢
      have hdm := Nat.div_add_mod d 4294967296
      have hq : d / 4294967296 ≤ 1 := by omega
      generalize d / 4294967296 = q at hdm hq ⊢
      generalize d % 4294967296 = r at hdm ⊢
      have h0 : 4294967296 * (1 - q) + x = r + y + c := by
        rcases Nat.lt_or_ge q 1 with h | h
        · have : q = 0 := by omega
          subst this
          omega
        · have : q = 1 := by omega
          subst this
          omega
      have h1 : p * 4294967296 * (1 - q) + p * x = p * r + p * y + p * c := by
        rw [Nat.mul_assoc, ← Nat.mul_add, h0, Nat.mul_add, Nat.mul_add]
      omega
    · show [_, _, _, _, _, _, _, _, _, _, _, _, _, _, _, _, _, _, _, _, _, _, _, _, _, _, _, _, _, _, _, _, _, _, _, _, _, _, _, _, _, _, _, _, _, _, _, _, _, _, _] = _
      simp only [et, hx, hy, e1, e2, e3, e5, e6, e7]
      rfl
    · simp only [et, hx, hy, e1, e2, e3, e4, List.drop_zero]
      rfl
  · have hin : i = a.length := by simp at h; omega
    have ta : a.take i = a := List.take_of_length_le (by omega)
    have tb := val_drop b i lb
    have hlt := val_lt la
    have hlo' := val_lt hlo
    rw [ta] at hv
    rw [hlen] at hlo'
    rw [← hin] at hlt
    have hvo : val out = val a - val b := by
      generalize 2 ^ (32 * i) = p at hv tb hlt hlo'
      have hz : val (b.drop i) = 0 := by
        apply Classical.byContradiction
        intro hne
        have : p * 1 ≤ p * val (b.drop i) := Nat.mul_le_mul_left _ (by omega)
        omega
      rw [hz] at tb
      rcases Nat.lt_or_ge c 1 with h | h
      · have : c = 0 := by omega
        subst this
        omega
      · have : c = 1 := by omega
        subst this
        omega
    have hlo' := limit_own (l := out) (m := i) (by omega) (by unfold Short; omega) hlo
    refine callT_frame [0] rfl hlo' ?_
    rintro v H' ⟨⟨r, e, rfl, ho⟩, rfl⟩
    rcases ho with ⟨hs, rfl | ⟨n', hn', rfl⟩⟩
    · exact OwnR.pair ⟨hs, .inl rfl⟩
    · exact OwnR.pair ⟨hs, .inr ⟨n', hn', rfl⟩⟩
set_option maxRecDepth 4000 in
set_option maxHeartbeats 2000000 in
theorem mul_own {a b : List Int} (ha : Small a) (hb : Small b) (la : Limbs a) (lb : Limbs b) : callN Try.prog 30 [ints .u32 a, ints .u32 b] [] OwnQ := by
  refine own_all ?_
  have sa := trim_short ha.short
  have sb := trim_short hb.short
  refine callN_def env (fn := Try.f30) 0 rfl rfl (by decide) ?_
  refine callT_E (trim_c ha.short) rfl (callT_E (trim_c hb.short) rfl ?_)
  unfold Small at ha hb
  rw [trim_val la] at sa ⊢
  rw [trim_val lb] at sb ⊢
  have na : (limbsOf (val a)).length ≤ a.length := by rw [← trim_val la]; exact trimL_le a
  have nb : (limbsOf (val b)).length ≤ b.length := by rw [← trim_val lb]; exact trimL_le b
  have va := val_limbsOf (val a)
  have vb := val_limbsOf (val b)
  have la' := limbs_limbsOf (val a)
  have lb' := limbs_limbsOf (val b)
  generalize hA : limbsOf (val a) = A at sa na va la' ⊢
  generalize hB : limbsOf (val b) = B at sb nb vb lb' ⊢
  have zero : OwnP (.tuple [.nilslice, .int .i64 0]) [] := ⟨_, .inl ⟨rfl, rfl⟩⟩
  apply branch_intro <;> intro h
  · repeat refine branch_true ?_
    have : A = [] := List.eq_nil_of_length_eq_zero (by simpa using h)
    subst this
    exact zero
  repeat refine branch_false ?_
  apply branch_intro <;> intro h'
  · have : B = [] := List.eq_nil_of_length_eq_zero (by simpa using h')
    subst this
    exact zero
  have hA0 : val A ≠ 0 := fun h0 => by
    rw [← va] at hA
    rw [h0, limbsOf_zero] at hA
    subst hA
    simp at h
  have hB0 : val B ≠ 0 := fun h0 => by
    rw [← vb] at hB
    rw [h0, limbsOf_zero] at hB
    subst hB
    simp at h'
  refine callT_E (bits_c sa la') rfl (callT_E (bits_c sb lb') rfl ?_)
  have ba := bitLen_le.2 (val_lt la')
  have bb := bitLen_le.2 (val_lt lb')
  have hprod := bitLen_prod hA0 hB0
  have pa := bitLen_pos hA0
  apply branch_intro <;> intro h2
  · rw [wi (by rw [wi (by omega) (by omega)]; omega) (by rw [wi (by omega) (by omega)]; omega), wi (by omega) (by omega)] at h2
    exact ⟨_, .inl ⟨rfl, rfl⟩⟩
  have e1 : IntKind.i64.wrap ((A.length : Int) + B.length) = ((A.length + B.length : Nat) : Int) := by rw [wi (by omega) (by omega)]; omega
  apply need_intro
  · rw [e1]; omega
  apply choice_r
  obtain ⟨n, hn⟩ : ∃ n, n = A.length + B.length := ⟨_, rfl⟩
  refine loop_inv (keep 89 [0, 1, 6, 36, 37])
    (fun s : AddSt => slots 89 [(0, ints .u32 A), (1, ints .u32 B), (6, .slice ⟨0, 0, 0⟩ n), (36, .int .i64 A.length), (37, .int .i64 s.i)])
    (fun s => [.ints .u32 s.out]) (fun s => s.i ≤ A.length ∧ s.out.length = n ∧ Limbs s.out ∧ val s.out = val (A.take s.i) * val B) (fun s => A.length - s.i)
    ⟨0, 0, List.replicate n 0⟩ ⟨by simp, by simp, (fun x hx => by rw [List.eq_of_mem_replicate hx]; omega), ?_⟩ ?_ ?_ ?_
  · have hz : ∀ m, val (List.replicate m 0) = 0 := fun m => by
      induction m with
      | zero => rfl
      | succ m ih => rw [List.replicate_succ, val, ih]; rfl
    simp [hz, val]
  · show [_, _, _, _, _, _, _, _, _, _, _, _, _, _, _, _, _, _, _, _, _, _, _, _, _, _, _, _, _, _, _, _, _, _, _, _, _, _, _, _, _, _, _, _, _, _, _, _, _, _, _, _, _, _, _, _, _, _, _, _, _, _, _, _, _, _, _, _, _, _, _, _, _, _, _, _, _, _, _, _, _, _, _, _, _, _, _, _, _] = _
    simp only [e1, Int.toNat_natCast, ← hn]
    rfl
  · simp only [e1, Int.toNat_natCast, ← hn]
  rintro ⟨i, c0, out⟩ ⟨hi, hlen, hlo, hv⟩
  simp only at hi hlen hlo hv
  apply branch_intro <;> intro h3
  · have hin : i < A.length := by simp at h3; omega
    have xa := limb_bound la' i
    obtain ⟨x, hx⟩ : ∃ x : Nat, A.getD i 0 = x := ⟨(A.getD i 0).toNat, by omega⟩
    have hx1 : x < 4294967296 := by omega
    have hz : out.getD (i + B.length) 0 = 0 := by
      refine getD_zero hlo ?_
      rw [hv, Nat.mul_add, Nat.pow_add]
      exact Nat.mul_lt_mul'' (take_lt la' i) (val_lt lb')
    refine loop_inv (keep 89 [0, 1, 6, 7, 8, 36, 37, 41, 42])
      (fun s : AddSt => slots 89 [(0, ints .u32 A), (1, ints .u32 B), (6, .slice ⟨0, 0, 0⟩ n), (7, .int .i64 i), (8, .int .u64 s.c), (36, .int .i64 A.length), (37, .int .i64 i), (41, .int .i64 B.length), (42, .int .i64 s.i)])
      (fun s => [.ints .u32 s.out]) (fun s => s.i ≤ B.length ∧ s.out.length = n ∧ Limbs s.out ∧ s.c < 4294967296 ∧ val s.out + 2 ^ (32 * (i + s.i)) * s.c = val out + 2 ^ (32 * i) * (x * val (B.take s.i)) ∧ s.out.getD (i + B.length) 0 = 0) (fun s => B.length - s.i)
      ⟨0, 0, out⟩ ⟨by simp, hlen, hlo, by simp, by simp [val], hz⟩ rfl rfl ?_
    rintro ⟨k, c, o⟩ ⟨hk, hol, hoo, hc, hw, hoz⟩
    simp only at hk hol hoo hc hw hoz
    apply branch_intro <;> intro h4
    · have hkn : k < B.length := by simp at h4; omega
      have xb := limb_bound lb' k
      have xo := limb_bound hoo (i + k)
      obtain ⟨y, hy⟩ : ∃ y : Nat, B.getD k 0 = y := ⟨(B.getD k 0).toNat, by omega⟩
      obtain ⟨z, hz'⟩ : ∃ z : Nat, o.getD (i + k) 0 = z := ⟨(o.getD (i + k) 0).toNat, by omega⟩
      have hy1 : y < 4294967296 := by omega
      have hz1 : z < 4294967296 := by omega
      have hxy : x * y ≤ 4294967295 * 4294967295 := Nat.mul_le_mul (by omega) (by omega)
      have e2 : IntKind.i64.wrap ((i : Int) + k) = ((i + k : Nat) : Int) := by rw [wi (by omega) (by omega)]; omega
      refine draw_intro [0, 1, 2, 3, 4, 5, 6, 7, 8, 9, 10, 11, 12, 13, 14, 15, 16, 17, 18, 19, 20, 21] (by decide +kernel) ?_
      obtain ⟨s, hs⟩ : ∃ s : Nat, s = c + x * y + z := ⟨_, rfl⟩
      have ei : 0 + (((i + k : Nat) : Int)).toNat + 0 = i + k := by omega
      have ti : ((i : Int)).toNat = i := by simp
      have tk : ((k : Int)).toNat = k := by simp
      have w1 : IntKind.u64.wrap (x : Int) = x := wu64 (by omega) (by omega)
      have w2 : IntKind.u64.wrap (y : Int) = y := wu64 (by omega) (by omega)
      have w3 : IntKind.u64.wrap (z : Int) = z := wu64 (by omega) (by omega)
      have w4 : IntKind.u64.wrap ((x : Int) * y) = ((x * y : Nat) : Int) := by rw [← Int.natCast_mul, wu64 (by omega) (by omega)]
      have w5 : IntKind.u64.wrap (((x * y : Nat) : Int) + z) = ((x * y + z : Nat) : Int) := by rw [wu64 (by omega) (by omega)]; omega
      have w6 : IntKind.u64.wrap ((c : Int) + ((x * y + z : Nat) : Int)) = (s : Int) := by rw [wu64 (by omega) (by omega)]; omega
      have w7 : IntKind.u32.wrap (s : Int) = ((s % 4294967296 : Nat) : Int) := by rw [IntKind.wrap_u32]; omega
      have w8 : (s : Int).fdiv (2 ^ (min (32 : Int).toNat IntKind.u64.bits)) = ((s / 4294967296 : Nat) : Int) := by
        have : min (32 : Int).toNat IntKind.u64.bits = 32 := by decide
        rw [this, Int.fdiv_eq_ediv_of_nonneg _ (by decide)]
        omega
      have w9 : IntKind.i64.wrap ((k : Int) + 1) = ((k + 1 : Nat) : Int) := by rw [wi (by omega) (by omega)]; omega
      apply need_intro
      · try dsimp only
        omega
      apply need_intro
      · try dsimp only
        omega
      apply need_intro
      · try dsimp only
        rw [e2]
        omega
      apply need_intro
      · try dsimp only
        rw [e2, hol]
        omega
      apply need_intro
      · try dsimp only
        rw [e2]
        omega
      apply need_intro
      · try dsimp only
        rw [e2, hol]
        omega
      apply need_intro
      · decide
      refine ⟨⟨k + 1, s / 4294967296, o.set (i + k) ((s % 4294967296 : Nat) : Int)⟩, ⟨by simp only; omega, by simp [hol], limbs_set hoo (by omega), ?_, ?_, ?_⟩, by simp only; omega, ?_, ?_⟩
      · show s / 4294967296 < 4294967296
        omega
      · have hset := val_set (l := o) (k := i + k) (by omega) ((s % 4294967296 : Nat) : Int)
        rw [hz', Int.toNat_natCast, Int.toNat_natCast] at hset
        simp only [val_take_succ, hy, Int.toNat_natCast]
        have hp : 2 ^ (32 * (i + (k + 1))) = 2 ^ (32 * (i + k)) * 4294967296 := by
          rw [← Nat.add_assoc, Nat.mul_add, Nat.mul_one, Nat.pow_add]
        have hq : 2 ^ (32 * i) * (x * (val (B.take k) + 2 ^ (32 * k) * y)) = 2 ^ (32 * i) * (x * val (B.take k)) + 2 ^ (32 * (i + k)) * (x * y) := by
          have : 2 ^ (32 * (i + k)) = 2 ^ (32 * i) * 2 ^ (32 * k) := by rw [Nat.mul_add, Nat.pow_add]
          rw [this, Nat.mul_add x, Nat.mul_add, Nat.mul_left_comm x, Nat.mul_assoc (2 ^ (32 * i))]
        rw [hp, hq]
        have := mul_arith (2 ^ (32 * (i + k))) c x y z s _ _ hs hw
        omega
      · show (o.set (i + k) _).getD (i + B.length) 0 = 0
        rw [List.getD_eq_getElem?_getD, List.getElem?_set_ne (by omega), ← List.getD_eq_getElem?_getD]
        exact hoz
      · show [_, _, _, _, _, _, _, _, _, _, _, _, _, _, _, _, _, _, _, _, _, _, _, _, _, _, _, _, _, _, _, _, _, _, _, _, _, _, _, _, _, _, _, _, _, _, _, _, _, _, _, _, _, _, _, _, _, _, _, _, _, _, _, _, _, _, _, _, _, _, _, _, _, _, _, _, _, _, _, _, _, _, _, _, _, _, _, _, _] = _
        simp only [ei, ti, tk, e2, hx, hy, hz', w1, w2, w3, w4, w5, w6, w8, w9]
        rfl
      · simp only [ei, ti, tk, e2, hx, hy, hz', w1, w2, w3, w4, w5, w6, w7]
    · have hkn : k = B.length := by simp at h4; omega
      subst hkn
      have tb : B.take B.length = B := List.take_of_length_le (by omega)
      rw [tb] at hw
      have e2 : IntKind.i64.wrap ((i : Int) + B.length) = ((i + B.length : Nat) : Int) := by rw [wi (by omega) (by omega)]; omega
      have ei : 0 + (((i + B.length : Nat) : Int)).toNat + 0 = i + B.length := by omega
      have w7 : IntKind.u32.wrap (c : Int) = (c : Int) := wu32 (by omega) (by omega)
      have w9 : IntKind.i64.wrap ((i : Int) + 1) = ((i + 1 : Nat) : Int) := by rw [wi (by omega) (by omega)]; omega
      apply need_intro
      · rw [e2]
        omega
      apply need_intro
      · rw [e2, hol]
        omega
      refine ⟨⟨i + 1, 0, o.set (i + B.length) (c : Int)⟩, ⟨by simp only; omega, by simp [hol], limbs_set hoo (by omega), ?_⟩, by simp only; omega, ?_, ?_⟩
      · have hset := val_set (l := o) (k := i + B.length) (by omega) (c : Int)
        rw [hoz, Int.toNat_natCast] at hset
        simp only [val_take_succ, hx, Int.toNat_natCast]
        rw [Nat.add_mul, ← hv, Nat.mul_assoc]
        simp only [Int.toNat_zero, Nat.mul_zero, Nat.add_zero] at hset
        omega
      · show [_, _, _, _, _, _, _, _, _, _, _, _, _, _, _, _, _, _, _, _, _, _, _, _, _, _, _, _, _, _, _, _, _, _, _, _, _, _, _, _, _, _, _, _, _, _, _, _, _, _, _, _, _, _, _, _, _, _, _, _, _, _, _, _, _, _, _, _, _, _, _, _, _, _, _, _, _, _, _, _, _, _, _, _, _, _, _, _, _] = _
        simp only [w9]
        rfl
      · simp only [e2, ei, w7]
  · have hin : i = A.length := by simp at h3; omega
    subst hin
    have ta : A.take A.length = A := List.take_of_length_le (by omega)
    rw [ta] at hv
    have hlo' := limit_own (l := out) (m := n) (by omega) (by unfold Short; omega) hlo
    refine callT_frame [0] rfl hlo' ?_
    rintro v H' ⟨⟨r, e, rfl, ho⟩, rfl⟩
    rcases ho with ⟨hs, rfl | ⟨n', hn', rfl⟩⟩
    · exact OwnR.pair ⟨hs, .inl rfl⟩
    · exact OwnR.pair ⟨hs, .inr ⟨n', hn', rfl⟩⟩
set_option maxRecDepth 4000 in
set_option maxHeartbeats 2000000 in
theorem shr_own {a : List Int} (ha : Small a) (la : Limbs a) {n : Int} (hn : -9223372036854775808 ≤ n ∧ n ≤ 9223372036854775807) : callN Try.prog 40 [ints .u32 a, .int .i64 n] [] OwnQ := by
  refine own_all ?_
  unfold Small at ha
  refine callN_def env (fn := Try.f40) 0 rfl rfl (by decide) ?_
  apply branch_intro <;> intro h
  · have h : n < 0 := by simpa using h
    exact ⟨_, .inl ⟨rfl, rfl⟩⟩
  have h : ¬ n < 0 := by simpa using h
  obtain ⟨k, rfl⟩ : ∃ k : Nat, n = k := ⟨n.toNat, by omega⟩
  have t1 : (k : Int).tdiv 32 = ((k / 32 : Nat) : Int) := by rw [Int.tdiv_eq_ediv_of_nonneg (by omega)]; omega
  have t2 : (k : Int).tmod 32 = ((k % 32 : Nat) : Int) := by rw [Int.tmod_eq_emod_of_nonneg (by omega)]; omega
  have t3 : IntKind.i64.wrap ((k / 32 : Nat) : Int) = ((k / 32 : Nat) : Int) := wi (by omega) (by omega)
  have hkd : 2 ^ k = 2 ^ (32 * (k / 32)) * 2 ^ (k % 32) := by rw [← Nat.pow_add, Nat.div_add_mod]
  apply need_intro
  · decide
  conv => whnf
  rw [t1, t3]
  apply branch_intro <;> intro h2
  · have h2 : a.length ≤ k / 32 := by simp at h2; omega
    exact ⟨_, .inl ⟨rfl, rfl⟩⟩
  have h2 : k / 32 < a.length := by simp at h2; omega
  have hs : k % 32 < 32 := Nat.mod_lt _ (by omega)
  refine callT_E (limbs_c a) rfl ?_
  have t4 : IntKind.i64.wrap ((a.length : Int) - ((k / 32 : Nat) : Int)) = ((a.length - k / 32 : Nat) : Int) := by rw [wi (by omega) (by omega)]; omega
  apply need_intro
  · decide
  apply need_intro
  · simp only [t1, t3, t4]
    refine ⟨by omega, by omega, ?_, ?_⟩ <;> omega
  apply choice_r
  apply need_intro
  · decide
  refine loop_weak (fun s : BitSt => slots 52 [(0, ints .u32 a), (1, .int .i64 k), (6, limbF a), (7, .slice ⟨0, 0, 0⟩ s.i), (8, .int .i64 ((k / 32 + s.i : Nat) : Int))]) (fun s => [.ints .u32 s.out])
    (fun s => k / 32 + s.i ≤ a.length ∧ s.out.length = s.i ∧ Limbs s.out ∧ val s.out = val a / 2 ^ k % 2 ^ (32 * s.i)) (fun s => a.length - s.i) ⟨0, []⟩
    ⟨by simp only; omega, rfl, (fun x hx => by cases hx), by simp [val, Nat.mod_one]⟩
    (weak_keep (keep 52 [0, 1, 6, 7, 8]) [0] rfl (by simp only [t1, t3]; rfl) rfl) ?_
  rintro ⟨i, out⟩ ⟨hi, hlen, hlo, hv⟩
  simp only at hi hlen hlo hv
  have ei : IntKind.i64.wrap (((k / 32 + i : Nat) : Int) + 1) = ((k / 32 + (i + 1) : Nat) : Int) := by rw [wi (by omega) (by omega)]; omega
  apply branch_intro <;> intro h5
  · have hin : k / 32 + i < a.length := by simp at h5; omega
    have xa := limb_bound la (k / 32 + i)
    have xb := limb_bound la (k / 32 + i + 1)
    have hd := shr_digit la (q := k / 32) (i := k / 32 + i) hs (by omega)
    rw [← hkd, show k / 32 + i - k / 32 = i by omega] at hd
    obtain ⟨x, hx⟩ : ∃ x : Nat, a.getD (k / 32 + i) 0 = x := ⟨(a.getD (k / 32 + i) 0).toNat, by omega⟩
    obtain ⟨y, hy⟩ : ∃ y : Nat, a.getD (k / 32 + i + 1) 0 = y := ⟨(a.getD (k / 32 + i + 1) 0).toNat, by omega⟩
    rw [hx, hy, Int.toNat_natCast, Int.toNat_natCast] at hd
    have hsh := shr_limb (x := x) (y := y) hs (by omega) (by omega)
    rw [hd] at hsh
    refine callT_E (limb_c (by omega) la) rfl ?_
    refine callT_E (limb_c (by rw [ei]; omega) la) rfl ?_
    apply need_intro
    · decide
    apply need_intro
    · decide
    apply need_intro
    · simp only [t2]; omega
    apply choice_l
    apply need_intro
    · show (i + 1) * 4 ≤ 2 ^ 40
      omega
    apply need_intro
    · exact ⟨by show 0 + i = out.length; omega, isRow_irow _ _ _⟩
    refine ⟨⟨i + 1, out ++ [((val a / 2 ^ k / 2 ^ (32 * i) % 4294967296 : Nat) : Int)]⟩, ⟨by simp only; omega, by simp only [List.length_append, List.length_cons, List.length_nil]; omega, ?_, ?_⟩, by simp only; omega, weak_keep (keep 52 [0, 1, 6, 7, 8]) [0] rfl ?_ ?_⟩
    · intro z hz
      rcases List.mem_append.1 hz with hz | hz
      · exact hlo z hz
      · simp at hz
        omega
    · simp only
      rw [val_snoc, hlen, Int.toNat_natCast, hv, pow_limb, Nat.mod_mul]
    · rw [ei]
      rfl
    · show [Blk.ints _ _] = _
      have e1 : ((((k / 32 + i : Nat) : Int)).toNat) = k / 32 + i := by omega
      have e2 : ((((k / 32 + (i + 1) : Nat) : Int)).toNat) = k / 32 + i + 1 := by omega
      simp only [ei, e1, e2, hx, hy, t2, Int.toNat_natCast]
      rw [hsh, snoc_row]
  · have hin : k / 32 + i = a.length := by simp at h5; omega
    have hfull : val a / 2 ^ k < 2 ^ (32 * i) := by
      refine (Nat.div_lt_iff_lt_mul (Nat.two_pow_pos _)).2 ?_
      rw [← Nat.pow_add]
      exact Nat.lt_of_lt_of_le (val_lt la) (Nat.pow_le_pow_right (by omega) (by omega))
    rw [Nat.mod_eq_of_lt hfull] at hv
    have hlo' := limit_own (l := out) (m := i) (by omega) (by unfold Short; omega) hlo
    refine callT_frame [0] rfl hlo' ?_
    rintro v H' ⟨⟨r, e, rfl, ho⟩, rfl⟩
    rcases ho with ⟨hs, rfl | ⟨n', hn', rfl⟩⟩
    · exact OwnR.pair ⟨hs, .inl rfl⟩
    · exact OwnR.pair ⟨hs, .inr ⟨n', hn', rfl⟩⟩
set_option maxRecDepth 4000 in
set_option maxHeartbeats 2000000 in
theorem shl_own {a : List Int} (ha : Small a) (la : Limbs a) {n : Int} (hn : -9223372036854775808 ≤ n ∧ n ≤ 9223372036854775807) : callN Try.prog 35 [ints .u32 a, .int .i64 n] [] OwnQ := by
  refine own_all ?_
  have sa := trim_short ha.short
  refine callN_def env (fn := Try.f35) 0 rfl rfl (by decide) ?_
  apply branch_intro <;> intro h
  · have h : n < 0 := by simpa using h
    exact ⟨_, .inl ⟨rfl, rfl⟩⟩
  have h : ¬ n < 0 := by simpa using h
  refine callT_E (trim_c ha.short) rfl ?_
  unfold Small at ha
  rw [trim_val la] at sa ⊢
  have na : (limbsOf (val a)).length ≤ a.length := by rw [← trim_val la]; exact trimL_le a
  have va := val_limbsOf (val a)
  have la' := limbs_limbsOf (val a)
  generalize hA : limbsOf (val a) = A at sa na va la' ⊢
  obtain ⟨k, rfl⟩ : ∃ k : Nat, n = k := ⟨n.toNat, by omega⟩
  apply branch_intro <;> intro h2
  · have : A = [] := List.eq_nil_of_length_eq_zero (by simpa using h2)
    subst this
    exact ⟨_, .inl ⟨rfl, rfl⟩⟩
  have hA0 : val A ≠ 0 := fun h0 => by
    rw [← va] at hA
    rw [h0, limbsOf_zero] at hA
    subst hA
    simp at h2
  have hmul := bitLen_mul (k := k) hA0
  have big : 32768 < k + bitLen (val A) → OwnP (.tuple [.nilslice, .int .i64 4]) [] := fun _ => ⟨_, .inl ⟨rfl, rfl⟩⟩
  have hp1 := bitLen_pos hA0
  apply branch_intro <;> intro h3
  · have h3 : 32768 < k := by simp at h3; omega
    repeat (first | refine branch_true ?_ | refine branch_false ?_)
    exact big (by omega)
  have h3 : k ≤ 32768 := by simp at h3; omega
  repeat (first | refine branch_true ?_ | refine branch_false ?_)
  refine callT_E (bits_c sa la') rfl ?_
  repeat (first | refine branch_true ?_ | refine branch_false ?_)
  have ek : IntKind.i64.wrap (32768 - (k : Int)) = 32768 - (k : Int) := wi (by omega) (by omega)
  conv => whnf
  rw [ek]
  apply branch_intro <;> intro h4
  · exact big (by simp at h4; omega)
  have h4 : k + bitLen (val A) ≤ 32768 := by simp at h4; omega
  have t1 : (k : Int).tdiv 32 = ((k / 32 : Nat) : Int) := by rw [Int.tdiv_eq_ediv_of_nonneg (by omega)]; omega
  have t2 : (k : Int).tmod 32 = ((k % 32 : Nat) : Int) := by rw [Int.tmod_eq_emod_of_nonneg (by omega)]; omega
  have t3 : IntKind.i64.wrap ((k / 32 : Nat) : Int) = ((k / 32 : Nat) : Int) := wi (by omega) (by omega)
  have t4 : IntKind.i64.wrap (IntKind.i64.wrap (((k / 32 : Nat) : Int) + A.length) + 1) = ((k / 32 + A.length + 1 : Nat) : Int) := by rw [wi (x := ((k / 32 : Nat) : Int) + A.length) (by omega) (by omega), wi (by omega) (by omega)]; omega
  apply need_intro
  · decide
  apply need_intro
  · decide
  apply need_intro
  · simp only [t1, t3, t4]
    refine ⟨by omega, by omega, ?_, ?_⟩ <;> omega
  apply choice_r
  have hs : k % 32 < 32 := Nat.mod_lt _ (by omega)
  have hkd : 2 ^ k = 2 ^ (32 * (k / 32)) * 2 ^ (k % 32) := by rw [← Nat.pow_add, Nat.div_add_mod]
  refine loop_weak (fun s : AddSt => slots 64 [(1, .int .i64 k), (6, .slice ⟨0, 0, 0⟩ (k / 32 + s.i)), (7, .int .u64 s.c), (35, ints .u32 A), (36, .int .i64 A.length), (37, .int .i64 s.i)]) (fun s => [.ints .u32 s.out])
    (fun s => s.i ≤ A.length ∧ s.out.length = k / 32 + s.i ∧ Limbs s.out ∧ s.c < 2 ^ (k % 32) ∧ val s.out + 2 ^ (32 * (k / 32 + s.i)) * s.c = 2 ^ k * val (A.take s.i)) (fun s => A.length - s.i) ⟨0, 0, List.replicate (k / 32) 0⟩
    ⟨by simp, by simp, (fun x hx => by rw [List.eq_of_mem_replicate hx]; omega), Nat.two_pow_pos _, by simp [zeros_val, val]⟩
    (weak_keep (keep 64 [1, 6, 7, 35, 36, 37]) [0] rfl (by simp only [t1, t3, Int.toNat_natCast]; rfl) (by simp only [t1, t3, Int.toNat_natCast]; rfl)) ?_
  rintro ⟨i, c, out⟩ ⟨hi, hlen, hlo, hc, hv⟩
  simp only at hi hlen hlo hc hv
  have et : ((i : Int)).toNat = i := by omega
  have ei : IntKind.i64.wrap ((i : Int) + 1) = ((i + 1 : Nat) : Int) := by rw [wi (by omega) (by omega)]; rfl
  apply branch_intro <;> intro h5
  · have hin : i < A.length := by simp at h5; omega
    have xa := limb_bound la' i
    obtain ⟨x, hx⟩ : ∃ x : Nat, A.getD i 0 = x := ⟨(A.getD i 0).toNat, by omega⟩
    obtain ⟨s1, s2, s3⟩ := shl_limb (c := c) (x := x) hs hc (by omega)
    obtain ⟨t, ht⟩ : ∃ t, t = c + 2 ^ (k % 32) * x := ⟨_, rfl⟩
    rw [← ht] at s1 s2 s3
    have e2 : IntKind.u64.wrap (x : Int) = (x : Int) := wu64 (by omega) (by omega)
    have e3 : IntKind.u32.wrap (t : Int) = ((t % 4294967296 : Nat) : Int) := by rw [IntKind.wrap_u32]; omega
    have e4 : (t : Int).fdiv (2 ^ (min (32 : Int).toNat IntKind.u64.bits)) = ((t / 4294967296 : Nat) : Int) := by
      have : min (32 : Int).toNat IntKind.u64.bits = 32 := by decide
      rw [this, Int.fdiv_eq_ediv_of_nonneg _ (by decide)]
      omega
    apply need_intro
    · simp only; omega
    apply need_intro
    · decide
    apply need_intro
    · simp only [t2]; omega
    apply choice_l
    apply need_intro
    · show (k / 32 + i + 1) * 4 ≤ 2 ^ 40
      omega
    apply need_intro
    · exact ⟨by show 0 + (k / 32 + i) = out.length; omega, isRow_irow _ _ _⟩
    apply need_intro
    · decide
    refine ⟨⟨i + 1, t / 4294967296, out ++ [((t % 4294967296 : Nat) : Int)]⟩, ⟨by simp only; omega, by simp only [List.length_append, List.length_cons, List.length_nil]; omega, ?_, s3, ?_⟩, by simp only; omega, weak_keep (keep 64 [1, 6, 7, 35, 36, 37]) [0] rfl ?_ ?_⟩
    · intro z hz
      rcases List.mem_append.1 hz with hz | hz
      · exact hlo z hz
      · simp at hz
        omega
    · simp only
      rw [val_snoc, val_take_succ, hlen, hx, Int.toNat_natCast, Int.toNat_natCast, show k / 32 + (i + 1) = (k / 32 + i) + 1 by omega, pow_limb, shl_sum (2 ^ (k % 32)) ht hv, Nat.mul_add (2 ^ k)]
      congr 1
      rw [← Nat.mul_assoc, ← Nat.pow_add, ← Nat.pow_add]
      congr 2
      omega
    · simp only [et, hx, t2, Int.toNat_natCast, e2, s1, e4, ei]
      rfl
    · show [Blk.ints _ _] = _
      simp only [et, hx, t2, Int.toNat_natCast, e2, s1, e3]
      rw [snoc_row]
  · have hin : i = A.length := by simp at h5; omega
    subst hin
    rw [List.take_of_length_le (Nat.le_refl _)] at hv
    obtain ⟨e, he, hpl⟩ := two_mid hs
    have e3 : IntKind.u32.wrap (c : Int) = (c : Int) := wu32 (by omega) (by omega)
    apply choice_l
    apply need_intro
    · show (k / 32 + A.length + 1) * 4 ≤ 2 ^ 40
      omega
    apply need_intro
    · exact ⟨by show 0 + (k / 32 + A.length) = out.length; omega, isRow_irow _ _ _⟩
    have e6 : List.drop 0 out ++ rowsInts .u32 1 (irow .u32 [IntKind.u32.wrap (c : Int)]) = out ++ [(c : Int)] := by
      rw [e3, List.drop_zero]; rfl
    have hlo' := limit_own (l := out ++ [(c : Int)]) (m := k / 32 + A.length + 1) (by simp only [List.length_append, List.length_cons, List.length_nil]; omega) (by unfold Short; simp only [List.length_append, List.length_cons, List.length_nil]; omega) (fun z hz => by
      rcases List.mem_append.1 hz with hz | hz
      · exact hlo z hz
      · simp at hz
        omega)
    rw [← e6] at hlo'
    refine callT_frame [0] rfl hlo' ?_
    rintro v H' ⟨⟨r, e, rfl, ho⟩, rfl⟩
    rcases ho with ⟨hs, rfl | ⟨n', hn', rfl⟩⟩
    · exact OwnR.pair ⟨hs, .inl rfl⟩
    · exact OwnR.pair ⟨hs, .inr ⟨n', hn', rfl⟩⟩
end Go.Proofs
/-! Sc. -/
namespace Go.Proofs
open Go.E

structure SpSt where
  i : Nat
  l : List Int
theorem spoil_c {l : List Int} {n : Nat} (hn : n ≤ l.length) (hs : Short l) : callN Try.prog 43 [.slice ⟨0, 0, 0⟩ n] [.ints .u32 l] fun v H' => v = .tuple [] ∧ ∃ l', H' = [.ints .u32 l'] := by
  unfold Short at hs
  refine callN_def env (fn := Try.f43) 1 rfl rfl (by decide) ?_
  refine loop_weak (fun s : SpSt => slots 17 [(0, .slice ⟨0, 0, 0⟩ n), (2, .int .i64 s.i)]) (fun s => [.ints .u32 s.l])
    (fun s => s.i ≤ n ∧ s.l.length = l.length) (fun s => n - s.i) ⟨0, l⟩ ⟨Nat.zero_le _, rfl⟩ (weak_keep (keep 17 [0, 2]) [0] rfl rfl rfl) ?_
  rintro ⟨i, r⟩ ⟨hi, hr⟩
  simp only at hi hr
  apply branch_intro <;> intro h
  · have hin : i < n := by simp at h; omega
    have ei : IntKind.i64.wrap ((i : Int) + 1) = ((i + 1 : Nat) : Int) := by rw [wi (by omega) (by omega)]; rfl
    apply need_intro
    · dsimp only; omega
    apply need_intro
    · dsimp only; omega
    apply need_intro
    · dsimp only; omega
    apply need_intro
    · dsimp only; omega
    refine ⟨⟨i + 1, _⟩, ⟨by simp only; omega, ?_⟩, by simp only; omega, weak_keep (keep 17 [0, 2]) [0] rfl ?_ rfl⟩
    · simp only [List.length_set]
      exact hr
    · rw [ei]
      rfl
  · exact ⟨rfl, _, rfl⟩
end Go.Proofs
/-! Sd. -/
namespace Go.Proofs
open Go.E

def OwnP3 (v : AVal) (H' : Heap) : Prop := ∃ e, (v = .tuple [.nilslice, .nilslice, .int .i64 e] ∧ H' = []) ∨ ∃ l l' x y, H' = [.ints .u32 l, .ints .u32 l'] ∧ v = .tuple [x, y, .int .i64 e] ∧ OwnR x 0 l ∧ OwnR y 1 l'
def OwnQ3 (v : AVal) (H' : Heap) : Prop := ∃ n l n' l' e, n ≤ l.length ∧ n' ≤ l'.length ∧ Short l ∧ Short l' ∧ v = .tuple [.slice ⟨0, 0, 0⟩ n, .slice ⟨1, 0, 0⟩ n', .int .i64 e] ∧ H' = [.ints .u32 l, .ints .u32 l']
theorem vrel_triple {c : Cx} {v v' x x' y : AVal} {u : Value} (h : VRel c (.tuple [v, x, y]) u) (hv : ∀ u, VRel c v u → VRel c v' u) (hx : ∀ u, VRel c x u → VRel c x' u) : VRel c (.tuple [v', x', y]) u := by
  obtain ⟨us, rfl, hl, hr⟩ := h.inv_tuple
  refine .tuple (by simpa using hl) fun i w y a1 a2 => ?_
  match i with
  | 0 => cases a1; exact hv _ (hr 0 v y rfl a2)
  | 1 => cases a1; exact hx _ (hr 1 x y rfl a2)
  | i + 2 => exact hr (i + 2) w y a1 a2
theorem ownR_view {c : Cx} {b : Nat} {l : List Int} {x : AVal} (h : OwnR x b l) (hb : c.H[b]? = some (.ints .u32 l)) : ∃ n, n ≤ l.length ∧ ∀ u, VRel c x u → VRel c (.slice ⟨b, 0, 0⟩ n) u := by
  rcases h with ⟨_, rfl | ⟨n, hn, rfl⟩⟩
  · exact ⟨0, Nat.zero_le _, fun u hu => vrel_nil_blk hb hu⟩
  · exact ⟨n, hn, fun u hu => hu⟩
theorem own_all3 {P : Program} {f : FuncId} {args : List AVal} (h : callN P f args [] OwnP3) : callN P f args [] OwnQ3 := by
  rw [callN_iff] at h ⊢
  refine ⟨h.1, fun c us h1 h2 h3 => (h.2 c us h1 h2 h3).mono ?_⟩
  rintro e w' ⟨u, v, c', rfl, rfl, ⟨e, ⟨rfl, hH⟩ | ⟨l, l', x, y, hH, rfl, hx, hy⟩⟩, a4, a5, a6⟩
  · have hv : (Blk.ints .u32 []).void := rfl
    have g1 := Cx.ghost_heap a5 hv
    have f2 := (c'.ghost (.ints .u32 [])).ghost_fr (.ints .u32 [])
    refine ⟨u, _, (c'.ghost (.ints .u32 [])).ghost (.ints .u32 []), rfl, rfl, ⟨0, [], 0, [], e, Nat.le_refl _, Nat.le_refl _, by unfold Short; decide, by unfold Short; decide, rfl, by simp [Cx.ghost, hH]⟩, (a4.trans (c'.ghost_fr _)).trans f2, Cx.ghost_heap g1 hv, ?_⟩
    exact vrel_triple ((a6.mono (c'.ghost_fr _) a5.img).mono f2 g1.img) (fun u hu => vrel_nil_blk (blk := .ints .u32 []) (by simp [Cx.ghost, hH]) hu) (fun u hu => vrel_nil_blk (blk := .ints .u32 []) (by simp [Cx.ghost, hH]) hu)
  · obtain ⟨n, hn, h1⟩ := ownR_view (c := c') hx (by rw [hH]; rfl)
    obtain ⟨n', hn', h2⟩ := ownR_view (c := c') hy (by rw [hH]; rfl)
    exact ⟨u, _, c', rfl, rfl, ⟨n, l, n', l', e, hn, hn', hx.1, hy.1, rfl, hH⟩, a4, a5, vrel_triple a6 h1 h2⟩

set_option maxRecDepth 4000 in
set_option maxHeartbeats 2000000 in
theorem div_own {a b : List Int} (ha : a.length ≤ 1024) (hb' : b.length ≤ 1048576) (la : Limbs a) (lb : Limbs b) : callN Try.prog 29 [ints .u32 a, ints .u32 b] [] OwnQ3 := by
  refine own_all3 ?_
  have ha' : Short a := by unfold Short; omega
  have hb : Small b := by unfold Small; omega
  have sa := trim_short ha'
  have sb := trim_short hb.short
  refine callN_def env (fn := Try.f29) 0 rfl rfl (by decide) ?_
  refine callT_E (trim_c ha') rfl (callT_E (trim_c hb.short) rfl ?_)
  unfold Small at hb
  rw [trim_val la] at sa ⊢
  rw [trim_val lb] at sb ⊢
  have na : (limbsOf (val a)).length ≤ a.length := by rw [← trim_val la]; exact trimL_le a
  have nb : (limbsOf (val b)).length ≤ b.length := by rw [← trim_val lb]; exact trimL_le b
  have va := val_limbsOf (val a)
  have vb := val_limbsOf (val b)
  have la' := limbs_limbsOf (val a)
  have lb' := limbs_limbsOf (val b)
  have hB00 : val b = 0 → limbsOf (val b) = [] := fun h => by rw [h, limbsOf_zero]
  generalize hA : limbsOf (val a) = A at sa na va la' ⊢
  generalize hB : limbsOf (val b) = B at sb nb vb lb' hB00 ⊢
  apply branch_intro <;> intro h
  · exact ⟨_, .inl ⟨rfl, rfl⟩⟩
  have hB0 : val B ≠ 0 := fun h0 => by
    rw [hB00 (by rw [← vb]; exact h0)] at h
    simp at h
  apply need_intro
  · omega
  apply choice_r
  have e1 : IntKind.i64.wrap ((B.length : Int) + 1) = ((B.length + 1 : Nat) : Int) := by rw [wi (by omega) (by omega)]; omega
  apply need_intro
  · rw [e1]; omega
  apply choice_r
  refine callT_E (bits_c sa la') rfl ?_
  have ba := bitLen_le.2 (val_lt la')
  have e2 : IntKind.i64.wrap ((bitLen (val A) : Int) - 1) = (bitLen (val A) : Int) - 1 := wi (by omega) (by omega)
  refine loop_inv (keep 80 [0, 1, 7, 8, 9])
    (fun s : DivSt => slots 80 [(0, ints .u32 A), (1, ints .u32 B), (7, .slice ⟨0, 0, 0⟩ A.length), (8, .slice ⟨1, 0, 0⟩ (B.length + 1)), (9, .int .i64 ((s.m : Int) - 1))])
    (fun s => [.ints .u32 s.q, .ints .u32 s.r]) (fun s => s.m ≤ bitLen (val A) ∧ s.q.length = A.length ∧ Limbs s.q ∧ s.r.length = B.length + 1 ∧ Limbs s.r ∧ val s.q = val A / 2 ^ s.m / val B * 2 ^ s.m ∧ val s.r = val A / 2 ^ s.m % val B) (fun s => s.m)
    ⟨bitLen (val A), List.replicate A.length 0, List.replicate (B.length + 1) 0⟩ ⟨Nat.le_refl _, by simp, (fun x hx => by rw [List.eq_of_mem_replicate hx]; omega), by simp, (fun x hx => by rw [List.eq_of_mem_replicate hx]; omega), ?_, ?_⟩ ?_ ?_ ?_
  · show val (List.replicate A.length 0) = _
    rw [zeros_val, Nat.div_eq_of_lt (bitLen_le.1 (Nat.le_refl _)), Nat.zero_div, Nat.zero_mul]
  · show val (List.replicate (B.length + 1) 0) = _
    rw [zeros_val, Nat.div_eq_of_lt (bitLen_le.1 (Nat.le_refl _)), Nat.zero_mod]
  · show [_, _, _, _, _, _, _, _, _, _, _, _, _, _, _, _, _, _, _, _, _, _, _, _, _, _, _, _, _, _, _, _, _, _, _, _, _, _, _, _, _, _, _, _, _, _, _, _, _, _, _, _, _, _, _, _, _, _, _, _, _, _, _, _, _, _, _, _, _, _, _, _, _, _, _, _, _, _, _, _] = _
    simp only [e1, e2, Int.toNat_natCast]
    rfl
  · simp only [e1, Int.toNat_natCast]
  · rintro ⟨m, q, r⟩ ⟨hm, hq, hql, hr, hrl, hvq, hvr⟩
    simp only at hm hq hql hr hrl hvq hvr
    apply branch_intro <;> intro h3
    · obtain ⟨j, rfl⟩ : ∃ j, m = j + 1 := ⟨m - 1, by simp at h3; omega⟩
      have ej : ((j + 1 : Nat) : Int) - 1 = j := by omega
      apply need_intro
      · decide
      have hjA : j / 32 < A.length := by omega
      have t1 : (j : Int).tdiv 32 = ((j / 32 : Nat) : Int) := by rw [Int.tdiv_eq_ediv_of_nonneg (by omega)]; omega
      have t2 : (j : Int).tmod 32 = ((j % 32 : Nat) : Int) := by rw [Int.tmod_eq_emod_of_nonneg (by omega)]; omega
      have t3 : IntKind.i64.wrap ((j / 32 : Nat) : Int) = ((j / 32 : Nat) : Int) := wi (by omega) (by omega)
      apply need_intro
      · simp only [ej, t1, t3]
        omega
      apply need_intro
      · decide
      apply need_intro
      · simp only [ej, t2]
        omega
      have xa := limb_bound la' (j / 32)
      obtain ⟨x, hx⟩ : ∃ x : Nat, A.getD (j / 32) 0 = x := ⟨(A.getD (j / 32) 0).toNat, by omega⟩
      have hbit := bit_at la' j
      rw [hx, Int.toNat_natCast] at hbit
      obtain ⟨bit, hbt⟩ : ∃ bit, bit = val A / 2 ^ j % 2 := ⟨_, rfl⟩
      have hb1 : bit ≤ 1 := by omega
      have t5 : (x : Int).fdiv (2 ^ (min (j % 32) IntKind.u32.bits)) = ((x / 2 ^ (j % 32) : Nat) : Int) := by
        have : min (j % 32) IntKind.u32.bits = j % 32 := Nat.min_eq_left (by show j % 32 ≤ 32; omega)
        rw [this, Int.fdiv_eq_ediv_of_nonneg _ (Int.le_of_lt (Int.pow_pos (by decide)))]
        simp
      have hx1 : x / 2 ^ (j % 32) < 4294967296 := Nat.lt_of_le_of_lt (Nat.div_le_self _ _) (by omega)
      have t4 : IntKind.u32.wrap ((BitVec.ofInt IntKind.u32.bits ((x / 2 ^ (j % 32) : Nat) : Int) &&& BitVec.ofInt IntKind.u32.bits 1).toNat : Int) = (bit : Int) := by
        have h1 : (BitVec.ofInt IntKind.u32.bits ((x / 2 ^ (j % 32) : Nat) : Int)).toNat = x / 2 ^ (j % 32) := by
          rw [BitVec.ofInt_natCast, BitVec.toNat_ofNat]
          exact Nat.mod_eq_of_lt (by show _ < 4294967296; exact hx1)
        have h2 : (BitVec.ofInt IntKind.u32.bits 1).toNat = 1 := by decide
        rw [BitVec.toNat_and, h1, h2, Nat.and_one_is_mod, hbit, ← hbt]
        exact wu32 (by omega) (by omega)
      refine callT_mut 1 [.slice ⟨0, 0, 0⟩ r.length, .int .u32 bit] rfl rfl ?_ rfl (double_c (l := r) (by unfold Short; omega) hrl hb1) ?_
      · simp only [ej, t1, t2, t3, Int.toNat_natCast, hx, t5, t4, hr]
        rfl
      rintro v blk' ⟨rfl, r1, rfl, hr1, hr1l, qq, hr1v⟩
      refine callT_lend (R := fun v => v = .int .i64 (cmpN (val r1) (val B))) ?_ ?_
      · apply need_intro
        · show 0 + (B.length + 1) ≤ r1.length
          omega
        · have hcmp := cmp_c (a := r1) (b := B) (by unfold Small; omega) (by unfold Small; omega) hr1l lb'
          rw [ints, show r1.length = B.length + 1 by omega] at hcmp
          exact whenB_iff.2 ⟨rfl, hcmp⟩
      · rintro v rfl
        refine whenB_iff.2 ⟨rfl, ?_⟩
        have hBl := val_lt lb'
        have hplain := div_plain (bit := bit) hbt hB0 hvq hvr
        have hrB : val r < val B := by rw [hvr]; exact Nat.mod_lt _ (by omega)
        have hr1v' : val r1 = 2 * val r + bit := by
          rw [hr, pow_limb] at hr1v
          exact dbl_fits hBl hrB hb1 hr1v
        apply branch_intro <;> intro h5
        · have hge : val B ≤ val r1 := by
            unfold cmpN at h5
            split at h5
            · simp at h5
            · omega
          have hstep := hplain.1 (by rw [← hr1v']; exact hge)
          refine callT_mut 1 [.slice ⟨0, 0, 0⟩ r1.length, ints .u32 B] rfl rfl ?_ rfl (take_c (l := r1) (by unfold Short; omega) hr1l lb' hge) ?_
          · rw [hr1, hr]
            rfl
          rintro v blk' ⟨rfl, r2, rfl, hr2, hr2l, hr2v⟩
          refine draw_intro [0, 1, 2, 3, 4, 5, 6, 7, 8, 9, 10] (by decide +kernel) ?_
          obtain ⟨o1, o2⟩ := limb_or hql (j := j) ⟨val A / 2 ^ (j + 1) / val B, by rw [hvq, Nat.mul_comm]⟩
          have hset := val_set (l := q) (k := j / 32) (by omega) (((q.getD (j / 32) 0).toNat + 2 ^ (j % 32) : Nat) : Int)
          have hdone := set_bit (j := j) rfl rfl rfl (by rw [Int.toNat_natCast] at hset; exact hset)
          apply need_intro
          · decide
          apply need_intro
          · simp only [ej, t1, t3]
            omega
          apply need_intro
          · simp only [ej, t1, t3, Int.toNat_natCast]
            omega
          apply need_intro
          · decide
          apply need_intro
          · simp only [ej, t2]
            omega
          apply need_intro
          · simp only [ej, t1, t3]
            omega
          apply need_intro
          · simp only [ej, t1, t3, Int.toNat_natCast]
            omega
          have sh : IntKind.u32.wrap (1 * 2 ^ (min (j % 32) IntKind.u32.bits)) = ((2 ^ (j % 32) : Nat) : Int) := shl_one (Nat.mod_lt _ (by omega))
          refine ⟨⟨j, q.set (j / 32) (((q.getD (j / 32) 0).toNat + 2 ^ (j % 32) : Nat) : Int), r2⟩, ⟨by simp only; omega, by simp only [List.length_set]; exact hq, limbs_set hql ⟨Int.natCast_nonneg _, Int.ofNat_lt.2 o2⟩, by simp only; omega, hr2l, ?_, ?_⟩, by simp only; omega, ?_, ?_⟩
          · show val (q.set _ _) = val A / 2 ^ j / val B * 2 ^ j
            rw [hdone]
            exact hstep.1.symm
          · show val r2 = val A / 2 ^ j % val B
            rw [hr2v, hr1v']
            exact hstep.2.symm
          · simp only [ej]
            rw [wi (by omega) (by omega)]
            rfl
          · simp only [ej, t1, t2, t3, Int.toNat_natCast, Nat.zero_add, Nat.add_zero, sh, o1]
            rfl
        · have hlt : val r1 < val B := by
            unfold cmpN at h5
            split at h5
            · assumption
            · split at h5 <;> simp at h5
          have hstep := hplain.2 (by rw [← hr1v']; exact hlt)
          refine ⟨⟨j, q, r1⟩, ⟨by simp only; omega, hq, hql, by simp only; omega, hr1l, ?_, ?_⟩, by simp only; omega, ?_, rfl⟩
          · show val q = val A / 2 ^ j / val B * 2 ^ j
            exact hstep.1.symm
          · show val r1 = val A / 2 ^ j % val B
            rw [hr1v']
            exact hstep.2.symm
          · show [_, _, _, _, _, _, _, _, _, _, _, _, _, _, _, _, _, _, _, _, _, _, _, _, _, _, _, _, _, _, _, _, _, _, _, _, _, _, _, _, _, _, _, _, _, _, _, _, _, _, _, _, _, _, _, _, _, _, _, _, _, _, _, _, _, _, _, _, _, _, _, _, _, _, _, _, _, _, _, _] = _
            simp only [ej]
            rw [wi (by omega) (by omega)]
            rfl
    · have h0 : m = 0 := by simp at h3; omega
      subst h0
      rw [Nat.pow_zero, Nat.div_one, Nat.mul_one] at hvq
      rw [Nat.pow_zero, Nat.div_one] at hvr
      have b1 : ¬ 32768 < bitLen (val A / val B) := by
        have := bitLen_le.2 (Nat.lt_of_le_of_lt (Nat.div_le_self (val A) (val B)) (bitLen_le.1 (Nat.le_refl _)))
        omega
      have b2 : ¬ 32768 < bitLen (val A % val B) := by
        have := bitLen_le.2 (Nat.lt_of_le_of_lt (Nat.mod_le (val A) (val B)) (bitLen_le.1 (Nat.le_refl _)))
        omega
      have c1 := limit_own (l := q) (m := A.length) (by omega) (by unfold Short; omega) hql
      have c2 := limit_own (l := r) (m := B.length + 1) (by omega) (by unfold Short; omega) hrl
      have sq : Short q := by unfold Short; omega
      have sr : Short r := by unfold Short; omega
      refine callT_frame [0] rfl c1 ?_
      rintro v H' ⟨⟨x, e, rfl, ho⟩, rfl⟩
      rcases ho with ⟨hs1, rfl | ⟨n1, hn1, rfl⟩⟩
      · apply branch_intro <;> intro h4
        · exact ⟨_, .inr ⟨q, r, _, _, rfl, rfl, ⟨sq, .inl rfl⟩, ⟨sr, .inl rfl⟩⟩⟩
        refine callT_frame [1] rfl c2 ?_
        rintro v H' ⟨⟨y, e', rfl, ho'⟩, rfl⟩
        rcases ho' with ⟨hs2, rfl | ⟨n2, hn2, rfl⟩⟩
        · apply branch_intro <;> intro h5
          · exact ⟨_, .inr ⟨q, r, _, _, rfl, rfl, ⟨sq, .inl rfl⟩, ⟨sr, .inl rfl⟩⟩⟩
          · exact ⟨_, .inr ⟨q, r, _, _, rfl, rfl, ⟨sq, .inl rfl⟩, ⟨sr, .inl rfl⟩⟩⟩
        · apply branch_intro <;> intro h5
          · exact ⟨_, .inr ⟨q, r, _, _, rfl, rfl, ⟨sq, .inl rfl⟩, ⟨sr, .inl rfl⟩⟩⟩
          · exact ⟨_, .inr ⟨q, r, _, _, rfl, rfl, ⟨sq, .inl rfl⟩, ⟨sr, .inr ⟨n2, hn2, rfl⟩⟩⟩⟩
      · apply branch_intro <;> intro h4
        · exact ⟨_, .inr ⟨q, r, _, _, rfl, rfl, ⟨sq, .inl rfl⟩, ⟨sr, .inl rfl⟩⟩⟩
        refine callT_frame [1] rfl c2 ?_
        rintro v H' ⟨⟨y, e', rfl, ho'⟩, rfl⟩
        rcases ho' with ⟨hs2, rfl | ⟨n2, hn2, rfl⟩⟩
        · apply branch_intro <;> intro h5
          · exact ⟨_, .inr ⟨q, r, _, _, rfl, rfl, ⟨sq, .inl rfl⟩, ⟨sr, .inl rfl⟩⟩⟩
          · exact ⟨_, .inr ⟨q, r, _, _, rfl, rfl, ⟨sq, .inr ⟨n1, hn1, rfl⟩⟩, ⟨sr, .inl rfl⟩⟩⟩
        · apply branch_intro <;> intro h5
          · exact ⟨_, .inr ⟨q, r, _, _, rfl, rfl, ⟨sq, .inl rfl⟩, ⟨sr, .inl rfl⟩⟩⟩
          · exact ⟨_, .inr ⟨q, r, _, _, rfl, rfl, ⟨sq, .inr ⟨n1, hn1, rfl⟩⟩, ⟨sr, .inr ⟨n2, hn2, rfl⟩⟩⟩⟩
end Go.Proofs
/-! Se. -/
namespace Go.Proofs
open Go.E

theorem same44_c {a : List Int} (ha : Short a) : callP Try.prog 44 [ints .u32 a, ints .u32 a] (· = .bool true) := by
  have c := same_c (a := a) (b := a) ha
  rw [decide_eq_true (rfl : a = a)] at c
  refine callE_def env (fn := Try.f44) rfl (by decide) rfl ?_
  refine callT_E c rfl ?_
  show Eqv _ _
  exact .up (.up (.refl _))
set_option maxRecDepth 8000 in
set_option maxHeartbeats 2000000 in
theorem keeps_law (a : List Int) (_ : a.length ≤ maxLen) (la : Limbs a) (b : List Int) (_ : b.length ≤ maxLen) (lb : Limbs b) (n : Int) (hn : 0 ≤ n ∧ n < 256) : callP Try.prog 11 [ints .u32 a, ints .u32 b, .int .u8 n] (· = .bool true) := by
  refine callE_def env (fn := Try.f11) rfl (by decide) rfl ?_
  apply branch_intro <;> intro h
  · repeat (first | refine branch_true ?_ | refine branch_false ?_ | refine branch_f' (bne_self_eq_false _) ?_ | refine branch_t' (beq_self_eq_true _) ?_ | refine branch_t' (decide_eq_true rfl) ?_)
    refine callT_E awake_c rfl ?_
    repeat (first | refine branch_true ?_ | refine branch_false ?_ | refine branch_f' (bne_self_eq_false _) ?_ | refine branch_t' (beq_self_eq_true _) ?_ | refine branch_t' (decide_eq_true rfl) ?_)
    show Eqv _ _
    exact .up (.up (.refl _))
  have ha : a.length ≤ 40 := by simp at h; omega
  repeat (first | refine branch_true ?_ | refine branch_false ?_ | refine branch_f' (bne_self_eq_false _) ?_ | refine branch_t' (beq_self_eq_true _) ?_ | refine branch_t' (decide_eq_true rfl) ?_)
  apply branch_intro <;> intro h'
  · repeat (first | refine branch_true ?_ | refine branch_false ?_ | refine branch_f' (bne_self_eq_false _) ?_ | refine branch_t' (beq_self_eq_true _) ?_ | refine branch_t' (decide_eq_true rfl) ?_)
    refine callT_E awake_c rfl ?_
    repeat (first | refine branch_true ?_ | refine branch_false ?_ | refine branch_f' (bne_self_eq_false _) ?_ | refine branch_t' (beq_self_eq_true _) ?_ | refine branch_t' (decide_eq_true rfl) ?_)
    show Eqv _ _
    exact .up (.up (.refl _))
  have hb : b.length ≤ 40 := by simp at h'; omega
  have sa := small_of ha (by decide)
  have sb := small_of hb (by decide)
  have e0 : IntKind.i64.wrap n = n := wi (by omega) (by omega)
  apply choice_r
  apply need_intro
  · show (0 + a.length) * 4 ≤ 2 ^ 40
    omega
  apply need_intro
  · exact ⟨rfl, isRow_irow _ _ _⟩
  apply choice_r
  apply need_intro
  · show (0 + b.length) * 4 ≤ 2 ^ 40
    omega
  apply need_intro
  · exact ⟨rfl, isRow_irow _ _ _⟩
  have ea : List.drop 0 ([] : List Int) ++ rowsInts .u32 a.length (irow .u32 a) = a := by rw [ints_of_row]; rfl
  have eb : List.drop 0 ([] : List Int) ++ rowsInts .u32 b.length (irow .u32 b) = b := by rw [ints_of_row]; rfl
  refine callT_part [] rfl (add_own sa sb la lb) ?_
  rintro v H' ⟨n1, l1, e1, h1, s1, rfl, rfl⟩ x G hx hG
  obtain rfl : x = .tuple [.slice ⟨2, 0, 0⟩ n1, .int .i64 e1] := hx
  have hG : G = [.ints .u32 (List.drop 0 ([] : List Int) ++ rowsInts .u32 a.length (irow .u32 a)), .ints .u32 (List.drop 0 ([] : List Int) ++ rowsInts .u32 b.length (irow .u32 b)), .ints .u32 l1] := hG
  rw [ea, eb] at hG
  subst hG
  refine callT_part [] rfl (mul_own sa sb la lb) ?_
  rintro v H' ⟨n2, l2, e2, h2, s2, rfl, rfl⟩ x G hx hG
  obtain rfl : x = .tuple [.slice ⟨3, 0, 0⟩ n2, .int .i64 e2] := hx
  obtain rfl : G = [.ints .u32 a, .ints .u32 b, .ints .u32 l1, .ints .u32 l2] := hG
  refine callT_part [] rfl (sub_own sa sb la lb) ?_
  rintro v H' ⟨n3, l3, e3, h3, s3, rfl, rfl⟩ x G hx hG
  obtain rfl : x = .tuple [.slice ⟨4, 0, 0⟩ n3, .int .i64 e3] := hx
  obtain rfl : G = [.ints .u32 a, .ints .u32 b, .ints .u32 l1, .ints .u32 l2, .ints .u32 l3] := hG
  refine callT_part [] rfl (div_own (by omega) (by omega) la lb) ?_
  rintro v H' ⟨n4, l4, n5, l5, e4, h4, h5, s4, s5, rfl, rfl⟩ x G hx hG
  obtain rfl : x = .tuple [.slice ⟨5, 0, 0⟩ n4, .slice ⟨6, 0, 0⟩ n5, .int .i64 e4] := hx
  obtain rfl : G = [.ints .u32 a, .ints .u32 b, .ints .u32 l1, .ints .u32 l2, .ints .u32 l3, .ints .u32 l4, .ints .u32 l5] := hG
  refine callT_part [] rfl (shl_own sa la (n := IntKind.i64.wrap n) (by omega)) ?_
  rintro v H' ⟨n6, l6, e6, h6, s6, rfl, rfl⟩ x G hx hG
  obtain rfl : x = .tuple [.slice ⟨7, 0, 0⟩ n6, .int .i64 e6] := hx
  obtain rfl : G = [.ints .u32 a, .ints .u32 b, .ints .u32 l1, .ints .u32 l2, .ints .u32 l3, .ints .u32 l4, .ints .u32 l5, .ints .u32 l6] := hG
  refine callT_part [] rfl (shr_own sa la (n := IntKind.i64.wrap n) (by omega)) ?_
  rintro v H' ⟨n7, l7, e7, h7, s7, rfl, rfl⟩ x G hx hG
  obtain rfl : x = .tuple [.slice ⟨8, 0, 0⟩ n7, .int .i64 e7] := hx
  obtain rfl : G = [.ints .u32 a, .ints .u32 b, .ints .u32 l1, .ints .u32 l2, .ints .u32 l3, .ints .u32 l4, .ints .u32 l5, .ints .u32 l6, .ints .u32 l7] := hG
  refine callT_part [2] rfl (spoil_c h1 s1) ?_
  rintro v H' ⟨rfl, k1, rfl⟩ x G hx hG
  obtain rfl : x = .tuple [] := hx
  obtain rfl : G = [.ints .u32 a, .ints .u32 b, .ints .u32 k1, .ints .u32 l2, .ints .u32 l3, .ints .u32 l4, .ints .u32 l5, .ints .u32 l6, .ints .u32 l7] := hG
  refine callT_part [3] rfl (spoil_c h2 s2) ?_
  rintro v H' ⟨rfl, k2, rfl⟩ x G hx hG
  obtain rfl : x = .tuple [] := hx
  obtain rfl : G = [.ints .u32 a, .ints .u32 b, .ints .u32 k1, .ints .u32 k2, .ints .u32 l3, .ints .u32 l4, .ints .u32 l5, .ints .u32 l6, .ints .u32 l7] := hG
  refine callT_part [4] rfl (spoil_c h3 s3) ?_
  rintro v H' ⟨rfl, k3, rfl⟩ x G hx hG
  obtain rfl : x = .tuple [] := hx
  obtain rfl : G = [.ints .u32 a, .ints .u32 b, .ints .u32 k1, .ints .u32 k2, .ints .u32 k3, .ints .u32 l4, .ints .u32 l5, .ints .u32 l6, .ints .u32 l7] := hG
  refine callT_part [5] rfl (spoil_c h4 s4) ?_
  rintro v H' ⟨rfl, k4, rfl⟩ x G hx hG
  obtain rfl : x = .tuple [] := hx
  obtain rfl : G = [.ints .u32 a, .ints .u32 b, .ints .u32 k1, .ints .u32 k2, .ints .u32 k3, .ints .u32 k4, .ints .u32 l5, .ints .u32 l6, .ints .u32 l7] := hG
  refine callT_part [6] rfl (spoil_c h5 s5) ?_
  rintro v H' ⟨rfl, k5, rfl⟩ x G hx hG
  obtain rfl : x = .tuple [] := hx
  obtain rfl : G = [.ints .u32 a, .ints .u32 b, .ints .u32 k1, .ints .u32 k2, .ints .u32 k3, .ints .u32 k4, .ints .u32 k5, .ints .u32 l6, .ints .u32 l7] := hG
  refine callT_part [7] rfl (spoil_c h6 s6) ?_
  rintro v H' ⟨rfl, k6, rfl⟩ x G hx hG
  obtain rfl : x = .tuple [] := hx
  obtain rfl : G = [.ints .u32 a, .ints .u32 b, .ints .u32 k1, .ints .u32 k2, .ints .u32 k3, .ints .u32 k4, .ints .u32 k5, .ints .u32 k6, .ints .u32 l7] := hG
  refine callT_part [8] rfl (spoil_c h7 s7) ?_
  rintro v H' ⟨rfl, k7, rfl⟩ x G hx hG
  obtain rfl : x = .tuple [] := hx
  obtain rfl : G = [.ints .u32 a, .ints .u32 b, .ints .u32 k1, .ints .u32 k2, .ints .u32 k3, .ints .u32 k4, .ints .u32 k5, .ints .u32 k6, .ints .u32 k7] := hG
  refine callT_part [] rfl (norm_own sa.short la) ?_
  rintro v H' ⟨rfl, rfl⟩ x G hx hG
  obtain rfl : x = .slice ⟨9, 0, 0⟩ (limbsOf (val a)).length := hx
  obtain rfl : G = [.ints .u32 a, .ints .u32 b, .ints .u32 k1, .ints .u32 k2, .ints .u32 k3, .ints .u32 k4, .ints .u32 k5, .ints .u32 k6, .ints .u32 k7, .ints .u32 _] := hG
  refine callT_part [9] rfl (spoil_c (Nat.le_refl _) (limbsOf_short (m := 40) (val_bits la ha) (by decide))) ?_
  rintro v H' ⟨rfl, k8, rfl⟩ x G hx hG
  obtain rfl : x = .tuple [] := hx
  obtain rfl : G = [.ints .u32 a, .ints .u32 b, .ints .u32 k1, .ints .u32 k2, .ints .u32 k3, .ints .u32 k4, .ints .u32 k5, .ints .u32 k6, .ints .u32 k7, .ints .u32 k8] := hG
  refine callT_freeze 0 (keep 104 [1, 8]) rfl rfl (Nat.le_refl _) ⟨by show 0 + (0 + a.length) ≤ a.length; omega, trivial⟩ ?_
  refine callT_arg (.cons (Eqv.same _) (.cons (eqv_part (l := a) (by omega) (fun i _ => rfl)) .nil)) ?_
  refine callT_E (same44_c sa.short) rfl ?_
  apply branch_intro <;> intro h1
  · repeat (first | refine branch_true ?_ | refine branch_false ?_ | refine branch_f' (bne_self_eq_false _) ?_ | refine branch_t' (beq_self_eq_true _) ?_ | refine branch_t' (decide_eq_true rfl) ?_)
    refine callT_freeze 1 (keep 104 [96]) rfl rfl (Nat.zero_le _) ⟨by show 0 + (0 + b.length) ≤ b.length; omega, trivial⟩ ?_
    refine callT_arg (.cons (Eqv.same _) (.cons (eqv_part (l := b) (by omega) (fun i _ => rfl)) .nil)) ?_
    refine callT_E (same44_c sb.short) rfl ?_
    repeat (first | refine branch_true ?_ | refine branch_false ?_ | refine branch_f' (bne_self_eq_false _) ?_ | refine branch_t' (beq_self_eq_true _) ?_ | refine branch_t' (decide_eq_true rfl) ?_)
    refine callT_E awake_c rfl ?_
    repeat (first | refine branch_true ?_ | refine branch_false ?_ | refine branch_f' (bne_self_eq_false _) ?_ | refine branch_t' (beq_self_eq_true _) ?_ | refine branch_t' (decide_eq_true rfl) ?_)
    show Eqv _ _
    exact .up (.up (.refl _))
  · cases h1
end Go.Proofs
