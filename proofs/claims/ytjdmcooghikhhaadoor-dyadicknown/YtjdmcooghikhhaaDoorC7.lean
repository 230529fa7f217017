/- Chapter 14, part j: the reference's sums, products, rounding; Same, is. -/
import Derived.Test.YtjdmcooghikhhaaDoorC6
set_option linter.unusedVariables false
set_option linter.unusedSimpArgs false
/-! Dj. -/
namespace Go.Proofs.N13
open Go.E
set_option maxRecDepth 8000

theorem canonD_shift (n : Bool) (k m : Nat) (e : Int) : canonD n (2 ^ k * m) e = canonD n m (e + k) := by
  by_cases h0 : m = 0
  · subst h0; rw [Nat.mul_zero, canonD, if_pos rfl, canonD, if_pos rfl]
  obtain ⟨e1, e2⟩ := tz_spec m h0
  have h1 : 2 ^ k * m ≠ 0 := Nat.mul_ne_zero (Nat.pos_iff_ne_zero.1 (Nat.two_pow_pos k)) h0
  obtain ⟨t1, t2⟩ := tz_unique (n := 2 ^ k * m) (q := m / 2 ^ tz m) (k := k + tz m) e2 (by rw [Nat.pow_add, Nat.mul_assoc, ← e1])
  rw [canonD, if_neg h1, canonD, if_neg h0, t2, t1]
  congr 1
  omega
/-- The reference's sum. -/
def raddD (x y : Dy) : Dy :=
  let e := if y.e < x.e then y.e else x.e
  let p := 2 ^ (x.e - e).toNat * x.m
  let q := 2 ^ (y.e - e).toNat * y.m
  if x.neg = y.neg then canonD x.neg (p + q) e else if p < q then canonD y.neg (q - p) e else canonD x.neg (p - q) e
theorem canon_back {x : Dy} (hx : x.Canon) {e : Int} (h : e ≤ x.e) : canonD x.neg (2 ^ (x.e - e).toNat * x.m) e = x := by
  rw [canonD_shift, show e + ((x.e - e).toNat : Int) = x.e by omega]
  exact canonD_self hx
theorem canon_zero {x : Dy} (hx : x.Canon) (h : x.m = 0) : x = .zero := by
  rcases hx with h1 | h1
  · exact h1
  · omega
theorem raddD_eq {x y : Dy} (hx : x.Canon) (hy : y.Canon) : raddD x y = plusD x y := by
  unfold plusD
  by_cases h1 : x.m = 0
  · have := canon_zero hx h1
    subst this
    rw [if_pos h1]
    obtain ⟨E, hE⟩ : ∃ E, (if y.e < Dy.zero.e then y.e else Dy.zero.e) = E := ⟨_, rfl⟩
    have hle : E ≤ y.e := by rw [← hE]; show (if y.e < 0 then y.e else 0) ≤ y.e; split <;> omega
    have hb := canon_back hy hle
    have hr : raddD .zero y = if false = y.neg then canonD false (2 ^ (0 - E).toNat * 0 + 2 ^ (y.e - E).toNat * y.m) E else if 2 ^ (0 - E).toNat * 0 < 2 ^ (y.e - E).toNat * y.m then canonD y.neg (2 ^ (y.e - E).toNat * y.m - 2 ^ (0 - E).toNat * 0) E else canonD false (2 ^ (0 - E).toNat * 0 - 2 ^ (y.e - E).toNat * y.m) E := by
      rw [← hE]; rfl
    rw [hr, Nat.mul_zero, Nat.zero_add, Nat.sub_zero]
    cases hn : y.neg
    · rw [if_pos rfl]; rw [hn] at hb; exact hb
    · rw [if_neg (by simp)]
      have hm : 0 < y.m := by
        rcases Nat.eq_zero_or_pos y.m with h | h
        · rw [canon_zero hy h] at hn; cases hn
        · exact h
      rw [if_pos (Nat.mul_pos (Nat.two_pow_pos _) hm)]
      rw [hn] at hb; exact hb
  rw [if_neg h1]
  by_cases h2 : y.m = 0
  · have := canon_zero hy h2
    subst this
    rw [if_pos h2]
    obtain ⟨E, hE⟩ : ∃ E, (if Dy.zero.e < x.e then Dy.zero.e else x.e) = E := ⟨_, rfl⟩
    have hle : E ≤ x.e := by rw [← hE]; show (if 0 < x.e then 0 else x.e) ≤ x.e; split <;> omega
    have hb := canon_back hx hle
    have hr : raddD x .zero = if x.neg = false then canonD x.neg (2 ^ (x.e - E).toNat * x.m + 2 ^ (0 - E).toNat * 0) E else if 2 ^ (x.e - E).toNat * x.m < 2 ^ (0 - E).toNat * 0 then canonD false (2 ^ (0 - E).toNat * 0 - 2 ^ (x.e - E).toNat * x.m) E else canonD x.neg (2 ^ (x.e - E).toNat * x.m - 2 ^ (0 - E).toNat * 0) E := by
      rw [← hE]; rfl
    rw [hr, Nat.mul_zero, Nat.add_zero, Nat.sub_zero, if_neg (Nat.not_lt_zero _)]
    split <;> exact hb
  rw [if_neg h2]
  rfl
theorem plusD_canon {x y : Dy} (hx : x.Canon) (hy : y.Canon) : (plusD x y).Canon := by
  unfold plusD
  split
  · exact hy
  split
  · exact hx
  generalize (if y.e < x.e then y.e else x.e) = E
  simp only
  split
  · exact canonD_canon _ _ _
  split <;> exact canonD_canon _ _ _
theorem negD_canon {x : Dy} (hx : x.Canon) : (negD x).Canon := by
  rcases hx with rfl | h
  · exact .inl rfl
  · exact .inr h
theorem rneg_c {x : Dy} (hx : x.Canon) : callP Tryd.prog 27 [rA x] (· = rA (negD x)) := by
  have hl := bits_len0 x.m
  refine callE_def env (fn := Tryd.f27) rfl (by decide) rfl ?_
  apply branch_intro <;> intro h
  · have h0 : ¬ x.m = 0 := fun c => by have := of_decide_eq_true h; have := hl.2 c; omega
    have e : negD x = ⟨!x.neg, x.m, x.e⟩ := by rw [negD, decide_eq_true (p := x.m ≠ 0) h0, Bool.and_true]
    rw [e]
    show Eqv _ _
    exact .up (.up (.refl _))
  · have h0 : x.m = 0 := hl.1 (by have := of_decide_eq_false h; omega)
    have e := canon_zero hx h0
    have e2 : negD x = x := by rw [e]; rfl
    rw [e2]
    show Eqv _ _
    exact .up (.up (.refl _))

set_option maxHeartbeats 4000000 in
theorem radd14_c {x y : Dy} (cx : x.Canon) (cy : y.Canon) (hx : x.fit) (hy : y.fit) : callP Tryd.prog 43 [rA x, rA y] (· = rA (plusD x y)) := by
  rw [← raddD_eq cx cy]
  clear cx cy
  obtain ⟨n1, m1, e1⟩ := x
  obtain ⟨n2, m2, e2⟩ := y
  obtain ⟨hx1, hx2, hx3⟩ := hx
  obtain ⟨hy1, hy2, hy3⟩ := hy
  simp only at hx1 hx2 hx3 hy1 hy2 hy3
  have hd : (if e2 < e1 then e2 else e1) ≤ e1 ∧ (if e2 < e1 then e2 else e1) ≤ e2 ∧ -8192 ≤ (if e2 < e1 then e2 else e1) ∧ (if e2 < e1 then e2 else e1) ≤ 8192 := by split <;> omega
  have hpl : raddD ⟨n1, m1, e1⟩ ⟨n2, m2, e2⟩ = (let e := if e2 < e1 then e2 else e1
    let p := 2 ^ (e1 - e).toNat * m1
    let q := 2 ^ (e2 - e).toNat * m2
    if n1 = n2 then canonD n1 (p + q) e else if p < q then canonD n2 (q - p) e else canonD n1 (p - q) e) := rfl
  have cA := rshl_c m1 (e1 - if e2 < e1 then e2 else e1).toNat (by omega) (by omega)
  have cB := rshl_c m2 (e2 - if e2 < e1 then e2 else e1).toNat (by omega) (by omega)
  have hp := bitLen_two_mul (e1 - if e2 < e1 then e2 else e1).toNat m1
  have hq := bitLen_two_mul (e2 - if e2 < e1 then e2 else e1).toNat m2
  have hp : bitLen (2 ^ (e1 - if e2 < e1 then e2 else e1).toNat * m1) ≤ 30000 := by omega
  have hq : bitLen (2 ^ (e2 - if e2 < e1 then e2 else e1).toNat * m2) ≤ 30000 := by omega
  have wA : IntKind.i64.wrap (e1 - if e2 < e1 then e2 else e1) = ((e1 - if e2 < e1 then e2 else e1).toNat : Int) := by rw [wi (by omega) (by omega)]; omega
  have wB : IntKind.i64.wrap (e2 - if e2 < e1 then e2 else e1) = ((e2 - if e2 < e1 then e2 else e1).toNat : Int) := by rw [wi (by omega) (by omega)]; omega
  simp only at hpl
  rw [hpl]
  clear hpl
  rw [← wA] at cA
  rw [← wB] at cB
  generalize 2 ^ (e1 - if e2 < e1 then e2 else e1).toNat * m1 = p at *
  generalize 2 ^ (e2 - if e2 < e1 then e2 else e1).toNat * m2 = q at *
  have hs := bitLen_add_le hp hq
  refine callE_def env (fn := Tryd.f43) rfl (by decide) rfl ?_
  refine callT_E cA rfl ?_
  refine callT_E cB rfl ?_
  clear cA cB
  apply branch_intro <;> intro h3
  · have h3 : n1 = n2 := by simpa using h3
    rw [if_pos h3]
    refine draw_tree (picks [0, 1, 2, 3, 4, 5, 6, 7] .done) (by decide +kernel) ?_
    refine ⟨_, ⟨radd_c p q (by omega) (by omega), rfl⟩, ?_⟩
    refine ⟨_, ⟨make2_c n1 (m := p + q) (e := if e2 < e1 then e2 else e1) (by omega) (by omega), rfl⟩, ?_⟩
    show Eqv _ _
    exact .up (.up (.refl _))
  have h3 : ¬ n1 = n2 := by simpa using h3
  rw [if_neg h3]
  refine callT_E (rcmp_c p q (by omega) (by omega)) rfl ?_
  apply branch_intro <;> intro h4
  · have h4 : p < q := by
      have := of_decide_eq_true h4
      unfold cmpN at this
      split at this
      · assumption
      · split at this <;> omega
    rw [if_pos h4]
    have := bitLen_mono (show q - p ≤ q by omega)
    refine draw_tree (picks [0, 1, 2, 3, 4, 5, 6, 7] .done) (by decide +kernel) ?_
    refine ⟨_, ⟨rsub_c q p (by omega) (by omega), rfl⟩, ?_⟩
    refine ⟨_, ⟨make2_c n2 (m := q - p) (e := if e2 < e1 then e2 else e1) (by omega) (by omega), rfl⟩, ?_⟩
    show Eqv _ _
    exact .up (.up (.refl _))
  · have h4 : ¬ p < q := by
      intro hlt
      have := of_decide_eq_false h4
      rw [cmpN, if_pos hlt] at this
      omega
    rw [if_neg h4]
    have := bitLen_mono (show p - q ≤ p by omega)
    refine draw_tree (picks [0, 1, 2, 3, 4, 5, 6, 7] .done) (by decide +kernel) ?_
    refine ⟨_, ⟨rsub_c p q (by omega) (by omega), rfl⟩, ?_⟩
    refine ⟨_, ⟨make2_c n1 (m := p - q) (e := if e2 < e1 then e2 else e1) (by omega) (by omega), rfl⟩, ?_⟩
    show Eqv _ _
    exact .up (.up (.refl _))
theorem rmul14_c {x y : Dy} (hx : x.fit) (hy : y.fit) : callP Tryd.prog 38 [rA x, rA y] (· = rA (mulD x y)) := by
  obtain ⟨a1, a2, a3⟩ := hx
  obtain ⟨b1, b2, b3⟩ := hy
  have hm := bitLen_mul_le x.m y.m
  have we : IntKind.i64.wrap (x.e + y.e) = x.e + y.e := wi (by omega) (by omega)
  refine callE_def env (fn := Tryd.f38) rfl (by decide) rfl ?_
  refine draw_tree (picks [0, 1, 2, 3, 4, 5, 6, 7, 8, 9, 10, 11, 12, 13, 14, 15, 16] .done) (by decide +kernel) ?_
  refine ⟨_, ⟨rmul_c x.m y.m (by omega) (by omega), rfl⟩, ?_⟩
  have cc := make2_c (x.neg != y.neg) (m := x.m * y.m) (e := IntKind.i64.wrap (x.e + y.e)) (by omega) (by rw [we]; omega)
  refine ⟨_, ⟨cc, rfl⟩, ?_⟩
  rw [we]
  show Eqv _ _
  exact .up (.up (.refl _))
theorem rsign_c (x : Dy) : callP Tryd.prog 80 [rA x] (· = .int .i64 (signD x)) := by
  have hl := bits_len0 x.m
  refine callE_def env (fn := Tryd.f80) rfl (by decide) rfl ?_
  apply branch_intro <;> intro h
  · have h0 : x.m = 0 := hl.1 (by have := eq_of_beq h; omega)
    rw [signD, if_pos h0]
    show Eqv _ _
    exact .up (.up (.refl _))
  have h0 : ¬ x.m = 0 := fun c => by have := hl.2 c; rw [this] at h; simp at h
  rw [signD, if_neg h0]
  apply branch_intro <;> intro hn
  · rw [if_pos hn]
    show Eqv _ _
    exact .up (.up (.refl _))
  · rw [if_neg (by rw [hn]; simp)]
    show Eqv _ _
    exact .up (.up (.refl _))
theorem rcmp14_c {x y : Dy} (cx : x.Canon) (cy : y.Canon) (hx : x.fit) (hy : y.fit) : callP Tryd.prog 44 [rA x, rA y] (· = .int .i64 (signD (subD x y))) := by
  refine callE_def env (fn := Tryd.f44) rfl (by decide) rfl ?_
  refine draw_tree (picks [0, 1, 2, 3, 4, 5] .done) (by decide +kernel) ?_
  refine ⟨_, ⟨rneg_c cy, rfl⟩, ?_⟩
  refine ⟨_, ⟨radd14_c cx (negD_canon cy) hx (neg_fit hy), rfl⟩, ?_⟩
  refine ⟨_, ⟨rsign_c (plusD x (negD y)), rfl⟩, ?_⟩
  show Eqv _ _
  exact .up (.up (.refl _))
theorem rabs_c (x : Dy) : callP Tryd.prog 45 [rA x] (· = rA (absD x)) := by
  refine callE_def env (fn := Tryd.f45) rfl (by decide) rfl ?_
  show Eqv _ _
  exact .up (.up (.refl _))
theorem limbsOf_inj {a b : Nat} : limbsOf a = limbsOf b ↔ a = b := ⟨fun h => by have := congrArg val h; rwa [val_limbsOf, val_limbsOf] at this, fun h => by rw [h]⟩
theorem dsame_c (x y : Dy) (hx : bitLen x.m ≤ 1000000) : callP Tryd.prog 19 [dyA x, dyA y] (· = .bool (decide (x = y))) := by
  have hs := same_c (a := limbsOf x.m) (b := limbsOf y.m) (small_nat hx).short
  obtain ⟨n1, m1, e1⟩ := x
  obtain ⟨n2, m2, e2⟩ := y
  refine callE_def env (fn := Tryd.f19) rfl (by decide) rfl ?_
  apply branch_intro <;> intro h
  · have h1 : n1 = n2 := by simpa using h
    repeat (first | refine branch_true ?_ | refine branch_false ?_ | refine branch_f' (bne_self_eq_false _) ?_ | refine branch_t' (beq_self_eq_true _) ?_ | refine branch_t' (decide_eq_true rfl) ?_)
    apply branch_intro <;> intro h'
    · have h2 : e1 = e2 := by simpa using h'
      repeat (first | refine branch_true ?_ | refine branch_false ?_ | refine branch_f' (bne_self_eq_false _) ?_ | refine branch_t' (beq_self_eq_true _) ?_ | refine branch_t' (decide_eq_true rfl) ?_)
      refine callT_E hs rfl ?_
      repeat (first | refine branch_true ?_ | refine branch_false ?_ | refine branch_f' (bne_self_eq_false _) ?_ | refine branch_t' (beq_self_eq_true _) ?_ | refine branch_t' (decide_eq_true rfl) ?_)
      have e : decide ((⟨n1, m1, e1⟩ : Dy) = ⟨n2, m2, e2⟩) = decide (limbsOf m1 = limbsOf m2) := by
        simp only [decide_eq_decide, limbsOf_inj, Dy.mk.injEq]
        exact ⟨fun h => h.2.1, fun h => ⟨h1, h, h2⟩⟩
      rw [e]
      show Eqv _ _
      exact .up (.up (.refl _))
    · have h2 : ¬ e1 = e2 := by simpa using h'
      repeat (first | refine branch_true ?_ | refine branch_false ?_ | refine branch_f' (bne_self_eq_false _) ?_ | refine branch_t' (beq_self_eq_true _) ?_ | refine branch_t' (decide_eq_true rfl) ?_)
      have e : decide ((⟨n1, m1, e1⟩ : Dy) = ⟨n2, m2, e2⟩) = false := by
        simp only [decide_eq_false_iff_not, Dy.mk.injEq]
        exact fun h => h2 h.2.2
      rw [e]
      show Eqv _ _
      exact .up (.up (.refl _))
  · have h1 : ¬ n1 = n2 := by simpa using h
    repeat (first | refine branch_true ?_ | refine branch_false ?_ | refine branch_f' (bne_self_eq_false _) ?_ | refine branch_t' (beq_self_eq_true _) ?_ | refine branch_t' (decide_eq_true rfl) ?_)
    have e : decide ((⟨n1, m1, e1⟩ : Dy) = ⟨n2, m2, e2⟩) = false := by
      simp only [decide_eq_false_iff_not, Dy.mk.injEq]
      exact fun h => h1 h.1
    rw [e]
    show Eqv _ _
    exact .up (.up (.refl _))
theorem same_true {x y : Dy} (h : x = y) (hx : bitLen x.m ≤ 1000000) : callP Tryd.prog 19 [dyA x, dyA y] (· = .bool true) := by
  have := dsame_c x y hx
  rwa [decide_eq_true h] at this
theorem is_c {d w : Dy} {e : Int} (hw : bitLen w.m ≤ 1000000) (h : resV w = .tuple [dyA d, .int .i64 e]) (hd : bitLen d.m ≤ 1000000) : callP Tryd.prog 20 [dyA d, .int .i64 e, rA w] (· = .bool true) := by
  have co := rout_c w hw
  rw [h] at co
  refine callE_def env (fn := Tryd.f20) rfl (by decide) rfl ?_
  refine callT_E co rfl ?_
  repeat (first | refine branch_true ?_ | refine branch_false ?_ | refine branch_f' (bne_self_eq_false _) ?_ | refine branch_t' (beq_self_eq_true _) ?_ | refine branch_t' (decide_eq_true rfl) ?_)
  refine callT_E (same_true rfl hd) rfl ?_
  repeat (first | refine branch_true ?_ | refine branch_false ?_ | refine branch_f' (bne_self_eq_false _) ?_ | refine branch_t' (beq_self_eq_true _) ?_ | refine branch_t' (decide_eq_true rfl) ?_)
  show Eqv _ _
  exact .up (.up (.refl _))
theorem num_c (n : Bool) (m e : Int) (hm : 0 ≤ m ∧ m < 4294967296) : callP Tryd.prog 46 [.bool n, .int .u32 m, .int .i64 e] (· = dyL n [m] e) := by
  refine callE_def env (fn := Tryd.f46) rfl (by decide) rfl ?_
  apply choice_l
  show Eqv _ _
  exact .up (.up (.refl _))
end Go.Proofs.N13
/-! Rd. -/
namespace Go.Proofs.N13
open Go.E
set_option maxRecDepth 8000

/-- Twice the digits, plus a carry. -/
def dblL : List Int → Int → List Int
  | [], c => if 0 < c then [c] else []
  | d :: r, c => (2 * d + c) % 10 :: dblL r ((2 * d + c) / 10)
theorem dblL_decD (v : Nat) : ∀ c : Nat, c ≤ 1 → dblL (decD v) c = decD (2 * v + c) := by
  induction v using Nat.strongRecOn with
  | ind v ih =>
    intro c hc
    by_cases h : v < 10
    · rw [decD_small h, dblL, dblL]
      by_cases h2 : 2 * v + c < 10
      · rw [decD_small h2, if_neg (by omega), show (2 * (v : Int) + c) % 10 = ((2 * v + c : Nat) : Int) by omega]
      · rw [decD_big h2, if_pos (by omega), decD_small (by omega), show (2 * (v : Int) + c) % 10 = (((2 * v + c) % 10 : Nat) : Int) by omega, show (2 * (v : Int) + c) / 10 = (((2 * v + c) / 10 : Nat) : Int) by omega]
    · rw [decD_big h, dblL]
      obtain ⟨c', hc'⟩ : ∃ c', c' = (2 * (v % 10) + c) / 10 := ⟨_, rfl⟩
      have e1 : (2 * ((v % 10 : Nat) : Int) + c) / 10 = (c' : Int) := by omega
      have e2 : (2 * ((v % 10 : Nat) : Int) + c) % 10 = (((2 * v + c) % 10 : Nat) : Int) := by omega
      rw [e1, e2, ih (v / 10) (by omega) c' (by omega), decD_big (n := 2 * v + c) (by omega), show 2 * (v / 10) + c' = (2 * v + c) / 10 by omega]
theorem decD_len_bit (v : Nat) : (decD v).length ≤ bitLen v + 1 := by
  by_cases h : v = 0
  · subst h; rw [decD_small (by decide)]; simp
  · have := decL_len v
    rw [decL, if_neg h, ascii, List.length_map] at this
    omega
theorem decS_size (v : Nat) : (decS v).size ≤ bitLen v + 1 := by
  have h := decD_len_bit v
  have : (decS v).size = (decD v).length := by simp [decS, bytesI, ByteArray.size, ascii]
  omega
theorem size_list (s : ByteArray) : s.data.toList.length = s.size := Array.length_toList
def Dig9 (l : List Int) : Prop := ∀ x ∈ l, 0 ≤ x ∧ x ≤ 9
theorem digits_extract : ∀ d : Fin 10, (⟨#[48, 49, 50, 51, 52, 53, 54, 55, 56, 57]⟩ : ByteArray).extract d.1 (d.1 + 1) = ⟨#[UInt8.ofNat (48 + d.1)]⟩ := by decide +kernel
theorem bytesI_snoc (l : List Int) (x : Int) : bytesI (l ++ [x]) = bytesI l ++ ⟨#[UInt8.ofNat x.toNat]⟩ := by
  unfold bytesI
  refine ByteArray.ext ?_
  rw [ByteArray.data_append]
  simp
theorem drop_get {l : List Int} {j : Nat} (h : j < l.length) : l.drop j = l.getD j 0 :: l.drop (j + 1) := by
  rw [List.drop_eq_getElem_cons h, List.getD_eq_getElem?_getD, List.getElem?_eq_getElem h]
  rfl
structure RdSt where
  j : Nat
  c : Nat
  out : List Int
set_option maxRecDepth 8000 in
set_option maxHeartbeats 2000000 in
theorem rdecimal_c (x : Nat) (hx : bitLen x ≤ 1000000) : callP Tryd.prog 67 [ints .u8 (bitsOf x)] (· = .str (decS x)) := by
  have hbl := bitsOf_len x
  refine callE_def env (fn := Tryd.f67) rfl (by decide) rfl ?_
  apply choice_r
  have e0 : IntKind.i64.wrap (((bitsOf x).length : Int) - 1) = ((bitLen x : Nat) : Int) - 1 := by rw [hbl, wi (by omega) (by omega)]
  refine loop_weak (fun k : Nat => slots 68 [(0, ints .u8 (bitsOf x)), (3, .slice ⟨0, 0, 0⟩ (decD (x / 2 ^ k)).length), (4, .int .i64 ((k : Int) - 1))]) (fun k => [.ints .u8 (decD (x / 2 ^ k))])
    (fun k => k ≤ bitLen x) (fun k => k) (bitLen x) (Nat.le_refl _) (weak_keep (keep 68 [0, 3, 4]) [0] rfl ?_ ?_) ?_
  · have e1 : x / 2 ^ bitLen x = 0 := Nat.div_eq_of_lt (bitLen_le.1 (Nat.le_refl _))
    show [_, _, _, _, _, _, _, _, _, _, _, _, _, _, _, _, _, _, _, _, _, _, _, _, _, _, _, _, _, _, _, _, _, _, _, _, _, _, _, _, _, _, _, _, _, _, _, _, _, _, _, _, _, _, _, _, _, _, _, _, _, _, _, _, _, _, _, _] = _
    simp only [e0, e1, decD_small (show 0 < 10 by decide)]
    rfl
  · have e1 : x / 2 ^ bitLen x = 0 := Nat.div_eq_of_lt (bitLen_le.1 (Nat.le_refl _))
    rw [e1, decD_small (by decide)]
    rfl
  intro k hk
  apply branch_intro <;> intro h
  · obtain ⟨m, rfl⟩ : ∃ m, k = m + 1 := ⟨k - 1, by simp at h; omega⟩
    have em : ((m + 1 : Nat) : Int) - 1 = m := by omega
    have emt : ((((m + 1 : Nat) : Int) - 1)).toNat = m := by omega
    obtain ⟨b, hb⟩ : ∃ b, b = x / 2 ^ m % 2 := ⟨_, rfl⟩
    have hg : (bitsOf x).getD m 0 = (b : Int) := by
      rw [bv_at (bin_bitsOf x), bv_bitsOf, hb]
    obtain ⟨v, hv⟩ : ∃ v, v = x / 2 ^ (m + 1) := ⟨_, rfl⟩
    have hv2 : 2 * v + b = x / 2 ^ m := by
      rw [hv, hb, Nat.pow_succ, ← Nat.div_div_eq_div_mul]
      omega
    rw [← hv]
    have hbv : bitLen v ≤ bitLen x := by rw [hv]; exact bitLen_mono (Nat.div_le_self _ _)
    have hdl := dblL_decD v b (by omega)
    rw [hv2] at hdl
    have hD9 := decD_bound v
    have hDl := decD_len_bit v
    generalize decD v = D at *
    apply need_intro
    · simp only [em]; omega
    refine loop_weak (fun t : RdSt => slots 68 [(0, ints .u8 (bitsOf x)), (3, .slice ⟨0, 0, 0⟩ D.length), (4, .int .i64 m), (5, .int .u8 t.c), (6, .int .i64 t.j)]) (fun t => [.ints .u8 (t.out ++ D.drop t.j)])
      (fun t => t.j ≤ D.length ∧ t.out.length = t.j ∧ t.c ≤ 1 ∧ decD (x / 2 ^ m) = t.out ++ dblL (D.drop t.j) t.c) (fun t => D.length - t.j) ⟨0, b, []⟩ ⟨Nat.zero_le _, rfl, by simp only; omega, hdl.symm⟩ (weak_keep (keep 68 [0, 3, 4, 5, 6]) [0] rfl ?_ rfl) ?_
    · show [_, _, _, _, _, _, _, _, _, _, _, _, _, _, _, _, _, _, _, _, _, _, _, _, _, _, _, _, _, _, _, _, _, _, _, _, _, _, _, _, _, _, _, _, _, _, _, _, _, _, _, _, _, _, _, _, _, _, _, _, _, _, _, _, _, _, _, _] = _
      simp only [em, Int.toNat_natCast, hg]
      rfl
    rintro ⟨j, c, out⟩ ⟨hj, ho, hc, hd⟩
    simp only at hj ho hc hd
    apply branch_intro <;> intro h2
    · have hjl : j < D.length := by simp at h2; omega
      have hL : (out ++ D.drop j).length = D.length := by simp [ho]; omega
      have hgj := mid_get (l := D) ho
      obtain ⟨y, hy⟩ : ∃ y : Nat, D.getD j 0 = y := ⟨(D.getD j 0).toNat, by
        have := hD9 (D.getD j 0) (by rw [List.getD_eq_getElem?_getD, List.getElem?_eq_getElem hjl]; exact List.getElem_mem hjl)
        omega⟩
      have hy9 : y ≤ 9 := by
        have := hD9 (D.getD j 0) (by rw [List.getD_eq_getElem?_getD, List.getElem?_eq_getElem hjl]; exact List.getElem_mem hjl)
        omega
      rw [hy] at hgj
      have ej : 0 + ((j : Int)).toNat + 0 = j := by simp
      have ej1 : IntKind.i64.wrap ((j : Int) + 1) = ((j + 1 : Nat) : Int) := by rw [wi (by omega) (by omega)]; rfl
      have m1 : IntKind.u8.wrap (IntKind.u8.wrap (2 * (y : Int)) + c) = ((2 * y + c : Nat) : Int) := by
        rw [wu8 (x := 2 * (y : Int)) (by omega) (by omega), wu8 (by omega) (by omega)]
        omega
      have m2 : (((2 * y + c : Nat) : Int)).tmod 10 = (((2 * y + c) % 10 : Nat) : Int) := by
        rw [Int.tmod_eq_emod_of_nonneg (by omega)]
        omega
      have m3 : (((2 * y + c : Nat) : Int)).tdiv 10 = (((2 * y + c) / 10 : Nat) : Int) := by
        rw [Int.tdiv_eq_ediv_of_nonneg (by omega)]
        omega
      have m4 : IntKind.u8.wrap ((((2 * y + c) / 10 : Nat) : Int)) = (((2 * y + c) / 10 : Nat) : Int) := wu8 (by omega) (by omega)
      apply need_intro
      · dsimp only; omega
      apply need_intro
      · dsimp only
        rw [hL]; omega
      apply need_intro
      · decide
      apply need_intro
      · dsimp only; omega
      apply need_intro
      · dsimp only
        rw [hL]; omega
      apply need_intro
      · decide
      refine ⟨⟨j + 1, (2 * y + c) / 10, out ++ [(((2 * y + c) % 10 : Nat) : Int)]⟩, ⟨hjl, by simp [ho], by simp only; omega, ?_⟩, by simp only; omega, weak_keep (keep 68 [0, 3, 4, 5, 6]) [0] rfl ?_ ?_⟩
      · simp only
        rw [hd, List.append_assoc, drop_get hjl, hy, dblL, show (2 * (y : Int) + c) % 10 = (((2 * y + c) % 10 : Nat) : Int) by omega, show (2 * (y : Int) + c) / 10 = (((2 * y + c) / 10 : Nat) : Int) by omega]
        rfl
      · show [_, _, _, _, _, _, _, _, _, _, _, _, _, _, _, _, _, _, _, _, _, _, _, _, _, _, _, _, _, _, _, _, _, _, _, _, _, _, _, _, _, _, _, _, _, _, _, _, _, _, _, _, _, _, _, _, _, _, _, _, _, _, _, _, _, _, _, _] = _
        simp only [ej, hgj, m1, m3, m4, ej1]
        rfl
      · simp only [ej, hgj, m1, m2]
        show [Blk.ints _ _] = _
        rw [mid_set ho hjl]
    · have hjl : j = D.length := by simp at h2; omega
      subst hjl
      have eb : out ++ D.drop D.length = out := by rw [List.drop_length, List.append_nil]
      rw [List.drop_length, dblL] at hd
      have em1 : IntKind.i64.wrap ((m : Int) - 1) = (m : Int) - 1 := wi (by omega) (by omega)
      apply branch_intro <;> intro h3
      · have hc0 : 0 < (c : Int) := by simp at h3; omega
        rw [if_pos hc0] at hd
        apply choice_l
        apply need_intro
        · show (D.length + 1) * 1 ≤ 2 ^ 40
          omega
        apply need_intro
        · exact ⟨by show 0 + D.length = (out ++ D.drop D.length).length; rw [eb]; omega, isRow_irow _ _ _⟩
        refine ⟨m, by omega, by omega, weak_keep (keep 68 [0, 3, 4]) [0] rfl ?_ ?_⟩
        · rw [hd]
          show [_, _, _, _, _, _, _, _, _, _, _, _, _, _, _, _, _, _, _, _, _, _, _, _, _, _, _, _, _, _, _, _, _, _, _, _, _, _, _, _, _, _, _, _, _, _, _, _, _, _, _, _, _, _, _, _, _, _, _, _, _, _, _, _, _, _, _, _] = _
          simp only [em1, List.length_append, List.length_cons, List.length_nil, ho]
          rfl
        · rw [hd]
          show [Blk.ints _ _] = _
          simp only [eb]
          rw [snoc_row]
      · have hc0 : c = 0 := by simp at h3; omega
        subst hc0
        rw [if_neg (by omega), List.append_nil] at hd
        refine ⟨m, by omega, by omega, weak_keep (keep 68 [0, 3, 4]) [0] rfl ?_ ?_⟩
        · rw [hd]
          show [_, _, _, _, _, _, _, _, _, _, _, _, _, _, _, _, _, _, _, _, _, _, _, _, _, _, _, _, _, _, _, _, _, _, _, _, _, _, _, _, _, _, _, _, _, _, _, _, _, _, _, _, _, _, _, _, _, _, _, _, _, _, _, _, _, _, _, _] = _
          simp only [em1, ho]
          rfl
        · rw [hd]
          show [Blk.ints _ _] = _
          simp only [eb]
  · have hk0 : k = 0 := by simp at h; omega
    subst hk0
    rw [Nat.pow_zero, Nat.div_one]
    have hD9 := decD_bound x
    have hDl := decD_len_bit x
    rw [decS]
    generalize decD x = D at *
    have eL : IntKind.i64.wrap ((D.length : Int) - 1) = (D.length : Int) - 1 := wi (by omega) (by omega)
    refine loop_weak (fun k : Nat => slots 68 [(3, .slice ⟨0, 0, 0⟩ D.length), (8, .str (bytesI (ascii (D.drop k)).reverse)), (9, .int .i64 ((k : Int) - 1))]) (fun k => [.ints .u8 D])
      (fun k => k ≤ D.length) (fun k => k) D.length (Nat.le_refl _) (weak_keep (keep 68 [3, 8, 9]) [0] rfl ?_ rfl) ?_
    · show [_, _, _, _, _, _, _, _, _, _, _, _, _, _, _, _, _, _, _, _, _, _, _, _, _, _, _, _, _, _, _, _, _, _, _, _, _, _, _, _, _, _, _, _, _, _, _, _, _, _, _, _, _, _, _, _, _, _, _, _, _, _, _, _, _, _, _, _] = _
      simp only [eL, List.drop_length]
      rfl
    intro k hk
    apply branch_intro <;> intro h3
    · obtain ⟨m, rfl⟩ : ∃ m, k = m + 1 := ⟨k - 1, by simp at h3; omega⟩
      have em : ((m + 1 : Nat) : Int) - 1 = m := by omega
      refine draw_intro [0, 1, 2, 3, 4, 5, 6, 7, 8, 9, 10, 11, 12] (by decide +kernel) ?_
      obtain ⟨y, hy⟩ : ∃ y : Nat, D.getD m 0 = y := ⟨(D.getD m 0).toNat, by
        have := hD9 (D.getD m 0) (by rw [List.getD_eq_getElem?_getD, List.getElem?_eq_getElem (by omega)]; exact List.getElem_mem (by omega))
        omega⟩
      have hy9 : y ≤ 9 := by
        have := hD9 (D.getD m 0) (by rw [List.getD_eq_getElem?_getD, List.getElem?_eq_getElem (by omega)]; exact List.getElem_mem (by omega))
        omega
      have emm : 0 + ((m : Int)).toNat + 0 = m := by simp
      have ey : IntKind.u8.wrap ((y : Int) + 1) = ((y + 1 : Nat) : Int) := by rw [wu8 (by omega) (by omega)]; rfl
      have em1 : IntKind.i64.wrap ((m : Int) - 1) = (m : Int) - 1 := wi (by omega) (by omega)
      have hx10 := digits_extract ⟨y, by omega⟩
      apply need_intro
      · simp only [em]; omega
      apply need_intro
      · simp only [em, Int.toNat_natCast]; omega
      apply need_intro
      · simp only [em]; omega
      apply need_intro
      · simp only [em, Int.toNat_natCast]; omega
      apply need_intro
      · simp only [em, Int.toNat_natCast, Nat.zero_add, Nat.add_zero, hy, ey]
        exact ⟨by omega, by omega, by show ((y + 1 : Nat) : Int) ≤ 10; omega⟩
      apply need_intro
      · simp only [em, Int.toNat_natCast, Nat.zero_add, Nat.add_zero, hy, ey, hx10]
        have e1 : (bytesI (ascii (D.drop (m + 1))).reverse).size = D.length - (m + 1) := by
          rw [← size_list]
          unfold bytesI ascii
          simp
        rw [e1]
        show ((D.length - (m + 1) + 1 : Nat) : Int) ≤ 9223372036854775807
        omega
      refine ⟨m, by omega, by omega, weak_keep (keep 68 [3, 8, 9]) [0] rfl ?_ rfl⟩
      have hacc : bytesI (ascii (D.drop m)).reverse = bytesI (ascii (D.drop (m + 1))).reverse ++ ⟨#[UInt8.ofNat (48 + y)]⟩ := by
        rw [drop_get (show m < D.length by omega), hy, ascii, List.map_cons, List.reverse_cons, bytesI_snoc, show (48 + (y : Int)).toNat = 48 + y by omega]
        rfl
      rw [hacc]
      show [_, _, _, _, _, _, _, _, _, _, _, _, _, _, _, _, _, _, _, _, _, _, _, _, _, _, _, _, _, _, _, _, _, _, _, _, _, _, _, _, _, _, _, _, _, _, _, _, _, _, _, _, _, _, _, _, _, _, _, _, _, _, _, _, _, _, _, _] = _
      simp only [em, Int.toNat_natCast, Nat.zero_add, Nat.add_zero, hy, ey, em1, hx10]
      rfl
    · have hk0 : k = 0 := by simp at h3; omega
      subst hk0
      show Eqv _ _
      exact .up (.up (.refl _))
end Go.Proofs.N13
