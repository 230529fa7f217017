/- Chapter 14, part x: rounding, measured. -/
import Derived.Test.YtjdmcooghikhhaaDoorC16
set_option linter.unusedVariables false
set_option linter.unusedSimpArgs false
/-! Dx. -/
namespace Go.Proofs.N13
open Go.E
set_option maxRecDepth 8000

theorem canonD_neg (n : Bool) {m : Nat} {e : Int} (h : m ≠ 0) : (canonD n m e).neg = n := by
  rw [canonD, if_neg h]
theorem canonD_m0 (n : Bool) {m : Nat} {e : Int} (h : (canonD n m e).m ≠ 0) : m ≠ 0 := fun c => by
  apply h
  rw [canonD, if_pos c]; rfl
theorem canonD_ge (n : Bool) {m : Nat} {e : Int} (h : (canonD n m e).m ≠ 0) : e ≤ (canonD n m e).e := by
  rw [canonD, if_neg (canonD_m0 n h)]
  show e ≤ e + tz m
  omega
/-- The remainders of a division by 2 ^ (s + 1). -/
theorem half_facts (m s : Nat) : ∃ ρ : Nat, ρ < 2 ^ s ∧ m = (2 * (m / 2 ^ (s + 1)) + m / 2 ^ s % 2) * 2 ^ s + ρ := by
  refine ⟨m % 2 ^ s, Nat.mod_lt _ (Nat.two_pow_pos s), ?_⟩
  have e1 : m / 2 ^ (s + 1) = m / 2 ^ s / 2 := by rw [Nat.pow_succ, Nat.div_div_eq_div_mul]
  have e2 : 2 * (m / 2 ^ (s + 1)) + m / 2 ^ s % 2 = m / 2 ^ s := by rw [e1]; omega
  rw [e2, Nat.mul_comm]
  exact (Nat.div_add_mod m (2 ^ s)).symm
theorem sgn_sub (n : Bool) (a b : Int) : sgn n a - sgn n b = sgn n (a - b) := by
  cases n <;> simp [sgn] <;> omega
/-- What rounding does, measured in units of 2 ^ -1200. -/
structure RFacts (near : Bool) (x r : Dy) (k : Int) : Prop where
  canon : r.Canon
  exp : -((1200 : Nat) : Int) ≤ r.e
  part : r.m ≠ 0 → -k ≤ r.e ∧ r.neg = x.neg ∧ x.m ≠ 0
  sign : r.neg = true → x.neg = true
  diff : near = true → (V 1200 x - V 1200 r).natAbs ≤ 2 ^ (-k - 1 + 1200).toNat
  less : near = false → (V 1200 x - V 1200 r).natAbs < 2 ^ (-k + 1200).toNat ∧ (V 1200 r).natAbs ≤ (V 1200 x).natAbs
theorem round_facts (near : Bool) {x : Dy} {k : Int} (hc : x.Canon) (he : -((999 : Nat) : Int) ≤ x.e) (hk : -1199 ≤ k ∧ k ≤ 1199) : RFacts near x (roundD near x k) k := by
  unfold roundD
  by_cases h : -k - x.e ≤ 0 ∨ x.m = 0
  · rw [if_pos h]
    refine ⟨hc, by omega, fun hm => ⟨?_, rfl, hm⟩, fun h => h, fun _ => ?_, fun _ => ⟨?_, Nat.le_refl _⟩⟩
    · rcases h with h | h
      · omega
      · exact absurd h hm
    · rw [Int.sub_self]; exact Nat.zero_le _
    · rw [Int.sub_self]; exact Nat.two_pow_pos _
  rw [if_neg h]
  have hm : x.m ≠ 0 := fun c => h (.inr c)
  obtain ⟨s, hs⟩ : ∃ s : Nat, -k - x.e = ((s + 1 : Nat) : Int) := ⟨(-k - x.e).toNat - 1, by omega⟩
  rw [hs, Int.toNat_natCast, Nat.add_sub_cancel]
  obtain ⟨ρ, hρ, hmr⟩ := half_facts x.m s
  have hbit : x.m / 2 ^ s % 2 < 2 := Nat.mod_lt _ (by decide)
  generalize hq : x.m / 2 ^ (s + 1) = q at *
  generalize hbt : x.m / 2 ^ s % 2 = b at *
  obtain ⟨a, ha⟩ : ∃ a : Nat, (x.e + 1200).toNat = a := ⟨_, rfl⟩
  have e1 : (-k + 1200).toNat = a + (s + 1) := by omega
  have e2 : (-k - 1 + 1200).toNat = a + s := by omega
  generalize hM : q + (if near = true ∧ b = 1 then 1 else 0) = M
  have vr : V 1200 (canonD x.neg M (-k)) = sgn x.neg ((M : Int) * ((2 ^ (a + (s + 1)) : Nat) : Int)) := by
    rw [V_canonD 1200 _ _ (by omega), show (-k + ((1200 : Nat) : Int)).toNat = a + (s + 1) from e1]
  have vx : V 1200 x = sgn x.neg ((x.m : Int) * ((2 ^ a : Nat) : Int)) := by
    unfold V
    rw [show (x.e + ((1200 : Nat) : Int)).toNat = a from ha]
  have hA := Nat.two_pow_pos a
  have hP := Nat.two_pow_pos s
  have hPA : 2 ^ (a + s) = 2 ^ s * 2 ^ a := by rw [Nat.pow_add, Nat.mul_comm]
  have hPA2 : 2 ^ (a + (s + 1)) = 2 * 2 ^ s * 2 ^ a := by rw [Nat.pow_add, Nat.pow_succ, Nat.mul_comm, Nat.mul_comm 2]
  have hdiff : (V 1200 x - V 1200 (canonD x.neg M (-k))).natAbs = ((x.m : Int) - M * (2 * ((2 ^ s : Nat) : Int))).natAbs * 2 ^ a := by
    rw [vr, vx, sgn_sub, sgn_abs, hPA2]
    rw [← Int.natAbs_natCast (2 ^ a), ← Int.natAbs_mul, Int.natAbs_natCast]
    congr 1
    simp only [Int.natCast_mul]
    rw [Int.sub_mul, Int.mul_assoc (M : Int)]
    rfl
  refine ⟨canonD_canon _ _ _, canonD_e 1200 _ _ (by omega), fun h0 => ⟨canonD_ge _ h0, canonD_neg _ (canonD_m0 _ h0), hm⟩, fun h0 => ?_, fun hn => ?_, fun hn => ⟨?_, ?_⟩⟩
  · by_cases hM0 : M = 0
    · subst hM0
      rw [canonD, if_pos rfl] at h0
      cases h0
    · rwa [canonD_neg _ hM0] at h0
  · rw [hdiff, e2, hPA]
    refine Nat.mul_le_mul_right _ ?_
    have hMb : M = q + b := by
      rw [← hM]
      by_cases hb : b = 1
      · rw [if_pos ⟨hn, hb⟩, hb]
      · rw [if_neg (fun c => hb c.2)]; omega
    have : b = 0 ∨ b = 1 := by omega
    rw [hMb]
    generalize 2 ^ s = P at *
    rw [hmr]
    rcases this with rfl | rfl
    · have : ((((2 * q + 0) * P + ρ : Nat) : Int) - ((q + 0 : Nat) : Int) * (2 * (P : Int))) = ρ := by
        simp only [Nat.add_zero, Int.natCast_add, Int.natCast_mul]
        rw [Int.mul_assoc, Int.mul_left_comm]
        simp
        omega
      rw [this]; omega
    · have : ((((2 * q + 1) * P + ρ : Nat) : Int) - ((q + 1 : Nat) : Int) * (2 * (P : Int))) = ρ - P := by
        simp only [Int.natCast_add, Int.natCast_mul, Int.add_mul]
        rw [Int.mul_assoc, Int.mul_left_comm]
        simp
        omega
      rw [this]; omega
  · rw [hdiff, e1, hPA2]
    refine Nat.mul_lt_mul_of_pos_right ?_ hA
    have hMq : M = q := by rw [← hM, if_neg (fun c => by rw [hn] at c; exact Bool.false_ne_true c.1)]; omega
    rw [hMq]
    generalize 2 ^ s = P at *
    rw [hmr]
    have : ((((2 * q + b) * P + ρ : Nat) : Int) - (q : Int) * (2 * (P : Int))) = ((b * P + ρ : Nat) : Int) := by
      simp only [Int.natCast_add, Int.natCast_mul, Int.add_mul]
      rw [Int.mul_assoc, Int.mul_left_comm]
      simp
      omega
    rw [this, Int.natAbs_natCast]
    have : b * P ≤ 1 * P := Nat.mul_le_mul_right _ (by omega)
    omega
  · rw [vr, vx, sgn_abs, sgn_abs, ← Int.natCast_mul, ← Int.natCast_mul, Int.natAbs_natCast, Int.natAbs_natCast, hPA2, ← Nat.mul_assoc]
    refine Nat.mul_le_mul_right _ ?_
    have hMq : M = q := by rw [← hM, if_neg (fun c => by rw [hn] at c; exact Bool.false_ne_true c.1)]; omega
    rw [hMq]
    generalize 2 ^ s = P at *
    rw [hmr, Nat.add_mul]
    have : 2 * q * P = q * (2 * P) := by rw [Nat.mul_comm 2 q, Nat.mul_assoc]
    omega
theorem roundD_negD (near : Bool) (x : Dy) (k : Int) (hc : x.Canon) : roundD near (negD x) k = negD (roundD near x k) := by
  unfold roundD
  by_cases h : -k - x.e ≤ 0 ∨ x.m = 0
  · rw [if_pos h, if_pos (show -k - (negD x).e ≤ 0 ∨ (negD x).m = 0 from h)]
  · rw [if_neg h, if_neg (show ¬ (-k - (negD x).e ≤ 0 ∨ (negD x).m = 0) from h)]
    have hm : x.m ≠ 0 := fun c => h (.inr c)
    show canonD (!x.neg && decide (x.m ≠ 0)) _ _ = _
    rw [decide_eq_true hm, Bool.and_true]
    show canonD (!x.neg) (x.m / 2 ^ (-k - x.e).toNat + if near = true ∧ x.m / 2 ^ ((-k - x.e).toNat - 1) % 2 = 1 then 1 else 0) (-k) = _
    generalize x.m / 2 ^ (-k - x.e).toNat + (if near = true ∧ x.m / 2 ^ ((-k - x.e).toNat - 1) % 2 = 1 then 1 else 0) = M
    by_cases hM : M = 0
    · subst hM; rfl
    · have hd : M / 2 ^ tz M ≠ 0 := by have := (tz_spec M hM).2; omega
      rw [canonD, if_neg hM, canonD, if_neg hM, negD]
      simp only
      rw [decide_eq_true hd, Bool.and_true]
theorem round_again (near near' : Bool) {x r : Dy} {k : Int} (h : RFacts near x r k) : roundD near' r k = r := by
  unfold roundD
  rw [if_pos]
  by_cases hm : r.m = 0
  · exact .inr hm
  · exact .inl (by have := (h.part hm).1; omega)
end Go.Proofs.N13
/-! Dy. -/
namespace Go.Proofs.N13
open Go.E
set_option maxRecDepth 8000

theorem round_g {u : AVal} {x r : Dy} (hu : DArg u x) {k : Int} (hk : -1199 ≤ k ∧ k ≤ 1199) (hr : roundD true x k = r) (hw : r.within = true) : callP Tryd.prog 16 [u, .int .i64 k] (· = .tuple [dyA r, .int .i64 0]) := by
  obtain ⟨⟨n, l, m, e, rfl, h, rfl⟩, hx⟩ := hu
  have c := round_c n h (k := k) (by omega)
  rwa [roundV, if_neg (by omega), if_pos hx, hr, resV_in hw] at c
theorem trunc_g {u : AVal} {x r : Dy} (hu : DArg u x) {k : Int} (hk : -1199 ≤ k ∧ k ≤ 1199) (hr : roundD false x k = r) (hw : r.within = true) : callP Tryd.prog 17 [u, .int .i64 k] (· = .tuple [dyA r, .int .i64 0]) := by
  obtain ⟨⟨n, l, m, e, rfl, h, rfl⟩, hx⟩ := hu
  have c := trunc_c n h (k := k) (by omega)
  rwa [roundV, if_neg (by omega), if_pos hx, hr, resV_in hw] at c
theorem two_lt {u v P T : Nat} (hu : u < 2 ^ P) (hv : v ≤ 2 ^ P) (h : P + 1 ≤ T) : u + v < 2 ^ T := by
  have h1 : 2 ^ (P + 1) ≤ 2 ^ T := Nat.pow_le_pow_right (by decide) h
  rw [Nat.pow_succ] at h1
  omega
theorem RFacts.bd {near : Bool} {x r : Dy} {k : Int} (h : RFacts near x r k) (hx : Bd 1200 1127 x) (hk : -1199 ≤ k ∧ k ≤ 1199) : Bd 1200 1300 r := by
  refine ⟨h.canon, h.exp, ?_⟩
  have h1 := hx.val
  generalize hT : 1200 + 1300 = T
  generalize hU : 1200 + 1127 = U at h1
  obtain ⟨P, hP⟩ : ∃ P, P = U + 72 := ⟨_, rfl⟩
  have h2 : (V 1200 x - V 1200 r).natAbs ≤ 2 ^ P := by
    cases near
    · exact Nat.le_of_lt (Nat.lt_of_lt_of_le (h.less rfl).1 (Nat.pow_le_pow_right (by decide) (by omega)))
    · exact Nat.le_trans (h.diff rfl) (Nat.pow_le_pow_right (by decide) (by omega))
  have h3 : (V 1200 x).natAbs < 2 ^ P := Nat.lt_of_lt_of_le h1 (Nat.pow_le_pow_right (by decide) (by omega))
  exact Nat.lt_of_le_of_lt (show (V 1200 r).natAbs ≤ (V 1200 x).natAbs + (V 1200 x - V 1200 r).natAbs by omega) (two_lt h3 h2 (by omega))
theorem bd_one {e : Int} (he : -1200 ≤ e ∧ e ≤ 1200) : Bd 1200 1300 ⟨false, 1, e⟩ := by
  refine ⟨.inr rfl, by show -((1200 : Nat) : Int) ≤ e; omega, ?_⟩
  rw [V_one, Int.natAbs_natCast]
  generalize hT : 1200 + 1300 = T
  exact Nat.pow_lt_pow_right (by decide) (by omega)
theorem num_e (a e : Int) (h : a = e) : callP Tryd.prog 46 [.bool false, .int .u32 1, .int .i64 a] (· = dyA ⟨false, 1, e⟩) := by
  subst h
  exact num_n false (m := 1) (k := 1) rfl a (by decide) (by decide)
/-- A distance against a number: the order. -/
theorem dist_sg {u v w' : AVal} {x y z : Dy} {L : Nat} (hu : DArg u x) (hv : DArg v y) (hz : DArg w' z) (bx : Bd 1200 1300 x) (by' : Bd 1200 1300 y) (bz : Bd 1200 L z) :
    callP Tryd.prog 36 [u, v] (· = dyA (absD (subD x y))) ∧ callP Tryd.prog 32 [dyA (absD (subD x y)), w'] (· = .int .i64 (sg (((V 1200 x - V 1200 y).natAbs : Int) - V 1200 z))) := by
  have bd : Bd 1200 1301 (absD (subD x y)) := (bx.sub by').abs
  have c := order_s (bd.arg (by decide) (by decide) (by decide)) hz (bd.mono (Nat.le_max_left 1301 L)) (bz.mono (Nat.le_max_right 1301 L))
  rw [V_abs, V_sub bx.exp by'.exp] at c
  exact ⟨distance_g hu hv (bd.within (by decide) (by decide) (by decide)), c⟩
theorem len_pos (m : Nat) : ((limbsOf m).length : Int) > 0 ↔ m ≠ 0 := by
  have := limbsOf_length0 m
  omega

set_option maxHeartbeats 16000000 in
theorem nearest_law (n1 : Bool) (f1 : Nat → Int) (hf1 : HasL kSm f1) (n : Int) (hn : -32768 ≤ n ∧ n ≤ 32767) : callP Tryd.prog 11 [smA n1 f1, .int .i16 n] (· = .bool true) := by
  have hb := tmod_b (IntKind.i64.wrap n) (k := 1200) (by decide)
  have hk : -1199 ≤ (IntKind.i64.wrap n).tmod 1200 ∧ (IntKind.i64.wrap n).tmod 1200 ≤ 1199 := by omega
  have b1 := sm_bd n1 hf1
  have a1 := sm_arg n1 hf1
  have o1 := of_c14 n1 hf1
  have hnx : (smD n1 f1).m ≠ 0 → (smD n1 f1).neg = n1 := fun h => canonD_neg _ (canonD_m0 _ h)
  generalize smD n1 f1 = x at *
  have bx := b1.wider 201
  have bx' : Bd 1200 1300 x := bx.mono (by decide)
  have w : ∀ {L : Nat} {t : Dy}, Bd 1200 L t → L ≤ 1302 → t.within = true := fun h hl => h.within (by decide) (by omega) (by omega)
  have ar : ∀ {L : Nat} {t : Dy}, Bd 1200 L t → L ≤ 1302 → DArg (dyA t) t := fun h hl => h.arg (by decide) (by omega) (by omega)
  have ny := negated_g a1
  have bn := bx'.neg
  refine callE_def env (fn := Tryd.f11) rfl (by decide) rfl ?_
  refine callT_E o1 rfl ?_
  refine need_intro (by decide) ?_
  generalize (IntKind.i64.wrap n).tmod 1200 = k at *
  have R := round_facts true b1.canon b1.exp hk
  have T := round_facts false b1.canon b1.exp hk
  have br := R.bd bx hk
  have bt := T.bd bx hk
  have ru := roundD_negD true x k b1.canon
  have tu := roundD_negD false x k b1.canon
  have rr := round_again true true R
  have tr := round_again true false R
  have c1 := round_g a1 hk rfl (w br (by decide))
  have c2 := trunc_g a1 hk rfl (w bt (by decide))
  have c3 := round_g (ar bn (by decide)) hk ru (w br.neg (by decide))
  have c4 := trunc_g (ar bn (by decide)) hk tu (w bt.neg (by decide))
  have c5 := round_g (ar br (by decide)) hk rr (w br (by decide))
  have c6 := trunc_g (ar br (by decide)) hk tr (w br (by decide))
  generalize roundD true x k = r at *
  generalize roundD false x k = t at *
  have w1 : IntKind.i64.wrap (0 - k) = -k := by rw [wi (by omega) (by omega)]; omega
  have w2 : IntKind.i64.wrap (IntKind.i64.wrap (0 - k) - 1) = -k - 1 := by rw [w1, wi (by omega) (by omega)]
  have nu1 := num_e _ _ w2
  have nu2 := num_e _ _ w1
  obtain ⟨d1, q1⟩ := dist_sg a1 (ar br (by decide)) (one_arg (-k - 1) (by omega)) bx' br (bd_one (e := -k - 1) (by omega))
  obtain ⟨d2, q2⟩ := dist_sg a1 (ar bt (by decide)) (one_arg (-k) (by omega)) bx' bt (bd_one (e := -k) (by omega))
  have bax : Bd 1200 1301 (absD (subD x .zero)) := (bx'.sub (.zero _ _)).abs
  obtain ⟨d3, q3⟩ := dist_sg (ar bt (by decide)) zero_arg (ar bax (by decide)) bt (.zero _ _) bax
  have d4 := zero_right (distance_g a1 zero_arg (w bax (by decide)))
  have d3 := zero_right d3
  rw [V_abs, V_sub bx'.exp (Bd.zero 1200 1300).exp, V_zero, Int.sub_zero, Int.sub_zero] at q3
  rw [V_one] at q1 q2
  have h1 := R.diff rfl
  obtain ⟨h2, h3⟩ := T.less rfl
  have g1 : sg (((V 1200 x - V 1200 r).natAbs : Int) - ((2 ^ (-k - 1 + ((1200 : Nat) : Int)).toNat : Nat) : Int)) ≤ 0 := (sg_le _).2 (by have : (V 1200 x - V 1200 r).natAbs ≤ 2 ^ (-k - 1 + ((1200 : Nat) : Int)).toNat := h1; omega)
  have g2 : sg (((V 1200 x - V 1200 t).natAbs : Int) - ((2 ^ (-k + ((1200 : Nat) : Int)).toNat : Nat) : Int)) < 0 := by
    have : (V 1200 x - V 1200 t).natAbs < 2 ^ (-k + ((1200 : Nat) : Int)).toNat := h2
    have h5 : sg (((V 1200 x - V 1200 t).natAbs : Int) - ((2 ^ (-k + ((1200 : Nat) : Int)).toNat : Nat) : Int)) ≤ 0 := (sg_le _).2 (by omega)
    have h6 := (sg_zero (((V 1200 x - V 1200 t).natAbs : Int) - ((2 ^ (-k + ((1200 : Nat) : Int)).toNat : Nat) : Int)))
    omega
  have g3 : sg (((V 1200 t).natAbs : Int) - ((V 1200 x).natAbs : Int)) ≤ 0 := (sg_le _).2 (by omega)
  generalize sg (((V 1200 x - V 1200 r).natAbs : Int) - ((2 ^ (-k - 1 + ((1200 : Nat) : Int)).toNat : Nat) : Int)) = s1 at *
  generalize sg (((V 1200 x - V 1200 t).natAbs : Int) - ((2 ^ (-k + ((1200 : Nat) : Int)).toNat : Nat) : Int)) = s2 at *
  generalize sg (((V 1200 t).natAbs : Int) - ((V 1200 x).natAbs : Int)) = s3 at *
  have n1' := negated_g (ar br (by decide))
  have n2' := negated_g (ar bt (by decide))
  have e1 := same_e (w br.neg (by decide)) (rfl : negD r = negD r)
  have e2 := same_e (w bt.neg (by decide)) (rfl : negD t = negD t)
  have e3 := same_e (w br (by decide)) (rfl : r = r)
  have pr := R.part
  have pt := T.part
  have st := T.sign
  have lr := len_pos r.m
  have lt := len_pos t.m
  have xm : x.neg = true → x.m ≠ 0 := fun h c => by
    rw [canon_zero b1.canon c] at h
    cases h
  clear w ar h1 h2 h3 R T br bt bx bx' b1 bn bax a1 ru tu rr tr
  refine callT_E c1 rfl ?_
  refine callT_E c2 rfl ?_
  refine callT_E ny rfl ?_
  refine callT_E c3 rfl ?_
  refine callT_E ny rfl ?_
  refine callT_E c4 rfl ?_
  refine callT_E c5 rfl ?_
  refine callT_E c6 rfl ?_
  repeat (first | refine need_intro (by decide) ?_ | refine branch_true ?_ | refine branch_false ?_ | (refine branch_t' (decide_eq_true ?_) ?_; focus omega) | (refine branch_f' (decide_eq_false ?_) ?_; focus omega) | (refine branch_t' (beq_iff_eq.2 ?_) ?_; focus omega) | (refine branch_f' (beq_eq_false_iff_ne.2 ?_) ?_; focus omega) | (refine branch_t' (bne_iff_ne.2 ?_) ?_; focus omega) | (refine branch_f' (bne_eq_false_iff_eq.2 ?_) ?_; focus omega) | refine branch_t' (by assumption) ?_ | refine branch_f' (by assumption) ?_ | refine branch_f' (bne_self_eq_false _) ?_ | refine branch_t' (beq_self_eq_true _) ?_ | (refine branch_f' ?_ ?_; focus (simp; done)) | (refine branch_t' ?_ ?_; focus (simp; done)))
  refine callT_E d1 rfl ?_
  repeat (first | refine need_intro (by decide) ?_ | refine branch_true ?_ | refine branch_false ?_ | (refine branch_t' (decide_eq_true ?_) ?_; focus omega) | (refine branch_f' (decide_eq_false ?_) ?_; focus omega) | (refine branch_t' (beq_iff_eq.2 ?_) ?_; focus omega) | (refine branch_f' (beq_eq_false_iff_ne.2 ?_) ?_; focus omega) | (refine branch_t' (bne_iff_ne.2 ?_) ?_; focus omega) | (refine branch_f' (bne_eq_false_iff_eq.2 ?_) ?_; focus omega) | refine branch_t' (by assumption) ?_ | refine branch_f' (by assumption) ?_ | refine branch_f' (bne_self_eq_false _) ?_ | refine branch_t' (beq_self_eq_true _) ?_ | (refine branch_f' ?_ ?_; focus (simp; done)) | (refine branch_t' ?_ ?_; focus (simp; done)))
  refine callT_E nu1 rfl ?_
  repeat (first | refine need_intro (by decide) ?_ | refine branch_true ?_ | refine branch_false ?_ | (refine branch_t' (decide_eq_true ?_) ?_; focus omega) | (refine branch_f' (decide_eq_false ?_) ?_; focus omega) | (refine branch_t' (beq_iff_eq.2 ?_) ?_; focus omega) | (refine branch_f' (beq_eq_false_iff_ne.2 ?_) ?_; focus omega) | (refine branch_t' (bne_iff_ne.2 ?_) ?_; focus omega) | (refine branch_f' (bne_eq_false_iff_eq.2 ?_) ?_; focus omega) | refine branch_t' (by assumption) ?_ | refine branch_f' (by assumption) ?_ | refine branch_f' (bne_self_eq_false _) ?_ | refine branch_t' (beq_self_eq_true _) ?_ | (refine branch_f' ?_ ?_; focus (simp; done)) | (refine branch_t' ?_ ?_; focus (simp; done)))
  refine callT_E q1 rfl ?_
  repeat (first | refine need_intro (by decide) ?_ | refine branch_true ?_ | refine branch_false ?_ | (refine branch_t' (decide_eq_true ?_) ?_; focus omega) | (refine branch_f' (decide_eq_false ?_) ?_; focus omega) | (refine branch_t' (beq_iff_eq.2 ?_) ?_; focus omega) | (refine branch_f' (beq_eq_false_iff_ne.2 ?_) ?_; focus omega) | (refine branch_t' (bne_iff_ne.2 ?_) ?_; focus omega) | (refine branch_f' (bne_eq_false_iff_eq.2 ?_) ?_; focus omega) | refine branch_t' (by assumption) ?_ | refine branch_f' (by assumption) ?_ | refine branch_f' (bne_self_eq_false _) ?_ | refine branch_t' (beq_self_eq_true _) ?_ | (refine branch_f' ?_ ?_; focus (simp; done)) | (refine branch_t' ?_ ?_; focus (simp; done)))
  refine callT_E d2 rfl ?_
  repeat (first | refine need_intro (by decide) ?_ | refine branch_true ?_ | refine branch_false ?_ | (refine branch_t' (decide_eq_true ?_) ?_; focus omega) | (refine branch_f' (decide_eq_false ?_) ?_; focus omega) | (refine branch_t' (beq_iff_eq.2 ?_) ?_; focus omega) | (refine branch_f' (beq_eq_false_iff_ne.2 ?_) ?_; focus omega) | (refine branch_t' (bne_iff_ne.2 ?_) ?_; focus omega) | (refine branch_f' (bne_eq_false_iff_eq.2 ?_) ?_; focus omega) | refine branch_t' (by assumption) ?_ | refine branch_f' (by assumption) ?_ | refine branch_f' (bne_self_eq_false _) ?_ | refine branch_t' (beq_self_eq_true _) ?_ | (refine branch_f' ?_ ?_; focus (simp; done)) | (refine branch_t' ?_ ?_; focus (simp; done)))
  refine callT_E nu2 rfl ?_
  repeat (first | refine need_intro (by decide) ?_ | refine branch_true ?_ | refine branch_false ?_ | (refine branch_t' (decide_eq_true ?_) ?_; focus omega) | (refine branch_f' (decide_eq_false ?_) ?_; focus omega) | (refine branch_t' (beq_iff_eq.2 ?_) ?_; focus omega) | (refine branch_f' (beq_eq_false_iff_ne.2 ?_) ?_; focus omega) | (refine branch_t' (bne_iff_ne.2 ?_) ?_; focus omega) | (refine branch_f' (bne_eq_false_iff_eq.2 ?_) ?_; focus omega) | refine branch_t' (by assumption) ?_ | refine branch_f' (by assumption) ?_ | refine branch_f' (bne_self_eq_false _) ?_ | refine branch_t' (beq_self_eq_true _) ?_ | (refine branch_f' ?_ ?_; focus (simp; done)) | (refine branch_t' ?_ ?_; focus (simp; done)))
  refine callT_E q2 rfl ?_
  repeat (first | refine need_intro (by decide) ?_ | refine branch_true ?_ | refine branch_false ?_ | (refine branch_t' (decide_eq_true ?_) ?_; focus omega) | (refine branch_f' (decide_eq_false ?_) ?_; focus omega) | (refine branch_t' (beq_iff_eq.2 ?_) ?_; focus omega) | (refine branch_f' (beq_eq_false_iff_ne.2 ?_) ?_; focus omega) | (refine branch_t' (bne_iff_ne.2 ?_) ?_; focus omega) | (refine branch_f' (bne_eq_false_iff_eq.2 ?_) ?_; focus omega) | refine branch_t' (by assumption) ?_ | refine branch_f' (by assumption) ?_ | refine branch_f' (bne_self_eq_false _) ?_ | refine branch_t' (beq_self_eq_true _) ?_ | (refine branch_f' ?_ ?_; focus (simp; done)) | (refine branch_t' ?_ ?_; focus (simp; done)))
  refine draw_tree (picks [0, 1, 2, 3, 4, 5, 6, 7, 8, 9, 10, 11, 12, 13, 14, 15, 16, 17, 18, 19, 20, 21, 22, 23, 24, 25, 26, 27, 28, 29, 30, 31] .done) (by decide +kernel) ?_
  refine ⟨_, ⟨d3, rfl⟩, ?_⟩
  refine ⟨_, ⟨d4, rfl⟩, ?_⟩
  refine ⟨_, ⟨q3, rfl⟩, ?_⟩
  have hsplit : (t.neg = true ∧ n1 = true ∧ (!t.neg) = false) ∨ (t.neg = false ∧ (!t.neg) = true ∧ (t.m = 0 ∨ n1 = false)) := by
    cases ht : t.neg
    · refine .inr ⟨rfl, rfl, ?_⟩
      by_cases hm : t.m = 0
      · exact .inl hm
      · refine .inr ?_
        obtain ⟨_, h2, h3⟩ := pt hm
        rw [← hnx h3, ← h2, ht]
    · refine .inl ⟨rfl, ?_, rfl⟩
      have h := st ht
      rw [← hnx (xm h), h]
  have hrs : (r.m = 0 ∧ ¬ ((limbsOf r.m).length : Int) > 0) ∨ (((limbsOf r.m).length : Int) > 0 ∧ -k ≤ r.e) := by
    by_cases h : r.m = 0
    · exact .inl ⟨h, fun c => (lr.1 c) h⟩
    · exact .inr ⟨lr.2 h, (pr h).1⟩
  have hts : (t.m = 0 ∧ ¬ ((limbsOf t.m).length : Int) > 0) ∨ (((limbsOf t.m).length : Int) > 0 ∧ -k ≤ t.e) := by
    by_cases h : t.m = 0
    · exact .inl ⟨h, fun c => (lt.1 c) h⟩
    · exact .inr ⟨lt.2 h, (pt h).1⟩
  rcases hsplit with ⟨u1, u2, u3⟩ | ⟨u1, u3, u2⟩
  · subst u2
    repeat (first | refine need_intro (by decide) ?_ | refine branch_true ?_ | refine branch_false ?_ | (refine branch_t' (decide_eq_true ?_) ?_; focus omega) | (refine branch_f' (decide_eq_false ?_) ?_; focus omega) | (refine branch_t' (beq_iff_eq.2 ?_) ?_; focus omega) | (refine branch_f' (beq_eq_false_iff_ne.2 ?_) ?_; focus omega) | (refine branch_t' (bne_iff_ne.2 ?_) ?_; focus omega) | (refine branch_f' (bne_eq_false_iff_eq.2 ?_) ?_; focus omega) | refine branch_t' (by assumption) ?_ | refine branch_f' (by assumption) ?_ | refine branch_f' (bne_self_eq_false _) ?_ | refine branch_t' (beq_self_eq_true _) ?_ | (refine branch_f' ?_ ?_; focus (simp; done)) | (refine branch_t' ?_ ?_; focus (simp; done)))
    rcases hts with ⟨v1, v2⟩ | ⟨v1, v2⟩ <;> rcases hrs with ⟨v3, v4⟩ | ⟨v3, v4⟩
    all_goals
      repeat (first | refine need_intro (by decide) ?_ | refine branch_true ?_ | refine branch_false ?_ | (refine branch_t' (decide_eq_true ?_) ?_; focus omega) | (refine branch_f' (decide_eq_false ?_) ?_; focus omega) | (refine branch_t' (beq_iff_eq.2 ?_) ?_; focus omega) | (refine branch_f' (beq_eq_false_iff_ne.2 ?_) ?_; focus omega) | (refine branch_t' (bne_iff_ne.2 ?_) ?_; focus omega) | (refine branch_f' (bne_eq_false_iff_eq.2 ?_) ?_; focus omega) | refine branch_t' (by assumption) ?_ | refine branch_f' (by assumption) ?_ | refine branch_f' (bne_self_eq_false _) ?_ | refine branch_t' (beq_self_eq_true _) ?_ | (refine branch_f' ?_ ?_; focus (simp; done)) | (refine branch_t' ?_ ?_; focus (simp; done)))
      refine draw_tree (picks [0, 1, 2, 3, 4, 5, 6, 7, 8, 9, 10, 11, 12, 13, 14, 15, 16, 17, 18, 19, 20, 21, 22, 23] .done) (by decide +kernel) ?_
      refine ⟨_, ⟨n1', rfl⟩, ?_⟩
      refine ⟨_, ⟨e1, rfl⟩, ?_⟩
      repeat (first | refine need_intro (by decide) ?_ | refine branch_true ?_ | refine branch_false ?_ | (refine branch_t' (decide_eq_true ?_) ?_; focus omega) | (refine branch_f' (decide_eq_false ?_) ?_; focus omega) | (refine branch_t' (beq_iff_eq.2 ?_) ?_; focus omega) | (refine branch_f' (beq_eq_false_iff_ne.2 ?_) ?_; focus omega) | (refine branch_t' (bne_iff_ne.2 ?_) ?_; focus omega) | (refine branch_f' (bne_eq_false_iff_eq.2 ?_) ?_; focus omega) | refine branch_t' (by assumption) ?_ | refine branch_f' (by assumption) ?_ | refine branch_f' (bne_self_eq_false _) ?_ | refine branch_t' (beq_self_eq_true _) ?_ | (refine branch_f' ?_ ?_; focus (simp; done)) | (refine branch_t' ?_ ?_; focus (simp; done)))
      refine ⟨_, ⟨n2', rfl⟩, ?_⟩
      repeat (first | refine need_intro (by decide) ?_ | refine branch_true ?_ | refine branch_false ?_ | (refine branch_t' (decide_eq_true ?_) ?_; focus omega) | (refine branch_f' (decide_eq_false ?_) ?_; focus omega) | (refine branch_t' (beq_iff_eq.2 ?_) ?_; focus omega) | (refine branch_f' (beq_eq_false_iff_ne.2 ?_) ?_; focus omega) | (refine branch_t' (bne_iff_ne.2 ?_) ?_; focus omega) | (refine branch_f' (bne_eq_false_iff_eq.2 ?_) ?_; focus omega) | refine branch_t' (by assumption) ?_ | refine branch_f' (by assumption) ?_ | refine branch_f' (bne_self_eq_false _) ?_ | refine branch_t' (beq_self_eq_true _) ?_ | (refine branch_f' ?_ ?_; focus (simp; done)) | (refine branch_t' ?_ ?_; focus (simp; done)))
      refine ⟨_, ⟨e2, rfl⟩, ?_⟩
      repeat (first | refine need_intro (by decide) ?_ | refine branch_true ?_ | refine branch_false ?_ | (refine branch_t' (decide_eq_true ?_) ?_; focus omega) | (refine branch_f' (decide_eq_false ?_) ?_; focus omega) | (refine branch_t' (beq_iff_eq.2 ?_) ?_; focus omega) | (refine branch_f' (beq_eq_false_iff_ne.2 ?_) ?_; focus omega) | (refine branch_t' (bne_iff_ne.2 ?_) ?_; focus omega) | (refine branch_f' (bne_eq_false_iff_eq.2 ?_) ?_; focus omega) | refine branch_t' (by assumption) ?_ | refine branch_f' (by assumption) ?_ | refine branch_f' (bne_self_eq_false _) ?_ | refine branch_t' (beq_self_eq_true _) ?_ | (refine branch_f' ?_ ?_; focus (simp; done)) | (refine branch_t' ?_ ?_; focus (simp; done)))
      refine ⟨_, ⟨e3, rfl⟩, ?_⟩
      repeat (first | refine need_intro (by decide) ?_ | refine branch_true ?_ | refine branch_false ?_ | (refine branch_t' (decide_eq_true ?_) ?_; focus omega) | (refine branch_f' (decide_eq_false ?_) ?_; focus omega) | (refine branch_t' (beq_iff_eq.2 ?_) ?_; focus omega) | (refine branch_f' (beq_eq_false_iff_ne.2 ?_) ?_; focus omega) | (refine branch_t' (bne_iff_ne.2 ?_) ?_; focus omega) | (refine branch_f' (bne_eq_false_iff_eq.2 ?_) ?_; focus omega) | refine branch_t' (by assumption) ?_ | refine branch_f' (by assumption) ?_ | refine branch_f' (bne_self_eq_false _) ?_ | refine branch_t' (beq_self_eq_true _) ?_ | (refine branch_f' ?_ ?_; focus (simp; done)) | (refine branch_t' ?_ ?_; focus (simp; done)))
      refine ⟨_, ⟨e3, rfl⟩, ?_⟩
      repeat (first | refine need_intro (by decide) ?_ | refine branch_true ?_ | refine branch_false ?_ | (refine branch_t' (decide_eq_true ?_) ?_; focus omega) | (refine branch_f' (decide_eq_false ?_) ?_; focus omega) | (refine branch_t' (beq_iff_eq.2 ?_) ?_; focus omega) | (refine branch_f' (beq_eq_false_iff_ne.2 ?_) ?_; focus omega) | (refine branch_t' (bne_iff_ne.2 ?_) ?_; focus omega) | (refine branch_f' (bne_eq_false_iff_eq.2 ?_) ?_; focus omega) | refine branch_t' (by assumption) ?_ | refine branch_f' (by assumption) ?_ | refine branch_f' (bne_self_eq_false _) ?_ | refine branch_t' (beq_self_eq_true _) ?_ | (refine branch_f' ?_ ?_; focus (simp; done)) | (refine branch_t' ?_ ?_; focus (simp; done)))
      refine ⟨_, ⟨awake_c, rfl⟩, ?_⟩
      repeat (first | refine need_intro (by decide) ?_ | refine branch_true ?_ | refine branch_false ?_ | (refine branch_t' (decide_eq_true ?_) ?_; focus omega) | (refine branch_f' (decide_eq_false ?_) ?_; focus omega) | (refine branch_t' (beq_iff_eq.2 ?_) ?_; focus omega) | (refine branch_f' (beq_eq_false_iff_ne.2 ?_) ?_; focus omega) | (refine branch_t' (bne_iff_ne.2 ?_) ?_; focus omega) | (refine branch_f' (bne_eq_false_iff_eq.2 ?_) ?_; focus omega) | refine branch_t' (by assumption) ?_ | refine branch_f' (by assumption) ?_ | refine branch_f' (bne_self_eq_false _) ?_ | refine branch_t' (beq_self_eq_true _) ?_ | (refine branch_f' ?_ ?_; focus (simp; done)) | (refine branch_t' ?_ ?_; focus (simp; done)))
      show Eqv _ _
      exact .up (.up (.refl _))
  · rcases u2 with u2 | u2
    · have v1 : ¬ ((limbsOf t.m).length : Int) > 0 := fun c => (lt.1 c) u2
      repeat (first | refine need_intro (by decide) ?_ | refine branch_true ?_ | refine branch_false ?_ | (refine branch_t' (decide_eq_true ?_) ?_; focus omega) | (refine branch_f' (decide_eq_false ?_) ?_; focus omega) | (refine branch_t' (beq_iff_eq.2 ?_) ?_; focus omega) | (refine branch_f' (beq_eq_false_iff_ne.2 ?_) ?_; focus omega) | (refine branch_t' (bne_iff_ne.2 ?_) ?_; focus omega) | (refine branch_f' (bne_eq_false_iff_eq.2 ?_) ?_; focus omega) | refine branch_t' (by assumption) ?_ | refine branch_f' (by assumption) ?_ | refine branch_f' (bne_self_eq_false _) ?_ | refine branch_t' (beq_self_eq_true _) ?_ | (refine branch_f' ?_ ?_; focus (simp; done)) | (refine branch_t' ?_ ?_; focus (simp; done)))
      rcases hrs with ⟨v3, v4⟩ | ⟨v3, v4⟩
      all_goals
        repeat (first | refine need_intro (by decide) ?_ | refine branch_true ?_ | refine branch_false ?_ | (refine branch_t' (decide_eq_true ?_) ?_; focus omega) | (refine branch_f' (decide_eq_false ?_) ?_; focus omega) | (refine branch_t' (beq_iff_eq.2 ?_) ?_; focus omega) | (refine branch_f' (beq_eq_false_iff_ne.2 ?_) ?_; focus omega) | (refine branch_t' (bne_iff_ne.2 ?_) ?_; focus omega) | (refine branch_f' (bne_eq_false_iff_eq.2 ?_) ?_; focus omega) | refine branch_t' (by assumption) ?_ | refine branch_f' (by assumption) ?_ | refine branch_f' (bne_self_eq_false _) ?_ | refine branch_t' (beq_self_eq_true _) ?_ | (refine branch_f' ?_ ?_; focus (simp; done)) | (refine branch_t' ?_ ?_; focus (simp; done)))
        refine draw_tree (picks [0, 1, 2, 3, 4, 5, 6, 7, 8, 9, 10, 11, 12, 13, 14, 15, 16, 17, 18, 19, 20, 21, 22, 23] .done) (by decide +kernel) ?_
        refine ⟨_, ⟨n1', rfl⟩, ?_⟩
        refine ⟨_, ⟨e1, rfl⟩, ?_⟩
        repeat (first | refine need_intro (by decide) ?_ | refine branch_true ?_ | refine branch_false ?_ | (refine branch_t' (decide_eq_true ?_) ?_; focus omega) | (refine branch_f' (decide_eq_false ?_) ?_; focus omega) | (refine branch_t' (beq_iff_eq.2 ?_) ?_; focus omega) | (refine branch_f' (beq_eq_false_iff_ne.2 ?_) ?_; focus omega) | (refine branch_t' (bne_iff_ne.2 ?_) ?_; focus omega) | (refine branch_f' (bne_eq_false_iff_eq.2 ?_) ?_; focus omega) | refine branch_t' (by assumption) ?_ | refine branch_f' (by assumption) ?_ | refine branch_f' (bne_self_eq_false _) ?_ | refine branch_t' (beq_self_eq_true _) ?_ | (refine branch_f' ?_ ?_; focus (simp; done)) | (refine branch_t' ?_ ?_; focus (simp; done)))
        refine ⟨_, ⟨n2', rfl⟩, ?_⟩
        repeat (first | refine need_intro (by decide) ?_ | refine branch_true ?_ | refine branch_false ?_ | (refine branch_t' (decide_eq_true ?_) ?_; focus omega) | (refine branch_f' (decide_eq_false ?_) ?_; focus omega) | (refine branch_t' (beq_iff_eq.2 ?_) ?_; focus omega) | (refine branch_f' (beq_eq_false_iff_ne.2 ?_) ?_; focus omega) | (refine branch_t' (bne_iff_ne.2 ?_) ?_; focus omega) | (refine branch_f' (bne_eq_false_iff_eq.2 ?_) ?_; focus omega) | refine branch_t' (by assumption) ?_ | refine branch_f' (by assumption) ?_ | refine branch_f' (bne_self_eq_false _) ?_ | refine branch_t' (beq_self_eq_true _) ?_ | (refine branch_f' ?_ ?_; focus (simp; done)) | (refine branch_t' ?_ ?_; focus (simp; done)))
        refine ⟨_, ⟨e2, rfl⟩, ?_⟩
        repeat (first | refine need_intro (by decide) ?_ | refine branch_true ?_ | refine branch_false ?_ | (refine branch_t' (decide_eq_true ?_) ?_; focus omega) | (refine branch_f' (decide_eq_false ?_) ?_; focus omega) | (refine branch_t' (beq_iff_eq.2 ?_) ?_; focus omega) | (refine branch_f' (beq_eq_false_iff_ne.2 ?_) ?_; focus omega) | (refine branch_t' (bne_iff_ne.2 ?_) ?_; focus omega) | (refine branch_f' (bne_eq_false_iff_eq.2 ?_) ?_; focus omega) | refine branch_t' (by assumption) ?_ | refine branch_f' (by assumption) ?_ | refine branch_f' (bne_self_eq_false _) ?_ | refine branch_t' (beq_self_eq_true _) ?_ | (refine branch_f' ?_ ?_; focus (simp; done)) | (refine branch_t' ?_ ?_; focus (simp; done)))
        refine ⟨_, ⟨e3, rfl⟩, ?_⟩
        repeat (first | refine need_intro (by decide) ?_ | refine branch_true ?_ | refine branch_false ?_ | (refine branch_t' (decide_eq_true ?_) ?_; focus omega) | (refine branch_f' (decide_eq_false ?_) ?_; focus omega) | (refine branch_t' (beq_iff_eq.2 ?_) ?_; focus omega) | (refine branch_f' (beq_eq_false_iff_ne.2 ?_) ?_; focus omega) | (refine branch_t' (bne_iff_ne.2 ?_) ?_; focus omega) | (refine branch_f' (bne_eq_false_iff_eq.2 ?_) ?_; focus omega) | refine branch_t' (by assumption) ?_ | refine branch_f' (by assumption) ?_ | refine branch_f' (bne_self_eq_false _) ?_ | refine branch_t' (beq_self_eq_true _) ?_ | (refine branch_f' ?_ ?_; focus (simp; done)) | (refine branch_t' ?_ ?_; focus (simp; done)))
        refine ⟨_, ⟨e3, rfl⟩, ?_⟩
        repeat (first | refine need_intro (by decide) ?_ | refine branch_true ?_ | refine branch_false ?_ | (refine branch_t' (decide_eq_true ?_) ?_; focus omega) | (refine branch_f' (decide_eq_false ?_) ?_; focus omega) | (refine branch_t' (beq_iff_eq.2 ?_) ?_; focus omega) | (refine branch_f' (beq_eq_false_iff_ne.2 ?_) ?_; focus omega) | (refine branch_t' (bne_iff_ne.2 ?_) ?_; focus omega) | (refine branch_f' (bne_eq_false_iff_eq.2 ?_) ?_; focus omega) | refine branch_t' (by assumption) ?_ | refine branch_f' (by assumption) ?_ | refine branch_f' (bne_self_eq_false _) ?_ | refine branch_t' (beq_self_eq_true _) ?_ | (refine branch_f' ?_ ?_; focus (simp; done)) | (refine branch_t' ?_ ?_; focus (simp; done)))
        refine ⟨_, ⟨awake_c, rfl⟩, ?_⟩
        repeat (first | refine need_intro (by decide) ?_ | refine branch_true ?_ | refine branch_false ?_ | (refine branch_t' (decide_eq_true ?_) ?_; focus omega) | (refine branch_f' (decide_eq_false ?_) ?_; focus omega) | (refine branch_t' (beq_iff_eq.2 ?_) ?_; focus omega) | (refine branch_f' (beq_eq_false_iff_ne.2 ?_) ?_; focus omega) | (refine branch_t' (bne_iff_ne.2 ?_) ?_; focus omega) | (refine branch_f' (bne_eq_false_iff_eq.2 ?_) ?_; focus omega) | refine branch_t' (by assumption) ?_ | refine branch_f' (by assumption) ?_ | refine branch_f' (bne_self_eq_false _) ?_ | refine branch_t' (beq_self_eq_true _) ?_ | (refine branch_f' ?_ ?_; focus (simp; done)) | (refine branch_t' ?_ ?_; focus (simp; done)))
        show Eqv _ _
        exact .up (.up (.refl _))
    · subst u2
      rcases hts with ⟨v1, v2⟩ | ⟨v1, v2⟩ <;> rcases hrs with ⟨v3, v4⟩ | ⟨v3, v4⟩
      all_goals
        repeat (first | refine need_intro (by decide) ?_ | refine branch_true ?_ | refine branch_false ?_ | (refine branch_t' (decide_eq_true ?_) ?_; focus omega) | (refine branch_f' (decide_eq_false ?_) ?_; focus omega) | (refine branch_t' (beq_iff_eq.2 ?_) ?_; focus omega) | (refine branch_f' (beq_eq_false_iff_ne.2 ?_) ?_; focus omega) | (refine branch_t' (bne_iff_ne.2 ?_) ?_; focus omega) | (refine branch_f' (bne_eq_false_iff_eq.2 ?_) ?_; focus omega) | refine branch_t' (by assumption) ?_ | refine branch_f' (by assumption) ?_ | refine branch_f' (bne_self_eq_false _) ?_ | refine branch_t' (beq_self_eq_true _) ?_ | (refine branch_f' ?_ ?_; focus (simp; done)) | (refine branch_t' ?_ ?_; focus (simp; done)))
        refine draw_tree (picks [0, 1, 2, 3, 4, 5, 6, 7, 8, 9, 10, 11, 12, 13, 14, 15, 16, 17, 18, 19, 20, 21, 22, 23] .done) (by decide +kernel) ?_
        refine ⟨_, ⟨n1', rfl⟩, ?_⟩
        refine ⟨_, ⟨e1, rfl⟩, ?_⟩
        repeat (first | refine need_intro (by decide) ?_ | refine branch_true ?_ | refine branch_false ?_ | (refine branch_t' (decide_eq_true ?_) ?_; focus omega) | (refine branch_f' (decide_eq_false ?_) ?_; focus omega) | (refine branch_t' (beq_iff_eq.2 ?_) ?_; focus omega) | (refine branch_f' (beq_eq_false_iff_ne.2 ?_) ?_; focus omega) | (refine branch_t' (bne_iff_ne.2 ?_) ?_; focus omega) | (refine branch_f' (bne_eq_false_iff_eq.2 ?_) ?_; focus omega) | refine branch_t' (by assumption) ?_ | refine branch_f' (by assumption) ?_ | refine branch_f' (bne_self_eq_false _) ?_ | refine branch_t' (beq_self_eq_true _) ?_ | (refine branch_f' ?_ ?_; focus (simp; done)) | (refine branch_t' ?_ ?_; focus (simp; done)))
        refine ⟨_, ⟨n2', rfl⟩, ?_⟩
        repeat (first | refine need_intro (by decide) ?_ | refine branch_true ?_ | refine branch_false ?_ | (refine branch_t' (decide_eq_true ?_) ?_; focus omega) | (refine branch_f' (decide_eq_false ?_) ?_; focus omega) | (refine branch_t' (beq_iff_eq.2 ?_) ?_; focus omega) | (refine branch_f' (beq_eq_false_iff_ne.2 ?_) ?_; focus omega) | (refine branch_t' (bne_iff_ne.2 ?_) ?_; focus omega) | (refine branch_f' (bne_eq_false_iff_eq.2 ?_) ?_; focus omega) | refine branch_t' (by assumption) ?_ | refine branch_f' (by assumption) ?_ | refine branch_f' (bne_self_eq_false _) ?_ | refine branch_t' (beq_self_eq_true _) ?_ | (refine branch_f' ?_ ?_; focus (simp; done)) | (refine branch_t' ?_ ?_; focus (simp; done)))
        refine ⟨_, ⟨e2, rfl⟩, ?_⟩
        repeat (first | refine need_intro (by decide) ?_ | refine branch_true ?_ | refine branch_false ?_ | (refine branch_t' (decide_eq_true ?_) ?_; focus omega) | (refine branch_f' (decide_eq_false ?_) ?_; focus omega) | (refine branch_t' (beq_iff_eq.2 ?_) ?_; focus omega) | (refine branch_f' (beq_eq_false_iff_ne.2 ?_) ?_; focus omega) | (refine branch_t' (bne_iff_ne.2 ?_) ?_; focus omega) | (refine branch_f' (bne_eq_false_iff_eq.2 ?_) ?_; focus omega) | refine branch_t' (by assumption) ?_ | refine branch_f' (by assumption) ?_ | refine branch_f' (bne_self_eq_false _) ?_ | refine branch_t' (beq_self_eq_true _) ?_ | (refine branch_f' ?_ ?_; focus (simp; done)) | (refine branch_t' ?_ ?_; focus (simp; done)))
        refine ⟨_, ⟨e3, rfl⟩, ?_⟩
        repeat (first | refine need_intro (by decide) ?_ | refine branch_true ?_ | refine branch_false ?_ | (refine branch_t' (decide_eq_true ?_) ?_; focus omega) | (refine branch_f' (decide_eq_false ?_) ?_; focus omega) | (refine branch_t' (beq_iff_eq.2 ?_) ?_; focus omega) | (refine branch_f' (beq_eq_false_iff_ne.2 ?_) ?_; focus omega) | (refine branch_t' (bne_iff_ne.2 ?_) ?_; focus omega) | (refine branch_f' (bne_eq_false_iff_eq.2 ?_) ?_; focus omega) | refine branch_t' (by assumption) ?_ | refine branch_f' (by assumption) ?_ | refine branch_f' (bne_self_eq_false _) ?_ | refine branch_t' (beq_self_eq_true _) ?_ | (refine branch_f' ?_ ?_; focus (simp; done)) | (refine branch_t' ?_ ?_; focus (simp; done)))
        refine ⟨_, ⟨e3, rfl⟩, ?_⟩
        repeat (first | refine need_intro (by decide) ?_ | refine branch_true ?_ | refine branch_false ?_ | (refine branch_t' (decide_eq_true ?_) ?_; focus omega) | (refine branch_f' (decide_eq_false ?_) ?_; focus omega) | (refine branch_t' (beq_iff_eq.2 ?_) ?_; focus omega) | (refine branch_f' (beq_eq_false_iff_ne.2 ?_) ?_; focus omega) | (refine branch_t' (bne_iff_ne.2 ?_) ?_; focus omega) | (refine branch_f' (bne_eq_false_iff_eq.2 ?_) ?_; focus omega) | refine branch_t' (by assumption) ?_ | refine branch_f' (by assumption) ?_ | refine branch_f' (bne_self_eq_false _) ?_ | refine branch_t' (beq_self_eq_true _) ?_ | (refine branch_f' ?_ ?_; focus (simp; done)) | (refine branch_t' ?_ ?_; focus (simp; done)))
        refine ⟨_, ⟨awake_c, rfl⟩, ?_⟩
        repeat (first | refine need_intro (by decide) ?_ | refine branch_true ?_ | refine branch_false ?_ | (refine branch_t' (decide_eq_true ?_) ?_; focus omega) | (refine branch_f' (decide_eq_false ?_) ?_; focus omega) | (refine branch_t' (beq_iff_eq.2 ?_) ?_; focus omega) | (refine branch_f' (beq_eq_false_iff_ne.2 ?_) ?_; focus omega) | (refine branch_t' (bne_iff_ne.2 ?_) ?_; focus omega) | (refine branch_f' (bne_eq_false_iff_eq.2 ?_) ?_; focus omega) | refine branch_t' (by assumption) ?_ | refine branch_f' (by assumption) ?_ | refine branch_f' (bne_self_eq_false _) ?_ | refine branch_t' (beq_self_eq_true _) ?_ | (refine branch_f' ?_ ?_; focus (simp; done)) | (refine branch_t' ?_ ?_; focus (simp; done)))
        show Eqv _ _
        exact .up (.up (.refl _))
end Go.Proofs.N13
