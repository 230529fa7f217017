/- Chapter 14, part x: rounding, measured. -/
import Derived.Test.YtjdmcooghikhhaaDoorC16
set_option linter.unusedVariables false
set_option linter.unusedSimpArgs false
/-! Dx. -/
namespace Go.Proofs.N13
open Go.E
set_option maxRecDepth 8000

theorem canonD_neg (n : Bool) {m : Nat} {e : Int} (h : m ≠ 0) : (canonD n m e).neg = n := by
  rw [canonD, if_neg h]
theorem canonD_m0 (n : Bool) {m : Nat} {e : Int} (h : (canonD n m e).m ≠ 0) : m ≠ 0 := fun c => by
  apply h
  rw [canonD, if_pos c]; rfl
theorem canonD_ge (n : Bool) {m : Nat} {e : Int} (h : (canonD n m e).m ≠ 0) : e ≤ (canonD n m e).e := by
  rw [canonD, if_neg (canonD_m0 n h)]
  show e ≤ e + tz m
  omega
/-- The remainders of a division by 2 ^ (s + 1). -/
theorem half_facts (m s : Nat) : ∃ ρ : Nat, ρ < 2 ^ s ∧ m = (2 * (m / 2 ^ (s + 1)) + m / 2 ^ s % 2) * 2 ^ s + ρ := by
  refine ⟨m % 2 ^ s, Nat.mod_lt _ (Nat.two_pow_pos s), ?_⟩
  have e1 : m / 2 ^ (s + 1) = m / 2 ^ s / 2 := by rw [Nat.pow_succ, Nat.div_div_eq_div_mul]
  have e2 : 2 * (m / 2 ^ (s + 1)) + m / 2 ^ s % 2 = m / 2 ^ s := by rw [e1]; omega
  rw [e2, Nat.mul_comm]
  exact (Nat.div_add_mod m (2 ^ s)).symm
theorem sgn_sub (n : Bool) (a b : Int) : sgn n a - sgn n b = sgn n (a - b) := by
  cases n <;> simp [sgn] <;> omega
/-- What rounding does, measured in units of 2 ^ -1200. -/
structure RFacts (near : Bool) (x r : Dy) (k : Int) : Prop where
  canon : r.Canon
  exp : -((1200 : Nat) : Int) ≤ r.e
  part : r.m ≠ 0 → -k ≤ r.e ∧ r.neg = x.neg ∧ x.m ≠ 0
  sign : r.neg = true → x.neg = true
  diff : near = true → (V 1200 x - V 1200 r).natAbs ≤ 2 ^ (-k - 1 + 1200).toNat
  less : near = false → (V 1200 x - V 1200 r).natAbs < 2 ^ (-k + 1200).toNat ∧ (V 1200 r).natAbs ≤ (V 1200 x).natAbs
theorem round_facts (near : Bool) {x : Dy} {k : Int} (hc : x.Canon) (he : -((999 : Nat) : Int) ≤ x.e) (hk : -1199 ≤ k ∧ k ≤ 1199) : RFacts near x (roundD near x k) k := by
  unfold roundD
  by_cases h : -k - x.e ≤ 0 ∨ x.m = 0
  · rw [if_pos h]
    refine ⟨hc, by omega, fun hm => ⟨?_, rfl, hm⟩, fun h => h, fun _ => ?_, fun _ => ⟨?_, Nat.le_refl _⟩⟩
    · rcases h with h | h
      · omega
      · exact absurd h hm
    · rw [Int.sub_self]; exact Nat.zero_le _
    · rw [Int.sub_self]; exact Nat.two_pow_pos _
  rw [if_neg h]
  have hm : x.m ≠ 0 := fun c => h (.inr c)
  obtain ⟨s, hs⟩ : ∃ s : Nat, -k - x.e = ((s + 1 : Nat) : Int) := ⟨(-k - x.e).toNat - 1, by omega⟩
  rw [hs, Int.toNat_natCast, Nat.add_sub_cancel]
  obtain ⟨ρ, hρ, hmr⟩ := half_facts x.m s
  have hbit : x.m / 2 ^ s % 2 < 2 := Nat.mod_lt _ (by decide)
  generalize hq : x.m / 2 ^ (s + 1) = q at *
  generalize hbt : x.m / 2 ^ s % 2 = b at *
  obtain ⟨a, ha⟩ : ∃ a : Nat, (x.e + 1200).toNat = a := ⟨_, rfl⟩
  have e1 : (-k + 1200).toNat = a + (s + 1) := by omega
  have e2 : (-k - 1 + 1200).toNat = a + s := by omega
  generalize hM : q + (if near = true ∧ b = 1 then 1 else 0) = M
  have vr : V 1200 (canonD x.neg M (-k)) = sgn x.neg ((M : Int) * ((2 ^ (a + (s + 1)) : Nat) : Int)) := by
    rw [V_canonD 1200 _ _ (by omega), show (-k + ((1200 : Nat) : Int)).toNat = a + (s + 1) from e1]
  have vx : V 1200 x = sgn x.neg ((x.m : Int) * ((2 ^ a : Nat) : Int)) := by
    unfold V
    rw [show (x.e + ((1200 : Nat) : Int)).toNat = a from ha]
  have hA := Nat.two_pow_pos a
  have hP := Nat.two_pow_pos s
  have hPA : 2 ^ (a + s) = 2 ^ s * 2 ^ a := by rw [Nat.pow_add, Nat.mul_comm]
  have hPA2 : 2 ^ (a + (s + 1)) = 2 * 2 ^ s * 2 ^ a := by rw [Nat.pow_add, Nat.pow_succ, Nat.mul_comm, Nat.mul_comm 2]
  have hdiff : (V 1200 x - V 1200 (canonD x.neg M (-k))).natAbs = ((x.m : Int) - M * (2 * ((2 ^ s : Nat) : Int))).natAbs * 2 ^ a := by
    rw [vr, vx, sgn_sub, sgn_abs, hPA2]
    rw [← Int.natAbs_natCast (2 ^ a), ← Int.natAbs_mul, Int.natAbs_natCast]
    congr 1
    simp only [Int.natCast_mul]
    rw [Int.sub_mul, Int.mul_assoc (M : Int)]
    rfl
  refine ⟨canonD_canon _ _ _, canonD_e 1200 _ _ (by omega), fun h0 => ⟨canonD_ge _ h0, canonD_neg _ (canonD_m0 _ h0), hm⟩, fun h0 => ?_, fun hn => ?_, fun hn => ⟨?_, ?_⟩⟩
  · by_cases hM0 : M = 0
    · subst hM0
      rw [canonD, if_pos rfl] at h0
      cases h0
    · rwa [canonD_neg _ hM0] at h0
  · rw [hdiff, e2, hPA]
    refine Nat.mul_le_mul_right _ ?_
    have hMb : M = q + b := by
      rw [← hM]
      by_cases hb : b = 1
      · rw [if_pos ⟨hn, hb⟩, hb]
      · rw [if_neg (fun c => hb c.2)]; omega
    have : b = 0 ∨ b = 1 := by omega
    rw [hMb]
    generalize 2 ^ s = P at *
    rw [hmr]
    rcases this with rfl | rfl
    · have : ((((2 * q + 0) * P + ρ : Nat) : Int) - ((q + 0 : Nat) : Int) * (2 * (P : Int))) = ρ := by
        simp only [Nat.add_zero, Int.natCast_add, Int.natCast_mul]
        rw [Int.mul_assoc, Int.mul_left_comm]
        simp
        omega
      rw [this]; omega
    · have : ((((2 * q + 1) * P + ρ : Nat) : Int) - ((q + 1 : Nat) : Int) * (2 * (P : Int))) = ρ - P := by
        simp only [Int.natCast_add, Int.natCast_mul, Int.add_mul]
        rw [Int.mul_assoc, Int.mul_left_comm]
        simp
        omega
      rw [this]; omega
  · rw [hdiff, e1, hPA2]
    refine Nat.mul_lt_mul_of_pos_right ?_ hA
    have hMq : M = q := by rw [← hM, if_neg (fun c => by rw [hn] at c; exact Bool.false_ne_true c.1)]; omega
    rw [hMq]
    generalize 2 ^ s = P at *
    rw [hmr]
    have : ((((2 * q + b) * P + ρ : Nat) : Int) - (q : Int) * (2 * (P : Int))) = ((b * P + ρ : Nat) : Int) := by
      simp only [Int.natCast_add, Int.natCast_mul, Int.add_mul]
      rw [Int.mul_assoc, Int.mul_left_comm]
      simp
      omega
    rw [this, Int.natAbs_natCast]
    have : b * P ≤ 1 * P := Nat.mul_le_mul_right _ (by omega)
    omega
  · rw [vr, vx, sgn_abs, sgn_abs, ← Int.natCast_mul, ← Int.natCast_mul, Int.natAbs_natCast, Int.natAbs_natCast, hPA2, ← Nat.mul_assoc]
    refine Nat.mul_le_mul_right _ ?_
    have hMq : M = q := by rw [← hM, if_neg (fun c => by rw [hn] at c; exact Bool.false_ne_true c.1)]; omega
    rw [hMq]
    generalize 2 ^ s = P at *
    rw [hmr, Nat.add_mul]
    have : 2 * q * P = q * (2 * P) := by rw [Nat.mul_comm 2 q, Nat.mul_assoc]
    omega
theorem roundD_negD (near : Bool) (x : Dy) (k : Int) (hc : x.Canon) : roundD near (negD x) k = negD (roundD near x k) := by
  unfold roundD
  by_cases h : -k - x.e ≤ 0 ∨ x.m = 0
  · rw [if_pos h, if_pos (show -k - (negD x).e ≤ 0 ∨ (negD x).m = 0 from h)]
  · rw [if_neg h, if_neg (show ¬ (-k - (negD x).e ≤ 0 ∨ (negD x).m = 0) from h)]
    have hm : x.m ≠ 0 := fun c => h (.inr c)
    show canonD (!x.neg && decide (x.m ≠ 0)) _ _ = _
    rw [decide_eq_true hm, Bool.and_true]
    show canonD (!x.neg) (x.m / 2 ^ (-k - x.e).toNat + if near = true ∧ x.m / 2 ^ ((-k - x.e).toNat - 1) % 2 = 1 then 1 else 0) (-k) = _
    generalize x.m / 2 ^ (-k - x.e).toNat + (if near = true ∧ x.m / 2 ^ ((-k - x.e).toNat - 1) % 2 = 1 then 1 else 0) = M
    by_cases hM : M = 0
    · subst hM; rfl
    · have hd : M / 2 ^ tz M ≠ 0 := by have := (tz_spec M hM).2; omega
      rw [canonD, if_neg hM, canonD, if_neg hM, negD]
      simp only
      rw [decide_eq_true hd, Bool.and_true]
theorem round_again (near near' : Bool) {x r : Dy} {k : Int} (h : RFacts near x r k) : roundD near' r k = r := by
  unfold roundD
  rw [if_pos]
  by_cases hm : r.m = 0
  · exact .inr hm
  · exact .inl (by have := (h.part hm).1; omega)
theorem round_g {u : AVal} {x r : Dy} (hu : DArg u x) {k : Int} (hk : -1199 ≤ k ∧ k ≤ 1199) (hr : roundD true x k = r) (hw : r.within = true) : callP Tryd.prog 16 [u, .int .i64 k] (· = .tuple [dyA r, .int .i64 0]) := by
  obtain ⟨⟨n, l, m, e, rfl, h, rfl⟩, hx⟩ := hu
  have c := round_c n h (k := k) (by omega)
  rwa [roundV, if_neg (by omega), if_pos hx, hr, resV_in hw] at c
theorem trunc_g {u : AVal} {x r : Dy} (hu : DArg u x) {k : Int} (hk : -1199 ≤ k ∧ k ≤ 1199) (hr : roundD false x k = r) (hw : r.within = true) : callP Tryd.prog 17 [u, .int .i64 k] (· = .tuple [dyA r, .int .i64 0]) := by
  obtain ⟨⟨n, l, m, e, rfl, h, rfl⟩, hx⟩ := hu
  have c := trunc_c n h (k := k) (by omega)
  rwa [roundV, if_neg (by omega), if_pos hx, hr, resV_in hw] at c
end Go.Proofs.N13
