/- Chapter 27, part a: displays; the table of rows; the digits' codes. -/
import Derived.Test.YthedobkhfdpdaaaC1
import Derived.Test.YthedobkhfdpdaaaE5
import Derived.Laws.Bits64
import Derived.Laws.BitsLemmas
set_option linter.unusedVariables false
set_option linter.unusedSimpArgs false
namespace Go.Proofs.Rl
open Go.E
set_option maxRecDepth 8000
theorem env : Env Try.prog Tenv := ⟨tok, by decide +kernel⟩
theorem wi {x : Int} (h0 : -9223372036854775808 ≤ x) (h1 : x ≤ 9223372036854775807) : IntKind.i64.wrap x = x := by
  rw [IntKind.wrap_i64]; omega
theorem wu16 {x : Int} (h0 : 0 ≤ x) (h1 : x < 65536) : IntKind.u16.wrap x = x := by
  rw [IntKind.wrap_u16]; omega
theorem wu8 {x : Int} (h0 : 0 ≤ x) (h1 : x < 256) : IntKind.u8.wrap x = x := by
  rw [IntKind.wrap_u8]; omega
theorem branch_t' {b : Bool} {T E : Prop} (hb : b = true) (h : T) : branch b T E := branch_intro (fun _ => h) (fun h0 => by rw [hb] at h0; cases h0)
theorem branch_f' {b : Bool} {T E : Prop} (hb : b = false) (h : E) : branch b T E := branch_intro (fun h0 => by rw [hb] at h0; cases h0) (fun _ => h)
theorem eqv_of_eq {v w : AVal} (h : v = w) : Eqv v w := by subst h; exact .up (.up (.refl _))
abbrev dcells (d : Nat → Int) : List AVal := [.int .u8 (d 0), .int .u8 (d 1), .int .u8 (d 2), .int .u8 (d 3), .int .u8 (d 4), .int .u8 (d 5), .int .u8 (d 6), .int .u8 (d 7), .int .u8 (d 8), .int .u8 (d 9), .int .u8 (d 10), .int .u8 (d 11), .int .u8 (d 12), .int .u8 (d 13), .int .u8 (d 14), .int .u8 (d 15), .int .u8 (d 16), .int .u8 (d 17), .int .u8 (d 18), .int .u8 (d 19), .int .u8 (d 20), .int .u8 (d 21), .int .u8 (d 22), .int .u8 (d 23), .int .u16 (d 24), .int .u16 (d 25)]
abbrev dispA (d : Nat → Int) : AVal := .agg [.int .u8 (d 0), .int .u8 (d 1), .int .u8 (d 2), .int .u8 (d 3), .int .u8 (d 4), .int .u8 (d 5), .int .u8 (d 6), .int .u8 (d 7), .int .u8 (d 8), .int .u8 (d 9), .int .u8 (d 10), .int .u8 (d 11), .int .u8 (d 12), .int .u8 (d 13), .int .u8 (d 14), .int .u8 (d 15), .int .u8 (d 16), .int .u8 (d 17), .int .u8 (d 18), .int .u8 (d 19), .int .u8 (d 20), .int .u8 (d 21), .int .u8 (d 22), .int .u8 (d 23), .int .u16 (d 24), .int .u16 (d 25)]
abbrev tabL (b s : Nat) : List AVal := [.nilptr, .nilptr, .nilptr, .int .u8 0, .ptr ⟨b, 0, 22⟩, .ptr ⟨b, 0, 23⟩, .ptr ⟨b, 0, 18⟩, .int .u8 2, .ptr ⟨b, 0, 20⟩, .ptr ⟨b, 0, 21⟩, .ptr ⟨b, 0, 18⟩, .int .u8 1, .ptr ⟨b, 0, 17⟩, .ptr ⟨b, 0, 19⟩, .nilptr, .int .u8 0, .ptr ⟨b, 0, 15⟩, .ptr ⟨b, 0, 16⟩, .ptr ⟨b, 0, 12⟩, .int .u8 2, .ptr ⟨b, 0, 13⟩, .ptr ⟨b, 0, 14⟩, .ptr ⟨b, 0, 12⟩, .int .u8 1, .ptr ⟨b, 0, 10⟩, .ptr ⟨b, 0, 11⟩, .ptr ⟨b, 0, 6⟩, .int .u8 2, .ptr ⟨b, 0, 8⟩, .ptr ⟨b, 0, 9⟩, .ptr ⟨b, 0, 6⟩, .int .u8 1, .ptr ⟨s, 0, 0⟩, .ptr ⟨b, 0, 7⟩, .nilptr, .int .u8 0, .ptr ⟨b, 0, 4⟩, .ptr ⟨b, 0, 5⟩, .nilptr, .int .u8 0, .ptr ⟨b, 0, 2⟩, .ptr ⟨b, 0, 3⟩, .nilptr, .int .u8 0, .ptr ⟨b, 0, 0⟩, .ptr ⟨b, 0, 1⟩, .nilptr, .int .u8 0]
abbrev tabA (b s : Nat) : AVal := .agg (tabL b s)
theorem table_c {d : Nat → Int} {x : Int} : callN Try.prog 26 [.ptr ⟨0, 0, 0⟩, .ptr ⟨1, 0, 0⟩] [.cells (dcells d), .cells [.int .u8 x]] fun v H' => v = tabA 0 1 ∧ H' = [.cells (dcells d), .cells [.int .u8 x], .cells (tabL 0 1)] := by
  refine callN_def env (fn := Try.f26) 2 rfl rfl (by decide) ?_
  refine draw_tree (picks [0, 1, 2, 3, 4, 5, 6, 7, 8, 9, 10, 11, 12, 13, 14] .done) (by decide +kernel) ?_
  repeat refine ndD ?_
  refine draw_tree (picks [0, 1, 2, 3, 4, 5, 6, 7, 8, 9, 10, 11, 12, 13, 14, 15, 16, 17, 18, 19, 20, 21, 22, 23, 24, 25, 26, 27, 28, 29, 30, 31, 32, 33, 34, 35, 36, 37, 38, 39, 40, 41, 42, 43, 44, 45, 46, 47, 48, 49, 50, 51, 52, 53, 54, 55, 56, 57, 58, 59, 60, 61, 62, 63, 64, 65, 66, 67, 68, 69, 70, 71, 72, 73, 74, 75, 76, 77, 78, 79, 80, 81, 82, 83, 84, 85, 86, 87, 88, 89, 90, 91, 92, 93, 94, 95, 96, 97, 98, 99, 100, 101, 102, 103, 104, 105, 106, 107, 108, 109, 110, 111, 112, 113, 114, 115] .done) (by decide +kernel) ?_
  repeat refine ndD ?_
  exact ⟨rfl, rfl⟩
def codeV (n : Nat) : Int := match n with
  | 0 => 21 | 1 => 3 | 2 => 25 | 3 => 27 | 4 => 15 | 5 => 30 | 6 => 28 | 7 => 19 | 8 => 29 | 9 => 31 | _ => 0
theorem codes_c : callP Try.prog 35 [] (· = .agg [.int .u8 21, .int .u8 3, .int .u8 25, .int .u8 27, .int .u8 15, .int .u8 30, .int .u8 28, .int .u8 19, .int .u8 29, .int .u8 31, .int .u8 0]) := by
  refine callE_def env (fn := Try.f35) rfl (by decide) rfl ?_
  show Eqv _ _
  exact .up (.up (.refl _))
def digN (c : Int) : Nat := if c = 21 then 0 else if c = 3 then 1 else if c = 25 then 2 else if c = 27 then 3 else if c = 15 then 4 else if c = 30 then 5 else if c = 28 then 6 else if c = 19 then 7 else if c = 29 then 8 else if c = 31 then 9 else if c = 0 then 10 else 11
def digV (c : Int) : Int := if digN c = 11 then 0 else digN c
def digE (c : Int) : Int := if digN c = 11 then 2 else 0
theorem digN_none {c : Int} (h : ∀ j, j < 11 → codeV j ≠ c) : digN c = 11 := by
  have h0 := h 0 (by decide); have h1 := h 1 (by decide); have h2 := h 2 (by decide); have h3 := h 3 (by decide); have h4 := h 4 (by decide); have h5 := h 5 (by decide)
  have h6 := h 6 (by decide); have h7 := h 7 (by decide); have h8 := h 8 (by decide); have h9 := h 9 (by decide); have h10 := h 10 (by decide)
  simp only [codeV] at h0 h1 h2 h3 h4 h5 h6 h7 h8 h9 h10
  unfold digN
  rw [if_neg (Ne.symm h0), if_neg (Ne.symm h1), if_neg (Ne.symm h2), if_neg (Ne.symm h3), if_neg (Ne.symm h4), if_neg (Ne.symm h5), if_neg (Ne.symm h6), if_neg (Ne.symm h7), if_neg (Ne.symm h8), if_neg (Ne.symm h9), if_neg (Ne.symm h10)]
theorem digN_code {n : Nat} (hn : n < 11) : digN (codeV n) = n := by
  match n, hn with
  | 0, _ => rfl
  | 1, _ => rfl
  | 2, _ => rfl
  | 3, _ => rfl
  | 4, _ => rfl
  | 5, _ => rfl
  | 6, _ => rfl
  | 7, _ => rfl
  | 8, _ => rfl
  | 9, _ => rfl
  | 10, _ => rfl
theorem digit_c (c : Int) : callP Try.prog 34 [.int .u8 c] (· = .tuple [.int .u8 (digV c), .int .i64 (digE c)]) := by
  refine callE_def env (fn := Try.f34) rfl (by decide) rfl ?_
  refine callT_E codes_c rfl ?_
  refine loop_weak (fun i : Nat => slots 18 [(0, .int .u8 c), (2, .int .u8 0), (3, .int .i64 0), (4, .ptr ⟨0, 0, 0⟩), (7, .int .i64 i)])
    (fun _ => [.cells [.int .u8 21, .int .u8 3, .int .u8 25, .int .u8 27, .int .u8 15, .int .u8 30, .int .u8 28, .int .u8 19, .int .u8 29, .int .u8 31, .int .u8 0]])
    (fun i => i ≤ 11 ∧ ∀ j, j < i → codeV j ≠ c) (fun i => 11 - i) 0 ⟨Nat.zero_le _, fun j hj => by omega⟩ (weak_keep (keep 18 [0, 2, 3, 4, 7]) [0] rfl rfl rfl) ?_
  intro i hi
  match i, hi with
  | 0, ⟨_, hno⟩ =>
    refine branch_true ?_
    repeat refine ndD ?_
    apply branch_intro <;> intro h
    · have hc : codeV 0 = c := of_decide_eq_true h
      subst hc
      show Eqv _ _
      exact .up (.up (.refl _))
    · have hc : codeV 0 ≠ c := of_decide_eq_false h
      refine ⟨1, ⟨by decide, fun j hj => ?_⟩, by decide, weak_keep (keep 18 [0, 2, 3, 4, 7]) [0] rfl rfl rfl⟩
      by_cases hj2 : j < 0
      · exact hno j hj2
      · have : j = 0 := by omega
        subst this
        exact hc
  | 1, ⟨_, hno⟩ =>
    refine branch_true ?_
    repeat refine ndD ?_
    apply branch_intro <;> intro h
    · have hc : codeV 1 = c := of_decide_eq_true h
      subst hc
      show Eqv _ _
      exact .up (.up (.refl _))
    · have hc : codeV 1 ≠ c := of_decide_eq_false h
      refine ⟨2, ⟨by decide, fun j hj => ?_⟩, by decide, weak_keep (keep 18 [0, 2, 3, 4, 7]) [0] rfl rfl rfl⟩
      by_cases hj2 : j < 1
      · exact hno j hj2
      · have : j = 1 := by omega
        subst this
        exact hc
  | 2, ⟨_, hno⟩ =>
    refine branch_true ?_
    repeat refine ndD ?_
    apply branch_intro <;> intro h
    · have hc : codeV 2 = c := of_decide_eq_true h
      subst hc
      show Eqv _ _
      exact .up (.up (.refl _))
    · have hc : codeV 2 ≠ c := of_decide_eq_false h
      refine ⟨3, ⟨by decide, fun j hj => ?_⟩, by decide, weak_keep (keep 18 [0, 2, 3, 4, 7]) [0] rfl rfl rfl⟩
      by_cases hj2 : j < 2
      · exact hno j hj2
      · have : j = 2 := by omega
        subst this
        exact hc
  | 3, ⟨_, hno⟩ =>
    refine branch_true ?_
    repeat refine ndD ?_
    apply branch_intro <;> intro h
    · have hc : codeV 3 = c := of_decide_eq_true h
      subst hc
      show Eqv _ _
      exact .up (.up (.refl _))
    · have hc : codeV 3 ≠ c := of_decide_eq_false h
      refine ⟨4, ⟨by decide, fun j hj => ?_⟩, by decide, weak_keep (keep 18 [0, 2, 3, 4, 7]) [0] rfl rfl rfl⟩
      by_cases hj2 : j < 3
      · exact hno j hj2
      · have : j = 3 := by omega
        subst this
        exact hc
  | 4, ⟨_, hno⟩ =>
    refine branch_true ?_
    repeat refine ndD ?_
    apply branch_intro <;> intro h
    · have hc : codeV 4 = c := of_decide_eq_true h
      subst hc
      show Eqv _ _
      exact .up (.up (.refl _))
    · have hc : codeV 4 ≠ c := of_decide_eq_false h
      refine ⟨5, ⟨by decide, fun j hj => ?_⟩, by decide, weak_keep (keep 18 [0, 2, 3, 4, 7]) [0] rfl rfl rfl⟩
      by_cases hj2 : j < 4
      · exact hno j hj2
      · have : j = 4 := by omega
        subst this
        exact hc
  | 5, ⟨_, hno⟩ =>
    refine branch_true ?_
    repeat refine ndD ?_
    apply branch_intro <;> intro h
    · have hc : codeV 5 = c := of_decide_eq_true h
      subst hc
      show Eqv _ _
      exact .up (.up (.refl _))
    · have hc : codeV 5 ≠ c := of_decide_eq_false h
      refine ⟨6, ⟨by decide, fun j hj => ?_⟩, by decide, weak_keep (keep 18 [0, 2, 3, 4, 7]) [0] rfl rfl rfl⟩
      by_cases hj2 : j < 5
      · exact hno j hj2
      · have : j = 5 := by omega
        subst this
        exact hc
  | 6, ⟨_, hno⟩ =>
    refine branch_true ?_
    repeat refine ndD ?_
    apply branch_intro <;> intro h
    · have hc : codeV 6 = c := of_decide_eq_true h
      subst hc
      show Eqv _ _
      exact .up (.up (.refl _))
    · have hc : codeV 6 ≠ c := of_decide_eq_false h
      refine ⟨7, ⟨by decide, fun j hj => ?_⟩, by decide, weak_keep (keep 18 [0, 2, 3, 4, 7]) [0] rfl rfl rfl⟩
      by_cases hj2 : j < 6
      · exact hno j hj2
      · have : j = 6 := by omega
        subst this
        exact hc
  | 7, ⟨_, hno⟩ =>
    refine branch_true ?_
    repeat refine ndD ?_
    apply branch_intro <;> intro h
    · have hc : codeV 7 = c := of_decide_eq_true h
      subst hc
      show Eqv _ _
      exact .up (.up (.refl _))
    · have hc : codeV 7 ≠ c := of_decide_eq_false h
      refine ⟨8, ⟨by decide, fun j hj => ?_⟩, by decide, weak_keep (keep 18 [0, 2, 3, 4, 7]) [0] rfl rfl rfl⟩
      by_cases hj2 : j < 7
      · exact hno j hj2
      · have : j = 7 := by omega
        subst this
        exact hc
  | 8, ⟨_, hno⟩ =>
    refine branch_true ?_
    repeat refine ndD ?_
    apply branch_intro <;> intro h
    · have hc : codeV 8 = c := of_decide_eq_true h
      subst hc
      show Eqv _ _
      exact .up (.up (.refl _))
    · have hc : codeV 8 ≠ c := of_decide_eq_false h
      refine ⟨9, ⟨by decide, fun j hj => ?_⟩, by decide, weak_keep (keep 18 [0, 2, 3, 4, 7]) [0] rfl rfl rfl⟩
      by_cases hj2 : j < 8
      · exact hno j hj2
      · have : j = 8 := by omega
        subst this
        exact hc
  | 9, ⟨_, hno⟩ =>
    refine branch_true ?_
    repeat refine ndD ?_
    apply branch_intro <;> intro h
    · have hc : codeV 9 = c := of_decide_eq_true h
      subst hc
      show Eqv _ _
      exact .up (.up (.refl _))
    · have hc : codeV 9 ≠ c := of_decide_eq_false h
      refine ⟨10, ⟨by decide, fun j hj => ?_⟩, by decide, weak_keep (keep 18 [0, 2, 3, 4, 7]) [0] rfl rfl rfl⟩
      by_cases hj2 : j < 9
      · exact hno j hj2
      · have : j = 9 := by omega
        subst this
        exact hc
  | 10, ⟨_, hno⟩ =>
    refine branch_true ?_
    repeat refine ndD ?_
    apply branch_intro <;> intro h
    · have hc : codeV 10 = c := of_decide_eq_true h
      subst hc
      show Eqv _ _
      exact .up (.up (.refl _))
    · have hc : codeV 10 ≠ c := of_decide_eq_false h
      refine ⟨11, ⟨by decide, fun j hj => ?_⟩, by decide, weak_keep (keep 18 [0, 2, 3, 4, 7]) [0] rfl rfl rfl⟩
      by_cases hj2 : j < 10
      · exact hno j hj2
      · have : j = 10 := by omega
        subst this
        exact hc
  | 11, ⟨_, hno⟩ =>
    refine branch_false ?_
    show Eqv _ _
    refine eqv_of_eq ?_
    unfold digV digE
    rw [digN_none hno]
    rfl
end Go.Proofs.Rl
namespace Go.Proofs.Rl
open Go.E
set_option maxRecDepth 8000
def okB (d : Nat → Int) (k : Nat) : Bool := match k with
  | 0 => decide (d 22 < 11) && decide (d 23 < 11) && decide (d 18 ≤ 2)
  | 1 => decide (d 20 < 11) && decide (d 21 < 11) && decide (d 18 ≤ 2)
  | 2 => decide (d 17 < 11) && decide (d 19 < 11)
  | 3 => decide (d 15 < 11) && decide (d 16 < 11) && decide (d 12 ≤ 2)
  | 4 => decide (d 13 < 11) && decide (d 14 < 11) && decide (d 12 ≤ 2)
  | 5 => decide (d 10 < 11) && decide (d 11 < 11) && decide (d 6 ≤ 2)
  | 6 => decide (d 8 < 11) && decide (d 9 < 11) && decide (d 6 ≤ 2)
  | 7 => decide (d 7 < 11)
  | 8 => decide (d 4 < 11) && decide (d 5 < 11)
  | 9 => decide (d 2 < 11) && decide (d 3 < 11)
  | 10 => decide (d 0 < 11) && decide (d 1 < 11)
  | _ => true
def allB (d : Nat → Int) : Nat → Bool
  | 0 => true
  | k + 1 => allB d k && okB d k
def mayB (d : Nat → Int) : Bool := allB d 11 && decide (d 24 < 2048) && decide (d 25 < 2048)
theorem allB_at {d : Nat → Int} : ∀ {n : Nat}, allB d n = true → ∀ j, j < n → okB d j = true
  | 0, _, j, hj => by omega
  | n + 1, h, j, hj => by
    simp only [allB, Bool.and_eq_true] at h
    by_cases hj2 : j < n
    · exact allB_at h.1 j hj2
    · have : j = n := by omega
      subst this
      exact h.2
theorem allB_of {d : Nat → Int} : ∀ {n : Nat}, (∀ j, j < n → okB d j = true) → allB d n = true
  | 0, _ => rfl
  | n + 1, h => by
    simp only [allB, Bool.and_eq_true]
    exact ⟨allB_of fun j hj => h j (by omega), h n (by omega)⟩
theorem mayB_bad {d : Nat → Int} {k : Nat} (hk : k < 11) (h : okB d k = false) : mayB d = false := by
  cases hm : mayB d with
  | false => rfl
  | true =>
    unfold mayB at hm
    simp only [Bool.and_eq_true] at hm
    rw [allB_at hm.1.1 k hk] at h
    cases h
def W8 (x : Int) : Prop := 0 ≤ x ∧ x < 256
def WD (d : Nat → Int) : Prop := (∀ j, j < 24 → W8 (d j)) ∧ (0 ≤ d 24 ∧ d 24 < 65536) ∧ (0 ≤ d 25 ∧ d 25 < 65536)
theorem lights_b {x : Int} (h0 : 0 ≤ x) (h1 : x < 65536) : (x.fdiv (2 ^ (min (11 : Int).toNat IntKind.u16.bits)) == 0) = decide (x < 2048) := by
  have e : x.fdiv (2 ^ (min (11 : Int).toNat IntKind.u16.bits)) = x / 2048 := by rw [Int.fdiv_eq_ediv_of_nonneg _ (by decide)]; rfl
  rw [e]
  by_cases h : x < 2048
  · rw [decide_eq_true h, beq_iff_eq]; omega
  · rw [decide_eq_false h, beq_eq_false_iff_ne]; omega
set_option maxHeartbeats 4000000 in
theorem may_c {d : Nat → Int} (hd : WD d) : callP Try.prog 33 [dispA d] (· = .bool (mayB d)) := by
  refine callE_def env (fn := Try.f33) rfl (by decide) rfl ?_
  refine callT_part [0, 1] rfl (table_c (d := d) (x := 0)) ?_
  rintro v H' ⟨rfl, rfl⟩ x G hx hG
  obtain rfl : x = tabA 0 1 := hx
  obtain rfl : G = [.cells (dcells d), .cells [.int .u8 0], .cells (tabL 0 1)] := hG
  repeat refine ndD ?_
  refine loop_weak (fun i : Nat => slots 49 [(1, .ptr ⟨0, 0, 0⟩), (2, .bool false), (8, .slice ⟨2, 0, 4⟩ 11), (9, .int .i64 11), (10, .int .i64 i)])
    (fun _ => [.cells (dcells d), .cells [.int .u8 0], .cells (tabL 0 1)])
    (fun i => i ≤ 11 ∧ ∀ j, j < i → okB d j = true) (fun i => 11 - i) 0 ⟨Nat.zero_le _, fun j hj => by omega⟩ ?_ ?_
  · refine weak_keep (keep 49 [1, 2, 8, 9, 10]) [0, 1, 3] ?_ ?_ ?_
    · rfl
    · rfl
    · rfl
  intro i hi
  match i, hi with
  | 0, ⟨_, hno⟩ =>
    refine branch_true ?_
    repeat refine ndD ?_
    apply branch_intro <;> intro h1 <;> simp at h1
    · repeat refine stb ?_
      show Eqv _ _
      have : okB d 0 = false := by unfold okB; simp; omega
      rw [mayB_bad (by decide) this]
      show Eqv _ _
      exact .up (.up (.refl _))
    repeat refine stb ?_
    apply branch_intro <;> intro h2 <;> simp at h2
    · repeat refine stb ?_
      show Eqv _ _
      have : okB d 0 = false := by unfold okB; simp; omega
      rw [mayB_bad (by decide) this]
      show Eqv _ _
      exact .up (.up (.refl _))
    repeat refine stb ?_
    apply branch_intro <;> intro h3 <;> simp at h3
    · repeat refine stb ?_
      show Eqv _ _
      have : okB d 0 = false := by unfold okB; simp; omega
      rw [mayB_bad (by decide) this]
      show Eqv _ _
      exact .up (.up (.refl _))
    repeat refine stb ?_
    refine ⟨1, ⟨by decide, fun j hj => ?_⟩, by decide, weak_keep (keep 49 [1, 2, 8, 9, 10]) [0, 1, 2] rfl rfl rfl⟩
    by_cases hj2 : j < 0
    · exact hno j hj2
    · have : j = 0 := by omega
      subst this
      unfold okB
      simp
      omega
  | 1, ⟨_, hno⟩ =>
    refine branch_true ?_
    repeat refine ndD ?_
    apply branch_intro <;> intro h1 <;> simp at h1
    · repeat refine stb ?_
      show Eqv _ _
      have : okB d 1 = false := by unfold okB; simp; omega
      rw [mayB_bad (by decide) this]
      show Eqv _ _
      exact .up (.up (.refl _))
    repeat refine stb ?_
    apply branch_intro <;> intro h2 <;> simp at h2
    · repeat refine stb ?_
      show Eqv _ _
      have : okB d 1 = false := by unfold okB; simp; omega
      rw [mayB_bad (by decide) this]
      show Eqv _ _
      exact .up (.up (.refl _))
    repeat refine stb ?_
    apply branch_intro <;> intro h3 <;> simp at h3
    · repeat refine stb ?_
      show Eqv _ _
      have : okB d 1 = false := by unfold okB; simp; omega
      rw [mayB_bad (by decide) this]
      show Eqv _ _
      exact .up (.up (.refl _))
    repeat refine stb ?_
    refine ⟨2, ⟨by decide, fun j hj => ?_⟩, by decide, weak_keep (keep 49 [1, 2, 8, 9, 10]) [0, 1, 2] rfl rfl rfl⟩
    by_cases hj2 : j < 1
    · exact hno j hj2
    · have : j = 1 := by omega
      subst this
      unfold okB
      simp
      omega
  | 2, ⟨_, hno⟩ =>
    refine branch_true ?_
    repeat refine ndD ?_
    apply branch_intro <;> intro h1 <;> simp at h1
    · repeat refine stb ?_
      show Eqv _ _
      have : okB d 2 = false := by unfold okB; simp; omega
      rw [mayB_bad (by decide) this]
      show Eqv _ _
      exact .up (.up (.refl _))
    repeat refine stb ?_
    apply branch_intro <;> intro h2 <;> simp at h2
    · repeat refine stb ?_
      show Eqv _ _
      have : okB d 2 = false := by unfold okB; simp; omega
      rw [mayB_bad (by decide) this]
      show Eqv _ _
      exact .up (.up (.refl _))
    repeat refine stb ?_
    refine ⟨3, ⟨by decide, fun j hj => ?_⟩, by decide, weak_keep (keep 49 [1, 2, 8, 9, 10]) [0, 1, 2] rfl rfl rfl⟩
    by_cases hj2 : j < 2
    · exact hno j hj2
    · have : j = 2 := by omega
      subst this
      unfold okB
      simp
      omega
  | 3, ⟨_, hno⟩ =>
    refine branch_true ?_
    repeat refine ndD ?_
    apply branch_intro <;> intro h1 <;> simp at h1
    · repeat refine stb ?_
      show Eqv _ _
      have : okB d 3 = false := by unfold okB; simp; omega
      rw [mayB_bad (by decide) this]
      show Eqv _ _
      exact .up (.up (.refl _))
    repeat refine stb ?_
    apply branch_intro <;> intro h2 <;> simp at h2
    · repeat refine stb ?_
      show Eqv _ _
      have : okB d 3 = false := by unfold okB; simp; omega
      rw [mayB_bad (by decide) this]
      show Eqv _ _
      exact .up (.up (.refl _))
    repeat refine stb ?_
    apply branch_intro <;> intro h3 <;> simp at h3
    · repeat refine stb ?_
      show Eqv _ _
      have : okB d 3 = false := by unfold okB; simp; omega
      rw [mayB_bad (by decide) this]
      show Eqv _ _
      exact .up (.up (.refl _))
    repeat refine stb ?_
    refine ⟨4, ⟨by decide, fun j hj => ?_⟩, by decide, weak_keep (keep 49 [1, 2, 8, 9, 10]) [0, 1, 2] rfl rfl rfl⟩
    by_cases hj2 : j < 3
    · exact hno j hj2
    · have : j = 3 := by omega
      subst this
      unfold okB
      simp
      omega
  | 4, ⟨_, hno⟩ =>
    refine branch_true ?_
    repeat refine ndD ?_
    apply branch_intro <;> intro h1 <;> simp at h1
    · repeat refine stb ?_
      show Eqv _ _
      have : okB d 4 = false := by unfold okB; simp; omega
      rw [mayB_bad (by decide) this]
      show Eqv _ _
      exact .up (.up (.refl _))
    repeat refine stb ?_
    apply branch_intro <;> intro h2 <;> simp at h2
    · repeat refine stb ?_
      show Eqv _ _
      have : okB d 4 = false := by unfold okB; simp; omega
      rw [mayB_bad (by decide) this]
      show Eqv _ _
      exact .up (.up (.refl _))
    repeat refine stb ?_
    apply branch_intro <;> intro h3 <;> simp at h3
    · repeat refine stb ?_
      show Eqv _ _
      have : okB d 4 = false := by unfold okB; simp; omega
      rw [mayB_bad (by decide) this]
      show Eqv _ _
      exact .up (.up (.refl _))
    repeat refine stb ?_
    refine ⟨5, ⟨by decide, fun j hj => ?_⟩, by decide, weak_keep (keep 49 [1, 2, 8, 9, 10]) [0, 1, 2] rfl rfl rfl⟩
    by_cases hj2 : j < 4
    · exact hno j hj2
    · have : j = 4 := by omega
      subst this
      unfold okB
      simp
      omega
  | 5, ⟨_, hno⟩ =>
    refine branch_true ?_
    repeat refine ndD ?_
    apply branch_intro <;> intro h1 <;> simp at h1
    · repeat refine stb ?_
      show Eqv _ _
      have : okB d 5 = false := by unfold okB; simp; omega
      rw [mayB_bad (by decide) this]
      show Eqv _ _
      exact .up (.up (.refl _))
    repeat refine stb ?_
    apply branch_intro <;> intro h2 <;> simp at h2
    · repeat refine stb ?_
      show Eqv _ _
      have : okB d 5 = false := by unfold okB; simp; omega
      rw [mayB_bad (by decide) this]
      show Eqv _ _
      exact .up (.up (.refl _))
    repeat refine stb ?_
    apply branch_intro <;> intro h3 <;> simp at h3
    · repeat refine stb ?_
      show Eqv _ _
      have : okB d 5 = false := by unfold okB; simp; omega
      rw [mayB_bad (by decide) this]
      show Eqv _ _
      exact .up (.up (.refl _))
    repeat refine stb ?_
    refine ⟨6, ⟨by decide, fun j hj => ?_⟩, by decide, weak_keep (keep 49 [1, 2, 8, 9, 10]) [0, 1, 2] rfl rfl rfl⟩
    by_cases hj2 : j < 5
    · exact hno j hj2
    · have : j = 5 := by omega
      subst this
      unfold okB
      simp
      omega
  | 6, ⟨_, hno⟩ =>
    refine branch_true ?_
    repeat refine ndD ?_
    apply branch_intro <;> intro h1 <;> simp at h1
    · repeat refine stb ?_
      show Eqv _ _
      have : okB d 6 = false := by unfold okB; simp; omega
      rw [mayB_bad (by decide) this]
      show Eqv _ _
      exact .up (.up (.refl _))
    repeat refine stb ?_
    apply branch_intro <;> intro h2 <;> simp at h2
    · repeat refine stb ?_
      show Eqv _ _
      have : okB d 6 = false := by unfold okB; simp; omega
      rw [mayB_bad (by decide) this]
      show Eqv _ _
      exact .up (.up (.refl _))
    repeat refine stb ?_
    apply branch_intro <;> intro h3 <;> simp at h3
    · repeat refine stb ?_
      show Eqv _ _
      have : okB d 6 = false := by unfold okB; simp; omega
      rw [mayB_bad (by decide) this]
      show Eqv _ _
      exact .up (.up (.refl _))
    repeat refine stb ?_
    refine ⟨7, ⟨by decide, fun j hj => ?_⟩, by decide, weak_keep (keep 49 [1, 2, 8, 9, 10]) [0, 1, 2] rfl rfl rfl⟩
    by_cases hj2 : j < 6
    · exact hno j hj2
    · have : j = 6 := by omega
      subst this
      unfold okB
      simp
      omega
  | 7, ⟨_, hno⟩ =>
    refine branch_true ?_
    repeat refine ndD ?_
    refine branch_f' (by decide) ?_
    repeat refine stb ?_
    apply branch_intro <;> intro h2 <;> simp at h2
    · repeat refine stb ?_
      show Eqv _ _
      have : okB d 7 = false := by unfold okB; simp; omega
      rw [mayB_bad (by decide) this]
      show Eqv _ _
      exact .up (.up (.refl _))
    repeat refine stb ?_
    refine ⟨8, ⟨by decide, fun j hj => ?_⟩, by decide, weak_keep (keep 49 [1, 2, 8, 9, 10]) [0, 1, 2] rfl rfl rfl⟩
    by_cases hj2 : j < 7
    · exact hno j hj2
    · have : j = 7 := by omega
      subst this
      unfold okB
      simp
      omega
  | 8, ⟨_, hno⟩ =>
    refine branch_true ?_
    repeat refine ndD ?_
    apply branch_intro <;> intro h1 <;> simp at h1
    · repeat refine stb ?_
      show Eqv _ _
      have : okB d 8 = false := by unfold okB; simp; omega
      rw [mayB_bad (by decide) this]
      show Eqv _ _
      exact .up (.up (.refl _))
    repeat refine stb ?_
    apply branch_intro <;> intro h2 <;> simp at h2
    · repeat refine stb ?_
      show Eqv _ _
      have : okB d 8 = false := by unfold okB; simp; omega
      rw [mayB_bad (by decide) this]
      show Eqv _ _
      exact .up (.up (.refl _))
    repeat refine stb ?_
    refine ⟨9, ⟨by decide, fun j hj => ?_⟩, by decide, weak_keep (keep 49 [1, 2, 8, 9, 10]) [0, 1, 2] rfl rfl rfl⟩
    by_cases hj2 : j < 8
    · exact hno j hj2
    · have : j = 8 := by omega
      subst this
      unfold okB
      simp
      omega
  | 9, ⟨_, hno⟩ =>
    refine branch_true ?_
    repeat refine ndD ?_
    apply branch_intro <;> intro h1 <;> simp at h1
    · repeat refine stb ?_
      show Eqv _ _
      have : okB d 9 = false := by unfold okB; simp; omega
      rw [mayB_bad (by decide) this]
      show Eqv _ _
      exact .up (.up (.refl _))
    repeat refine stb ?_
    apply branch_intro <;> intro h2 <;> simp at h2
    · repeat refine stb ?_
      show Eqv _ _
      have : okB d 9 = false := by unfold okB; simp; omega
      rw [mayB_bad (by decide) this]
      show Eqv _ _
      exact .up (.up (.refl _))
    repeat refine stb ?_
    refine ⟨10, ⟨by decide, fun j hj => ?_⟩, by decide, weak_keep (keep 49 [1, 2, 8, 9, 10]) [0, 1, 2] rfl rfl rfl⟩
    by_cases hj2 : j < 9
    · exact hno j hj2
    · have : j = 9 := by omega
      subst this
      unfold okB
      simp
      omega
  | 10, ⟨_, hno⟩ =>
    refine branch_true ?_
    repeat refine ndD ?_
    apply branch_intro <;> intro h1 <;> simp at h1
    · repeat refine stb ?_
      show Eqv _ _
      have : okB d 10 = false := by unfold okB; simp; omega
      rw [mayB_bad (by decide) this]
      show Eqv _ _
      exact .up (.up (.refl _))
    repeat refine stb ?_
    apply branch_intro <;> intro h2 <;> simp at h2
    · repeat refine stb ?_
      show Eqv _ _
      have : okB d 10 = false := by unfold okB; simp; omega
      rw [mayB_bad (by decide) this]
      show Eqv _ _
      exact .up (.up (.refl _))
    repeat refine stb ?_
    refine ⟨11, ⟨by decide, fun j hj => ?_⟩, by decide, weak_keep (keep 49 [1, 2, 8, 9, 10]) [0, 1, 2] rfl rfl rfl⟩
    by_cases hj2 : j < 10
    · exact hno j hj2
    · have : j = 10 := by omega
      subst this
      unfold okB
      simp
      omega
  | 11, ⟨_, hno⟩ =>
    refine branch_false ?_
    have ha := allB_of hno
    repeat refine ndD ?_
    have e1 := lights_b hd.2.1.1 hd.2.1.2
    have e2 := lights_b hd.2.2.1 hd.2.2.2
    have em : mayB d = (decide (d 24 < 2048) && decide (d 25 < 2048)) := by unfold mayB; rw [ha, Bool.true_and]
    apply branch_intro <;> intro h1 <;> rw [e1] at h1
    · repeat refine stb ?_
      repeat refine ndD ?_
      repeat refine stb ?_
      show Eqv _ _
      rw [em, h1, Bool.true_and, ← e2]
      show Eqv _ _
      exact .up (.up (.refl _))
    · repeat refine stb ?_
      show Eqv _ _
      rw [em, h1]
      show Eqv _ _
      exact .up (.up (.refl _))
def rowOf (j : Nat) : Nat := match j with
  | 0 => 10
  | 1 => 10
  | 2 => 9
  | 3 => 9
  | 4 => 8
  | 5 => 8
  | 7 => 7
  | 8 => 6
  | 9 => 6
  | 10 => 5
  | 11 => 5
  | 13 => 4
  | 14 => 4
  | 15 => 3
  | 16 => 3
  | 17 => 2
  | 19 => 2
  | 20 => 1
  | 21 => 1
  | 22 => 0
  | 23 => 0
  | _ => 99
def clD (i j : Nat) : Int := match Nat.blt (rowOf j) i with | true => 10 | false => 0
def blankD : Nat → Int := clD 11
def clS (i : Nat) : Int := match Nat.blt 7 i with | true => 10 | false => 0
set_option maxHeartbeats 4000000 in
theorem clear_c : callP Try.prog 15 [] (· = dispA blankD) := by
  refine callE_def env (fn := Try.f15) rfl (by decide) rfl ?_
  refine callT_part [1, 2] rfl (table_c (d := fun _ => 0) (x := 0)) ?_
  rintro v H' ⟨rfl, rfl⟩ x G hx hG
  obtain rfl : x = tabA 1 2 := hx
  obtain rfl : G = [.cells (dcells fun _ => 0), .cells (dcells fun _ => 0), .cells [.int .u8 0], .cells (tabL 1 2)] := hG
  repeat refine ndD ?_
  refine loop_weak (fun i : Nat => slots 21 [(0, .ptr ⟨0, 0, 0⟩), (1, .ptr ⟨1, 0, 0⟩), (7, .slice ⟨3, 0, 4⟩ 11), (8, .int .i64 11), (9, .int .i64 i)])
    (fun i => [.cells (dcells fun _ => 0), .cells (dcells (clD i)), .cells [.int .u8 (clS i)], .cells (tabL 1 2)])
    (fun i => i ≤ 11) (fun i => 11 - i) 0 (Nat.zero_le _) (weak_keep (keep 21 [0, 1, 7, 8, 9]) [0, 1, 2, 4] rfl rfl rfl) ?_
  intro i hi
  match i, hi with
  | 0, _ =>
    refine branch_true ?_
    repeat refine ndD ?_
    refine draw_tree (picks [0, 1, 2, 4] (.fork 3 5 (picks [5, 6, 7] .done) (picks [3, 6, 7] .done))) (by decide +kernel) ?_
    refine ⟨?_, ?_⟩
    · exact ⟨1, by decide, by decide, weak_keep (keep 21 [0, 1, 7, 8, 9]) [0, 1, 2, 3] rfl rfl rfl⟩
    · exact ⟨1, by decide, by decide, weak_keep (keep 21 [0, 1, 7, 8, 9]) [0, 1, 2, 3] rfl rfl rfl⟩
  | 1, _ =>
    refine branch_true ?_
    repeat refine ndD ?_
    refine draw_tree (picks [0, 1, 2, 4] (.fork 3 5 (picks [5, 6, 7] .done) (picks [3, 6, 7] .done))) (by decide +kernel) ?_
    refine ⟨?_, ?_⟩
    · exact ⟨2, by decide, by decide, weak_keep (keep 21 [0, 1, 7, 8, 9]) [0, 1, 2, 3] rfl rfl rfl⟩
    · exact ⟨2, by decide, by decide, weak_keep (keep 21 [0, 1, 7, 8, 9]) [0, 1, 2, 3] rfl rfl rfl⟩
  | 2, _ =>
    refine branch_true ?_
    repeat refine ndD ?_
    refine draw_tree (picks [0, 1, 2, 4] (.fork 3 5 (picks [5, 6, 7] .done) (picks [3, 6, 7] .done))) (by decide +kernel) ?_
    refine ⟨?_, ?_⟩
    · exact ⟨3, by decide, by decide, weak_keep (keep 21 [0, 1, 7, 8, 9]) [0, 1, 2, 3] rfl rfl rfl⟩
    · exact ⟨3, by decide, by decide, weak_keep (keep 21 [0, 1, 7, 8, 9]) [0, 1, 2, 3] rfl rfl rfl⟩
  | 3, _ =>
    refine branch_true ?_
    repeat refine ndD ?_
    refine draw_tree (picks [0, 1, 2, 4] (.fork 3 5 (picks [5, 6, 7] .done) (picks [3, 6, 7] .done))) (by decide +kernel) ?_
    refine ⟨?_, ?_⟩
    · exact ⟨4, by decide, by decide, weak_keep (keep 21 [0, 1, 7, 8, 9]) [0, 1, 2, 3] rfl rfl rfl⟩
    · exact ⟨4, by decide, by decide, weak_keep (keep 21 [0, 1, 7, 8, 9]) [0, 1, 2, 3] rfl rfl rfl⟩
  | 4, _ =>
    refine branch_true ?_
    repeat refine ndD ?_
    refine draw_tree (picks [0, 1, 2, 4] (.fork 3 5 (picks [5, 6, 7] .done) (picks [3, 6, 7] .done))) (by decide +kernel) ?_
    refine ⟨?_, ?_⟩
    · exact ⟨5, by decide, by decide, weak_keep (keep 21 [0, 1, 7, 8, 9]) [0, 1, 2, 3] rfl rfl rfl⟩
    · exact ⟨5, by decide, by decide, weak_keep (keep 21 [0, 1, 7, 8, 9]) [0, 1, 2, 3] rfl rfl rfl⟩
  | 5, _ =>
    refine branch_true ?_
    repeat refine ndD ?_
    refine draw_tree (picks [0, 1, 2, 4] (.fork 3 5 (picks [5, 6, 7] .done) (picks [3, 6, 7] .done))) (by decide +kernel) ?_
    refine ⟨?_, ?_⟩
    · exact ⟨6, by decide, by decide, weak_keep (keep 21 [0, 1, 7, 8, 9]) [0, 1, 2, 3] rfl rfl rfl⟩
    · exact ⟨6, by decide, by decide, weak_keep (keep 21 [0, 1, 7, 8, 9]) [0, 1, 2, 3] rfl rfl rfl⟩
  | 6, _ =>
    refine branch_true ?_
    repeat refine ndD ?_
    refine draw_tree (picks [0, 1, 2, 4] (.fork 3 5 (picks [5, 6, 7] .done) (picks [3, 6, 7] .done))) (by decide +kernel) ?_
    refine ⟨?_, ?_⟩
    · exact ⟨7, by decide, by decide, weak_keep (keep 21 [0, 1, 7, 8, 9]) [0, 1, 2, 3] rfl rfl rfl⟩
    · exact ⟨7, by decide, by decide, weak_keep (keep 21 [0, 1, 7, 8, 9]) [0, 1, 2, 3] rfl rfl rfl⟩
  | 7, _ =>
    refine branch_true ?_
    repeat refine ndD ?_
    refine draw_tree (picks [0, 1, 2, 4] (.fork 3 5 (picks [5, 6, 7] .done) (picks [3, 6, 7] .done))) (by decide +kernel) ?_
    refine ⟨?_, ?_⟩
    · exact ⟨8, by decide, by decide, weak_keep (keep 21 [0, 1, 7, 8, 9]) [0, 1, 2, 3] rfl rfl rfl⟩
    · exact ⟨8, by decide, by decide, weak_keep (keep 21 [0, 1, 7, 8, 9]) [0, 1, 2, 3] rfl rfl rfl⟩
  | 8, _ =>
    refine branch_true ?_
    repeat refine ndD ?_
    refine draw_tree (picks [0, 1, 2, 4] (.fork 3 5 (picks [5, 6, 7] .done) (picks [3, 6, 7] .done))) (by decide +kernel) ?_
    refine ⟨?_, ?_⟩
    · exact ⟨9, by decide, by decide, weak_keep (keep 21 [0, 1, 7, 8, 9]) [0, 1, 2, 3] rfl rfl rfl⟩
    · exact ⟨9, by decide, by decide, weak_keep (keep 21 [0, 1, 7, 8, 9]) [0, 1, 2, 3] rfl rfl rfl⟩
  | 9, _ =>
    refine branch_true ?_
    repeat refine ndD ?_
    refine draw_tree (picks [0, 1, 2, 4] (.fork 3 5 (picks [5, 6, 7] .done) (picks [3, 6, 7] .done))) (by decide +kernel) ?_
    refine ⟨?_, ?_⟩
    · exact ⟨10, by decide, by decide, weak_keep (keep 21 [0, 1, 7, 8, 9]) [0, 1, 2, 3] rfl rfl rfl⟩
    · exact ⟨10, by decide, by decide, weak_keep (keep 21 [0, 1, 7, 8, 9]) [0, 1, 2, 3] rfl rfl rfl⟩
  | 10, _ =>
    refine branch_true ?_
    repeat refine ndD ?_
    refine draw_tree (picks [0, 1, 2, 4] (.fork 3 5 (picks [5, 6, 7] .done) (picks [3, 6, 7] .done))) (by decide +kernel) ?_
    refine ⟨?_, ?_⟩
    · exact ⟨11, by decide, by decide, weak_keep (keep 21 [0, 1, 7, 8, 9]) [0, 1, 2, 3] rfl rfl rfl⟩
    · exact ⟨11, by decide, by decide, weak_keep (keep 21 [0, 1, 7, 8, 9]) [0, 1, 2, 3] rfl rfl rfl⟩
  | 11, _ =>
    refine branch_false ?_
    show Eqv _ _
    exact .up (.up (.refl _))
end Go.Proofs.Rl
