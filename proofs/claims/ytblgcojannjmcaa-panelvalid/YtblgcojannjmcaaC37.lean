/- Chapter 30: new panels, and what is refused. -/
import Derived.Test.YtblgcojannjmcaaC36
set_option linter.unusedVariables false
set_option linter.unusedSimpArgs false
/-! Ua. -/
namespace Go.Proofs
open Go.E
set_option maxRecDepth 8000

def Nns.none : Nns := ⟨0, fun _ => 0, fun _ => 0, fun _ _ => ⟨0, 0, 0, 0⟩⟩
def Dsp.z : Dsp := ⟨0, 0, 0, 0, 0, 0, z6, z6, z6, 0, 0⟩
def Pan.zero : Pan := ⟨Nns.none, 0, 0, 0, z6, 0, 0, z6, z6, z6, .z, 0, 0, 0, false, Dsp.z⟩
def newP (N : Nns) : Pan := ⟨N, 0, 0, 0, z6, 0, 0, z6, z6, z6, .z, 0, 0, 0, false, Dsp.clear⟩
theorem zero_eqv : Eqv1 (.agg zL) Pan.zero.A := .agg (.cons (.nil 2 _) (eqvL0_refl _))
theorem reqz_eqv : Eqv1 Req.zA Req.z.A := .agg (.cons (.refl _) (.cons (.refl _) (.cons (.nil _ _) .nil)))
theorem new_ok (N : Nns) (hN : N.OkP) (h : N.may = true) : callP Try.prog 8 [N.A] (· = .tuple [(newP N).A, .int .i64 0]) := by
  have e := nmay N hN
  rw [h] at e
  refine callE_def env (fn := Try.f8) rfl (by decide) rfl ?_
  repeat refine stp ?_
  refine callT_E e rfl ?_
  repeat refine stp ?_
  refine callT_E clear_d rfl ?_
  repeat refine stp ?_
  refine callT_E (own_c (newP N) hN) rfl ?_
  repeat refine stp ?_
  show Eqv _ _
  exact .up (.up (.refl _))
theorem new_no (N : Nns) (hN : N.OkP) (h : N.may = false) : callP Try.prog 8 [N.A] (· = .tuple [Pan.zero.A, .int .i64 2]) := by
  have e := nmay N hN
  rw [h] at e
  refine callE_def env (fn := Try.f8) rfl (by decide) rfl ?_
  repeat refine stp ?_
  refine callT_E e rfl ?_
  repeat refine stp ?_
  show Eqv (.tuple [_, _]) _
  exact .tuple (.cons zero_eqv (.cons (.up (.refl _)) .nil))
theorem press_key (p : Pan) (k : Int) (h0 : 0 ≤ k) (hk : isK k = false) : callP Try.prog 10 [p.A, .int .u8 k] (· = .tuple [Pan.zero.A, Req.z.A, .int .i64 2]) := by
  refine callE_def env (fn := Try.f10) rfl (by decide) rfl ?_
  refine callT_E (kcode_no h0 hk) rfl ?_
  repeat refine stp ?_
  show Eqv (.tuple [_, _, _]) _
  exact .tuple (.cons zero_eqv (.cons reqz_eqv (.cons (.up (.refl _)) .nil)))
theorem and1 : ∀ n : Nat, n < 2048 → IntKind.u16.wrap ((BitVec.ofInt IntKind.u16.bits (n : Int) &&& BitVec.ofInt IntKind.u16.bits 1).toNat : Int) = ((n % 2 : Nat) : Int) := by decide +kernel
theorem and2 : ∀ n : Nat, n < 2048 → IntKind.u16.wrap ((BitVec.ofInt IntKind.u16.bits (n : Int) &&& BitVec.ofInt IntKind.u16.bits 2).toNat : Int) = ((2 * (n / 2 % 2) : Nat) : Int) := by decide +kernel
theorem and4 : ∀ n : Nat, n < 2048 → IntKind.u16.wrap ((BitVec.ofInt IntKind.u16.bits (n : Int) &&& BitVec.ofInt IntKind.u16.bits 4).toNat : Int) = ((4 * (n / 4 % 2) : Nat) : Int) := by decide +kernel
theorem and1i {x : Int} (h : 0 ≤ x ∧ x < 2048) : (IntKind.u16.wrap ((BitVec.ofInt IntKind.u16.bits x &&& BitVec.ofInt IntKind.u16.bits 1).toNat : Int) != 0) = decide (x % 2 = 1) := by
  obtain ⟨n, rfl⟩ : ∃ n : Nat, x = n := ⟨x.toNat, by omega⟩
  rw [and1 n (by omega), Bool.eq_iff_iff, bne_iff_ne, decide_eq_true_eq]
  omega
theorem and2i {x : Int} (h : 0 ≤ x ∧ x < 2048) : (IntKind.u16.wrap ((BitVec.ofInt IntKind.u16.bits x &&& BitVec.ofInt IntKind.u16.bits 2).toNat : Int) != 0) = decide (x / 2 % 2 = 1) := by
  obtain ⟨n, rfl⟩ : ∃ n : Nat, x = n := ⟨x.toNat, by omega⟩
  rw [and2 n (by omega), Bool.eq_iff_iff, bne_iff_ne, decide_eq_true_eq]
  omega
theorem and4i {x : Int} (h : 0 ≤ x ∧ x < 2048) : (IntKind.u16.wrap ((BitVec.ofInt IntKind.u16.bits x &&& BitVec.ofInt IntKind.u16.bits 4).toNat : Int) != 0) = decide (x / 4 % 2 = 1) := by
  obtain ⟨n, rfl⟩ : ∃ n : Nat, x = n := ⟨x.toNat, by omega⟩
  rw [and4 n (by omega), Bool.eq_iff_iff, bne_iff_ne, decide_eq_true_eq]
  omega
theorem flashes_c (p : Pan) (h : 0 ≤ p.D.st ∧ p.D.st < 2048) : callP Try.prog 21 [p.A] (· = .bool (decide (p.D.st % 2 = 1))) := by
  rw [← and1i h]
  refine callE_def env (fn := Try.f21) rfl (by decide) rfl ?_
  repeat refine stp ?_
  show Eqv _ _
  exact .up (.up (.refl _))
theorem wrong_c (p : Pan) (h : 0 ≤ p.D.st ∧ p.D.st < 2048) : callP Try.prog 12 [p.A] (· = .bool (decide (p.D.st / 2 % 2 = 1))) := by
  rw [← and2i h]
  refine callE_def env (fn := Try.f12) rfl (by decide) rfl ?_
  repeat refine stp ?_
  show Eqv _ _
  exact .up (.up (.refl _))
theorem free_c (p : Pan) (h : 0 ≤ p.D.st ∧ p.D.st < 2048) : callP Try.prog 20 [p.A] (· = .bool (decide (p.D.st / 4 % 2 = 1))) := by
  rw [← and4i h]
  refine callE_def env (fn := Try.f20) rfl (by decide) rfl ?_
  repeat refine stp ?_
  show Eqv _ _
  exact .up (.up (.refl _))
end Go.Proofs
/-! Ub. -/
namespace Go.E
theorem callP_as {P : Program} {f : FuncId} {args : List AVal} {v v0 : AVal} (hcl : v0.closed2 = true) (hd : ∀ (c : Cx) (u : Value), VRel c v u → VRel c v0 u) (h : callP P f args (· = v)) : callP P f args (· = v0) := by
  unfold callP at h ⊢
  rw [callN_iff] at h ⊢
  refine ⟨h.1, fun c us h1 hg h2 h3 => (h.2 c us h1 hg h2 h3).mono ?_⟩
  rintro e w' ⟨u, v', c', he, hw, hk, hf, hh, hv⟩
  obtain ⟨hk1, rfl⟩ : v'.closed2 = true ∧ v' = v := hk
  exact ⟨u, v0, c', he, hw, ⟨hcl, rfl⟩, hf, hh, hd c' u hv⟩
/-- The rows' own rows are seen only as far as they reach. -/
theorem ro_deep {c : Cx} {sz sz' n : Nat} {a : Nat → AVal} {m : Nat → Nat} {row row' : Nat → Nat → List AVal} (h : ∀ i, i < n → ∀ j, j < m i → row i j = row' i j) {u : Value}
    (hv : VRel c (.ro sz n fun i => [a i, .ro sz' (m i) (row i)]) u) : VRel c (.ro sz n fun i => [a i, .ro sz' (m i) (row' i)]) u := by
  cases hv with
  | closed hr =>
    cases hr with
    | roNil A k => exact .closed (.roNil A k)
    | ro hc hx hb hlen hin hrel =>
      refine .closed (.ro hc hx hb hlen hin (fun i hi j v u h1 h2 => ?_))
      match j, h1 with
      | 0, h1 => exact hrel i hi 0 v u h1 h2
      | 1, h1 =>
        have h1 : some _ = some v := h1
        cases h1
        have this := hrel i hi 1 _ u rfl h2
        have hm := h i hi
        generalize m i = mi at this hm ⊢
        cases this with
        | roNil A k => exact .roNil A k
        | ro hc hx hb hlen hin hrel =>
          exact .ro hc hx hb (fun k hk => by rw [← hm k hk]; exact hlen k hk) hin (fun k hk j v u h1 h2 => hrel k hk j v u (by rw [hm k hk]; exact h1) h2)
      | j + 2, h1 => cases h1
end Go.E
namespace Go.Proofs
open Go.E
set_option maxRecDepth 8000

def tabN : Nns := ⟨2, fun i => if i = 0 then 20 else 43, fun _ => 1, fun i _ => if i = 0 then ⟨2, 64, 36000, 14⟩ else ⟨1, 65, 0, 0⟩⟩
def tabR (i : Nat) : Nat → List AVal := chunk 4 (if i = 0 then [.int .u8 2, .int .i64 64, .int .i64 36000, .int .i64 14] else [.int .u8 1, .int .i64 65, .int .i64 0, .int .i64 0])
theorem table_raw : callP Try.prog 18 [] (· = .ro 2 2 (fun i => [.int .i64 (if i = 0 then 20 else 43), .ro 4 1 (tabR i)])) := by
  refine callE_def env (fn := Try.f18) rfl (by decide) rfl ?_
  repeat refine stp ?_
  apply choice_l
  repeat refine stp ?_
  apply choice_l
  repeat refine stp ?_
  apply choice_l
  repeat refine stp ?_
  show Eqv (.ro 2 2 _) _
  refine .up (.up (.ro fun i hi => ?_))
  rcases (show i = 0 ∨ i = 1 by omega) with rfl | rfl <;> rfl
theorem table_c : callP Try.prog 18 [] (· = tabN.A) := by
  refine callP_as rfl (fun c u h => ?_) table_raw
  exact ro_deep (a := fun i => .int .i64 (if i = 0 then 20 else 43)) (m := fun _ => 1) (row := tabR) (fun i (hi : i < 2) j (hj : j < 1) => by
    obtain rfl : j = 0 := by omega
    rcases (show i = 0 ∨ i = 1 by omega) with rfl | rfl <;> rfl) h
end Go.Proofs
