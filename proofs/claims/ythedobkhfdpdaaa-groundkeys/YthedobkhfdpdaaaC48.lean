/- GroundKeys: what the law's loop over the sent keys does to words, plainly. -/
import Derived.Test.YthedobkhfdpdaaaC47
import Derived.Test.YthedobkhfdpdaaaC11
import Derived.Test.YthedobkhfdpdaaaC5
import Derived.Test.YthedobkhfdpdaaaE5
set_option linter.unusedVariables false
set_option linter.unusedSimpArgs false
namespace Go.Proofs
open Go.E
set_option maxRecDepth 20000
def upd (x : Nat → Int) (c : Nat) (v : Int) : Nat → Int := fun j => match Nat.beq j c with | true => v | false => x j
theorem upd_at (x : Nat → Int) (c : Nat) (v : Int) (j : Nat) : upd x c v j = if j = c then v else x j := by
  unfold upd
  by_cases h : j = c
  · rw [if_pos h, h, Nat.beq_refl]
  · rw [if_neg h]
    cases e : Nat.beq j c with
    | true => exact absurd (Nat.eq_of_beq_eq_true e) h
    | false => rfl
theorem lt16 {i : Nat} (h : i < 16) : i = 0 ∨ i = 1 ∨ i = 2 ∨ i = 3 ∨ i = 4 ∨ i = 5 ∨ i = 6 ∨ i = 7 ∨ i = 8 ∨ i = 9 ∨ i = 10 ∨ i = 11 ∨ i = 12 ∨ i = 13 ∨ i = 14 ∨ i = 15 := by omega
theorem splice16 {x : Nat → Int} {i i' : Nat} {v : Int} {k : List AVal → Prop} (e : i' = i) (hi : i < 16) (h : k (w16 (upd x i v))) : spliceL i' [.int .u8 v] (w16 x) k := by
  subst e
  rcases lt16 hi with rfl | rfl | rfl | rfl | rfl | rfl | rfl | rfl | rfl | rfl | rfl | rfl | rfl | rfl | rfl | rfl <;> exact h
theorem getL16 {x : Nat → Int} {i i' : Nat} {k : AVal → Prop} (e : i' = i) (hi : i < 16) (h : k (.int .u8 (x i))) : getL (w16 x) i' k := by
  subst e
  rcases lt16 hi with rfl | rfl | rfl | rfl | rfl | rfl | rfl | rfl | rfl | rfl | rfl | rfl | rfl | rfl | rfl | rfl <;> exact h
def Hit (m : Nat) (y : Nat → Int) : Prop := ∃ a b : Nat, ∀ j, j < 16 → (y j = uwordV m j ∨ j = a ∨ j = b) ∧ 0 ≤ y j
def HitL (m : Nat) (y : Nat → Int) : Prop := ∃ a b : Nat, ∀ j, j < 16 → (y j = uwordV m j ∨ y j = 2 ∨ j = a ∨ j = b) ∧ 0 ≤ y j
theorem wrap8_pos (z : Int) : 0 ≤ IntKind.u8.wrap z := Int.emod_nonneg z (by decide)
theorem hit0 (m : Nat) : Hit m (uwordV m) := ⟨0, 0, fun j _ => ⟨.inl rfl, by rcases word_01 m j with h | h <;> rw [h] <;> decide⟩⟩
theorem hit1 (m a : Nat) (z : Int) : Hit m (upd (uwordV m) a (IntKind.u8.wrap z)) := ⟨a, a, fun j hj => by
  rw [upd_at]
  by_cases h : j = a
  · rw [if_pos h]; exact ⟨.inr (.inl h), wrap8_pos z⟩
  · rw [if_neg h]; exact ⟨.inl rfl, by rcases word_01 m j with h | h <;> rw [h] <;> decide⟩⟩
theorem hit2 (m a b : Nat) (z z' : Int) : Hit m (upd (upd (uwordV m) a (IntKind.u8.wrap z)) b (IntKind.u8.wrap z')) := ⟨a, b, fun j hj => by
  rw [upd_at]
  by_cases hb : j = b
  · rw [if_pos hb]; exact ⟨.inr (.inr hb), wrap8_pos z'⟩
  rw [if_neg hb, upd_at]
  by_cases h : j = a
  · rw [if_pos h]; exact ⟨.inr (.inl h), wrap8_pos z⟩
  · rw [if_neg h]; exact ⟨.inl rfl, by rcases word_01 m j with h | h <;> rw [h] <;> decide⟩⟩
theorem Hit.lost {m : Nat} {y : Nat → Int} (h : Hit m y) : HitL m y := by
  obtain ⟨a, b, h⟩ := h
  refine ⟨a, b, fun j hj => ⟨?_, (h j hj).2⟩⟩
  rcases (h j hj).1 with e | e | e
  · exact .inl e
  · exact .inr (.inr (.inl e))
  · exact .inr (.inr (.inr e))
theorem HitL.lose {m : Nat} {y : Nat → Int} (h : HitL m y) (c : Nat) : HitL m (upd y c 2) := by
  obtain ⟨a, b, h⟩ := h
  refine ⟨a, b, fun j hj => ?_⟩
  rw [upd_at]
  by_cases hc : j = c
  · rw [if_pos hc]; exact ⟨.inr (.inl rfl), by decide⟩
  · rw [if_neg hc]; exact h j hj
theorem HitL.key {m : Nat} (hm : m < 32) {x : Nat → Int} (h : HitL m x) :
    (∀ j, j < 16 → x j = uwordV m j) ∧ callP Try.prog 27 [.agg (w16 x)] (· = keyA (some m)) ∨ (∃ j, j < 16 ∧ x j ≠ uwordV m j) ∧ callP Try.prog 27 [.agg (w16 x)] (· = keyA none) := by
  obtain ⟨a, b, h⟩ := h
  exact key_hit hm (fun j hj => (h j hj).2) fun j hj => (h j hj).1
def eq16 (x y : Nat → Int) : Bool := (x 0 == y 0 && (x 1 == y 1 && (x 2 == y 2 && (x 3 == y 3 && (x 4 == y 4 && (x 5 == y 5 && (x 6 == y 6 && (x 7 == y 7 && (x 8 == y 8 && (x 9 == y 9 && (x 10 == y 10 && (x 11 == y 11 && (x 12 == y 12 && (x 13 == y 13 && (x 14 == y 14 && (x 15 == y 15 && true))))))))))))))))
theorem eq16_t {x y : Nat → Int} (h : ∀ j, j < 16 → x j = y j) : (!eq16 x y) = false := by
  unfold eq16
  simp only [h 0 (by decide), h 1 (by decide), h 2 (by decide), h 3 (by decide), h 4 (by decide), h 5 (by decide), h 6 (by decide), h 7 (by decide), h 8 (by decide), h 9 (by decide), h 10 (by decide), h 11 (by decide), h 12 (by decide), h 13 (by decide), h 14 (by decide), h 15 (by decide), BEq.rfl, Bool.and_self, Bool.not_true]
theorem eq16_f {x y : Nat → Int} (h : ∃ j, j < 16 ∧ x j ≠ y j) : (!eq16 x y) = true := by
  obtain ⟨j, hj, hne⟩ := h
  cases e : eq16 x y with
  | false => rfl
  | true =>
    refine absurd ?_ hne
    unfold eq16 at e
    simp only [Bool.and_eq_true, beq_iff_eq, and_true] at e
    obtain ⟨e0, e1, e2, e3, e4, e5, e6, e7, e8, e9, e10, e11, e12, e13, e14, e15⟩ := e
    rcases lt16 hj with rfl | rfl | rfl | rfl | rfl | rfl | rfl | rfl | rfl | rfl | rfl | rfl | rfl | rfl | rfl | rfl <;> assumption
def codeM (k : Int) : Nat := codeT.getD (k.toNat - 1) 0
theorem key19 {k : Int} (h : 1 ≤ k ∧ k ≤ 19) : k = 1 ∨ k = 2 ∨ k = 3 ∨ k = 4 ∨ k = 5 ∨ k = 6 ∨ k = 7 ∨ k = 8 ∨ k = 9 ∨ k = 10 ∨ k = 11 ∨ k = 12 ∨ k = 13 ∨ k = 14 ∨ k = 15 ∨ k = 16 ∨ k = 17 ∨ k = 18 ∨ k = 19 := by omega
theorem code_lt {k : Int} (h : 1 ≤ k ∧ k ≤ 19) : codeM k < 32 := by
  rcases key19 h with rfl | rfl | rfl | rfl | rfl | rfl | rfl | rfl | rfl | rfl | rfl | rfl | rfl | rfl | rfl | rfl | rfl | rfl | rfl <;> decide
theorem code_reset {k : Int} (h : 1 ≤ k ∧ k ≤ 19) : ((codeM k : Int) != 18) = (k != 18) := by
  rcases key19 h with rfl | rfl | rfl | rfl | rfl | rfl | rfl | rfl | rfl | rfl | rfl | rfl | rfl | rfl | rfl | rfl | rfl | rfl | rfl <;> decide
theorem key_of {k : Int} (h : 1 ≤ k ∧ k ≤ 19) : callP Try.prog 9 [.int .i64 (codeM k)] (· = .tuple [.int .u8 k, .bool true]) := by
  rcases key19 h with rfl | rfl | rfl | rfl | rfl | rfl | rfl | rfl | rfl | rfl | rfl | rfl | rfl | rfl | rfl | rfl | rfl | rfl | rfl
  · exact key_c1
  · exact key_c2
  · exact key_c3
  · exact key_c4
  · exact key_c5
  · exact key_c6
  · exact key_c7
  · exact key_c8
  · exact key_c9
  · exact key_c10
  · exact key_c11
  · exact key_c12
  · exact key_c13
  · exact key_c14
  · exact key_c15
  · exact key_c16
  · exact key_c17
  · exact key_c18
  · exact key_c19
def sentK (z : Int) : Int := IntKind.u8.wrap (1 + z.tmod 19)
theorem sent_19 {z : Int} (h : 0 ≤ z) : 1 ≤ sentK z ∧ sentK z ≤ 19 := by
  unfold sentK
  have h1 : 0 ≤ z.tmod 19 := Int.tmod_nonneg 19 h
  have h2 : z.tmod 19 < 19 := Int.tmod_lt_of_pos z (by decide)
  rw [show IntKind.u8.wrap (1 + z.tmod 19) = 1 + z.tmod 19 from Int.emod_eq_of_lt (by omega) (by show _ < (256 : Int); omega)]
  omega
theorem rcv_congr {r r' : Nat → Option Int} : ∀ n, (∀ j, j < n → r j = r' j) → rcv r n = rcv r' n
  | 0, _ => rfl
  | n + 1, h => by rw [rcv, rcv, rcv_congr n fun j hj => h j (by omega), h n (by omega)]
structure SentI (i : Nat) (f : Nat → List AVal) (ks : List Int) (L : Bool) : Prop where
  keys : ∀ k ∈ ks, 1 ≤ k ∧ k ≤ 19
  len : ks.length ≤ i
  wrd : ∃ (W : Nat → Nat → Int) (r : Nat → Option Int), (∀ j, j < i → f j = w16 (W j)) ∧ (∀ j, j < i → callP Try.prog 27 [.agg (w16 (W j))] (· = keyA (r j))) ∧ (rcv r i).lock = L ∧ (rcv r i).out = ks.map fun k => (codeM k : Int)
theorem sent_next {i : Nat} {f f' : Nat → List AVal} {ks : List Int} {L : Bool} (h : SentI i f ks L) {x : Nat → Int} {o : Option Int} (hk : callP Try.prog 27 [.agg (w16 x)] (· = keyA o)) (hf : ∀ j, j < i + 1 → f' j = if j < i then f j else w16 x)
    {ks' : List Int} {L' : Bool} (hks : ∀ k ∈ ks', 1 ≤ k ∧ k ≤ 19) (hlen : ks'.length ≤ i + 1) (hs : ∀ b : Int, (rcvS ⟨L, b, ks.map fun k => (codeM k : Int)⟩ o).lock = L' ∧ (rcvS ⟨L, b, ks.map fun k => (codeM k : Int)⟩ o).out = ks'.map fun k => (codeM k : Int)) :
    SentI (i + 1) f' ks' L' := by
  obtain ⟨W, r, h1, h2, h3, h4⟩ := h.wrd
  refine ⟨hks, hlen, fun j => if j < i then W j else x, fun j => if j < i then r j else o, fun j hj => ?_, fun j hj => ?_, ?_⟩
  · rw [hf j hj]
    dsimp only
    by_cases hji : j < i
    · rw [if_pos hji, if_pos hji]; exact h1 j hji
    · rw [if_neg hji, if_neg hji]
  · dsimp only
    by_cases hji : j < i
    · rw [if_pos hji, if_pos hji]; exact h2 j hji
    · rw [if_neg hji, if_neg hji]; exact hk
  · have e : rcv (fun j => if j < i then r j else o) i = rcv r i := rcv_congr i fun j hj => if_pos hj
    rw [rcv, e]
    try dsimp only
    rw [if_neg (Nat.lt_irrefl i)]
    have := hs (rcv r i).bad
    rw [← h3, ← h4] at this
    exact this
theorem sent_bad {i : Nat} {f f' : Nat → List AVal} {ks : List Int} {L : Bool} (h : SentI i f ks L) {x : Nat → Int} (hk : callP Try.prog 27 [.agg (w16 x)] (· = keyA none)) (hf : ∀ j, j < i + 1 → f' j = if j < i then f j else w16 x) :
    SentI (i + 1) f' ks true :=
  sent_next h hk hf h.keys (by have := h.len; omega) fun b => ⟨rfl, rfl⟩
theorem sent_lock {i : Nat} {f f' : Nat → List AVal} {ks : List Int} (h : SentI i f ks true) {x : Nat → Int} {k : Int} (hkk : 1 ≤ k ∧ k ≤ 19) (hk : callP Try.prog 27 [.agg (w16 x)] (· = keyA (some (codeM k : Int)))) (hf : ∀ j, j < i + 1 → f' j = if j < i then f j else w16 x) :
    SentI (i + 1) f' ks (k != 18) :=
  sent_next h hk hf h.keys (by have := h.len; omega) fun b => ⟨code_reset hkk, rfl⟩
theorem sent_open {i : Nat} {f f' : Nat → List AVal} {ks : List Int} (h : SentI i f ks false) {x : Nat → Int} {k : Int} (hkk : 1 ≤ k ∧ k ≤ 19) (hk : callP Try.prog 27 [.agg (w16 x)] (· = keyA (some (codeM k : Int)))) (hf : ∀ j, j < i + 1 → f' j = if j < i then f j else w16 x) :
    SentI (i + 1) f' (ks ++ [k]) false :=
  sent_next h hk hf (fun y hy => by
    rcases List.mem_append.1 hy with hy | hy
    · exact h.keys y hy
    · rw [List.mem_singleton] at hy; rw [hy]; exact hkk) (by have := h.len; rw [List.length_append]; exact Nat.succ_le_succ this) fun b => ⟨rfl, by rw [List.map_append]; rfl⟩
theorem loopN_weak {n0 : Nat} {body : AQ → List AVal → Heap → Prop} {Q : AQ} {tm tm' : List AVal} {H H' : Heap} (w : WeakS n0 tm H tm' H') (h : loopN n0 body Q tm' H') : loopN n0 body Q tm H := by
  unfold loopN at h ⊢
  obtain ⟨σ, st, hp, ok, μ, J, ⟨s, h0, e0⟩, h1, h2⟩ := h
  exact ⟨σ, st, hp, ok, μ, J, ⟨s, h0, w.trans e0⟩, h1, h2⟩
theorem share2 {α β γ : Type} {C : α → β → γ → Prop} {ok : α → Prop} {G : Prop} (k : β) (l : γ) (main : (∀ a, ok a → C a k l) → G) (hK : ∀ a, ok a → C a k l) : G := main hK
end Go.Proofs
namespace Go.E
open Go.ChangeShapes Go.WideShapes Go.ChangeAt Go.RowKit Go.ChangeMaps
section
variable {H : Type} {enc : TypeId × Value → H} {P : Program}
theorem arg_srows {W : World} {t e : TypeId} {v : Value} {d : DataW H} {ps : List MemPlace} {b0 : Nat} {r : Reach} (ks : List IntKind) (ht : P.underlying t = some (.slice e))
    (he : ∀ {fuel : Nat} {cs : List Value} {x : DataW H × List MemPlace}, DataW.trod enc P W 0 (fun _ => true) true fuel e cs = some x → ∀ (i : Nat) (k : IntKind), ks[i]? = some k → ∃ n, cs[i]? = some (.int k n) ∧ (Lit.int k n).wf = true)
    (hc : P.cellsOf e = ks.length) (hpos : 0 < ks.length) (hval : Value.okWide P W r b0 t v) (h : DataW.Trod enc P W 0 (fun _ => true) true t v d ps) :
    ∃ (n : Nat) (D : Nat → Nat → Int), VRel (Cx.start W) (.ro ks.length n (fun i => aggL (D i) ks 0)) v ∧ n ≤ maxLen ∧ ∀ i, i < n → HasL ks (D i) := by
  obtain ⟨A, len0, cap0, rfl⟩ := okWide_slice ht hval
  obtain ⟨fuel, hf⟩ := h
  obtain ⟨n, D, h1, h2, h3, _⟩ := trod_rows ks ht he hc hpos (v := .slice A len0 cap0) hf
  exact ⟨n, D, .closed h1, h2, h3⟩
end
end Go.E
