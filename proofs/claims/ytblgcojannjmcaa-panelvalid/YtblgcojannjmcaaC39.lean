/- Chapter 30: Light. -/
import Derived.Test.YtblgcojannjmcaaC37
import Derived.Laws.RangeAny
set_option linter.unusedVariables false
set_option linter.unusedSimpArgs false
/-! Ud. -/
namespace Go.Proofs
open Go.E
set_option maxRecDepth 8000

def lightV (p : Pan) (i : Int) (b : Bool) : Pan := { p with D := { p.D with st := p.D.st - 2 ^ i.toNat * (p.D.st / 2 ^ i.toNat % 2) + if b = true then 2 ^ i.toNat else 0 } }
theorem off_n : ∀ i : Nat, i ∈ [3, 4, 5, 6, 7, 8, 9, 10] → ∀ n : Nat, n < 2048 → IntKind.u16.wrap ((BitVec.ofInt IntKind.u16.bits (n : Int) &&& ~~~BitVec.ofInt IntKind.u16.bits (IntKind.u16.wrap (1 * 2 ^ min i IntKind.u16.bits))).toNat : Int) = ((n - 2 ^ i * (n / 2 ^ i % 2) : Nat) : Int) := by decide +kernel
theorem on_n : ∀ i : Nat, i ∈ [3, 4, 5, 6, 7, 8, 9, 10] → ∀ n : Nat, n < 2048 → IntKind.u16.wrap ((BitVec.ofInt IntKind.u16.bits (IntKind.u16.wrap ((BitVec.ofInt IntKind.u16.bits (n : Int) &&& ~~~BitVec.ofInt IntKind.u16.bits (IntKind.u16.wrap (1 * 2 ^ min i IntKind.u16.bits))).toNat : Int)) ||| BitVec.ofInt IntKind.u16.bits (IntKind.u16.wrap (1 * 2 ^ min i IntKind.u16.bits))).toNat : Int) = ((n - 2 ^ i * (n / 2 ^ i % 2) + 2 ^ i : Nat) : Int) := by decide +kernel
theorem bit_in {i : Int} (h : 3 ≤ i ∧ i ≤ 10) : i.toNat ∈ [3, 4, 5, 6, 7, 8, 9, 10] := by
  simp only [List.mem_cons, List.not_mem_nil, or_false]
  omega
theorem bit_le (n j : Nat) : 2 ^ j * (n / 2 ^ j % 2) ≤ n :=
  Nat.le_trans (Nat.mul_le_mul_left _ (Nat.mod_le _ _)) (Nat.mul_div_le _ _)
theorem off_i {x i : Int} (h : 0 ≤ x ∧ x < 2048) (hi : 3 ≤ i ∧ i ≤ 10) : IntKind.u16.wrap ((BitVec.ofInt IntKind.u16.bits x &&& ~~~BitVec.ofInt IntKind.u16.bits (IntKind.u16.wrap (1 * 2 ^ min i.toNat IntKind.u16.bits))).toNat : Int) = x - 2 ^ i.toNat * (x / 2 ^ i.toNat % 2) + 0 := by
  obtain ⟨n, rfl⟩ : ∃ n : Nat, x = n := ⟨x.toNat, by omega⟩
  rw [off_n _ (bit_in hi) n (by omega), Int.ofNat_sub (bit_le n _)]
  simp
theorem on_i {x i : Int} (h : 0 ≤ x ∧ x < 2048) (hi : 3 ≤ i ∧ i ≤ 10) : IntKind.u16.wrap ((BitVec.ofInt IntKind.u16.bits (IntKind.u16.wrap ((BitVec.ofInt IntKind.u16.bits x &&& ~~~BitVec.ofInt IntKind.u16.bits (IntKind.u16.wrap (1 * 2 ^ min i.toNat IntKind.u16.bits))).toNat : Int)) ||| BitVec.ofInt IntKind.u16.bits (IntKind.u16.wrap (1 * 2 ^ min i.toNat IntKind.u16.bits))).toNat : Int) = x - 2 ^ i.toNat * (x / 2 ^ i.toNat % 2) + 2 ^ i.toNat := by
  obtain ⟨n, rfl⟩ : ∃ n : Nat, x = n := ⟨x.toNat, by omega⟩
  rw [on_n _ (bit_in hi) n (by omega), Int.natCast_add, Int.ofNat_sub (bit_le n _)]
  simp
set_option maxHeartbeats 4000000 in
theorem light_on (p : Pan) (hp : p.Ok) (hm : mayV p = true) (i : Int) (hi : 3 ≤ i ∧ i ≤ 10) : callP Try.prog 25 [p.A, .int .i64 i, .bool true] (· = .tuple [(lightV p i true).A, .int .i64 0]) := by
  have em := pmay_c p hp
  have hM := (may_iff p).1 hm
  rw [hm] at em
  have hst : 0 ≤ p.D.st ∧ p.D.st < 2048 := ⟨hp.D.2.2.1, (disp_st hM.D).2⟩
  unfold lightV
  rw [if_pos rfl, ← on_i hst hi]
  refine callE_def env (fn := Try.f25) rfl (by decide) rfl ?_
  repeat refine stp ?_
  refine callT_E em rfl ?_
  repeat refine stp ?_
  refine callT_E (own_c p hp.N) rfl ?_
  repeat refine stp ?_
  refine draw_tree (picks (List.range 9) .done) (by decide +kernel) ?_
  repeat refine stp ?_
  refine draw_tree (picks (List.range 9) .done) (by decide +kernel) ?_
  repeat refine stp ?_
  show Eqv _ _
  exact .up (.up (.refl _))
set_option maxHeartbeats 4000000 in
theorem light_off (p : Pan) (hp : p.Ok) (hm : mayV p = true) (i : Int) (hi : 3 ≤ i ∧ i ≤ 10) : callP Try.prog 25 [p.A, .int .i64 i, .bool false] (· = .tuple [(lightV p i false).A, .int .i64 0]) := by
  have em := pmay_c p hp
  have hM := (may_iff p).1 hm
  rw [hm] at em
  have hst : 0 ≤ p.D.st ∧ p.D.st < 2048 := ⟨hp.D.2.2.1, (disp_st hM.D).2⟩
  unfold lightV
  rw [if_neg (by decide), ← off_i hst hi]
  refine callE_def env (fn := Try.f25) rfl (by decide) rfl ?_
  repeat refine stp ?_
  refine callT_E em rfl ?_
  repeat refine stp ?_
  refine callT_E (own_c p hp.N) rfl ?_
  repeat refine stp ?_
  refine draw_tree (picks (List.range 9) .done) (by decide +kernel) ?_
  repeat refine stp ?_
  show Eqv _ _
  exact .up (.up (.refl _))
theorem light_ok (p : Pan) (hp : p.Ok) (hm : mayV p = true) (i : Int) (b : Bool) (hi : 3 ≤ i ∧ i ≤ 10) : callP Try.prog 25 [p.A, .int .i64 i, .bool b] (· = .tuple [(lightV p i b).A, .int .i64 0]) := by
  cases b with
  | true => exact light_on p hp hm i hi
  | false => exact light_off p hp hm i hi
end Go.Proofs
/-! Ue. -/
namespace Go.Proofs
open Go.E

def posI : List Int → Int → Option Nat
  | [], _ => none
  | y :: r, x => if y = x then some 0 else match posI r x with
    | some i => some (i + 1)
    | none => none
theorem posI_some : ∀ {l : List Int} {x : Int} {i : Nat}, i < l.length → l.getD i 0 = x → (∀ j, j < i → l.getD j 0 ≠ x) → posI l x = some i
  | [], _, _, h, _, _ => by simp at h
  | y :: r, x, 0, _, h, _ => by
    have : y = x := h
    rw [posI, if_pos this]
  | y :: r, x, i + 1, hi, h, hb => by
    have h0 : y ≠ x := hb 0 (by omega)
    rw [posI, if_neg h0, posI_some (l := r) (x := x) (i := i) (by simpa using hi) h fun j hj => hb (j + 1) (by omega)]
theorem posI_none : ∀ {l : List Int} {x : Int}, (∀ j, j < l.length → l.getD j 0 ≠ x) → posI l x = none
  | [], _, _ => rfl
  | y :: r, x, hb => by
    have h0 : y ≠ x := hb 0 (by simp)
    rw [posI, if_neg h0, posI_none (l := r) (x := x) fun j hj => hb (j + 1) (by simpa using hj)]
theorem posI_inv : ∀ {l : List Int} {x : Int} {i : Nat}, posI l x = some i → i < l.length ∧ l.getD i 0 = x
  | [], _, _, h => by cases h
  | y :: r, x, i, h => by
    rw [posI] at h
    split at h
    · rename_i hy
      cases h
      exact ⟨by simp, hy⟩
    · split at h
      · rename_i j hj
        cases h
        have := posI_inv (l := r) hj
        exact ⟨by simpa using this.1, this.2⟩
      · cases h

def letterI : List Int := [48, 49, 50, 51, 52, 53, 54, 55, 56, 57, 43, 45, 86, 78, 69, 67, 75, 82, 80]
theorem isRow_irow (kk : IntKind) (m : Nat) (l : List Int) : isRow kk m (irow kk l) := fun _ _ => ⟨_, rfl⟩
theorem snoc_row {kk : IntKind} (l : List Int) (x : Int) : List.drop 0 l ++ rowsInts kk 1 (irow kk [x]) = l ++ [x] := by
  have hk : sameKind kk kk = true := sameKind_iff.2 rfl
  simp [rowsInts, irow, rowInt, hk]

/-- The keys of a string of letters. -/
def parseL : List UInt8 → Nat → List Int → List Int × Int × Int
  | [], _, acc => (acc, 0, 0)
  | b :: r, i, acc => if b.toNat = 32 then parseL r (i + 1) acc else match posI letterI b.toNat with
    | some k => parseL r (i + 1) (acc ++ [(k : Int) + 1])
    | none => ([], i, 5)
def parse (s : ByteArray) : List Int × Int × Int := if 256 < s.size then ([], 0, 4) else parseL s.data.toList 0 []
def parseV (s : ByteArray) : AVal := .tuple [ints .u8 (parse s).1, .int .i64 (parse s).2.1, .int .i64 (parse s).2.2]

structure PaSt where
  i : Nat
  acc : List Int
def PaOk (s : ByteArray) (t : PaSt) : Prop := t.i ≤ s.size ∧ t.acc.length ≤ t.i ∧ parse s = parseL (s.data.toList.drop t.i) t.i t.acc

theorem size_list (s : ByteArray) : s.data.toList.length = s.size := Array.length_toList
def byteAt (s : ByteArray) (i : Nat) : UInt8 := s.data.toList.getD i 0
theorem drop_byte {s : ByteArray} {i : Nat} (h : i < s.size) : s.data.toList.drop i = byteAt s i :: s.data.toList.drop (i + 1) := by
  rw [← size_list] at h
  rw [List.drop_eq_getElem_cons h, byteAt, List.getD_eq_getElem?_getD, List.getElem?_eq_getElem h]
  rfl
theorem byte_get {s : ByteArray} {i : Nat} (h : i < s.size) : s[i]'h = byteAt s i := by
  rw [byteAt, List.getD_eq_getElem?_getD, List.getElem?_eq_getElem (by rw [size_list]; exact h)]
  simp
  rfl
theorem pa_end {s : ByteArray} {t : PaSt} (h : PaOk s t) (he : t.i = s.size) : parse s = (t.acc, 0, 0) := by
  rw [h.2.2, he, ← size_list, List.drop_length]
  rfl
theorem pa_blank {s : ByteArray} {t : PaSt} (h : PaOk s t) (hi : t.i < s.size) (hb : ((byteAt s t.i).toNat : Int) = 32) : PaOk s ⟨t.i + 1, t.acc⟩ := by
  obtain ⟨h1, h2, h3⟩ := h
  refine ⟨hi, by simp only; omega, ?_⟩
  rw [h3, drop_byte hi, parseL, if_pos (by omega)]
theorem pa_key {s : ByteArray} {t : PaSt} (h : PaOk s t) (hi : t.i < s.size) (hb : ((byteAt s t.i).toNat : Int) ≠ 32) {k : Nat} (hk : posI letterI (byteAt s t.i).toNat = some k) : PaOk s ⟨t.i + 1, t.acc ++ [(k : Int) + 1]⟩ := by
  obtain ⟨h1, h2, h3⟩ := h
  refine ⟨hi, by simp only [List.length_append, List.length_cons, List.length_nil]; omega, ?_⟩
  rw [h3, drop_byte hi, parseL, if_neg (by omega), hk]
theorem pa_bad {s : ByteArray} {t : PaSt} (h : PaOk s t) (hi : t.i < s.size) (hb : ((byteAt s t.i).toNat : Int) ≠ 32) (hk : posI letterI (byteAt s t.i).toNat = none) : parse s = ([], (t.i : Int), 5) := by
  rw [h.2.2, drop_byte hi, parseL, if_neg (by omega), hk]

abbrev lettersS : ByteArray := ⟨#[48, 49, 50, 51, 52, 53, 54, 55, 56, 57, 43, 45, 86, 78, 69, 67, 75, 82, 80]⟩
theorem letters_dec : ∀ k : Fin 19, ((Utf8.decode lettersS k.1).1 : Int) = letterI.getD k.1 0 ∧ (Utf8.decode lettersS k.1).2 = 1 := by decide +kernel
theorem letterI_small {k : Nat} (h : k < 19) : letterI.getD k 0 < 128 := by
  have : ∀ k : Fin 19, letterI.getD k.1 0 < 128 := by decide
  exact this ⟨k, h⟩

theorem parse_c (s : ByteArray) : callP Try.prog 22 [.str s] (· = parseV s) := by
  refine callE_def env (fn := Try.f22) rfl (by decide) rfl ?_
  apply branch_intro <;> intro h
  · have h : 256 < s.size := by simp at h; omega
    show Eqv _ (parseV s)
    rw [parseV, parse, if_pos h]
    exact .tuple (.cons (.up (.nil _ _)) (.cons (.up (.refl _)) (.cons (.up (.refl _)) .nil)))
  have hsz : ¬ 256 < s.size := by simp at h; omega
  refine loop_weak (fun t : PaSt => slots 37 [(5, .slice ⟨1, 0, 0⟩ t.acc.length), (14, .ptr ⟨0, 0, 0⟩)]) (fun t => [.iter s t.i, .ints .u8 t.acc])
    (PaOk s) (fun t => s.size - t.i) ⟨0, []⟩ ⟨by simp, by simp, by rw [parse, if_neg hsz]; rfl⟩ ((weak_nil 5 (.ints .u8 []) rfl rfl).trans (weak_keep (keep 37 [5, 14]) [0, 1] rfl rfl rfl)) ?_
  rintro ⟨i, acc⟩ hok
  have hle : i ≤ s.size := hok.1
  have hla : acc.length ≤ i := hok.2.1
  apply branch_intro <;> intro h
  · have hi : i < s.size := by simpa using h
    -- the rune at hand
    obtain ⟨r, w, hd⟩ : ∃ r w, Utf8.decode s i = (r, w) := ⟨_, _, rfl⟩
    have hr : (byteAt s i).toNat < 128 ∧ r = (byteAt s i).toNat ∧ w = 1 ∨ 128 ≤ (byteAt s i).toNat ∧ 128 ≤ r := by
      rcases Nat.lt_or_ge (byteAt s i).toNat 128 with h8 | h8
      · have := decode_ascii s i hi (by rw [byte_get hi]; exact h8)
        rw [hd, byte_get hi] at this
        cases this
        exact .inl ⟨h8, rfl, rfl⟩
      · have := decode_high s i hi (by rw [byte_get hi]; exact h8)
        rw [hd] at this
        exact .inr ⟨h8, this.1⟩
    simp only [hd]
    repeat refine branch_true ?_
    apply branch_intro <;> intro hb
    · have hb : (r : Int) = 32 := by simpa using hb
      obtain ⟨h8, hr1, hw⟩ := hr.resolve_right (by omega)
      refine ⟨⟨i + 1, acc⟩, pa_blank hok hi (show ((byteAt s i).toNat : Int) = 32 by omega), by simp only; omega, weak_keep (keep 37 [5, 14]) [0, 1] rfl rfl ?_⟩
      subst hw
      rfl
    · have hb : (r : Int) ≠ 32 := by simpa using hb
      have hb' : ((byteAt s i).toNat : Int) ≠ 32 := by omega
      refine loop_inv (keep 37 [5, 6, 7, 14, 21]) (fun k : Nat => slots 37 [(5, .slice ⟨1, 0, 0⟩ acc.length), (6, .int .i64 i), (7, .int .i32 r), (14, .ptr ⟨0, 0, 0⟩), (21, .ptr ⟨2, 0, 0⟩)])
        (fun k => [.iter s (i + w), .ints .u8 acc, .iter lettersS k]) (fun k => k ≤ 19 ∧ ∀ j, j < k → letterI.getD j 0 ≠ r) (fun k => 19 - k) 0 ⟨by omega, by omega⟩ rfl rfl ?_
      rintro k ⟨hk, hno⟩
      apply branch_intro <;> intro h3
      · have hk19 : k < 19 := of_decide_eq_true h3
        obtain ⟨d1, d2⟩ := letters_dec ⟨k, hk19⟩
        simp only at d1 d2
        have hsm := letterI_small hk19
        repeat refine branch_true ?_
        conv => whnf
        rw [d1]
        apply branch_intro <;> intro h4
        · have h4 : letterI.getD k 0 = r := by simpa using h4
          obtain ⟨h8, hr1, hw⟩ := hr.resolve_right (by omega)
          have hpos : posI letterI (byteAt s i).toNat = some k := posI_some hk19 (by rw [h4, hr1]) (by rw [← hr1]; exact hno)
          apply choice_l
          apply need_intro
          · show (acc.length + 1) * 1 ≤ _
            omega
          apply need_intro
          · exact ⟨by simp, isRow_irow _ _ _⟩
          have e1 : IntKind.u8.wrap (IntKind.i64.wrap ((k : Int) + 1)) = (k : Int) + 1 := by rw [wi (by omega) (by omega)]; exact wu8 (by omega) (by omega)
          refine ⟨⟨i + 1, acc ++ [(k : Int) + 1]⟩, pa_key hok hi hb' hpos, by simp only; omega, weak_keep (keep 37 [5, 14]) [0, 1] rfl ?_ ?_⟩
          · show [_, _, _, _, _, _, _, _, _, _, _, _, _, _, _, _, _, _, _, _, _, _, _, _, _, _, _, _, _, _, _, _, _, _, _, _, _] = _
            simp only [List.length_append, List.length_cons, List.length_nil]
            rfl
          · show [Blk.iter _ _, Blk.ints _ _] = _
            rw [e1, snoc_row, hw]
        · have h4 : letterI.getD k 0 ≠ r := by simpa using h4
          refine ⟨k + 1, ⟨by omega, fun j hj => ?_⟩, by omega, rfl, ?_⟩
          · by_cases hji : j = k
            · subst hji; exact h4
            · exact hno j (by omega)
          · show [_, _, Blk.iter _ _] = _
            rw [d2]
      · have hk19 : k = 19 := by
          have : ¬ k < 19 := of_decide_eq_false h3
          omega
        subst hk19
        repeat refine branch_false ?_
        have hpos : posI letterI (byteAt s i).toNat = none := by
          rcases hr with ⟨h8, hr1, hw⟩ | ⟨h8, _⟩
          · rw [← hr1]; exact posI_none (l := letterI) hno
          · refine posI_none fun j hj => ?_
            have := letterI_small (k := j) hj
            omega
        show Eqv _ (parseV s)
        rw [parseV, pa_bad hok hi hb' hpos]
        exact .tuple (.cons (.up (.nil _ _)) (.cons (.up (.refl _)) (.cons (.up (.refl _)) .nil)))
  · have hi : i = s.size := by
      have : ¬ i < s.size := by simpa using h
      omega
    repeat refine branch_false ?_
    apply need_intro
    · simp
    show Eqv _ (parseV s)
    rw [parseV, pa_end hok hi]
    exact .up (.up (.refl _))
end Go.Proofs
