/- Chapter 30, plain: Fill, New, Ask, Program, Light keep panels valid. -/
import Derived.Test.YtblgcojannjmcaaC42
import Derived.Test.YtblgcojannjmcaaC39
import Derived.Test.YtblgcojannjmcaaC37
set_option linter.unusedVariables false
set_option linter.unusedSimpArgs false
/-! Ve. -/
namespace Go.Proofs
open Go.E
set_option maxRecDepth 8000

/-- What is not read by the lights may change. -/
theorem good_of {p q : Pan} (h : Good p) (hq : Pre q) (h1 : flash q = flash p) (h2 : waits q = waits p) (h3 : q.D.st % 2 = p.D.st % 2) (h4 : q.D.st / 4 % 2 = p.D.st / 4 % 2) : Good q :=
  ⟨⟨hq.N, hq.st, i64_small hq.vb, i64_small hq.nn, hq.ty, hq.cnt, hq.cmp, hq.l0, hq.l1, hq.l2, ⟨hq.act.1, by have := hq.act.2; omega⟩, i64_small hq.an, i64_small hq.av, i64_small hq.aq, hq.D.wd⟩,
    ⟨hq.M, hq.D.may, hq.vb, hq.nn, hq.an, hq.av, hq.aq, hq.entry, hq.act.2, hq.ask, hq.suit, by rw [h1, h3]; exact h.may.fl, by rw [h2, h4]; exact h.may.wt⟩⟩
theorem digF_g {b : Int} (hb : b = 8 ∨ b = 10) (n : Int) (i : Nat) : 0 ≤ digF b n i ∧ digF b n i ≤ 10 := by
  rcases hb with rfl | rfl
  · have := digF_bound (b := 8) (n := n) ⟨by decide, by decide⟩ i
    omega
  · have := digF_bound (b := 10) (n := n) ⟨by decide, by decide⟩ i
    omega
theorem show_g (c : Cmp) (l : List Int) (o : Bool) : (0 ≤ (showV c l o).1 ∧ (showV c l o).1 ≤ 2) ∧ ∀ i, 0 ≤ (showV c l o).2.1 i ∧ (showV c l o).2.1 i ≤ 10 := by
  unfold showV
  split
  · exact ⟨by simp, fun i => by simp⟩
  split
  · exact ⟨by simp, fun i => digF_g (.inl rfl) _ i⟩
  unfold decV
  split
  · exact ⟨by simp, fun i => by simp⟩
  split
  · exact ⟨by simp, fun i => by simp⟩
  split
  · exact ⟨by simp, fun i => by simp⟩
  · refine ⟨?_, fun i => digF_g (.inr rfl) _ i⟩
    dsimp only
    split <;> simp
theorem regS_g (p : Pan) (l : List Int) (j : Nat) : (regS p l j).G := by
  unfold regS
  split
  · exact bl6_g
  split
  · rename_i i _ _
    obtain ⟨hs, hd⟩ := show_g (p.N.cm i j) l p.act.o
    exact ⟨hs, hd 0, hd 1, hd 2, hd 3, hd 4⟩
  · exact bl6_g
theorem fillS_pre {p : Pan} (h : Pre p) (l : List Int) : Pre (fillS p l 3) :=
  { h with D := { h.D with r0 := regS_g p l 0, r1 := regS_g p l 1, r2 := regS_g p l 2 }, entry := h.entry }
theorem fill_good (p : Pan) (l : List Int) (h : Good p) : Good (fillV p l) := by
  have hp := fillS_pre h.pre l
  unfold fillV
  split
  · exact h
  split
  · exact good_of h { hp with act := act0, an := b99, entry := hp.entry } rfl rfl rfl rfl
  · exact good_of h hp rfl rfl rfl rfl
theorem Dsp.clear_g : Dsp.clear.G := ⟨by decide, by decide, by decide, by decide, by decide, by decide, bl6_g, bl6_g, bl6_g, by decide, by decide⟩
theorem new_good (N : Nns) (hN : N.OkP) (hm : N.may = true) : Good (newP N) :=
  ⟨⟨hN, z_b, z_i, z_i, z6_ok, z_i, z_i, z6_ok, z6_ok, z6_ok, z_b, z_i, z_i, z_i, Dsp.clear_g.wd⟩,
    ⟨hm, Dsp.clear_g.may, b99, b99, b99, b99, b99, by rw [entry_0 rfl]; rfl, act0.2, fun h => (by cases h), fun h => absurd rfl h, rfl, rfl⟩⟩
theorem ask_good {p : Pan} (h : Good p) {v n : Int} (hs : suit p.N v n = true) : Good (askP p v n).1 ∧ (askP p v n).2.Ok := by
  obtain ⟨hv, hn, hk⟩ := suit_num h.may.N hs
  have hq : Pre { p with av := v, aq := n } := { h.pre with av := (by omega : 0 ≤ v ∧ v ≤ 99), aq := (by omega : 0 ≤ n ∧ n ≤ 99), ask := fun _ => (by show v ≠ 0; omega), suit := fun _ => hs, entry := h.pre.entry }
  unfold askP
  split
  · have := ask_pre hq (show v ≠ 0 by omega)
    exact ⟨lit_good this.1, this.2⟩
  · exact ⟨lit_good hq, req_nil _ _⟩
theorem bit_n : ∀ i : Nat, i ∈ [3, 4, 5, 6, 7, 8, 9, 10] → ∀ n : Nat, n < 2048 → ∀ b : Nat, b ∈ [0, 2 ^ i] → n - 2 ^ i * (n / 2 ^ i % 2) + b < 2048 ∧ (n - 2 ^ i * (n / 2 ^ i % 2) + b) % 2 = n % 2 ∧ (n - 2 ^ i * (n / 2 ^ i % 2) + b) / 4 % 2 = n / 4 % 2 := by decide +kernel
theorem light_good {p : Pan} (h : Good p) {i : Int} (hi : 3 ≤ i ∧ i ≤ 10) (b : Bool) : Good (lightV p i b) := by
  have hst := h.pre.D.st
  have key : 0 ≤ (lightV p i b).D.st ∧ (lightV p i b).D.st < 2048 ∧ (lightV p i b).D.st % 2 = p.D.st % 2 ∧ (lightV p i b).D.st / 4 % 2 = p.D.st / 4 % 2 := by
    obtain ⟨n, hn⟩ : ∃ n : Nat, p.D.st = n := ⟨p.D.st.toNat, by omega⟩
    have hb := bit_n i.toNat (bit_in hi) n (by omega) (if b = true then 2 ^ i.toNat else 0) (by cases b <;> simp)
    have e : (lightV p i b).D.st = ((n - 2 ^ i.toNat * (n / 2 ^ i.toNat % 2) + (if b = true then 2 ^ i.toNat else 0) : Nat) : Int) := by
      show p.D.st - 2 ^ i.toNat * (p.D.st / 2 ^ i.toNat % 2) + (if b = true then 2 ^ i.toNat else 0) = _
      rw [hn, Int.natCast_add, Int.ofNat_sub (bit_le n _)]
      cases b <;> simp
    rw [e, hn]
    omega
  exact good_of h { h.pre with D := { h.pre.D with st := ⟨key.1, key.2.1⟩ }, entry := h.pre.entry } rfl rfl key.2.2.1 key.2.2.2
/-- Play with what was shown. -/
theorem play_c (p : Pan) (hp : Good p) (ks l : List Int) (hk : ∀ k ∈ ks, isK k = true) (hks : ks.length ≤ 1000) (hl : Words l) (hll : l.length ≤ 100000) :
    callP Try.prog 23 [p.A, ints .u8 ks, ints .u16 l] (· = .tuple [(playV ⟨p, l, []⟩ ks).p.A, reqsA (playV ⟨p, l, []⟩ ks).rs, ints .u16 (playV ⟨p, l, []⟩ ks).l, .int .i64 0]) :=
  play_ok press_good (fun p l h _ => fill_good p l h) p hp ks l hk hks hl hll
end Go.Proofs
/-! Uh. -/
namespace Go.Proofs
open Go.E
set_option maxRecDepth 8000

def typS (N : Nns) (s : ByteArray) (l : List Int) : PlS := playV ⟨newP N, l, []⟩ (parse s).1
theorem parseL_key : ∀ (bs : List UInt8) (i : Nat) (acc : List Int), (∀ k ∈ acc, isK k = true) → ∀ k ∈ (parseL bs i acc).1, isK k = true := by
  intro bs
  induction bs with
  | nil => intro i acc h; exact h
  | cons b r ih =>
    intro i acc h
    unfold parseL
    split
    · exact ih _ _ h
    split
    · rename_i k hk
      have hk19 : k < 19 := (posI_inv hk).1
      refine ih _ _ fun x hx => ?_
      rcases List.mem_append.1 hx with hx | hx
      · exact h x hx
      · obtain rfl := List.mem_singleton.1 hx
        exact decide_eq_true (by omega)
    · intro k hk; cases hk
theorem parseL_len : ∀ (bs : List UInt8) (i : Nat) (acc : List Int), (parseL bs i acc).1.length ≤ bs.length + acc.length := by
  intro bs
  induction bs with
  | nil => intro i acc; simp [parseL]
  | cons b r ih =>
    intro i acc
    unfold parseL
    split
    · have := ih (i + 1) acc
      simp only [List.length_cons]
      omega
    split
    · rename_i k _
      have := ih (i + 1) (acc ++ [(k : Int) + 1])
      simp only [List.length_append, List.length_cons, List.length_nil] at this ⊢
      omega
    · simp
theorem parse_key (s : ByteArray) : ∀ k ∈ (parse s).1, isK k = true := by
  unfold parse
  split
  · intro k hk; cases hk
  · exact parseL_key _ _ _ (fun k hk => by cases hk)
theorem parse_len (s : ByteArray) : (parse s).1.length ≤ 256 := by
  unfold parse
  split
  · simp
  · rename_i h
    have := parseL_len s.data.toList 0 []
    have e := size_list s
    simp only [List.length_nil] at this
    omega
theorem typed_ok (N : Nns) (hN : N.OkP) (hm : N.may = true) (s : ByteArray) (hs : (parse s).2.2 = 0) (l : List Int) (hl : Words l) (hll : l.length ≤ 100000) :
    callP Try.prog 13 [N.A, .str s, ints .u16 l] (· = .tuple [(typS N s l).p.A, reqsA (typS N s l).rs, ints .u16 (typS N s l).l, .bool true]) := by
  have ep := parse_c s
  unfold parseV at ep
  rw [hs] at ep
  have epl := play_c (newP N) (new_good N hN hm) (parse s).1 l (parse_key s) (by have := parse_len s; omega) hl hll
  refine callE_def env (fn := Try.f13) rfl (by decide) rfl ?_
  refine callT_E (new_ok N hN hm) rfl ?_
  refine callT_E ep rfl ?_
  repeat refine stp ?_
  refine callT_E epl rfl ?_
  repeat refine stp ?_
  show Eqv _ _
  exact .up (.up (.refl _))
end Go.Proofs
