/- GroundKeys: the law, for what is handed in. -/
import Derived.Test.YthedobkhfdpdaaaC49
import Derived.Test.YthedobkhfdpdaaaC44
import Derived.Test.YthedobkhfdpdaaaC48
set_option linter.unusedVariables false
set_option linter.unusedSimpArgs false
namespace Go.Proofs
open Go.E
set_option maxRecDepth 20000
theorem codeK_M {k : Int} (h : 1 ≤ k ∧ k ≤ 19) : codeK k = (codeM k : Int) := by
  rcases key19 h with rfl | rfl | rfl | rfl | rfl | rfl | rfl | rfl | rfl | rfl | rfl | rfl | rfl | rfl | rfl | rfl | rfl | rfl | rfl <;> rfl
theorem kcode_M (k : Int) (h : 1 ≤ k ∧ k ≤ 19) : callP Try.prog 6 [.int .u8 k] (· = .tuple [.int .i64 (codeM k), .int .i64 0]) := by
  rw [← codeK_M h]
  exact kcode_c (decide_eq_true h)
theorem play_len {ks : List Int} : ∀ {s : PlS}, s.Ok → (∀ k ∈ ks, isK k = true) → (playV s ks).rs.length ≤ s.rs.length + ks.length := by
  induction ks with
  | nil => intro s _ _; exact Nat.le_refl _
  | cons k ks ih =>
    intro s h hk
    rw [playV, List.foldl_cons]
    have h1 := ih (step_ok h (hk k List.mem_cons_self)) fun x hx => hk x (List.mem_cons_of_mem _ hx)
    have h2 : (stepV s k).rs.length ≤ s.rs.length + 1 := by
      unfold stepV
      dsimp only
      split
      · exact Nat.le_succ _
      · simp
    rw [playV] at h1
    simp only [List.length_cons]
    omega
theorem play_mlen {ks : List Int} : ∀ {s : PlS}, (playV s ks).l.length = s.l.length := by
  induction ks with
  | nil => intro s; rfl
  | cons k ks ih =>
    intro s
    rw [playV, List.foldl_cons]
    have h1 := ih (s := stepV s k)
    rw [playV] at h1
    rw [h1]
    unfold stepV
    dsimp only
    split
    · rfl
    · exact putV_len _ _
theorem cmp_of {f : Nat → Int} (h : HasL [.u8, .i64, .i64, .i64] f) : Cmp.Ok ⟨f 0, f 1, f 2, f 3⟩ :=
  ⟨has_u8 (h 0 (by decide)), has_i64 (h 1 (by decide)), has_i64 (h 2 (by decide)), has_i64 (h 3 (by decide))⟩
def argN (n : Nat) (num : Nat → Int) (m : Nat → Nat) (D : Nat → Nat → Nat → Int) : Nns := ⟨n, num, m, fun i j => ⟨D i j 0, D i j 1, D i j 2, D i j 3⟩⟩
theorem argN_ok {n : Nat} {num : Nat → Int} {m : Nat → Nat} {D : Nat → Nat → Nat → Int} (hn : n ≤ maxLen)
    (hw : ∀ i, i < n → IntKind.i64.has (num i) ∧ m i ≤ maxLen ∧ ∀ j, j < m i → HasL [.u8, .i64, .i64, .i64] (D i j)) (hm : ∀ i, i < n → m i * 32 ≤ 140737488355328) : (argN n num m D).Ok :=
  ⟨hn, hm, fun i hi j hj => cmp_of ((hw i hi).2.2 j hj)⟩
theorem Nns.Ok.cut {N : Nns} (h : N.Ok) : (N.cut 20).OkP := by
  have hc := capM_le 20 N.n
  exact ⟨⟨by have := h.n; show capM 20 N.n ≤ _; omega, fun i (hi : i < capM 20 N.n) => h.m (0 + i) (by omega), fun i (hi : i < capM 20 N.n) j hj => h.c (0 + i) (by omega) j hj⟩, by show capM 20 N.n ≤ 1000; omega⟩
theorem ground_no (N : Nns) {z : AVal} (hz : z = Pan.zero.A) {n : Nat} {S : Nat → Nat → Int} (l : List Int) (hnew : callP Try.prog 4 [(N.cut 20).A] (· = .tuple [Pan.zero.A, .int .i64 2])) :
    callP Try.prog 3 [N.A, sentA n S, ints .u16 l] (· = .bool true) := by
  refine callE_def env (fn := Try.f3) rfl (by decide) rfl ?_
  repeat refine stp ?_
  refine draw_tree (picks (List.range 18) .done) (by decide +kernel) ?_
  apply need_intro
  · exact capM_i 20 N.n
  apply need_intro
  · exact capM_i 60 n
  apply need_intro
  · exact capM_i 2048 l.length
  repeat refine stp ?_
  refine callT_E hnew rfl ?_
  repeat refine stp ?_
  refine callT_E live_c rfl ?_
  repeat refine stp ?_
  show Eqv _ _
  exact .up (.up (.refl _))
theorem words_take {l : List Int} (h : ∀ x ∈ l, 0 ≤ x ∧ x < 65536) (c : Nat) : Words (l.take c) := fun x hx => h x (List.mem_of_mem_take hx)
theorem ground_law (n : Nat) (num : Nat → Int) (m : Nat → Nat) (D : Nat → Nat → Nat → Int) (hn : n ≤ maxLen)
    (hw : ∀ i, i < n → IntKind.i64.has (num i) ∧ m i ≤ maxLen ∧ ∀ j, j < m i → HasL [.u8, .i64, .i64, .i64] (D i j)) (hm : ∀ i, i < n → m i * 32 ≤ 140737488355328)
    (k : Nat) (S : Nat → Nat → Int) (_ : k ≤ maxLen) (hS : ∀ i, i < k → HasL [.u8, .u8, .u8, .u16] (S i)) (l : List Int) (_ : l.length ≤ maxLen) (hl : ∀ x ∈ l, 0 ≤ x ∧ x < 65536) :
    callP Try.prog 3 [.ro 2 n (fun i => [.int .i64 (num i), .ro 4 (m i) (fun j => aggL (D i j) [.u8, .i64, .i64, .i64] 0)]), sentA k S, ints .u16 l] (· = .bool true) := by
  have hN := (argN_ok hn hw hm).cut
  cases he : ((argN n num m D).cut 20).may with
  | false => exact ground_no (argN n num m D) rfl l (new_no _ hN he)
  | true =>
    refine ground_ok (argN n num m D) (newP ((argN n num m D).cut 20)) hS l kcode_M (new_ok _ hN he) fun ks hks hlen => ?_
    have hg := new_good _ hN he
    have hk : ∀ x ∈ ks, isK x = true := fun x hx => decide_eq_true (hks x hx)
    have hW := words_take hl (capM 2048 l.length)
    have hlt : (l.take (capM 2048 l.length)).length ≤ 2048 := by rw [List.length_take]; have := capM_le 2048 l.length; omega
    have hs : PlS.Ok ⟨newP ((argN n num m D).cut 20), l.take (capM 2048 l.length), []⟩ := ⟨hg, hW⟩
    have hi := play_inv hs hk
    refine ⟨_, _, _, _, play_c _ hg ks _ hk (by omega) hW (by omega), ⟨words_d hi.p.pre.D, show_d hi.p.pre.D⟩, ?_, ?_⟩
    · have := play_len hs hk
      simp only [List.length_nil] at this
      omega
    · rw [play_mlen]
      exact hlt
end Go.Proofs
