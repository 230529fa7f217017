/- Keys sent over a damaged up-link give the display and the requests of the undamaged keys that arrive while the receiver is not locked. Conditions: none. -/
import Derived.Test.YthedobkhfdpdaaaRows
import Derived.Test.YthedobkhfdpdaaaC50
import Derived.Test.YthedobkhfdpdaaaE5
namespace Go.Proofs.Ythedobkhfdpdaaa
open Go.ChangeShapes Go.WideShapes Go.ChangeAt Go.RowKit Go.E

theorem Try.own : ownKnob Try.prog.godebug = none := by kernel_rfl
theorem Try.laidOut : laidOutB Try.prog = true := by kernel_rfl

set_option maxRecDepth 100000 in
theorem groundKeys_lifted (os : Os) (started : os.Started) (H : Type) (enc : TypeId × Value → H) :
    ReturnsInHanded {} Try.checked os 3 .any (Rows.groundKeysSpec.pre6 enc Try.prog Try.f3 Rows.groundKeysRow.domain false) (Rows.groundKeysSpec.post enc Try.prog Try.f3 false true false false) := by
  refine returns_sized (C := Try.checked) Try.own started (by kernel_rfl) Try.func3
    (ChangeSpec.witness6 (enc := enc) (C := Try.checked) false ⟨#[], #[.slice none 0 0, .slice none 0 0, .slice none 0 0], []⟩ 8 (by kernel_rfl) (by kernel_rfl) (by kernel_rfl) (by kernel_rfl)) ?_
  intro W base args ds gs before hval0 hW hsz0
  have hval : ∀ (j : Nat) t v, Try.f3.params[j]? = some t → args[j]? = some v → Value.okWide Try.prog W .any base t v := hval0
  have hW' := hW
  obtain ⟨p, q, hA0, hV, rfl, _, _⟩ := hW
  have hA : DataW.TrodAll enc Try.prog W 0 (fun _ => true) true Try.f3.params.toList args.toList ds p := hA0
  rw [Try.params3] at hA hval
  obtain ⟨v0, v1, v2, d0, d1, d2, p0, p1, p2, rfl, rfl, rfl, h0, h1, h2⟩ := trodAll_three hA
  obtain ⟨rfl, rfl⟩ := trodVars_none hV
  have hsz : (DataW.weightsEach Try.prog [22, 23, 24] [d0, d1, d2]).all (· ≤ reachBytes) = true := hsz0
  obtain ⟨n0, u0, m0, D0, r0, b0, w0, e0⟩ := arg_nested [.u8, .i64, .i64, .i64] Try.underlying22 Try.underlying99 ⟨rfl, by kernel_rfl, Try.underlying3⟩ ⟨rfl, by kernel_rfl, Try.underlying97⟩ (by kernel_rfl) (fun h => flat_struct Try.underlying102 (by intro i k hi; rcases i with _ | _ | _ | _ | i; all_goals first | (cases hi; exact ⟨_, rfl, rfl, by kernel_rfl, Try.underlying100⟩) | (cases hi; exact ⟨_, rfl, rfl, by kernel_rfl, Try.underlying3⟩) | (simp at hi; done)) h) (by kernel_rfl) (by decide) (hval 0 22 v0 rfl rfl) h0
  have g0 : ∀ i, i < n0 → m0 i * 32 ≤ 140737488355328 := nested_bound Try.underlying22 Try.underlying99 Try.underlying97 e0 (fun x hx => of_decide_eq_true (List.all_eq_true.1 hsz x (by rw [DataW.weightsEach]; exact List.mem_append_left _ hx)))
  obtain ⟨n1, l1, r1, b1, w1⟩ := arg_srows [.u8, .u8, .u8, .u16] Try.underlying23 (fun h => flat_struct Try.underlying48 (by intro i k hi; rcases i with _ | _ | _ | _ | i; all_goals first | (cases hi; exact ⟨_, rfl, rfl, by kernel_rfl, Try.underlying35⟩) | (cases hi; exact ⟨_, rfl, rfl, by kernel_rfl, Try.underlying5⟩) | (simp at hi; done)) h) (by kernel_rfl) (by decide) (hval 1 23 v1 rfl rfl) h1
  obtain ⟨l2, r2, b2, w2⟩ := arg_ints Try.underlying24 Try.underlying69 (by kernel_rfl) (hval 2 24 v2 rfl rfl) h2
  clear hA0 hval0
  simp only [List.append_nil] at hW'
  have hlt : ∀ x ∈ p0 ++ (p1 ++ p2), x.block < W.heap.size := fun x hx => by simpa using hW'.lt x (by simpa using hx)
  refine (below_of_P (ground_law n0 u0 m0 D0 b0 w0 g0 n1 l1 b1 w1 l2 b2 (fun x hx => wf_u16 (w2 x hx))) (start_gok rfl W) (us := #[v0, v1, v2]) ((CRel.one r0).append ((CRel.one r1).append (CRel.one r2))) (fun _ h => h)).mono fun e W' ⟨he, hb⟩ => ?_
  subst he
  refine ⟨_, rfl, _, _, _, [], p0 ++ (p1 ++ p2), [], hW', ?_, ?_, ?_, hb.frame _, fun h => by cases h⟩
  · exact trodAll_mk1 (shut_bool Try.underlying4 true)
  · exact trodAll_mk3 (Below.trod Try.laidOut (by kernel_rfl) (of_decide_eq_true (by kernel_rfl)) h0 hb fun x hx => hlt x (by simp [hx])) (Below.trod Try.laidOut (by kernel_rfl) (of_decide_eq_true (by kernel_rfl)) h1 hb fun x hx => hlt x (by simp [hx])) (Below.trod Try.laidOut (by kernel_rfl) (of_decide_eq_true (by kernel_rfl)) h2 hb fun x hx => hlt x (by simp [hx]))
  · rfl

theorem groundKeys_holds : Rows.GroundKeysSaid :=
  OpenClaim.holds_of_wide 3 Try.f3 rfl rfl rfl rfl rfl rfl rfl ⟨rfl, rfl, rfl, rfl, rfl⟩ rfl rfl rfl rfl rfl (by kernel_rfl) Try.func3 (by kernel_rfl)
    (of_decide_eq_true (by kernel_rfl)) (by unfold Func.isWrapper; first | (rw [if_pos (by decide +kernel)]; kernel_rfl) | (rw [if_neg (by decide +kernel)]; exact ⟨rfl, rfl⟩))
    (fun os started H enc _ => groundKeys_lifted os started H enc)
end Go.Proofs.Ythedobkhfdpdaaa
